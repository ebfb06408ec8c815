/- Flow: may, then, Report, End, At. -/
import Derived.Test.YtkhcepdeppmofaaDoorFlow
namespace Go.Proofs.YtkhcepdeppmofaaDoor
open Go.RowKit
set_option linter.unusedVariables false

theorem EntSl.below {B : Nat} {R : Nat → Prop} {w w' : World} {E : EntV} {vp vg ve vf vl : Value} (h : EntSl R w E vp vg ve vf vl) (hk : Below B w w') (hd : ∀ b, R b → b < B) : EntSl R w' E vp vg ve vf vl :=
  h.keep (Keep.of_below hk) (fun b hb => by have := hd b hb; omega)
theorem below_lt {B : Nat} {R : Nat → Prop} {w w' : World} (hR : ∀ b, R b → b < w.heap.size) (h : Below B w w') : ∀ b, R b → b < w'.heap.size := fun b hb => Nat.lt_of_lt_of_le (hR b hb) h.size

/-- May a point come behind another one? Which is ahead behind one? -/
def flowMay (E : EntV) (at' p : Int) : Bool :=
  if E.edges = [] then true else if p < 0 ∨ (E.points.length : Int) ≤ p then false else if at' = -1 then decide (p ∈ E.first) else decide ((at', p) ∈ E.edges)
def flowThen (E : EntV) (p : Int) : Int := if p < 0 ∨ (E.points.length : Int) ≤ p ∨ p ∈ E.last then -1 else p

theorem flowThen_low (E : EntV) (p : Int) (h : p < 0) : flowThen E p = -1 := by simp [flowThen, h]
theorem flowThen_high (E : EntV) (p : Int) (h : (E.points.length : Int) ≤ p) : flowThen E p = -1 := by simp [flowThen, h]
theorem flowThen_last (E : EntV) (p : Int) (h : p ∈ E.last) : flowThen E p = -1 := by simp [flowThen, h]
theorem flowThen_in (E : EntV) (p : Int) (h1 : ¬ p < 0) (h2 : ¬ (E.points.length : Int) ≤ p) (h : p ∉ E.last) : flowThen E p = p := by simp [flowThen, h, h1, h2]

theorem flowMay_none (E : EntV) (a p : Int) (h : E.edges = []) : flowMay E a p = true := by simp [flowMay, h]
theorem flowMay_out (E : EntV) (a p : Int) (h : E.edges ≠ []) (h2 : p < 0 ∨ (E.points.length : Int) ≤ p) : flowMay E a p = false := by simp [flowMay, h, h2]
theorem flowMay_first (E : EntV) (p : Int) (h : E.edges ≠ []) (h2 : ¬ (p < 0 ∨ (E.points.length : Int) ≤ p)) : flowMay E (-1) p = decide (p ∈ E.first) := by simp [flowMay, h, h2]
theorem flowMay_edge (E : EntV) (a p : Int) (h : E.edges ≠ []) (h2 : ¬ (p < 0 ∨ (E.points.length : Int) ≤ p)) (h3 : a ≠ -1) : flowMay E a p = decide ((a, p) ∈ E.edges) := by simp [flowMay, h, h2, h3]

theorem run_len_pairs {P : Program} {t k e ty : TypeId} (ht : P.underlying t = some (.map k e)) {b : Nat} {K : List (Int × Int)} {w : World} (hb : PairsAt w b K) :
    (Builtin.len_ #[t] ty #[.map (some b)]).run P w = .ok (.int .i64 K.length) w := by
  obtain ⟨es, clock, hb, he⟩ := hb
  have hlen : es.size = K.length := by have := congrArg List.length he; simpa using this
  rw [← hlen]
  exact run_len_map (P := P) (w := w) t ty b es clock (by simp [Program.mapKeyOf, Program.mapElemOf, ht]) hb

set_option maxRecDepth 100000 in
set_option maxHeartbeats 1000000 in
theorem flowThen_any (lo hi : Nat) (E : EntV) (es : List (Int × Int)) (w : World) (f : Nat) (at' : Int) (bad : Bool) (p : Int) (h : FlowAt lo hi E es w f at' bad) :
    Calls Tryd.prog 95 #[.pointer (some ⟨f, 0, none⟩), .int .i64 p] w fun e w' => e = .returned (.int .i64 (flowThen E p)) ∧ Below w.heap.size w w' := by
  obtain ⟨⟨mb, a1, k1, a2, k2, K, f1, f2, f3, f4, f5, f6, f7, f8⟩, f9, f10, f11⟩ := h
  obtain ⟨m0, m1, m2, m3, m4, m5, mf⟩ := six_cells f1
  have H5 := Lib.hid f5
  clear f1 f2 f3 f4 f5 mf
  go_enter Tryd.func95, Tryd.ntmps95
  by_cases h1 : p < 0
  · have hF := Lib.hid (flowThen_low E p h1)
    go_wp2_with fail
    go_ret
    exact ⟨ret_int hF.out.symm, Below.refl _ _⟩
  by_cases h2 : (E.points.length : Int) ≤ p
  · have hF := Lib.hid (flowThen_high E p h2)
    go_wp2_with fail
    go_ret
    exact ⟨ret_int hF.out.symm, Below.refl _ _⟩
  go_wp2_with fail
  refine (containsInts_any _ E.last _ p _ H5.out).mono ?_
  rintro e w' ⟨rfl, rfl⟩
  by_cases h3 : p ∈ E.last
  · have hF := Lib.hid (flowThen_last E p h3)
    rw [decide_eq_true h3]
    go_wp2_with fail
    go_ret
    exact ⟨ret_int hF.out.symm, Below.refl _ _⟩
  · have hF := Lib.hid (flowThen_in E p (by omega) (by omega) h3)
    rw [decide_eq_false h3]
    go_wp2_with fail
    go_ret
    exact ⟨ret_int hF.out.symm, Below.refl _ _⟩

set_option maxRecDepth 100000 in
set_option maxHeartbeats 1000000 in
theorem flowMay_any (lo hi : Nat) (E : EntV) (w : World) (f : Nat) (a0 : Int) (bad : Bool) (at' p : Int) (h : FlowAt lo hi E E.edges w f a0 bad) :
    Calls Tryd.prog 94 #[.pointer (some ⟨f, 0, none⟩), .int .i64 at', .int .i64 p] w fun e w' => e = .returned (.bool (flowMay E at' p)) ∧ Below w.heap.size w w' := by
  obtain ⟨⟨mb, a1, k1, a2, k2, K, f1, f2, f3, f4, f5, f6, f7, f8⟩, f9, f10, f11⟩ := h
  obtain ⟨m0, m1, m2, m3, m4, m5, mf⟩ := six_cells f1
  have hln := fun ty => run_len_pairs (P := Tryd.prog) (ty := ty) Tryd.pairMap.um f2
  have hlk := Tryd.pairMap.lookup w mb K (at', p) f2
  unfold pairV at hlk
  simp only at hlk
  have hKE : K = [] ↔ E.edges = [] := by
    constructor <;> intro h <;> apply List.eq_nil_iff_forall_not_mem.2 <;> intro q hq
    · rw [← f3, h] at hq; cases hq
    · rw [f3, h] at hq; cases hq
  have h3 : decide ((at', p) ∈ K) = decide ((at', p) ∈ E.edges) := decide_eq_decide.2 (f3 (at', p))
  have H3 := Lib.hid h3
  have H4 := Lib.hid f4
  clear f1 f2 f3 f4 f5 mf h3
  go_enter Tryd.func94, Tryd.ntmps94
  by_cases h0 : E.edges = []
  · have hF := Lib.hid (flowMay_none E at' p h0)
    have hK := hKE.2 h0
    subst hK
    clear hKE
    go_wp2_with fail
    go_ret
    exact ⟨ret_bool hF.out.symm, Below.refl _ _⟩
  have hKn : 0 < K.length := by
    cases K with
    | nil => exact absurd (hKE.1 rfl) h0
    | cons x K => simp
  by_cases h1 : p < 0
  · have hF := Lib.hid (flowMay_out E at' p h0 (.inl h1))
    clear h0 hKE
    go_wp2_with fail
    go_ret
    exact ⟨ret_bool hF.out.symm, Below.refl _ _⟩
  by_cases h2 : (E.points.length : Int) ≤ p
  · have hF := Lib.hid (flowMay_out E at' p h0 (.inr h2))
    clear h0 hKE
    go_wp2_with fail
    go_ret
    exact ⟨ret_bool hF.out.symm, Below.refl _ _⟩
  by_cases h4 : at' = -1
  · subst h4
    have hF := Lib.hid (flowMay_first E p h0 (by omega))
    clear h0 hKE
    go_wp2_with fail
    refine (containsInts_any _ E.first _ p _ H4.out).mono ?_
    rintro e w' ⟨rfl, rfl⟩
    go_wp2_with fail
    go_ret
    exact ⟨ret_bool hF.out.symm, Below.refl _ _⟩
  · have hF := Lib.hid (flowMay_edge E at' p h0 (by omega) h4)
    have hab : (at' == -1) = false := by simp [h4]
    clear h0 hKE
    go_wp2_with fail
    go_ret
    exact ⟨ret_bool (H3.out.trans hF.out.symm), Below.refl _ _⟩

theorem FlowAt.setBad {lo hi : Nat} {E : EntV} {es : List (Int × Int)} {w : World} {f : Nat} {at' : Int} {bad : Bool} (b : Bool) (h : FlowAt lo hi E es w f at' bad) : FlowAt lo hi E es (w.setCell ⟨f, 5, none⟩ (.bool b)) f at' b := by
  obtain ⟨⟨mb, a1, k1, a2, k2, K, f1, f2, f3, f4, f5, f6, f7, f8⟩, f9, f10, f11⟩ := h
  have kk := keep_set w f 5 (.bool b)
  exact ⟨⟨mb, a1, k1, a2, k2, K, by rw [get_setCell _ f1]; simp, f2.keep kk f8, f3, f4.keep kk (fun b hb => hb.2.2.1), f5.keep kk (fun b hb => hb.2.2.1), f6, f7, f8⟩, f9, f10, Nat.le_trans f11 kk.size⟩
theorem FlowAt.setAt {lo hi : Nat} {E : EntV} {es : List (Int × Int)} {w : World} {f : Nat} {at' : Int} {bad : Bool} (a : Int) (h : FlowAt lo hi E es w f at' bad) : FlowAt lo hi E es (w.setCell ⟨f, 4, none⟩ (.int .i64 a)) f a bad := by
  obtain ⟨⟨mb, a1, k1, a2, k2, K, f1, f2, f3, f4, f5, f6, f7, f8⟩, f9, f10, f11⟩ := h
  have kk := keep_set w f 4 (.int .i64 a)
  exact ⟨⟨mb, a1, k1, a2, k2, K, by rw [get_setCell _ f1]; simp, f2.keep kk f8, f3, f4.keep kk (fun b hb => hb.2.2.1), f5.keep kk (fun b hb => hb.2.2.1), f6, f7, f8⟩, f9, f10, Nat.le_trans f11 kk.size⟩

theorem flowAt_cells {lo hi : Nat} {E : EntV} {es : List (Int × Int)} {w : World} {f : Nat} {at' : Int} {bad : Bool} (h : FlowAt lo hi E es w f at' bad) :
    w.cell? ⟨f, 4, none⟩ = some (.int .i64 at') ∧ w.cell? ⟨f, 5, none⟩ = some (.bool bad) ∧ ∀ o, w.frozen? ⟨f, o, none⟩ = false := by
  obtain ⟨⟨mb, a1, k1, a2, k2, K, f1, _⟩, _⟩ := h
  obtain ⟨m0, m1, m2, m3, m4, m5, mf⟩ := six_cells f1
  exact ⟨m4, m5, mf⟩

set_option maxRecDepth 100000 in
set_option maxHeartbeats 1000000 in
theorem flowReport_any (lo hi : Nat) (E : EntV) (w : World) (f : Nat) (at' : Int) (bad : Bool) (p : Int) (h : FlowAt lo hi E E.edges w f at' bad) :
    Calls Tryd.prog 65 #[.pointer (some ⟨f, 0, none⟩), .int .i64 p] w fun e w' => e = .returned (.tuple #[]) ∧ FlowAt lo hi E E.edges w' f (flowThen E p) (bad || !flowMay E at' p) ∧ Keep (· = f) w w' := by
  obtain ⟨m4, m5, mf⟩ := flowAt_cells h
  have H := Lib.hid h
  clear h
  go_enter Tryd.func65, Tryd.ntmps65
  cases bad
  · go_wp2_with fail
    refine (flowMay_any lo hi E w f at' false at' p H.out).mono ?_
    rintro e w1 ⟨rfl, b1⟩
    have h1 := H.out.keep (below_keep b1) (fun _ _ _ h => h)
    obtain ⟨q4, q5, qf⟩ := flowAt_cells h1
    have h2 := h1.setBad (!flowMay E at' p)
    have k2 : Keep (· = f) w (w1.setCell ⟨f, 5, none⟩ (.bool (!flowMay E at' p))) := ((below_keep b1).mono (fun _ _ h => h.elim)).trans (keep_set w1 f 5 _)
    have H1 := Lib.hid h2
    have K1 := Lib.hid k2
    clear h1 h2 k2 m4 m5 mf b1 H
    generalize hm : flowMay E at' p = m at H1 K1 ⊢
    have HM := Lib.hid hm
    clear hm
    go_wp2_with fail
    generalize World.setCell _ _ _ = w2 at H1 K1 ⊢
    refine (flowThen_any lo hi E E.edges w2 f at' _ p H1.out).mono ?_
    rintro e w3 ⟨rfl, b3⟩
    have h3 := H1.out.keep (below_keep b3) (fun _ _ _ h => h)
    obtain ⟨r4, r5, rf⟩ := flowAt_cells h3
    have h4 := h3.setAt (flowThen E p)
    have k4 : Keep (· = f) w (w3.setCell ⟨f, 4, none⟩ (.int .i64 (flowThen E p))) := (K1.out.trans ((below_keep b3).mono (fun _ _ h => h.elim))).trans (keep_set w3 f 4 _)
    have H4 := Lib.hid h4
    have K4 := Lib.hid k4
    clear h3 h4 k4 q4 q5 qf H1 K1 b3
    go_wp2_with fail
    go_end0
    exact ⟨rfl, by rw [Bool.false_or, HM.out]; exact H4.out, K4.out⟩
  · have h2 := H.out.setBad true
    have k2 := keep_set w f 5 (.bool true)
    have H1 := Lib.hid h2
    have K1 := Lib.hid k2
    clear h2 k2
    go_wp2_with fail
    generalize World.setCell _ _ _ = w2 at H1 K1 ⊢
    refine (flowThen_any lo hi E E.edges w2 f at' _ p H1.out).mono ?_
    rintro e w3 ⟨rfl, b3⟩
    have h3 := H1.out.keep (below_keep b3) (fun _ _ _ h => h)
    obtain ⟨r4, r5, rf⟩ := flowAt_cells h3
    have h4 := h3.setAt (flowThen E p)
    have k4 : Keep (· = f) w (w3.setCell ⟨f, 4, none⟩ (.int .i64 (flowThen E p))) := (K1.out.trans ((below_keep b3).mono (fun _ _ h => h.elim))).trans (keep_set w3 f 4 _)
    have H4 := Lib.hid h4
    have K4 := Lib.hid k4
    clear h3 h4 k4 m4 m5 mf H1 K1 b3
    go_wp2_with fail
    go_end0
    exact ⟨rfl, H4.out, K4.out⟩

set_option maxHeartbeats 1000000 in
theorem flowEnd_any (lo hi : Nat) (E : EntV) (w : World) (f : Nat) (at' : Int) (bad : Bool) (h : FlowAt lo hi E E.edges w f at' bad) :
    Calls Tryd.prog 90 #[.pointer (some ⟨f, 0, none⟩)] w fun e w' => e = .returned (.bool (!bad)) ∧ FlowAt lo hi E E.edges w' f at' false ∧ Keep (· = f) w w' := by
  obtain ⟨m4, m5, mf⟩ := flowAt_cells h
  have H := Lib.hid (h.setBad false)
  have K := Lib.hid (keep_set w f 5 (.bool false))
  clear h
  go_enter Tryd.func90, Tryd.ntmps90
  go_wp2_with fail
  go_ret
  exact ⟨rfl, H.out, K.out⟩

end Go.Proofs.YtkhcepdeppmofaaDoor
