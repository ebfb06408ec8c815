/- FlowEnds: in which order any points come, cycle by cycle. -/
import Derived.Test.YtpodijlhlgbbdaaGapsEnds
import Derived.Test.YtpodijlhlgbbdaaFlowBad
import Derived.Test.YtpodijlhlgbbdaaStay
namespace Go.Proofs.Ytpodijlhlgbbdaa
open Go.RowKit
set_option linter.unusedVariables false

theorem FlowAt.low {lo lo' hi : Nat} {E : EntV} {es : List (Int × Int)} {w : World} {f : Nat} {at' : Int} {bad : Bool} (h : FlowAt lo hi E es w f at' bad) (hl : lo' ≤ lo) : FlowAt lo' hi E es w f at' bad := by
  obtain ⟨⟨mb, a1, k1, a2, k2, K, h1, h2, h3, h4, h5, h6, h7, h8⟩, h9, hh, ht⟩ := h
  exact ⟨⟨mb, a1, k1, a2, k2, K, h1, h2, h3, h4.mono (fun b hb => ⟨Nat.le_trans hl hb.1, hb.2⟩), h5.mono (fun b hb => ⟨Nat.le_trans hl hb.1, hb.2⟩), Nat.le_trans hl h6, h7, h8⟩, Nat.le_trans hl h9, hh, ht⟩

def ordE : EntV := ⟨⟨#[]⟩, 0, [⟨#[112]⟩, ⟨#[113]⟩], 0, 0, 0, [], [(0, 1)], [0], [1]⟩
theorem ord_light : Light ordE := ⟨by decide, by decide, by decide, by decide, by decide⟩
theorem ord1 : flowThen ordE 0 = 0 := by decide
theorem ord2 : flowMay ordE (-1) 0 = true := by decide
theorem ord3 : flowThen ordE 1 = -1 := by decide
theorem ord4 : flowMay ordE 0 1 = true := by decide
theorem ord5 : flowMay ordE (-1) 1 = false := by decide

set_option maxRecDepth 100000 in
theorem flowNew_ord (w : World) : Calls Try.prog 22 #[.agg #[.string ⟨#[]⟩, .int .i64 0, .slice (some ⟨w.heap.size, 0, none⟩) 2 2, .int .i64 0, .int .i64 0, .int .i64 0, .slice none 0 0, .slice (some ⟨w.heap.size + 1, 0, none⟩) 1 1, .slice (some ⟨w.heap.size + 1 + 1, 0, none⟩) 1 1, .slice (some ⟨w.heap.size + 1 + 1 + 1, 0, none⟩) 1 1]]
    ((((w.alloc (.cells #[.string ⟨#[112]⟩, .string ⟨#[113]⟩] 9)).alloc (.cells #[.int .i64 0, .int .i64 1] 66)).alloc (.cells #[.int .i64 0] 3)).alloc (.cells #[.int .i64 1] 3))
    fun e w' => ∃ f hi, e = .returned (.pointer (some ⟨f, 0, none⟩)) ∧ FlowAt w.heap.size hi ordE ordE.edges w' f (-1) false ∧ Below w.heap.size w w' := by
  obtain ⟨w1, hw1⟩ : ∃ w1, w1 = w.alloc (.cells #[.string ⟨#[112]⟩, .string ⟨#[113]⟩] 9) := ⟨_, rfl⟩
  obtain ⟨w2, hw2⟩ : ∃ w2, w2 = w1.alloc (.cells #[.int .i64 0, .int .i64 1] 66) := ⟨_, rfl⟩
  obtain ⟨w3, hw3⟩ : ∃ w3, w3 = w2.alloc (.cells #[.int .i64 0] 3) := ⟨_, rfl⟩
  obtain ⟨w4, hw4⟩ : ∃ w4, w4 = w3.alloc (.cells #[.int .i64 1] 3) := ⟨_, rfl⟩
  rw [← hw1, ← hw2, ← hw3, ← hw4]
  have z1 : w1.heap.size = w.heap.size + 1 := by rw [hw1, World.size_alloc]
  have z2 : w2.heap.size = w.heap.size + 1 + 1 := by rw [hw2, World.size_alloc, z1]
  have z3 : w3.heap.size = w.heap.size + 1 + 1 + 1 := by rw [hw3, World.size_alloc, z2]
  have k2 : Keep (fun _ => False) w1 w2 := by rw [hw2]; exact (Keep.refl _ _).alloc _
  have k3 : Keep (fun _ => False) w2 w3 := by rw [hw3]; exact (Keep.refl _ _).alloc _
  have k4 : Keep (fun _ => False) w3 w4 := by rw [hw4]; exact (Keep.refl _ _).alloc _
  have b4 : Below w.heap.size w w4 := by
    rw [hw4]; refine Below.alloc ?_ (by omega) _
    rw [hw3]; refine Below.alloc ?_ (by omega) _
    rw [hw2]; refine Below.alloc ?_ (by omega) _
    rw [hw1]; exact (Below.refl _ _).alloc (Nat.le_refl _) _
  have s1 := slOf_alloc w [.string ⟨#[112]⟩, .string ⟨#[113]⟩] 9 1 2 rfl (by decide)
  have s2 := slOf_alloc w1 [.int .i64 0, .int .i64 1] 66 2 1 rfl (by decide)
  have s3 := slOf_alloc w2 [.int .i64 0] 3 1 1 rfl (by decide)
  have s4 := slOf_alloc w3 [.int .i64 1] 3 1 1 rfl (by decide)
  rw [z1] at s2
  rw [z2] at s3
  rw [z3] at s4
  have e1 := (((show SlOf _ w1 _ _ _ _ from hw1 ▸ s1).keep k2 (fun _ _ h => h)).keep k3 (fun _ _ h => h)).keep k4 (fun _ _ h => h)
  have e2 := ((show SlOf _ w2 _ _ _ _ from hw2 ▸ s2).keep k3 (fun _ _ h => h)).keep k4 (fun _ _ h => h)
  have e3 := (show SlOf _ w3 _ _ _ _ from hw3 ▸ s3).keep k4 (fun _ _ h => h)
  have e4 := (show SlOf _ w4 _ _ _ _ from hw4 ▸ s4)
  have es : EntSl (· < w4.heap.size) w4 ordE (.slice (some ⟨w.heap.size, 0, none⟩) 2 2) (.slice none 0 0) (.slice (some ⟨w.heap.size + 1, 0, none⟩) 1 1) (.slice (some ⟨w.heap.size + 1 + 1, 0, none⟩) 1 1) (.slice (some ⟨w.heap.size + 1 + 1 + 1, 0, none⟩) 1 1) :=
    ⟨e1.here, SlOf.nil _ _ _, e2.here, e3.here, e4.here⟩
  refine (flowNew_any (· < w4.heap.size) ordE _ _ _ _ _ w4 es (fun b h => h) ord_light).mono ?_
  rintro e w' ⟨f, hi, rfl, hF, hB⟩
  exact ⟨f, hi, rfl, hF.low b4.size, b4.trans (hB.mono b4.size)⟩

set_option maxRecDepth 100000 in
set_option maxHeartbeats 1000000 in
theorem ordered_any (w : World) : Calls Try.prog 21 #[] w fun e w' => e = .returned (.bool true) ∧ Below w.heap.size w w' := by
  go_enter Try.func21, Try.ntmps21
  go_wp2_with fail
  refine (flowNew_ord w).mono ?_
  rintro e w1 ⟨f, hi, rfl, h1, b1⟩
  have hf := h1.flo
  have H1 := Lib.hid h1; clear h1
  go_wp2_with fail
  refine (flowReport_any _ _ _ _ _ _ _ _ H1.out).mono ?_
  rintro e w2 ⟨rfl, h2, k2⟩
  rw [ord1, ord2] at h2
  have H2 := Lib.hid h2; clear h2
  go_wp2_with fail
  refine (flowReport_any _ _ _ _ _ _ _ _ H2.out).mono ?_
  rintro e w3 ⟨rfl, h3, k3⟩
  rw [ord3, ord4] at h3
  have H3 := Lib.hid h3; clear h3
  go_wp2_with fail
  refine (flowAtOf_any _ _ _ _ _ _ _ H3.out).mono ?_
  rintro e w' ⟨rfl, rfl⟩
  go_wp2_with fail
  refine (flowEnd_any _ _ _ _ _ _ _ H3.out).mono ?_
  rintro e w4 ⟨rfl, h4, k4⟩
  have H4 := Lib.hid h4; clear h4
  go_wp2_with fail
  refine (flowReport_any _ _ _ _ _ _ _ _ H4.out).mono ?_
  rintro e w5 ⟨rfl, h5, k5⟩
  rw [ord5] at h5
  have H5 := Lib.hid h5; clear h5
  go_wp2_with fail
  refine (flowEnd_any _ _ _ _ _ _ _ H5.out).mono ?_
  rintro e w6 ⟨rfl, h6, k6⟩
  go_wp2_with fail
  go_ret
  exact ⟨rfl, b1.trans (((((k2.trans k3).trans k4).trans k5).trans k6).below b1.size (fun b hb => by subst hb; omega))⟩

/-- The state of FlowEnds between two of its inputs. -/
structure FE (w0 : World) (E : EntV) (bx : Obj) (lo hi f base : Nat) (ms : List MarkV) (cyc : Int) (ao : Option Addr) (cap : Nat) (w : World) : Prop where
  below : Below w0.heap.size w0 w
  box : w.heap[w0.heap.size]? = some bx
  flow : FlowAt lo hi E E.edges w f (flowAhead E ms) (flowBadF E ms cyc ms.length)
  own : w.ownsRow base 51 3 (.slice ao ms.length cap) ms.length (ms.flatMap markCells)
  mks : ∀ m ∈ ms, m.cycle ≤ cyc
  lay : w0.heap.size < lo ∧ hi ≤ base ∧ base ≤ w.heap.size
theorem FE.keep {w0 w w' : World} {E : EntV} {bx : Obj} {lo hi f base : Nat} {ms : List MarkV} {cyc : Int} {ao : Option Addr} {cap : Nat} (h : FE w0 E bx lo hi f base ms cyc ao cap w) (hk : Keep (fun _ => False) w w') : FE w0 E bx lo hi f base ms cyc ao cap w' :=
  ⟨h.below.trans (hk.below h.below.size (fun _ h => h.elim)), hk.get h.box (fun h => h), h.flow.keep hk (fun _ _ _ h => h), ownsRow_keep' h.own hk (fun _ _ _ h => h), h.mks, h.lay.1, h.lay.2.1, Nat.le_trans h.lay.2.2 hk.size⟩

/-- A report. -/
theorem FE.report {w0 w w1 : World} {E : EntV} {bx : Obj} {lo hi f base : Nat} {ms : List MarkV} {cyc : Int} {ao : Option Addr} {cap : Nat} {p : Int} (h : FE w0 E bx lo hi f base ms cyc ao cap w)
    (hg : FlowAt lo hi E E.edges w1 f (flowThen E p) (flowBadF E ms cyc ms.length || !flowMay E (flowAhead E ms) p)) (hk : Keep (· = f) w w1) :
    Below w0.heap.size w0 w1 ∧ w1.heap[w0.heap.size]? = some bx ∧ FlowAt lo hi E E.edges w1 f (flowAhead E (ms ++ [(⟨p, 0, cyc⟩ : MarkV)])) (flowBadF E (ms ++ [(⟨p, 0, cyc⟩ : MarkV)]) cyc (ms ++ [(⟨p, 0, cyc⟩ : MarkV)]).length) ∧
    w1.ownsRow base 51 3 (.slice ao ms.length cap) ms.length (ms.flatMap markCells) ∧ base ≤ w1.heap.size := by
  have hlt := h.lay
  have h1 := h.flow.flo
  have h2 := h.flow.fhi
  refine ⟨h.below.trans (hk.below h.below.size (fun b hb => by subst hb; omega)), hk.get h.box (by omega), ?_, ownsRow_keep' h.own hk (fun b hb _ => by omega), Nat.le_trans hlt.2.2 hk.size⟩
  rw [flowAhead_snoc, flowBadF_snoc]
  have e : flowMark E ms (⟨p, 0, cyc⟩ : MarkV) cyc = !flowMay E (flowAhead E ms) p := by simp [flowMark]
  rw [e]
  exact hg

/-- A mark is noted. -/
theorem FE.noted {w0 w1 W w2 : World} {E : EntV} {bx : Obj} {lo hi f base : Nat} {ms : List MarkV} {cyc : Int} {ao' : Option Addr} {cap' : Nat} {p : Int} {o : Option Nat}
    (hb : Below w0.heap.size w0 w1) (hx : w1.heap[w0.heap.size]? = some bx) (hg : FlowAt lo hi E E.edges w1 f (flowAhead E (ms ++ [(⟨p, 0, cyc⟩ : MarkV)])) (flowBadF E (ms ++ [(⟨p, 0, cyc⟩ : MarkV)]) cyc (ms ++ [(⟨p, 0, cyc⟩ : MarkV)]).length))
    (hmk : ∀ m ∈ ms, m.cycle ≤ cyc) (hlay : w0.heap.size < lo ∧ hi ≤ base ∧ base ≤ w1.heap.size)
    (hW : Keep (fun _ => False) w1 W) (ho : W.grownBy w2 o) (hob : ∀ b, o = some b → base ≤ b)
    (hown : w2.ownsRow base 51 3 (.slice ao' (ms.length + 1) cap') (ms.length + 1) (ms.flatMap markCells ++ markCells ⟨p, 0, cyc⟩)) : FE w0 E bx lo hi f base (ms ++ [(⟨p, 0, cyc⟩ : MarkV)]) cyc ao' cap' w2 := by
  have kg : Keep (fun b => base ≤ b) w1 w2 := Keep.step (S := fun b => base ≤ b) (hW.mono (fun _ _ h => h.elim)) (Keep.of_grown ho) (fun b hb' _ => hob b hb'.symm)
  have hl : (ms ++ [(⟨p, 0, cyc⟩ : MarkV)]).length = ms.length + 1 := by simp
  have h1 := hg.flo
  have h2 := hg.fhi
  refine ⟨hb.trans (kg.below hb.size (fun b hb' => by omega)), kg.get hx (by omega), hg.keep kg (fun b _ _ => by omega), ?_, ?_, hlay.1, hlay.2.1, Nat.le_trans hlay.2.2 kg.size⟩
  · rw [hl, List.flatMap_append]
    simpa using hown
  · intro m hm
    rcases List.mem_append.1 hm with h | h
    · exact hmk m h
    · simp at h; subst h; exact Int.le_refl _

/-- Behind an append that is thrown away. -/
theorem FE.thrown {w0 w W w2 : World} {E : EntV} {bx : Obj} {lo hi f base : Nat} {ms : List MarkV} {cyc : Int} {ao : Option Addr} {cap : Nat} {o : Option Nat} (h : FE w0 E bx lo hi f base ms cyc ao cap w)
    (hW : Keep (fun _ => False) w W) (ho : W.grownBy w2 o) (hob : ∀ b, o = some b → base ≤ b) (hown : w2.ownsRow base 51 3 (.slice ao ms.length cap) ms.length (ms.flatMap markCells)) : FE w0 E bx lo hi f base ms cyc ao cap w2 := by
  have kg : Keep (fun b => base ≤ b) w w2 := Keep.step (S := fun b => base ≤ b) (hW.mono (fun _ _ h => h.elim)) (Keep.of_grown ho) (fun b hb' _ => hob b hb'.symm)
  have h1 := h.flow.flo
  have h2 := h.flow.fhi
  have hlay := h.lay
  exact ⟨h.below.trans (kg.below h.below.size (fun b hb' => by omega)), kg.get h.box (by omega), h.flow.keep kg (fun b _ _ => by omega), hown, h.mks, hlay.1, hlay.2.1, Nat.le_trans hlay.2.2 kg.size⟩

/-- A cycle ends. -/
theorem FE.ended {w0 w w1 : World} {E : EntV} {bx : Obj} {lo hi f base : Nat} {ms : List MarkV} {cyc : Int} {ao : Option Addr} {cap : Nat} (h : FE w0 E bx lo hi f base ms cyc ao cap w)
    (hg : FlowAt lo hi E E.edges w1 f (flowAhead E ms) false) (hk : Keep (· = f) w w1) : FE w0 E bx lo hi f base ms (cyc + 1) ao cap w1 := by
  have hlt := h.lay
  have h1 := h.flow.flo
  have h2 := h.flow.fhi
  refine ⟨h.below.trans (hk.below h.below.size (fun b hb => by subst hb; omega)), hk.get h.box (by omega), ?_, ownsRow_keep' h.own hk (fun b hb _ => by omega), fun m hm => by have := h.mks m hm; omega, hlt.1, hlt.2.1, Nat.le_trans hlt.2.2 hk.size⟩
  rw [flowBadF_fresh E ms (cyc + 1) (fun m hm => by have := h.mks m hm; omega)]
  exact hg

section
variable {w0 w w' : World} {E : EntV} {bx : Obj} {lo hi f base : Nat} {ms : List MarkV} {cyc : Int} {ao : Option Addr} {cap : Nat}
theorem FE.drew' (h : FE w0 E bx lo hi f base ms cyc ao cap w) : FE w0 E bx lo hi f base ms cyc ao cap w.drew := h.keep (Keep.refl _ _).drew
theorem FE.alloc' (h : FE w0 E bx lo hi f base ms cyc ao cap w) (o : Obj) : FE w0 E bx lo hi f base ms cyc ao cap (w.alloc o) := h.keep ((Keep.refl _ _).alloc _)
theorem FE.below' (h : FE w0 E bx lo hi f base ms cyc ao cap w) (b : Below w.heap.size w w') : FE w0 E bx lo hi f base ms cyc ao cap w' := h.keep (below_keep b)
theorem fe_keep {w6 : World} (hb : w6.heap[w0.heap.size]? = some bx) (h : FE w0 E bx lo hi f base ms cyc ao cap w) : (∀ o, w.cell? ⟨w0.heap.size, o, none⟩ = w6.cell? ⟨w0.heap.size, o, none⟩) ∧ FE w0 E bx lo hi f base ms cyc ao cap w :=
  ⟨fun o => World.cell?_of_block (a := ⟨w0.heap.size, o, none⟩) (h.box.trans hb.symm), h⟩
theorem fe_base {o : Obj} (h : FE w0 E bx lo hi f base ms cyc ao cap w) : base ≤ (w.drew.alloc o).heap.size := by
  have := h.lay.2.2
  rw [World.size_alloc]
  exact Nat.le_succ_of_le this
end
theorem own_cons {w : World} {base : Nat} {e : TypeId} {ao : Option Addr} {cap : Nat} {ms : List MarkV} (h : w.ownsRow base e 3 (.slice ao (ms.length + 1) cap) (ms.length + 1) (ms.flatMap markCells ++ markCells ⟨0, 0, 0⟩)) :
    ∃ mb, ao = some ⟨mb, 0, none⟩ ∧ SlOf (· < w.heap.size) w (.slice (some ⟨mb, 0, none⟩) (ms.length + 1) cap) 3 ((ms ++ [(⟨0, 0, 0⟩ : MarkV)]).flatMap markCells) (ms.length + 1) := by
  have hs := (slOf_owns h).here
  obtain ⟨hl, hv⟩ := h
  rcases hv with ⟨_, hn⟩ | ⟨g, cap', cur, hv, _⟩
  · omega
  · injection hv with h1 h2 h3
    subst h1
    refine ⟨g, rfl, ?_⟩
    rw [List.flatMap_append]
    simpa using hs
theorem flowAhead_thrown (E : EntV) (ms : List MarkV) (vp vg ve vf vl v : Value) (w : World) {B : Nat → Prop} (h : EntSl B w E vp vg ve vf vl) (hm : SlOf (· < w.heap.size) w v 3 ((ms ++ [(⟨0, 0, 0⟩ : MarkV)]).flatMap markCells) (ms.length + 1)) (hl : ms.length ≤ 900) :
    Calls Try.prog 25 #[.agg (entCs E vp vg ve vf vl), v, .int .i64 ms.length] w fun e w' => e = .returned (.int .i64 (flowAhead E ms)) ∧ Below w.heap.size w w' := by
  have hlen : (ms ++ [(⟨0, 0, 0⟩ : MarkV)]).length = ms.length + 1 := by simp
  have := flowAhead_any (· < w.heap.size) E (ms ++ [(⟨0, 0, 0⟩ : MarkV)]) ms.length vp vg ve vf vl v w ⟨h.p.here, h.g.here, h.e.here, h.f.here, h.l.here⟩ (by rw [hlen]; exact hm) (fun b hb => hb) (by omega) (by omega)
  rwa [List.take_left] at this
theorem step_append_stay {P : Program} {w : World} {ops : Array Oper} {o : Oper} {a : Act} {K : Act → World → Prop} {Q : Exit → Act → World → Prop} {E : Prop} (hgd : o.guard = none) (s x : Operand) (t : TypeId)
    (ho : o.op = .call { callee := .builtin .append, args := #[s, x], argTypes := #[t, t] })
    (base : Nat) (e : TypeId) (i : TypeInfo) (z : Value) (size bytes : Nat) (ht : P.underlying t = some (.slice e)) (hi : P.info? e = some i) (hz : i.zero = some z)
    (hsize : i.size = size) (hby : i.bytes = bytes) (hzs : z.cells.size = size) (hsz : 0 < size)
    (v : Value) (n : Nat) (xs : List Value) (hs : a.eval s = v) (hown : w.ownsRow base e size v n xs)
    (ad : Addr) (m c : Nat) (news : List Value) (hx : a.eval x = .slice (some ad) m c) (hl : news.length = m * size) (hnews : ∀ j u, news[j]? = some u → w.cell? (ad.add j) = some u) (h1 : ∀ u ∈ news, u.oneCell' = true)
    (h63 : n + m ≤ maxLen) (hbytes : (n + m) * bytes ≤ 140737488355328) (hbase : base ≤ w.heap.size)
    (h : ∀ ao cap w', w'.ownsRow base e size (.slice ao (n + m) cap) (n + m) (xs ++ news) → w.grownBy w' v.ownBlock → w'.ownsRow base e size v n xs → K (a.put o.dst (.slice ao (n + m) cap)) w') :
    if Region.wanted o (yielded ops a.tmps) = true then Oper.wp P o a w K Q else E := by
  have hw : Region.wanted o (yielded ops a.tmps) = true := by simp [Region.wanted, hgd]
  rw [if_pos hw]
  obtain ⟨v', w', hr, ho', hg, hst⟩ := run_append_stay (P := P) w base t o.type e i z size bytes ht hi hz hsize hby hzs hsz v n xs hown ad m c news hl hnews h1 h63 hbytes hbase
  have hv : ∃ ao cap, v' = .slice ao (n + m) cap := by
    rcases ho'.2 with ⟨hv, hn⟩ | ⟨g, cap, cur, hv, _⟩
    · exact ⟨none, 0, by rw [hv, hn]⟩
    · exact ⟨_, _, hv⟩
  obtain ⟨ao, cap, rfl⟩ := hv
  unfold Oper.wp execOp
  simp only [ho, resolve, invoke, builtin, Sem.run_bind, Sem.run_pure, Result.andThen_ok, List.map_toArray, List.map_cons, List.map_nil, hs, hx, hr]
  exact h ao cap w' ho' hg hst

set_option maxRecDepth 100000 in
set_option maxHeartbeats 4000000 in
theorem flowEnds_any (E : EntV) (reps : List RepV) (vp vg ve vf vl vr : Value) (w : World) (h : EntSl (· < w.heap.size) w E vp vg ve vf vl)
    (hr : SlOf (· < w.heap.size) w vr 3 (reps.flatMap repCells) reps.length) :
    Calls Try.prog 7 #[.agg (entCs E vp vg ve vf vl), vr] w fun e w' => e = .returned (.bool true) ∧ Below w.heap.size w w' := by
  obtain ⟨pa, pc, rfl⟩ := h.p.val
  obtain ⟨ga, gc, rfl⟩ := h.g.val
  obtain ⟨ea, ec, rfl⟩ := h.e.val
  obtain ⟨fa, fc, rfl⟩ := h.f.val
  obtain ⟨la, lc, rfl⟩ := h.l.val
  obtain ⟨ra, rc, rfl⟩ := hr.val
  obtain ⟨i0, hi0, hz0, hz1, hz2⟩ := info_parts Try.infoMark
  have H := Lib.hid h
  have HR := Lib.hid hr
  clear h hr
  unfold entCs
  go_enter Try.func7, Try.ntmps7
  go_wp2_with fail
  refine (ordered_any _).mono ?_
  rintro e w1 ⟨rfl, b1⟩
  obtain ⟨bb1, hx1⟩ := box_below b1
  clear b1
  have HX1 := Lib.hid hx1
  obtain ⟨c0, c1, c2, c3, c4, c5, c6, c7, c8, c9, cf⟩ := ten_cells hx1
  clear hx1 cf
  go_wp2_with fail
  refine (heavyEntity_x E _ _ _ _ _ _ _ _ _ _ w w1 H.out bb1).mono ?_
  rintro e w2 ⟨rfl, b2⟩
  have bb2 := bb1.trans (b2.mono bb1.size)
  have hx2 := below_get b2 HX1.out (lt_of_get HX1.out)
  clear c0 c1 c2 c3 c4 c5 c6 c7 c8 c9 HX1 b2
  by_cases hH : Heavy E
  · rw [heavyN_pos hH]
    go_wp2_with fail
    go_ret
    exact ⟨rfl, bb2⟩
  rw [heavyN_neg hH]
  by_cases hF : 100 < reps.length
  · go_wp2_with fail
    go_ret
    exact ⟨rfl, bb2⟩
  have HX2 := Lib.hid hx2
  obtain ⟨c0, c1, c2, c3, c4, c5, c6, c7, c8, c9, cf⟩ := ten_cells hx2
  clear hx2 cf
  have hlr : reps.length ≤ 100 := by omega
  go_wp2_with fail
  refine (ownEntity_x E _ _ _ _ _ _ _ _ _ _ w w2 H.out bb2 hH).mono ?_
  rintro e w3 ⟨_, _, _, _, _, _, _, _, _, _, rfl, hs3, b3⟩
  have bb3 := bb2.trans (b3.mono bb2.size)
  have hx3 := below_get b3 HX2.out (lt_of_get HX2.out)
  have hs3' : EntSl (· < w3.heap.size) w3 E _ _ _ _ _ := ⟨hs3.p.here, hs3.g.here, hs3.e.here, hs3.f.here, hs3.l.here⟩
  have HS3 := Lib.hid hs3'
  clear c0 c1 c2 c3 c4 c5 c6 c7 c8 c9 HX2 b3 hs3 hs3'
  have lg := light_of hH
  go_wp2_with fail
  refine (flowNew_any (· < w3.heap.size) E _ _ _ _ _ w3 HS3.out (fun b hb => hb) lg).mono ?_
  rintro e w4 ⟨f, hi, rfl, hg4, b4⟩
  have ge : FE w E (.cells #[.string E.name, .int .i64 E.tol, .slice pa E.points.length pc, .int .i64 E.count, .int .i64 E.mn, .int .i64 E.mx, .slice ga E.gaps.length gc, .slice ea E.edges.length ec, .slice fa E.first.length fc, .slice la E.last.length lc] 30) w3.heap.size hi f w4.heap.size [] 0 none 0 w4 := by
    refine ⟨bb3.trans (b4.mono bb3.size), below_get b4 hx3 (lt_of_get hx3), ?_, World.ownsRow_nil _ _ _ _, (fun m hm => by cases hm), lt_of_get hx3, hg4.ftop, Nat.le_refl _⟩
    exact hg4
  have hff := hg4.flo
  have hfh := hg4.fhi
  have hfw := lt_of_get hx3
  have GE0 := Lib.hid ge
  have HG4 := Lib.hid hg4
  clear ge hg4 b4 hx3 HS3 lg
  go_wp2_with fail
  refine (flowAtOf_any _ _ _ _ _ _ _ HG4.out).mono ?_
  rintro e w' ⟨rfl, rfl⟩
  go_wp2_with fail
  go_loopw [7, 8, 9] (fun s7 s8 s9 wr => ∃ (i cyc : Nat) (ms : List MarkV) (ao : Option Addr) (cap : Nat), i ≤ reps.length ∧ cyc ≤ i ∧ ms.length ≤ i ∧ s7 = .slice ao ms.length cap ∧ s8 = .int .i64 cyc ∧ s9 = .int .i64 i ∧
    Hid (FE w E (.cells #[.string E.name, .int .i64 E.tol, .slice pa E.points.length pc, .int .i64 E.count, .int .i64 E.mn, .int .i64 E.mx, .slice ga E.gaps.length gc, .slice ea E.edges.length ec, .slice fa E.first.length fc, .slice la E.last.length lc] 30) w3.heap.size hi f w4.heap.size ms cyc ao cap wr)) (fun _ _ s _ => reps.length - (intOf s).toNat)
  case atStart => exact ⟨0, 0, [], none, 0, Nat.zero_le _, Nat.le_refl _, Nat.le_refl _, rfl, rfl, rfl, GE0⟩
  case round =>
    obtain ⟨i, cyc, ms, ao, cap, hi', hcy, hml, rfl, rfl, rfl, ge⟩ := hrel
    clear GE0 HG4 bb3 bb2 bb1
    by_cases hlt : i < reps.length
    · obtain ⟨rb, roff, rfl, hRb, _, hc⟩ := rep_cells HR.out (by omega)
      obtain ⟨q0, q1, q2⟩ := hc i hlt
      clear hc q1
      have hbr := ge.out.below
      rw [← hbr.cell (p := ⟨rb, roff + i * 3, none⟩) hRb] at q0
      rw [← hbr.cell (p := ⟨rb, roff + i * 3 + 2, none⟩) hRb] at q2
      clear hbr
      cases hfin : reps[i].fin
      · rw [hfin] at q2
        go_wp2_with fail
        refine (flowReport_any _ _ _ _ _ _ _ _ ge.out.flow).mono ?_
        rintro e w5 ⟨rfl, h5, k5⟩
        obtain ⟨r1, r2, r3, r4, r5⟩ := ge.out.report h5 k5
        have q0' : w5.cell? ⟨rb, roff + i * 3, none⟩ = some (.int .i64 reps[i].point) := by
          rw [k5.cell (p := ⟨rb, roff + i * 3, none⟩) (Nat.lt_of_lt_of_le hRb ge.out.below.size)]
          · exact q0
          · intro hj
            simp at hj; omega
        have lay := ge.out.lay
        have mks := Lib.hid ge.out.mks
        have R2 := Lib.hid r2
        have R3 := Lib.hid r3
        have R4 := Lib.hid r4
        have LAY := Lib.hid (show w.heap.size < w3.heap.size ∧ hi ≤ w4.heap.size ∧ w4.heap.size ≤ w5.heap.size from ⟨lay.1, lay.2.1, r5⟩)
        clear h5 k5 q0 q2 r2 r3 r4 lay ge
        have h63 : Hid (ms.length + 1 ≤ maxLen) := by show ms.length + 1 ≤ maxLen; unfold maxLen; omega
        have hby : Hid ((ms.length + 1) * 24 ≤ 140737488355328) := by show (ms.length + 1) * 24 ≤ 140737488355328; omega
        have hbs : Hid (∀ o, w4.heap.size ≤ (w5.alloc o).heap.size) := fun o => by rw [World.size_alloc]; have := LAY.out.2.2; omega
        go_wp2_with (at_builtin; go_must (refine wpList_append_ownS rfl (.tmp 54) (.tmp 62) 49 rfl w4.heap.size 51 i0 _ 3 24 Try.underlying49 hi0 hz0 hz1 hz2 rfl (by decide) _ ms.length _ rfl (R4.out.alloc _) ⟨w5.heap.size, 0, none⟩ 1 1 (markCells ⟨reps[i].point, 0, cyc⟩) rfl rfl (new_cells _ (markCells ⟨reps[i].point, 0, cyc⟩) _) (mark_one _) h63.out hby.out (hbs.out _) ?_; intro a1 k1 w6 ho6 hg6))
        have nx := FE.noted r1 R2.out R3.out mks.out LAY.out ((Keep.refl (fun _ => False) w5).alloc _) hg6 (fun b hb => (R4.out.lt b hb).1) ho6
        have NX := Lib.hid nx
        clear nx ho6 hg6 r1 r5 R2 R3 R4 LAY mks q0' h63 hby hbs
        have hl : (ms ++ [(⟨reps[i].point, 0, cyc⟩ : MarkV)]).length = ms.length + 1 := by simp
        generalize ms ++ [(⟨reps[i].point, 0, cyc⟩ : MarkV)] = ms' at NX hl
        rw [← hl]
        have hl' : ms'.length ≤ i + 1 := by omega
        clear hl hml
        have hbox := NX.out.box
        obtain ⟨c0, c1, c2, c3, c4, c5, c6, c7, c8, c9, cf⟩ := ten_cells hbox
        have HBOX := Lib.hid hbox
        have HAt := Lib.hid (fun W (hW : FE w E (.cells #[.string E.name, .int .i64 E.tol, .slice pa E.points.length pc, .int .i64 E.count, .int .i64 E.mn, .int .i64 E.mx, .slice ga E.gaps.length gc, .slice ea E.edges.length ec, .slice fa E.first.length fc, .slice la E.last.length lc] 30) w3.heap.size hi f w4.heap.size ms' cyc a1 k1 W) => flowAtOf_any _ _ E W f _ _ hW.flow)
        have hAh := fun W mb moff mc (hW : FE w E (.cells #[.string E.name, .int .i64 E.tol, .slice pa E.points.length pc, .int .i64 E.count, .int .i64 E.mn, .int .i64 E.mx, .slice ga E.gaps.length gc, .slice ea E.edges.length ec, .slice fa E.first.length fc, .slice la E.last.length lc] 30) w3.heap.size hi f w4.heap.size ms' cyc a1 k1 W) (hM : SlOf (· < W.heap.size) W (.slice (some ⟨mb, moff, none⟩) (ms'.length + 1) mc) 3 ((ms' ++ [(⟨0, 0, 0⟩ : MarkV)]).flatMap markCells) (ms'.length + 1)) => flowAhead_thrown E ms' (.slice pa E.points.length pc) (.slice ga E.gaps.length gc) (.slice ea E.edges.length ec) (.slice fa E.first.length fc) (.slice la E.last.length lc) (.slice (some ⟨mb, moff, none⟩) (ms'.length + 1) mc) W (H.out.below hW.below (fun b h => h)) hM (by omega)
        simp only [entCs] at hAh
        have HAh := Lib.hid hAh
        clear hbox cf hAh
        have h63 : Hid (ms'.length + 1 ≤ maxLen) := by show ms'.length + 1 ≤ maxLen; unfold maxLen; omega
        have hby : Hid ((ms'.length + 1) * 24 ≤ 140737488355328) := by show (ms'.length + 1) * 24 ≤ 140737488355328; omega
        go_upto_region 15 with fail
        go_region_held3 (fun w' => (∀ o, w'.cell? ⟨w.heap.size, o, none⟩ = w6.cell? ⟨w.heap.size, o, none⟩) ∧ FE w E (.cells #[.string E.name, .int .i64 E.tol, .slice pa E.points.length pc, .int .i64 E.count, .int .i64 E.mn, .int .i64 E.mx, .slice ga E.gaps.length gc, .slice ea E.edges.length ec, .slice fa E.first.length fc, .slice la E.last.length lc] 30) w3.heap.size hi f w4.heap.size ms' cyc a1 k1 w')
          (first | (refine fe_keep HBOX.out ?_; repeat (first | exact NX.out | assumption | refine FE.drew' ?_ | refine FE.alloc' ?_ _ | refine FE.below' ?_ (by assumption))))
          (first | (go_at_call_of 23 (Value.pointer (some ⟨f, 0, none⟩)); refine (HAt.out _ ?_).mono ?_; (repeat (first | exact NX.out | assumption | refine FE.drew' ?_ | refine FE.alloc' ?_ _ | refine FE.below' ?_ (by assumption))); rintro e w' ⟨rfl, rfl⟩) | (go_at_call_of 25 (Value.slice pa E.points.length pc); refine (HAh.out _ _ _ _ ?_ ?_).mono ?_; (repeat (first | exact NX.out | assumption | refine FE.drew' ?_ | refine FE.alloc' ?_ _ | refine FE.below' ?_ (by assumption))); rintro e wf ⟨rfl, bf⟩) | (refine step_append_stay rfl (.tmp 67) (.tmp 69) 49 rfl w4.heap.size 51 i0 _ 3 24 Try.underlying49 hi0 hz0 hz1 hz2 rfl (by decide) _ ms'.length _ rfl (NX.out.own.alloc _) _ 1 1 (markCells ⟨0, 0, 0⟩) rfl rfl (new_cells _ (markCells ⟨0, 0, 0⟩) _) (mark_one _) h63.out hby.out (fe_base NX.out) ?_; intro a2 k2 w7 ho7 hg7 hs7; have fe7 := NX.out.thrown ((Keep.refl (fun _ => False) w6).drew.alloc _) hg7 (fun b hb => (NX.out.own.lt b hb).1) hs7; obtain ⟨mb, rfl, sl7⟩ := own_cons ho7))
        all_goals
          have nx := Lib.hid (fe7.below' bf)
          clear fe7 bf sl7 ho7 hg7 hs7 c0 c1 c2 c3 c4 c5 c6 c7 c8 c9 HAt HAh NX HBOX h63 hby
          go_wp2_with fail
          go_roundw
          case rel => exact ⟨i + 1, cyc, ms', a1, k1, by omega, by omega, hl', rfl, rfl, by go_num, nx⟩
          case measure => simp [intOf]; omega
      · rw [hfin] at q2
        obtain ⟨c0, c1, c2, c3, c4, c5, c6, c7, c8, c9, cf⟩ := ten_cells ge.out.box
        clear cf
        go_wp2_with fail
        have hEn := H.out.below ge.out.below (fun b h => h)
        refine (flowBad_any (· < wr.heap.size) E ms cyc (.slice pa E.points.length pc) (.slice ga E.gaps.length gc) (.slice ea E.edges.length ec) (.slice fa E.first.length fc) (.slice la E.last.length lc) _ wr ⟨hEn.p.here, hEn.g.here, hEn.e.here, hEn.f.here, hEn.l.here⟩ (slOf_owns ge.out.own).here (fun b hb => hb) (light_of hH) (by omega)).mono ?_
        rintro e w5 ⟨rfl, b5⟩
        have g5 := ge.out.below' b5
        have G5 := Lib.hid g5
        clear q0 q2 c0 c1 c2 c3 c4 c5 c6 c7 c8 c9 hEn b5 g5
        go_wp2_with fail
        refine (flowEnd_any _ _ E w5 f _ _ G5.out.flow).mono ?_
        rintro e w6 ⟨rfl, h6, k6⟩
        have nx := Lib.hid (G5.out.ended h6 k6)
        clear h6 k6
        have hcc : ((cyc + 1 : Nat) : Int) = (cyc : Int) + 1 := by omega
        have HCC := Lib.hid hcc
        clear hcc
        cases hbd : flowBadF E ms cyc ms.length
        all_goals
          go_wp2_with fail
          go_roundw
          case rel => exact ⟨i + 1, cyc + 1, ms, ao, cap, by omega, by omega, by omega, rfl, by go_num, by go_num, nx⟩
          case measure => simp [intOf]; omega
    · go_wp2_with fail
      go_ret
      exact ⟨rfl, ge.out.below⟩
end Go.Proofs.Ytpodijlhlgbbdaa
