/- HeavyConfig; faulted. -/
import Derived.Test.YtgdaljpimblkgaaGreatDoorR16
import Derived.Test.YtgdaljpimblkgaaGreatDoorR03
import Derived.Test.YtgdaljpimblkgaaGreatDoorR39
import Derived.Test.YtgdaljpimblkgaaGreatDoorR40
import Derived.Test.YtgdaljpimblkgaaGreatDoorR41
namespace Go.Proofs.YtgdaljpimblkgaaGreatDoor
open Go.RowKit
set_option linter.unusedVariables false

def HeavyC (X : List EntX) : Prop := 12 < X.length ∨ ∃ x ∈ X, Heavy x.E
instance (X : List EntX) : Decidable (HeavyC X) := by unfold HeavyC; infer_instance
def heavyCN (X : List EntX) : Int := if HeavyC X then 1 else 0
theorem heavyCN_pos {X : List EntX} (h : HeavyC X) : heavyCN X = 1 := if_pos h
theorem heavyCN_neg {X : List EntX} (h : ¬ HeavyC X) : heavyCN X = 0 := if_neg h

set_option maxRecDepth 100000 in
set_option maxHeartbeats 4000000 in
theorem heavyConfig_any (R : Nat → Prop) (C : ConfV) (v : Value) (X : List EntX) (w : World) (h : EntsSl R w v X) (hR : ∀ b, R b → b < w.heap.size) :
    Calls Tryz.prog 6 #[.agg (confCs C v)] w fun e w' => e = .returned (.int .i64 (heavyCN X)) ∧ Below w.heap.size w w' := by
  obtain ⟨ao, cap, rfl⟩ := h.row.val
  obtain ⟨hc1, hc2⟩ := h.row.capB
  have H := Lib.hid h
  have HRw := Lib.hid hR
  have hxa := get_alloc_new w (.cells (confCs C (.slice ao X.length cap)) 24)
  have hba : Below w.heap.size w (w.alloc (.cells (confCs C (.slice ao X.length cap)) 24)) := (Below.refl _ _).alloc (Nat.le_refl _) _
  have hXn : X.length ≤ 9223372036854775807 := by omega
  clear h hR
  unfold confCs at hxa hba ⊢
  go_enter Tryz.func6, Tryz.ntmps6
  go_upto_region 1 with fail
  generalize w.alloc _ = w1 at hxa hba ⊢
  have HXA : Hid (w1.heap[w.heap.size]? = some (.cells (confCs C (.slice ao X.length cap)) 24)) := hxa
  obtain ⟨c0, c1, c2, c3, c4⟩ := conf_cells HXA.out
  clear hxa
  by_cases h12 : (12 : Int) < (X.length : Int)
  · have HT := Lib.hid (show heavyCN X = 1 from heavyCN_pos (.inl (by omega)))
    go_wp2_with fail
    go_ret
    exact ⟨ret_int HT.out.symm, hba⟩
  have HN12 := Lib.hid h12
  go_wp2_with fail
  go_loopw [3] (fun s wr => ∃ i : Nat, i ≤ X.length ∧ s = .int .i64 i ∧ Below w.heap.size w wr ∧ Hid (wr.heap[w.heap.size]? = some (.cells (confCs C (.slice ao X.length cap)) 24)) ∧ Hid (∀ j (h : j < X.length), j < i → ¬ Heavy X[j].E)) (fun s _ => X.length - (intOf s).toNat)
  case atStart => exact ⟨0, Nat.zero_le _, rfl, hba, HXA, fun j _ h => by omega⟩
  case round =>
    obtain ⟨i, hi, rfl, hbl, hxc, hall⟩ := hrel
    clear HXA hba c0 c1 c2 c3 c4
    obtain ⟨c0, c1, c2, c3, c4⟩ := conf_cells hxc.out
    by_cases hlt : i < X.length
    · obtain ⟨b, off, rfl, hRb, hb, hc⟩ := ent_elem H.out.row (by omega)
      obtain ⟨q0, q1, q2, q3, q4, q5, q6, q7, q8, q9⟩ := hc i hlt
      have hRb' := HRw.out b hRb
      rw [← hbl.cell hRb'] at q0 q1 q2 q3 q4 q5 q6 q7 q8 q9
      have HCe := Lib.hid (heavyEntity_any R X[i].E X[i].p X[i].g X[i].e X[i].f X[i].l wr ((H.out.each X[i] (List.getElem_mem hlt)).keep (Keep.of_below hbl) (fun b hb hS => by have := HRw.out b hb; omega)) (below_lt2 HRw.out hbl))
      unfold entCs at HCe
      have hEs := H.out.each X[i] (List.getElem_mem hlt)
      obtain ⟨pa, pc, hvp⟩ := hEs.p.val
      obtain ⟨ga, gc, hvg⟩ := hEs.g.val
      obtain ⟨ea, ec, hve⟩ := hEs.e.val
      obtain ⟨fa, fc, hvf⟩ := hEs.f.val
      obtain ⟨la, lc, hvl⟩ := hEs.l.val
      rw [hvp, hvg, hve, hvf, hvl] at HCe
      rw [hvp] at q2
      rw [hvg] at q6
      rw [hve] at q7
      rw [hvf] at q8
      rw [hvl] at q9
      obtain ⟨xe, hxe⟩ : ∃ xe, xe = X[i].E := ⟨_, rfl⟩
      rw [← hxe] at HCe q0 q1 q2 q3 q4 q5 q6 q7 q8 q9
      have HXE := Lib.hid hxe
      clear hc hvp hvg hve hvf hvl hEs hxe
      by_cases hh : Heavy xe
      · rw [heavyN_pos hh] at HCe
        have HT := Lib.hid (show heavyCN X = 1 from heavyCN_pos (.inr ⟨X[i], List.getElem_mem hlt, by rw [← HXE.out]; exact hh⟩))
        go_wp2_with fail
        refine HCe.out.mono ?_
        rintro e w2 ⟨rfl, b2⟩
        have hb2 := hbl.trans (b2.mono hbl.size)
        clear b2
        go_wp2_with fail
        go_ret
        exact ⟨ret_int HT.out.symm, hb2⟩
      · rw [heavyN_neg hh] at HCe
        have HNH := Lib.hid hh
        clear hh
        go_wp2_with fail
        refine HCe.out.mono ?_
        rintro e w2 ⟨rfl, b2⟩
        have hb2 := hbl.trans (b2.mono hbl.size)
        have hx2 := Lib.hid (below_get b2 hxc.out (lt_of_get hxc.out))
        clear b2
        go_wp2_with fail
        go_roundw
        case rel =>
          refine ⟨i + 1, by omega, by go_num, hb2, hx2, fun j h hj => ?_⟩
          by_cases hje : j = i
          · subst hje
            have := HNH.out
            rw [HXE.out] at this
            exact this
          · exact hall.out j h (by omega)
        case measure => simp [intOf]; omega
    · have HT := Lib.hid (show heavyCN X = 0 from heavyCN_neg (by
        rintro (h | ⟨x, hx, hh⟩)
        · have := HN12.out
          omega
        · obtain ⟨j, hj, rfl⟩ := List.mem_iff_getElem.1 hx
          exact hall.out j hj (by omega) hh))
      go_wp2_with fail
      go_ret
      exact ⟨ret_int HT.out.symm, hbl⟩

/-! ### faulted -/
theorem code_errIs (B : Nat) (sa : Nat → Addr) (v : Value) (f : Nat × Int) (hf : f.1 ≤ 11) (w : World) (hS : Sents B sa w) (h : ErrIs sa w v f) :
    Calls Tryz.prog 24 #[v] w fun e w' => e = .returned (.tuple #[.int .i64 f.1, .int .i64 f.2]) ∧ Below w.heap.size w w' := by
  obtain ⟨n, a⟩ := f
  rcases h with ⟨h1, h2⟩ | ⟨h1, h2, fb, h3, h4⟩
  · obtain rfl : a = -1 := h1
    subst h2
    exact code_any B sa n hf w hS
  · subst h3
    obtain ⟨k, rfl⟩ : ∃ k, n = k + 1 := ⟨n - 1, by simp at h2; omega⟩
    exact code_fault B sa k (by simp at hf; omega) fb a w hS h4

def faultB (f : Nat × Int) (cd at_ : Int) : Bool := decide ((f.1 : Int) = cd ∧ ((f.1 : Int) = 0 ∨ f.2 = at_))
set_option maxHeartbeats 1000000 in
theorem faulted_any (B : Nat) (sa : Nat → Addr) (v : Value) (f : Nat × Int) (hf : f.1 ≤ 11) (cd at_ : Int) (w : World) (hS : Sents B sa w) (h : ErrIs sa w v f) :
    Calls Tryz.prog 10 #[v, .agg #[.int .i64 cd, .int .i64 at_]] w fun e w' => e = .returned (.bool (faultB f cd at_)) ∧ Below w.heap.size w w' := by
  have hxa := get_alloc_new w (.cells #[.int .i64 cd, .int .i64 at_] 28)
  have hba : Below w.heap.size w (w.alloc (.cells #[.int .i64 cd, .int .i64 at_] 28)) := (Below.refl _ _).alloc (Nat.le_refl _) _
  have HC := Lib.hid (code_errIs B sa v f hf _ (hS.below hba) (h.below hba))
  clear hS h
  go_enter Tryz.func10, Tryz.ntmps10
  go_upto_region 1 with fail
  generalize w.alloc _ = w1 at hxa hba HC ⊢
  go_wp2_with fail
  refine HC.out.mono ?_
  rintro e w2 ⟨rfl, b2⟩
  have hx2 := below_get b2 hxa (lt_of_get hxa)
  have c0 : w2.cell? ⟨w.heap.size, 0, none⟩ = some (.int .i64 cd) := by simp [World.cell?, hx2]
  have c1 : w2.cell? ⟨w.heap.size, 1, none⟩ = some (.int .i64 at_) := by simp [World.cell?, hx2]
  have hb2 := hba.trans (b2.mono hba.size)
  obtain ⟨n, a⟩ := f
  clear hx2 b2 HC hxa
  by_cases h1 : (n : Int) = cd
  · by_cases h2 : (n : Int) = 0
    · have HT := Lib.hid (show faultB (n, a) cd at_ = true from decide_eq_true ⟨h1, .inl h2⟩)
      have e1 : ((n : Int) == cd) = true := by simp [h1]
      have e2 : ((n : Int) == 0) = true := by rw [h2]; rfl
      clear h1 h2
      go_wp2_with fail
      go_ret
      exact ⟨ret_bool HT.out.symm, hb2⟩
    · have e1 : ((n : Int) == cd) = true := by simp [h1]
      have e2 : ((n : Int) == 0) = false := by simp only [beq_eq_false_iff_ne]; exact h2
      have HT := Lib.hid (show faultB (n, a) cd at_ = (a == at_) from by
        unfold faultB
        rw [Bool.eq_iff_iff]
        simp only [decide_eq_true_eq, beq_iff_eq]
        exact ⟨fun h => h.2.resolve_left h2, fun h => ⟨h1, .inr h⟩⟩)
      obtain ⟨zb, hzb⟩ : ∃ zb, (a == at_) = zb := ⟨_, rfl⟩
      rw [hzb] at HT
      clear h1 h2
      go_wp2_with fail
      go_ret
      exact ⟨ret_bool HT.out.symm, hb2⟩
  · have e1 : ((n : Int) == cd) = false := by simp only [beq_eq_false_iff_ne]; exact h1
    have HT := Lib.hid (show faultB (n, a) cd at_ = false from decide_eq_false (fun h => h1 h.1))
    clear h1
    go_wp2_with fail
    go_ret
    exact ⟨ret_bool HT.out.symm, hb2⟩
end Go.Proofs.YtgdaljpimblkgaaGreatDoor

/- ConfReads walked. -/
namespace Go.Proofs.YtgdaljpimblkgaaGreatDoor
open Go.RowKit
set_option linter.unusedVariables false

theorem faultB_self (n : Nat) (a : Int) : faultB (n, a) (n : Int) a = true := decide_eq_true ⟨rfl, .inr rfl⟩
theorem ptsE_le (P : List ByteArray) : ptsE P ≤ 11 := by
  unfold ptsE
  cases (List.range P.length).find? (fun k => ptE P k != 0) with
  | none => exact Nat.zero_le _
  | some k =>
    show ptE P k ≤ 11
    unfold ptE
    split
    · decide
    · split <;> decide
theorem ite_le {c : Prop} [Decidable c] {a b n : Nat} (ha : a ≤ n) (hb : b ≤ n) : (if c then a else b) ≤ n := by split <;> assumption
theorem entErr_le (ah : List ByteArray) (E : EntV) : entErr ah E ≤ 11 := by
  have := ptsE_le E.points
  unfold entErr
  repeat (first | exact this | refine ite_le ?_ ?_ | decide)
theorem confF_le (C : ConfV) : (confF C).1 ≤ 11 := by
  unfold confF
  split
  · decide
  split
  · decide
  unfold entsF
  split
  · show entAt C.ents _ ≤ 11
    unfold entAt
    split
    · exact entErr_le _ _
    · decide
  · decide
theorem linesF_le (ls : List ByteArray) : (linesF ls).1 ≤ 11 := by
  unfold linesF
  split
  · show lineAt ls _ ≤ 11
    unfold lineAt
    rcases lineR_code (linesUp ls _) _ with h | h | h <;> rw [h] <;> decide
  · decide
theorem readF_le (s : ByteArray) : (readF s).2.1 ≤ 11 := by
  unfold readF
  split
  · decide
  split
  · exact linesF_le _
  split
  · exact (show (1 : Nat) ≤ 11 from by decide)
  split
  · exact confF_le _
  · exact Nat.zero_le _
theorem readF_zero {s : ByteArray} (h : (readF s).2.1 ≠ 0) : (readF s).1 = zeroC := by
  unfold readF at h ⊢
  split
  · rfl
  next h1 =>
  rw [if_neg h1] at h
  split
  · rfl
  next h2 =>
  rw [if_neg h2] at h
  split
  · rfl
  next h3 =>
  rw [if_neg h3] at h
  split
  · rfl
  next h4 =>
  rw [if_neg h4] at h
  exact absurd rfl h
theorem ConfSl.zero (R : Nat → Prop) (w : World) : ConfSl R w zeroC (.slice none 0 0) [] := ⟨⟨SlOf.nil _ _ _, fun x hx => (by cases hx)⟩, rfl, fun x hx => (by cases hx), by decide⟩

set_option maxRecDepth 100000 in
set_option maxHeartbeats 4000000 in
theorem confReads_any (B : Nat) (sa : Nat → Addr) (s : ByteArray) (w : World) (hS : Sents B sa w) (hN : NumB B w) (hT : TabB w.heap.size w) :
    Calls Tryz.prog 4 #[.string s] w fun e w' => e = .returned (.bool true) ∧ Below w.heap.size w w' := by
  have HTo := Lib.hid (told_any B sa w hS.c hT)
  have HS := Lib.hid hS
  have HN := Lib.hid hN
  clear hS hN hT
  by_cases h2 : (2000 : Int) < (s.size : Int)
  · go_enter Tryz.func4, Tryz.ntmps4
    go_wp2_with fail
    refine HTo.out.mono ?_
    rintro e w1 ⟨rfl, b1⟩
    go_wp2_with fail
    go_ret
    exact ⟨rfl, b1⟩
  · have hK : ∀ k, k ≤ (textLines s).length → (∀ j, j < k → lineAt (textLines s) j = 0) → k ≤ 1000 := fun k hk h => by have := lines_count hk h; omega
    have HK := Lib.hid hK
    have hsz : s.size ≤ 100000 := by omega
    have HSZ := Lib.hid hsz
    clear hK hsz
    go_enter Tryz.func4, Tryz.ntmps4
    go_wp2_with fail
    refine HTo.out.mono ?_
    rintro e w1 ⟨rfl, b1⟩
    have HB1 := Lib.hid b1
    have HRd := Lib.hid (read_any B sa s w1 (HS.out.c.on b1) (HN.out.below b1 HS.out.top) HSZ.out HK.out)
    have HCo := Lib.hid (fun W => rConfigOf_any s W HSZ.out HK.out)
    have hle := readF_le s
    have hzr := fun h => readF_zero (s := s) h
    obtain ⟨⟨C, fc, fi⟩, hr⟩ : ∃ r, r = readF s := ⟨_, rfl⟩
    rw [← hr] at HRd HCo hle hzr
    unfold ReadPost at HRd
    unfold ConfOfPost at HCo
    have HLE : Hid (fc ≤ 11) := hle
    have HZR : Hid (fc ≠ 0 → C = zeroC) := hzr
    clear b1 hr hle hzr
    go_wp2_with fail
    refine HRd.out.mono ?_
    rintro e w2 ⟨ao, n, cap, u, X, rfl, hu, hcs, hnil, b2⟩
    have HX2 : Hid (∃ X, ConfSl (fun b => b < w2.heap.size) w2 C (.slice ao n cap) X) := (show _ from by
      by_cases h0 : fc = 0
      · exact ⟨X, (hcs h0).mono (fun b hb => hb.2)⟩
      · have e1 := hnil h0
        rw [e1, HZR.out h0]
        exact ⟨[], ConfSl.zero _ _⟩)
    have HU2 := Lib.hid hu
    have HB2 := Lib.hid (HB1.out.trans (b2.mono HB1.out.size))
    clear hu hcs hnil b2 HRd
    unfold confCs
    go_upto_region 5 with fail
    have hxb := get_alloc_new w2 (.cells (confCs C (.slice ao n cap)) 24)
    have hbb : Below w2.heap.size w2 (w2.alloc (.cells (confCs C (.slice ao n cap)) 24)) := (Below.refl _ _).alloc (Nat.le_refl _) _
    unfold confCs at hxb hbb
    generalize w2.alloc _ = w3 at hxb hbb ⊢
    obtain ⟨xb, hxbq⟩ : ∃ xb, xb = w2.heap.size := ⟨_, rfl⟩
    rw [← hxbq] at hxb ⊢
    have HB3 := Lib.hid (HB2.out.trans (hbb.mono HB2.out.size))
    have HBB := Lib.hid hbb
    have HXB := Lib.hid hxb
    clear hxbq hxb hbb
    go_wp2_with fail
    refine (HCo.out w3).mono ?_
    rintro e w4 ⟨bo, m, cap2, X2, rfl, hcs, hnil, b4⟩
    have HX4 : Hid (∃ X, ConfSl (fun b => b < w4.heap.size) w4 C (.slice bo m cap2) X) := (show _ from by
      by_cases h0 : fc = 0
      · exact ⟨X2, (hcs h0).mono (fun b hb => hb.2)⟩
      · have e1 := hnil h0
        rw [e1, HZR.out h0]
        exact ⟨[], ConfSl.zero _ _⟩)
    have HB34 := Lib.hid b4
    have HB4 := Lib.hid (HB3.out.trans (b4.mono HB3.out.size))
    have HXB4 := Lib.hid (below_get b4 HXB.out (lt_of_get HXB.out))
    clear hcs hnil b4 HCo HXB
    unfold confCs faultV
    go_upto_region 6 with fail
    have hx5 := get_alloc_new w4 (.cells (confCs C (.slice bo m cap2)) 24)
    have hb5 : Below w4.heap.size w4 (w4.alloc (.cells (confCs C (.slice bo m cap2)) 24)) := (Below.refl _ _).alloc (Nat.le_refl _) _
    obtain ⟨w5, hw5⟩ : ∃ w5, w5 = w4.alloc (.cells (confCs C (.slice bo m cap2)) 24) := ⟨_, rfl⟩
    rw [← hw5] at hx5 hb5
    have hx6 := get_alloc_new w5 (.cells #[.int .i64 (fc : Int), .int .i64 fi] 28)
    have hb6 : Below w5.heap.size w5 (w5.alloc (.cells #[.int .i64 (fc : Int), .int .i64 fi] 28)) := (Below.refl _ _).alloc (Nat.le_refl _) _
    have hs5 : w5.heap.size = w4.heap.size + 1 := by rw [hw5]; simp
    unfold confCs at hw5
    rw [← hw5]
    generalize w5.alloc _ = w6 at hx6 hb6 ⊢
    rw [hs5] at hx6
    have HB6 := Lib.hid (HB4.out.trans ((hb5.trans (hb6.mono hb5.size)).mono HB4.out.size))
    have HB46 := Lib.hid (hb5.trans (hb6.mono hb5.size))
    have HX5 := Lib.hid (below_get hb6 hx5 (lt_of_get hx5))
    have HX6 := Lib.hid hx6
    obtain ⟨k0, k1, kf⟩ := two_cells hx6
    have HFa := Lib.hid (faulted_any B sa u (fc, fi) HLE.out (fc : Int) fi w6 (HS.out.low HB6.out HS.out.top) ((((HU2.out.below HBB.out).below HB34.out).below HB46.out)))
    rw [faultB_self] at HFa
    clear hx5 hx6 hb5 hb6 hw5 hs5 kf
    go_wp2_with fail
    refine HFa.out.mono ?_
    rintro e w7 ⟨rfl, b7⟩
    have HB7 := Lib.hid (HB6.out.trans (b7.mono HB6.out.size))
    have HXA := Lib.hid (below_get (HB46.out.trans (b7.mono HB46.out.size)) HXB4.out (lt_of_get HXB4.out))
    have HXC := Lib.hid (below_get b7 HX5.out (lt_of_get HX5.out))
    obtain ⟨c0, c1, c2, c3, c4⟩ := conf_cells (C := C) HXA.out
    obtain ⟨e0, e1, e2, e3, e4⟩ := conf_cells (C := C) HXC.out
    have HSm : Hid (Calls Tryz.prog 15 #[.agg (confCs C (.slice ao n cap)), .agg (confCs C (.slice bo m cap2))] w7 fun e w' => e = .returned (.bool true) ∧ Below w7.heap.size w7 w') := (show _ from by
      obtain ⟨X, hX⟩ := HX2.out
      obtain ⟨Y, hY⟩ := HX4.out
      have b27 : Below w2.heap.size w2 w7 := HBB.out.trans ((HB34.out.trans ((HB46.out.trans (b7.mono HB46.out.size)).mono HB34.out.size)).mono HBB.out.size)
      have b47 : Below w4.heap.size w4 w7 := HB46.out.trans (b7.mono HB46.out.size)
      exact sameConfig_eq _ _ C _ _ X Y w7 (hX.below b27 (fun b hb => hb)) (hY.below b47 (fun b hb => hb)) (fun b hb => by have := b27.size; omega) (fun b hb => by have := b47.size; omega))
    unfold confCs at HSm
    clear b7 k0 k1
    go_wp2_with fail
    refine HSm.out.mono ?_
    rintro e w8 ⟨rfl, b8⟩
    go_wp2_with fail
    go_ret
    exact ⟨rfl, HB7.out.trans (b8.mono HB7.out.size)⟩
end Go.Proofs.YtgdaljpimblkgaaGreatDoor
