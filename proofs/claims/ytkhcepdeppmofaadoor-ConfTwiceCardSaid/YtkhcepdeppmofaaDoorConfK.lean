/- HeavyConfig; faulted. -/
import Derived.Test.YtkhcepdeppmofaaDoorConfJ
import Derived.Test.YtkhcepdeppmofaaDoorHeavy
namespace Go.Proofs.YtkhcepdeppmofaaDoor
open Go.RowKit
set_option linter.unusedVariables false

def HeavyC (X : List EntX) : Prop := 12 < X.length ∨ ∃ x ∈ X, Heavy x.E
instance (X : List EntX) : Decidable (HeavyC X) := by unfold HeavyC; infer_instance
def heavyCN (X : List EntX) : Int := if HeavyC X then 1 else 0
theorem heavyCN_pos {X : List EntX} (h : HeavyC X) : heavyCN X = 1 := if_pos h
theorem heavyCN_neg {X : List EntX} (h : ¬ HeavyC X) : heavyCN X = 0 := if_neg h

set_option maxRecDepth 100000 in
set_option maxHeartbeats 4000000 in
theorem heavyConfig_any (R : Nat → Prop) (C : ConfV) (v : Value) (X : List EntX) (w : World) (h : EntsSl R w v X) (hR : ∀ b, R b → b < w.heap.size) :
    Calls Tryd.prog 37 #[.agg (confCs C v)] w fun e w' => e = .returned (.int .i64 (heavyCN X)) ∧ Below w.heap.size w w' := by
  obtain ⟨ao, cap, rfl⟩ := h.row.val
  obtain ⟨hc1, hc2⟩ := h.row.capB
  have H := Lib.hid h
  have HRw := Lib.hid hR
  have hxa := get_alloc_new w (.cells (confCs C (.slice ao X.length cap)) 72)
  have hba : Below w.heap.size w (w.alloc (.cells (confCs C (.slice ao X.length cap)) 72)) := (Below.refl _ _).alloc (Nat.le_refl _) _
  have hXn : X.length ≤ 9223372036854775807 := by omega
  clear h hR
  unfold confCs at hxa hba ⊢
  go_enter Tryd.func37, Tryd.ntmps37
  go_upto_region 1 with fail
  generalize w.alloc _ = w1 at hxa hba ⊢
  have HXA : Hid (w1.heap[w.heap.size]? = some (.cells (confCs C (.slice ao X.length cap)) 72)) := hxa
  obtain ⟨c0, c1, c2, c3, c4⟩ := conf_cells HXA.out
  clear hxa
  by_cases h12 : (12 : Int) < (X.length : Int)
  · have HT := Lib.hid (show heavyCN X = 1 from heavyCN_pos (.inl (by omega)))
    go_wp2_with fail
    go_ret
    exact ⟨ret_int HT.out.symm, hba⟩
  have HN12 := Lib.hid h12
  go_wp2_with fail
  go_loopw [3] (fun s wr => ∃ i : Nat, i ≤ X.length ∧ s = .int .i64 i ∧ Below w.heap.size w wr ∧ Hid (wr.heap[w.heap.size]? = some (.cells (confCs C (.slice ao X.length cap)) 72)) ∧ Hid (∀ j (h : j < X.length), j < i → ¬ Heavy X[j].E)) (fun s _ => X.length - (intOf s).toNat)
  case atStart => exact ⟨0, Nat.zero_le _, rfl, hba, HXA, fun j _ h => by omega⟩
  case round =>
    obtain ⟨i, hi, rfl, hbl, hxc, hall⟩ := hrel
    clear HXA hba c0 c1 c2 c3 c4
    obtain ⟨c0, c1, c2, c3, c4⟩ := conf_cells hxc.out
    by_cases hlt : i < X.length
    · obtain ⟨b, off, rfl, hRb, hb, hc⟩ := ent_elem H.out.row (by omega)
      obtain ⟨q0, q1, q2, q3, q4, q5, q6, q7, q8, q9⟩ := hc i hlt
      have hRb' := HRw.out b hRb
      rw [← hbl.cell hRb'] at q0 q1 q2 q3 q4 q5 q6 q7 q8 q9
      have HCe := Lib.hid (heavyEntity_any R X[i].E X[i].p X[i].g X[i].e X[i].f X[i].l wr ((H.out.each X[i] (List.getElem_mem hlt)).keep (Keep.of_below hbl) (fun b hb hS => by have := HRw.out b hb; omega)) (below_lt2 HRw.out hbl))
      unfold entCs at HCe
      have hEs := H.out.each X[i] (List.getElem_mem hlt)
      obtain ⟨pa, pc, hvp⟩ := hEs.p.val
      obtain ⟨ga, gc, hvg⟩ := hEs.g.val
      obtain ⟨ea, ec, hve⟩ := hEs.e.val
      obtain ⟨fa, fc, hvf⟩ := hEs.f.val
      obtain ⟨la, lc, hvl⟩ := hEs.l.val
      rw [hvp, hvg, hve, hvf, hvl] at HCe
      rw [hvp] at q2
      rw [hvg] at q6
      rw [hve] at q7
      rw [hvf] at q8
      rw [hvl] at q9
      obtain ⟨xe, hxe⟩ : ∃ xe, xe = X[i].E := ⟨_, rfl⟩
      rw [← hxe] at HCe q0 q1 q2 q3 q4 q5 q6 q7 q8 q9
      have HXE := Lib.hid hxe
      clear hc hvp hvg hve hvf hvl hEs hxe
      by_cases hh : Heavy xe
      · rw [heavyN_pos hh] at HCe
        have HT := Lib.hid (show heavyCN X = 1 from heavyCN_pos (.inr ⟨X[i], List.getElem_mem hlt, by rw [← HXE.out]; exact hh⟩))
        go_wp2_with fail
        refine HCe.out.mono ?_
        rintro e w2 ⟨rfl, b2⟩
        have hb2 := hbl.trans (b2.mono hbl.size)
        clear b2
        go_wp2_with fail
        go_ret
        exact ⟨ret_int HT.out.symm, hb2⟩
      · rw [heavyN_neg hh] at HCe
        have HNH := Lib.hid hh
        clear hh
        go_wp2_with fail
        refine HCe.out.mono ?_
        rintro e w2 ⟨rfl, b2⟩
        have hb2 := hbl.trans (b2.mono hbl.size)
        have hx2 := Lib.hid (below_get b2 hxc.out (lt_of_get hxc.out))
        clear b2
        go_wp2_with fail
        go_roundw
        case rel =>
          refine ⟨i + 1, by omega, by go_num, hb2, hx2, fun j h hj => ?_⟩
          by_cases hje : j = i
          · subst hje
            have := HNH.out
            rw [HXE.out] at this
            exact this
          · exact hall.out j h (by omega)
        case measure => simp [intOf]; omega
    · have HT := Lib.hid (show heavyCN X = 0 from heavyCN_neg (by
        rintro (h | ⟨x, hx, hh⟩)
        · have := HN12.out
          omega
        · obtain ⟨j, hj, rfl⟩ := List.mem_iff_getElem.1 hx
          exact hall.out j hj (by omega) hh))
      go_wp2_with fail
      go_ret
      exact ⟨ret_int HT.out.symm, hbl⟩

/-! ### faulted -/
theorem code_errIs (B : Nat) (sa : Nat → Addr) (v : Value) (f : Nat × Int) (hf : f.1 ≤ 11) (w : World) (hS : Sents B sa w) (h : ErrIs sa w v f) :
    Calls Tryd.prog 57 #[v] w fun e w' => e = .returned (.tuple #[.int .i64 f.1, .int .i64 f.2]) ∧ Below w.heap.size w w' := by
  obtain ⟨n, a⟩ := f
  rcases h with ⟨h1, h2⟩ | ⟨h1, h2, fb, h3, h4⟩
  · obtain rfl : a = -1 := h1
    subst h2
    exact code_any B sa n hf w hS
  · subst h3
    obtain ⟨k, rfl⟩ : ∃ k, n = k + 1 := ⟨n - 1, by simp at h2; omega⟩
    exact code_fault B sa k (by simp at hf; omega) fb a w hS h4

def faultB (f : Nat × Int) (cd at_ : Int) : Bool := decide ((f.1 : Int) = cd ∧ ((f.1 : Int) = 0 ∨ f.2 = at_))
set_option maxHeartbeats 1000000 in
theorem faulted_any (B : Nat) (sa : Nat → Addr) (v : Value) (f : Nat × Int) (hf : f.1 ≤ 11) (cd at_ : Int) (w : World) (hS : Sents B sa w) (h : ErrIs sa w v f) :
    Calls Tryd.prog 41 #[v, .agg #[.int .i64 cd, .int .i64 at_]] w fun e w' => e = .returned (.bool (faultB f cd at_)) ∧ Below w.heap.size w w' := by
  have hxa := get_alloc_new w (.cells #[.int .i64 cd, .int .i64 at_] 78)
  have hba : Below w.heap.size w (w.alloc (.cells #[.int .i64 cd, .int .i64 at_] 78)) := (Below.refl _ _).alloc (Nat.le_refl _) _
  have HC := Lib.hid (code_errIs B sa v f hf _ (hS.below hba) (h.below hba))
  clear hS h
  go_enter Tryd.func41, Tryd.ntmps41
  go_upto_region 1 with fail
  generalize w.alloc _ = w1 at hxa hba HC ⊢
  go_wp2_with fail
  refine HC.out.mono ?_
  rintro e w2 ⟨rfl, b2⟩
  have hx2 := below_get b2 hxa (lt_of_get hxa)
  have c0 : w2.cell? ⟨w.heap.size, 0, none⟩ = some (.int .i64 cd) := by simp [World.cell?, hx2]
  have c1 : w2.cell? ⟨w.heap.size, 1, none⟩ = some (.int .i64 at_) := by simp [World.cell?, hx2]
  have hb2 := hba.trans (b2.mono hba.size)
  obtain ⟨n, a⟩ := f
  clear hx2 b2 HC hxa
  by_cases h1 : (n : Int) = cd
  · by_cases h2 : (n : Int) = 0
    · have HT := Lib.hid (show faultB (n, a) cd at_ = true from decide_eq_true ⟨h1, .inl h2⟩)
      have e1 : ((n : Int) == cd) = true := by simp [h1]
      have e2 : ((n : Int) == 0) = true := by rw [h2]; rfl
      clear h1 h2
      go_wp2_with fail
      go_ret
      exact ⟨ret_bool HT.out.symm, hb2⟩
    · have e1 : ((n : Int) == cd) = true := by simp [h1]
      have e2 : ((n : Int) == 0) = false := by simp only [beq_eq_false_iff_ne]; exact h2
      have HT := Lib.hid (show faultB (n, a) cd at_ = (a == at_) from by
        unfold faultB
        rw [Bool.eq_iff_iff]
        simp only [decide_eq_true_eq, beq_iff_eq]
        exact ⟨fun h => h.2.resolve_left h2, fun h => ⟨h1, .inr h⟩⟩)
      obtain ⟨zb, hzb⟩ : ∃ zb, (a == at_) = zb := ⟨_, rfl⟩
      rw [hzb] at HT
      clear h1 h2
      go_wp2_with fail
      go_ret
      exact ⟨ret_bool HT.out.symm, hb2⟩
  · have e1 : ((n : Int) == cd) = false := by simp only [beq_eq_false_iff_ne]; exact h1
    have HT := Lib.hid (show faultB (n, a) cd at_ = false from decide_eq_false (fun h => h1 h.1))
    clear h1
    go_wp2_with fail
    go_ret
    exact ⟨ret_bool HT.out.symm, hb2⟩
end Go.Proofs.YtkhcepdeppmofaaDoor
