/- The closed fact "summed"; a list of lists of texts. -/
import Derived.Test.YtpodijlhlgbbdabDoorTotal
namespace Go.Proofs.YtpodijlhlgbbdabDoor
open Go.RowKit
set_option linter.unusedVariables false

theorem has1 : hasStr [St.expired.str] St.expired.str = true := by decide +kernel
theorem has2 : hasStr [St.ok.str, St.failed.str] St.expired.str = false := by decide +kernel
theorem has3 : hasStr [St.ok.str, St.failed.str] St.failed.str = true := by decide +kernel
theorem has4 : hasStr [St.failed.str, St.expired.str, St.ok.str] St.expired.str = true := by decide +kernel

set_option maxRecDepth 100000 in
set_option maxHeartbeats 1000000 in
theorem summed_any (w : World) : Calls Tryd.prog 27 #[] w fun e w' => e = .returned (.bool true) ∧ Below w.heap.size w w' := by
  go_enter Tryd.func27, Tryd.ntmps27
  go_wp2_with fail
  refine (totalNew_any 1 w (by decide) (by decide)).mono ?_
  rintro e w1 ⟨rfl, h1, b1⟩
  have H1 := Lib.hid h1; clear h1
  go_wp2_with fail
  have h1a : TotalAt (w1.alloc (.cells #[.string St.expired.str] 9)) w.heap.size 1 0 .ok := get_alloc_old _ H1.out
  have sl := slOf_alloc w1 (strCells1 [St.expired.str]) 9 1 1 rfl (by decide)
  refine (totalEnd_any (· = w1.heap.size) w.heap.size 1 0 .ok [St.expired.str] _ _ h1a (by decide) (by decide) sl).mono ?_
  rintro e w2 ⟨rfl, h2, k2⟩
  have n1 : St.next 1 0 .ok [St.expired.str] = (0, .expired) := by simp [St.next, has1, St.close]
  rw [n1] at h2 ⊢
  have H2 := Lib.hid h2; clear h2 h1a sl
  simp only [St.str]
  go_wp2_with fail
  refine (totalMay_any _ _ _ _ _ H2.out).mono ?_
  rintro e w' ⟨rfl, rfl⟩
  go_wp2_with fail
  refine (totalEnd_any (· = 0) w.heap.size 1 0 .expired [] _ _ H2.out (by decide) (by decide) (SlOf.nil _ _ _)).mono ?_
  rintro e w3 ⟨rfl, h3, k3⟩
  have n2 : St.next 1 0 .expired [] = (1, .stopped) := by simp [St.next, St.close]
  rw [n2] at h3 ⊢
  have H3 := Lib.hid h3; clear h3
  simp only [St.str]
  go_wp2_with fail
  refine (totalMay_any _ _ _ _ _ H3.out).mono ?_
  rintro e w' ⟨rfl, rfl⟩
  go_wp2_with fail
  go_ret
  refine ⟨rfl, (b1.alloc b1.size (.cells #[.string St.expired.str] 9)).trans ((k2.trans k3).below ?_ (fun b hb => Nat.le_of_eq hb.symm))⟩
  rw [World.size_alloc]
  exact Nat.le_succ_of_le b1.size

/-- A list of lists of texts. -/
def SlLL (R : Nat → Prop) (w : World) (v : Value) (LL : List (List ByteArray)) : Prop :=
  ∃ vs : List Value, vs.length = LL.length ∧ SlOf R w v 1 vs LL.length ∧ ∀ k (hk : k < LL.length) (hv : k < vs.length), SlOf R w vs[k] 1 (strCells1 LL[k]) LL[k].length

theorem one_cells {R : Nat → Prop} {w : World} {ao : Option Addr} {n cap : Nat} {vs : List Value} (h : SlOf R w (.slice ao n cap) 1 vs n) (h0 : 0 < n) :
    ∃ b off, ao = some ⟨b, off, none⟩ ∧ R b ∧ b < w.heap.size ∧ ∀ k (hk : k < vs.length), w.cell? ⟨b, off + k, none⟩ = some vs[k] := by
  obtain ⟨hl, ao', cap', hv, h1, h2, h3, h4⟩ := h
  simp at hv
  obtain ⟨rfl, rfl⟩ := hv
  obtain ⟨b, off, ha, hR, hb, hc⟩ := h4 (by omega)
  exact ⟨b, off, ha, hR, hb, fun k hk => hc k _ (List.getElem?_eq_getElem hk)⟩
end Go.Proofs.YtpodijlhlgbbdabDoor
