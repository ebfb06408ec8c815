/- told: the text of a config of three lines. -/
import Derived.Test.YtkhcepdeppmofaaDoorText0
namespace Go.Proofs.YtkhcepdeppmofaaDoor
open Go.RowKit
set_option linter.unusedVariables false
def toldC : ConfV := ⟨1, 2, 1, 0, []⟩
theorem told_head : headB toldC = [119, 105, 110, 100, 111, 119, 32, 49, 32, 50, 10, 99, 121, 99, 108, 101, 32, 49, 10, 100, 101, 108, 97, 121, 32, 48, 10] := by
  have d0 : Lib.itoa 0 = [48] := by rw [show (0 : Int) = ((0 : Nat) : Int) from rfl, Lib.itoa_nonneg, Lib.decDigits_one (by decide)]; rfl
  have d1 : Lib.itoa 1 = [49] := by rw [show (1 : Int) = ((1 : Nat) : Int) from rfl, Lib.itoa_nonneg, Lib.decDigits_one (by decide)]; rfl
  have d2 : Lib.itoa 2 = [50] := by rw [show (2 : Int) = ((2 : Nat) : Int) from rfl, Lib.itoa_nonneg, Lib.decDigits_one (by decide)]; rfl
  simp [headB, headL, toldC, lineB, upB, sepB, wordB, d0, d1, d2, List.range_succ, winB, cycB, delB]
theorem told_fine : confF toldC = (0, -1) := by decide
set_option maxHeartbeats 1000000 in
theorem told_any (B : Nat) (sa : Nat → Addr) (w : World) (hS : SentsC B sa w) (hT : TabB w.heap.size w) :
    Calls Tryd.prog 36 #[] w fun e w' => e = .returned (.bool true) ∧ Below w.heap.size w w' := by
  have HC := Lib.hid (textNil_any B sa toldC w hS hT told_fine rfl ⟨by decide, by decide⟩ ⟨by decide, by decide⟩ ⟨by decide, by decide⟩ ⟨by decide, by decide⟩)
  rw [told_head] at HC
  unfold confCs toldC at HC
  clear hS hT
  go_enter Tryd.func36, Tryd.ntmps36
  go_wp2_with fail
  refine HC.out.mono ?_
  rintro e w2 ⟨rfl, b2⟩
  go_wp2_with fail
  go_ret
  exact ⟨rfl, b2⟩
end Go.Proofs.YtkhcepdeppmofaaDoor
