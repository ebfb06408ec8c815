/- What KeeperQuiet's card lists. -/
import Derived.Test.YtakjbjokekbmbaaGreatDoorR48
import Derived.Test.YtakjbjokekbmbaaGreatDoorR33
import Derived.Test.YtakjbjokekbmbaaGreatDoorR25
import Derived.Test.YtakjbjokekbmbaaGreatDoorRows
import Derived.LaidMore
import Derived.LaidSub
import Derived.Lay
import Derived.LaidOnce
import Derived.MakeChecks
import Derived.Stop.Joined
namespace Go.Proofs.YtakjbjokekbmbaaGreatDoor.keeperQuiet
open Go.ChangeShapes Go.WideShapes Go.ChangeAt Go.RowKit
set_option linter.unusedVariables false

theorem ell_eq : Rows.keeperQuietRow.laid.filter (fun x => decide (x.1 ∈ ["nightwatch/api.ErrText", "nightwatch/api.ErrBound", "nightwatch/api.ErrShape", "nightwatch/api.ErrName", "nightwatch/api.ErrNone", "nightwatch/api.ErrExist", "nightwatch/api.ErrFull", "nightwatch/api.ErrOff", "nightwatch/api.ErrIdle", "nightwatch/api.ErrHeld", "nightwatch/api.ErrReset"])) = (([0, 1, 2, 3, 4, 5, 6, 7, 8, 9, 10] : List Nat).map fun k => ((sentL.getD k ("", [])).1, sentD (sentL.getD k ("", [])).2)) := by kernel_rfl
def numL : List (String × List UInt8) := [("strconv.ErrRange", [118, 97, 108, 117, 101, 32, 111, 117, 116, 32, 111, 102, 32, 114, 97, 110, 103, 101]), ("strconv.ErrSyntax", [105, 110, 118, 97, 108, 105, 100, 32, 115, 121, 110, 116, 97, 120])]
theorem num_eq : Rows.keeperQuietRow.laid.filter (fun x => decide (x.1 ∈ ["strconv.ErrRange", "strconv.ErrSyntax"])) = (numL.map fun x => (x.1, sentD x.2)) := by kernel_rfl
theorem nm0 : Tryz.prog.globalNamed "strconv.ErrRange" = some 17 := by kernel_rfl
theorem nm1 : Tryz.prog.globalNamed "strconv.ErrSyntax" = some 16 := by kernel_rfl
theorem ty0 : (Tryz.prog.globals[17]?).map (·.type) = some 46 := by kernel_rfl
theorem ty1 : (Tryz.prog.globals[16]?).map (·.type) = some 46 := by kernel_rfl
theorem nums_of {W : World} (h : laidMet Tryz.prog (numL.map fun x => (x.1, sentD x.2)) W) : (∃ t p, W.cell? ⟨17, 0, none⟩ = some (.iface t p)) ∧ ∃ t p, W.cell? ⟨16, 0, none⟩ = some (.iface t p) := by
  obtain ⟨ps, hv, hnd, hrows⟩ := h
  obtain ⟨bs, q1, q2, q3, q4⟩ := laid_each Tryz.underlying46 Tryz.rowE Tryz.underlying299 Tryz.underlying301 rfl rfl Tryz.underlying9 Tryz.cellsE Tryz.cellsS numL [17, 16] rfl (fun k h1 h2 => by
    match k, h1 with
    | 0, _ => exact ⟨nm0, ty0⟩
    | 1, _ => exact ⟨nm1, ty1⟩) ps hv hnd hrows
  have h2 : bs.length = 2 := q1
  exact ⟨⟨_, _, q4 0 (by decide) (by decide) (by omega)⟩, ⟨_, _, q4 1 (by decide) (by decide) (by omega)⟩⟩
theorem laid_quiet {W : World} (h : laidMet Tryz.prog Rows.keeperQuietRow.laid W) : ∃ sa, SentsK W.heap.size sa W ∧ NumB W.heap.size W ∧ TabB W.heap.size W := by
  have h6 := laidMet.filter (fun x => decide (x.1 ∈ ["nightwatch/api.ErrText", "nightwatch/api.ErrBound", "nightwatch/api.ErrShape", "nightwatch/api.ErrName", "nightwatch/api.ErrNone", "nightwatch/api.ErrExist", "nightwatch/api.ErrFull", "nightwatch/api.ErrOff", "nightwatch/api.ErrIdle", "nightwatch/api.ErrHeld", "nightwatch/api.ErrReset"])) h
  rw [ell_eq] at h6
  have h2 := laidMet.filter (fun x => decide (x.1 ∈ ["strconv.ErrRange", "strconv.ErrSyntax"])) h
  rw [num_eq] at h2
  obtain ⟨sa, hs⟩ := some_sents [0, 1, 2, 3, 4, 5, 6, 7, 8, 9, 10] (by decide) h6
  obtain ⟨er, es⟩ := nums_of h2
  have hT : TabB W.heap.size W := tabB_of (rest := (Rows.keeperQuietRow.laid.drop 3)) (laidMet.tail (laidMet.tail (show laidMet Tryz.prog (("math/bits.deBruijn32tab", Rows.laid_math_bits_deBruijn32tab) :: ("math/bits.deBruijn64tab", Rows.laid_math_bits_deBruijn64tab) :: ("internal/strconv.uint64pow10", Lib.tabData .u64 Lib.pow10Tab) :: Rows.keeperQuietRow.laid.drop 3) W from h)))
  have hl : ∀ {g : Nat} {v : Value}, W.cell? ⟨g, 0, none⟩ = some v → g < W.heap.size := fun hc => World.block_lt_of_cell? _ ⟨_, 0, none⟩ hc
  refine ⟨sa, ⟨fun k hk => hs k (by simp; omega), fun k hk => hl (hs k (by simp; omega)), Nat.le_refl _⟩, ⟨hT, es, er, ?_⟩, hT⟩
  obtain ⟨_, _, e1⟩ := er
  obtain ⟨_, _, e2⟩ := es
  exact ⟨hl e2, hl e1⟩

theorem door_met (os : Os) (args : Array Value) : laidMetH Tryz.prog Rows.keeperQuietRow.laid ((World.laidAll Tryz.prog os Rows.keeperQuietRow.laid).forCall (fun _ _ => 0) ⟨#[], args, []⟩).memory := by
  rw [MakeChecks.laidMetH_plain _ _ _ (by kernel_rfl)]
  exact laidMet_laidAll _ (by kernel_rfl) (by kernel_rfl)
end Go.Proofs.YtakjbjokekbmbaaGreatDoor.keeperQuiet
