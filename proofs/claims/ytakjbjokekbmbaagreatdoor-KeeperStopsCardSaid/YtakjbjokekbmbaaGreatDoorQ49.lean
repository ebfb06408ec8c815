/- What the card of KeeperStops lists. -/
import Derived.Test.YtakjbjokekbmbaaGreatDoorQ48
import Derived.Test.YtakjbjokekbmbaaGreatDoorQ27
import Derived.Test.YtakjbjokekbmbaaGreatDoorQ20
import Derived.Test.YtakjbjokekbmbaaGreatDoorRows
import Derived.LaidMore
import Derived.LaidSub
import Derived.LaidHandle
import Derived.Lay
import Derived.LaidOnce
import Derived.MakeChecks
import Derived.Stop.Joined
namespace Go.Proofs.YtakjbjokekbmbaaGreatDoor.keeperStops
open Go.ChangeShapes Go.WideShapes Go.ChangeAt Go.RowKit
set_option linter.unusedVariables false

/-- The listed variables but the handle. -/
def plainL : List (String × DataW Unit) := Rows.keeperStopsRow.laid.filter fun x => x.2.handleName?.isNone
def numL : List (String × List UInt8) := [("strconv.ErrRange", [118, 97, 108, 117, 101, 32, 111, 117, 116, 32, 111, 102, 32, 114, 97, 110, 103, 101]), ("strconv.ErrSyntax", [105, 110, 118, 97, 108, 105, 100, 32, 115, 121, 110, 116, 97, 120])]
theorem num_eq : plainL.filter (fun x => decide (x.1 ∈ ["strconv.ErrRange", "strconv.ErrSyntax"])) = (numL.map fun x => (x.1, sentD x.2)) := by kernel_rfl
theorem sent_eq : plainL.filter (fun x => decide (x.1 ∈ sentL.map (·.1))) = (sentL.map fun x => (x.1, sentD x.2)) := by kernel_rfl
theorem nm0 : Tryz.prog.globalNamed "strconv.ErrRange" = some 17 := by kernel_rfl
theorem nm1 : Tryz.prog.globalNamed "strconv.ErrSyntax" = some 16 := by kernel_rfl
theorem ty0 : (Tryz.prog.globals[17]?).map (·.type) = some 46 := by kernel_rfl
theorem ty1 : (Tryz.prog.globals[16]?).map (·.type) = some 46 := by kernel_rfl
theorem nums_of {W : World} (h : laidMet Tryz.prog (numL.map fun x => (x.1, sentD x.2)) W) : (∃ t p, W.cell? ⟨17, 0, none⟩ = some (.iface t p)) ∧ ∃ t p, W.cell? ⟨16, 0, none⟩ = some (.iface t p) := by
  obtain ⟨ps, hv, hnd, hrows⟩ := h
  obtain ⟨bs, q1, q2, q3, q4⟩ := laid_each Tryz.underlying46 Tryz.rowE Tryz.underlying299 Tryz.underlying301 rfl rfl Tryz.underlying9 Tryz.cellsE Tryz.cellsS numL [17, 16] rfl (fun k h1 h2 => by
    match k, h1 with
    | 0, _ => exact ⟨nm0, ty0⟩
    | 1, _ => exact ⟨nm1, ty1⟩) ps hv hnd hrows
  have h2 : bs.length = 2 := q1
  exact ⟨⟨_, _, q4 0 (by decide) (by decide) (by omega)⟩, ⟨_, _, q4 1 (by decide) (by decide) (by omega)⟩⟩
theorem laid_all {W : World} (h : laidMetH Tryz.prog Rows.keeperStopsRow.laid W) : ∃ sa, Sents W.heap.size sa W ∧ NumB W.heap.size W ∧ TabB W.heap.size W := by
  have hL2 : laidMet Tryz.prog plainL W ∧ handlesMet Tryz.prog [("errors.errorType", handleD)] W := h
  have h6 := laidMet.filter (fun x => decide (x.1 ∈ sentL.map (·.1))) hL2.1
  rw [sent_eq] at h6
  have h2 := laidMet.filter (fun x => decide (x.1 ∈ ["strconv.ErrRange", "strconv.ErrSyntax"])) hL2.1
  rw [num_eq] at h2
  obtain ⟨sa, hs⟩ := sents_of h6 hL2.2
  obtain ⟨er, es⟩ := nums_of h2
  have hT : TabB W.heap.size W := tabB_of (rest := (plainL.drop 3)) (laidMet.tail (laidMet.tail (show laidMet Tryz.prog (("math/bits.deBruijn32tab", Rows.laid_math_bits_deBruijn32tab) :: ("math/bits.deBruijn64tab", Rows.laid_math_bits_deBruijn64tab) :: ("internal/strconv.uint64pow10", Lib.tabData .u64 Lib.pow10Tab) :: plainL.drop 3) W from hL2.1)))
  have hl : ∀ {g : Nat} {v : Value}, W.cell? ⟨g, 0, none⟩ = some v → g < W.heap.size := fun hc => World.block_lt_of_cell? _ ⟨_, 0, none⟩ hc
  refine ⟨sa, hs, ⟨hT, es, er, ?_⟩, hT⟩
  obtain ⟨_, _, e1⟩ := er
  obtain ⟨_, _, e2⟩ := es
  exact ⟨hl e2, hl e1⟩

/-- The witness's world: the handle stored, the others laid. -/
noncomputable def base0 (os : Os) : World := (World.holding Tryz.prog os ⟨#[], #[], []⟩).setCell ⟨11, 0, none⟩ (.iface 203 (.agg #[.pointer (some ⟨20, 46, none⟩)]))
noncomputable def doorW (os : Os) : World := (base0 os).layVars Tryz.prog plainL
theorem doorW_os (os : Os) : (doorW os).os = os := World.layVars_os _ _ _
theorem plain_met (os : Os) (args : Array Value) : laidMet Tryz.prog plainL ((doorW os).forCall (fun _ _ => 0) ⟨#[], args, []⟩).memory := by
  have e1 : (plainL.filter fun x => (plainL.map (·.1)).contains x.1) = plainL := List.filter_eq_self.2 fun x hx => List.contains_iff_mem.2 (List.mem_map.2 ⟨x, hx, rfl⟩)
  have e2 : (plainL.filter fun x => !(plainL.map (·.1)).contains x.1) = [] := List.filter_eq_nil_iff.2 fun x hx => by rw [List.contains_iff_mem.2 (List.mem_map.2 ⟨x, hx, rfl⟩)]; simp
  have h : laidMet Tryz.prog plainL (doorW os) := laidMet_layVars (w0 := base0 os) (plainL.map (·.1)) [] (by rw [e1]; rfl) (by rw [e1]; kernel_rfl) (by rw [e1]; kernel_rfl) (by rw [e2]; exact LaidIn.none)
  exact h.of_heap (by simp [World.memory, World.forCall, Input.heap])
theorem door_met (os : Os) (args : Array Value) : laidMetH Tryz.prog Rows.keeperStopsRow.laid ((doorW os).forCall (fun _ _ => 0) ⟨#[], args, []⟩).memory :=
  laidMetH_of_parts (plain_met os args) (by kernel_rfl)
end Go.Proofs.YtakjbjokekbmbaaGreatDoor.keeperStops
