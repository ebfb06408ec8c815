/- Plain: a right config, part by part. -/
import Derived.Test.YtgdaljpimblkgaaGreatDoorR16
namespace Go.Proofs.YtgdaljpimblkgaaGreatDoor
open Go.RowKit
set_option linter.unusedVariables false

theorem entsF_zero {L : List EntV} (h : entsF L = (0, -1)) : ∀ j, j < L.length → entAt L j = 0 := by
  intro j hj
  unfold entsF at h
  split at h
  · next i hi =>
    have := (Prod.mk.inj h).2
    omega
  · next hn =>
    rw [List.find?_range_eq_none] at hn
    simpa using hn j hj
theorem confF_parts {C : ConfV} (h : confF C = (0, -1)) : boundC C = false ∧ ¬ C.opn < C.cycle ∧ ∀ j, j < C.ents.length → entAt C.ents j = 0 := by
  unfold confF at h
  split at h
  · cases h
  split at h
  · cases h
  next h1 h2 => exact ⟨by simpa using h1, h2, entsF_zero h⟩
end Go.Proofs.YtgdaljpimblkgaaGreatDoor
