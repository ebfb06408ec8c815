/- The plain law of ConfMore: a right config with one more entity. -/
import Derived.Test.YtkhcepdeppmofaaDoorConfK
namespace Go.Proofs.YtkhcepdeppmofaaDoor
open Go.RowKit
set_option linter.unusedVariables false

theorem bytes_inj {a b : ByteArray} (h : a.toList = b.toList) : a = b := by
  rw [ByteArray.toList_eq, ByteArray.toList_eq] at h
  cases a; cases b
  exact congrArg ByteArray.mk (Array.toList_inj.1 h)
def moreE (nm : ByteArray) (t : Int) : EntV := ⟨nm, t, [], -1, 0, 0, [], [], [], []⟩
theorem more_err (ah : List ByteArray) (nm : ByteArray) (t : Int) : entErr ah (moreE nm t) = if isNameB nm = false then 4 else if hasStr ah nm = true then 6 else if t < 0 ∨ 20 < t then 2 else 0 := by
  unfold entErr
  simp [moreE, topW, fstW, cntW, cmmW, rngW, s1W, s2W, ptsE, strangeB, strL, edgesTwice, twiceB]
theorem entsF_zero {L : List EntV} (h : entsF L = (0, -1)) : ∀ j, j < L.length → entAt L j = 0 := by
  intro j hj
  unfold entsF at h
  split at h
  · next i hi =>
    have := (Prod.mk.inj h).2
    omega
  · next hn =>
    rw [List.find?_range_eq_none] at hn
    simpa using hn j hj
theorem confF_parts {C : ConfV} (h : confF C = (0, -1)) : boundC C = false ∧ ¬ C.opn < C.cycle ∧ ∀ j, j < C.ents.length → entAt C.ents j = 0 := by
  unfold confF at h
  split at h
  · cases h
  split at h
  · cases h
  next h1 h2 => exact ⟨by simpa using h1, h2, entsF_zero h⟩
theorem entAt_left {L : List EntV} (E : EntV) {j : Nat} (hj : j < L.length) : entAt (L ++ [E]) j = entAt L j := by
  rw [entAt_at hj, entAt_at (show j < (L ++ [E]).length by rw [List.length_append]; omega), List.take_append_of_le_length (by omega), List.getElem_append_left hj]
theorem entAt_last (L : List EntV) (E : EntV) : entAt (L ++ [E]) L.length = entErr (L.map EntV.name) E := by
  rw [entAt_at (show L.length < (L ++ [E]).length by simp)]
  simp
def addE (C : ConfV) (E : EntV) : ConfV := ⟨C.closed, C.opn, C.cycle, C.delay, C.ents ++ [E]⟩
theorem confF_full {C : ConfV} (E : EntV) (h : C.ents.length = 8) : confF (addE C E) = (2, -1) := by
  unfold confF
  rw [if_pos]
  unfold boundC
  refine decide_eq_true ?_
  simp only [addE, List.length_append, List.length_singleton]
  omega
theorem confF_add {C : ConfV} (E : EntV) (hC : confF C = (0, -1)) (h : C.ents.length ≠ 8) :
    confF (addE C E) = if entErr (C.ents.map EntV.name) E = 0 then (0, -1) else (entErr (C.ents.map EntV.name) E, (C.ents.length : Int)) := by
  obtain ⟨h1, h2, h3⟩ := confF_parts hC
  have hb : boundC (addE C E) = false := by
    unfold boundC at h1 ⊢
    simp only [decide_eq_false_iff_not] at h1 ⊢
    simp only [addE, List.length_append, List.length_singleton]
    omega
  have hlast := entAt_last C.ents E
  unfold confF
  rw [hb, if_neg (by decide), if_neg (show ¬ (addE C E).opn < (addE C E).cycle from h2)]
  show entsF (C.ents ++ [E]) = _
  split
  · next hz =>
    refine entsF_miss (fun j hj => ?_)
    rw [List.length_append, List.length_singleton] at hj
    by_cases hj' : j < C.ents.length
    · rw [entAt_left E hj']; exact h3 j hj'
    · obtain rfl : j = C.ents.length := by omega
      rw [hlast]; exact hz
  · next hz =>
    rw [entsF_hit (k := C.ents.length) (by simp) (by rw [hlast]; exact hz) (fun j hj => by rw [entAt_left E hj]; exact h3 j hj), hlast]
/-- Whose name is there already: it is a name. -/
theorem name_there {C : ConfV} (hC : confF C = (0, -1)) {i : Nat} (hi : i < C.ents.length) {nm : ByteArray} (h : C.ents[i].name.toList = nm.toList) : isNameB nm = true ∧ hasStr (C.ents.map EntV.name) nm = true := by
  obtain ⟨h1, h2, h3⟩ := confF_parts hC
  refine ⟨?_, hasStr_hit i (by simpa using hi) (by simpa using h)⟩
  have := h3 i hi
  rw [entAt_at hi] at this
  rw [← bytes_inj h]
  cases hn : isNameB C.ents[i].name
  · rw [entErr_name hn] at this
    cases this
  · rfl
theorem more_there {C : ConfV} (hC : confF C = (0, -1)) (h8 : C.ents.length ≠ 8) {i : Nat} (hi : i < C.ents.length) {nm : ByteArray} (t : Int) (h : C.ents[i].name.toList = nm.toList) : confF (addE C (moreE nm t)) = (6, (C.ents.length : Int)) := by
  obtain ⟨h1, h2⟩ := name_there hC hi h
  rw [confF_add _ hC h8, more_err, h1, h2]
  rfl
theorem more_name {C : ConfV} (hC : confF C = (0, -1)) (h8 : C.ents.length ≠ 8) {nm : ByteArray} (t : Int) (h : isNameB nm = false) : confF (addE C (moreE nm t)) = (4, (C.ents.length : Int)) := by
  rw [confF_add _ hC h8, more_err, h]
  rfl
theorem miss_there {C : ConfV} {nm : ByteArray} (hn : ∀ j (hj : j < C.ents.length), C.ents[j].name.toList ≠ nm.toList) : hasStr (C.ents.map EntV.name) nm = false :=
  hasStr_miss (fun j hj => by simpa using hn j (by simpa using hj))
theorem more_tol {C : ConfV} (hC : confF C = (0, -1)) (h8 : C.ents.length ≠ 8) {nm : ByteArray} {t : Int} (h : isNameB nm = true) (hn : ∀ j (hj : j < C.ents.length), C.ents[j].name.toList ≠ nm.toList) (ht : t < 0 ∨ 20 < t) : confF (addE C (moreE nm t)) = (2, (C.ents.length : Int)) := by
  have e : entErr (C.ents.map EntV.name) (moreE nm t) = 2 := by rw [more_err, h, miss_there hn]; simp [ht]
  rw [confF_add _ hC h8, e]
  rfl
theorem more_fine {C : ConfV} (hC : confF C = (0, -1)) (h8 : C.ents.length ≠ 8) {nm : ByteArray} {t : Int} (h : isNameB nm = true) (hn : ∀ j (hj : j < C.ents.length), C.ents[j].name.toList ≠ nm.toList) (ht : ¬ (t < 0 ∨ 20 < t)) : confF (addE C (moreE nm t)) = (0, -1) := by
  have e : entErr (C.ents.map EntV.name) (moreE nm t) = 0 := by rw [more_err, h, miss_there hn]; simp [ht]
  rw [confF_add _ hC h8, e]
  rfl
end Go.Proofs.YtkhcepdeppmofaaDoor
