import Derived.Test.YtikehilbmldadaaGreatDoorQ14
namespace Go.Proofs.YtikehilbmldadaaGreatDoor
open Go.RowKit
set_option linter.unusedVariables false
def topW (E : EntV) : Bool := decide (E.tol < 0 ∨ 20 < E.tol ∨ 16 < E.points.length ∨ 8 < E.gaps.length ∨ 64 < E.edges.length)
def fstW (E : EntV) : Bool := decide (16 < E.first.length ∨ 16 < E.last.length)
def cntW (E : EntV) : Bool := decide (E.count < -1 ∨ (E.points.length : Int) ≤ E.count)
def cmmW (E : EntV) : Bool := decide (E.count = -1 ∧ (E.mn ≠ 0 ∨ E.mx ≠ 0))
def rngW (E : EntV) : Bool := decide (E.mn < 0 ∨ E.mx < E.mn ∨ 1000 ≤ E.mx)
def s1W (E : EntV) : Bool := decide (0 < E.edges.length ∧ E.first.length = 0)
def s2W (E : EntV) : Bool := decide (E.edges.length = 0 ∧ 0 < E.first.length + E.last.length)
def entErr (ahead : List ByteArray) (E : EntV) : Nat :=
  if isNameB E.name = false then 4 else if hasStr ahead E.name = true then 6 else if topW E = true then 2 else if fstW E = true then 2 else if ptsE E.points ≠ 0 then ptsE E.points else if cntW E = true then 5
  else if strangeB E = true then 5 else if cmmW E = true then 3 else if rngW E = true then 2 else if E.gaps.any gapWrong = true then 2 else if edgesTwice E.edges = true then 6 else if twiceB E.first = true then 6 else if twiceB E.last = true then 6
  else if s1W E = true then 3 else if s2W E = true then 3 else 0
def xName (x : EntX) : ByteArray := x.E.name
theorem hasStr_hit {L : List ByteArray} {s : ByteArray} (j : Nat) (hj : j < L.length) (h : L[j].toList = s.toList) : hasStr L s = true := List.any_eq_true.2 ⟨_, List.getElem_mem hj, by simp [h]⟩
theorem hasStr_miss {L : List ByteArray} {s : ByteArray} (h : ∀ j (hj : j < L.length), L[j].toList ≠ s.toList) : hasStr L s = false := List.any_eq_false.2 (fun x hx => by
  obtain ⟨j, hj, rfl⟩ := List.mem_iff_getElem.1 hx
  simpa using h j hj)
theorem ent_elem {R : Nat → Prop} {w : World} {ao : Option Addr} {n cap : Nat} {X : List EntX} (h : SlOf R w (.slice ao n cap) 10 (X.flatMap entXCells) X.length) (h0 : 0 < X.length) :
    ∃ b off, ao = some ⟨b, off, none⟩ ∧ R b ∧ b < w.heap.size ∧ ∀ k (hk : k < X.length), w.cell? ⟨b, off + k * 10, none⟩ = some (.string X[k].E.name) ∧ w.cell? ⟨b, off + k * 10 + 1, none⟩ = some (.int .i64 X[k].E.tol) ∧ w.cell? ⟨b, off + k * 10 + 2, none⟩ = some X[k].p ∧
      w.cell? ⟨b, off + k * 10 + 3, none⟩ = some (.int .i64 X[k].E.count) ∧ w.cell? ⟨b, off + k * 10 + 4, none⟩ = some (.int .i64 X[k].E.mn) ∧ w.cell? ⟨b, off + k * 10 + 5, none⟩ = some (.int .i64 X[k].E.mx) ∧ w.cell? ⟨b, off + k * 10 + 6, none⟩ = some X[k].g ∧
      w.cell? ⟨b, off + k * 10 + 7, none⟩ = some X[k].e ∧ w.cell? ⟨b, off + k * 10 + 8, none⟩ = some X[k].f ∧ w.cell? ⟨b, off + k * 10 + 9, none⟩ = some X[k].l := by
  obtain ⟨b, off, ha, hR, hb, hc⟩ := h.elem (fun _ => rfl) (by decide) h0
  exact ⟨b, off, ha, hR, hb, fun k hk => ⟨hc k hk 0 _ rfl, hc k hk 1 _ rfl, hc k hk 2 _ rfl, hc k hk 3 _ rfl, hc k hk 4 _ rfl, hc k hk 5 _ rfl, hc k hk 6 _ rfl, hc k hk 7 _ rfl, hc k hk 8 _ rfl, hc k hk 9 _ rfl⟩⟩
theorem below_lt2 {R : Nat → Prop} {w w' : World} (hR : ∀ b, R b → b < w.heap.size) (h : Below w.heap.size w w') : ∀ b, R b → b < w'.heap.size := fun b hb => Nat.lt_of_lt_of_le (hR b hb) h.size
end Go.Proofs.YtikehilbmldadaaGreatDoor
