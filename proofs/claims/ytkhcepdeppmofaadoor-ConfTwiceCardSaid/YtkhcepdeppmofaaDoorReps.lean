/- Reports and bools as plain data. -/
import Derived.Test.YtkhcepdeppmofaaDoorHeavy
namespace Go.Proofs.YtkhcepdeppmofaaDoor
open Go.RowKit
set_option linter.unusedVariables false

structure RepV where
  point : Int
  later : Int
  fin : Bool
def repCells (r : RepV) : List Value := [.int .i64 r.point, .int .i64 r.later, .bool r.fin]
def boolCell (b : Bool) : List Value := [.bool b]

theorem rep_cells {R : Nat → Prop} {w : World} {ao : Option Addr} {n cap : Nat} {l : List RepV} (h : SlOf R w (.slice ao n cap) 3 (l.flatMap repCells) l.length) (h0 : 0 < l.length) :
    ∃ b off, ao = some ⟨b, off, none⟩ ∧ R b ∧ b < w.heap.size ∧ ∀ k (hk : k < l.length), w.cell? ⟨b, off + k * 3, none⟩ = some (.int .i64 l[k].point) ∧ w.cell? ⟨b, off + k * 3 + 1, none⟩ = some (.int .i64 l[k].later) ∧ w.cell? ⟨b, off + k * 3 + 2, none⟩ = some (.bool l[k].fin) := by
  obtain ⟨b, off, ha, hR, hb, hc⟩ := h.elem (fun _ => rfl) (by decide) h0
  exact ⟨b, off, ha, hR, hb, fun k hk => ⟨hc k hk 0 _ rfl, hc k hk 1 _ rfl, hc k hk 2 _ rfl⟩⟩
theorem bool_cells {R : Nat → Prop} {w : World} {ao : Option Addr} {n cap : Nat} {l : List Bool} (h : SlOf R w (.slice ao n cap) 1 (l.flatMap boolCell) l.length) (h0 : 0 < l.length) :
    ∃ b off, ao = some ⟨b, off, none⟩ ∧ R b ∧ b < w.heap.size ∧ ∀ k (hk : k < l.length), w.cell? ⟨b, off + k, none⟩ = some (.bool l[k]) := by
  obtain ⟨b, off, ha, hR, hb, hc⟩ := h.elem (fun _ => rfl) (by decide) h0
  refine ⟨b, off, ha, hR, hb, fun k hk => ?_⟩
  have := hc k hk 0 _ rfl
  simpa using this
end Go.Proofs.YtkhcepdeppmofaaDoor
