/- The six sentinels that package conf names. -/
import Derived.Test.YtkhcepdeppmofaaDoorSents
namespace Go.Proofs.YtkhcepdeppmofaaDoor
open Go.RowKit
set_option linter.unusedVariables false

structure SentsC (B : Nat) (sa : Nat → Addr) (w : World) : Prop where
  gl : ∀ k, k < 6 → w.cell? ⟨sg k, 0, none⟩ = some (errv sa (k + 1))
  nb : ∀ k, k < 6 → sg k < B
  top : B ≤ w.heap.size
theorem Sents.c {B : Nat} {sa : Nat → Addr} {w : World} (h : Sents B sa w) : SentsC B sa w := ⟨fun k hk => h.gl k (by omega), fun k hk => h.nb.1 k (by omega), h.top⟩
theorem SentsC.keep {B : Nat} {sa : Nat → Addr} {S : Nat → Prop} {w w' : World} (h : SentsC B sa w) (k : Keep S w w') (hS : ∀ b, S b → B ≤ b) : SentsC B sa w' := by
  have ht := h.top
  refine ⟨fun i hi => ?_, h.nb, Nat.le_trans ht k.size⟩
  have hn := h.nb i hi
  rw [k.cell (p := ⟨sg i, 0, none⟩) (show sg i < w.heap.size by omega) (fun x => by have := hS _ x; simp only at this; omega)]
  exact h.gl i hi
theorem SentsC.below {B : Nat} {sa : Nat → Addr} {w w' : World} (h : SentsC B sa w) (b : Below w.heap.size w w') : SentsC B sa w' := h.keep (below_keep b) (fun _ h => h.elim)
theorem SentsC.low {B C : Nat} {sa : Nat → Addr} {w w' : World} (h : SentsC B sa w) (b : Below C w w') (hC : B ≤ C) : SentsC B sa w' := h.keep (Keep.of_below b) (fun k hk => Nat.le_trans hC hk)
theorem SentsC.on {B : Nat} {sa : Nat → Addr} {w w' : World} (h : SentsC B sa w) (b : Below w.heap.size w w') : SentsC B sa w' := h.low b h.top
theorem SentsC.all {B : Nat} {sa : Nat → Addr} {w : World} (h : SentsC B sa w) :
    w.cell? ⟨7, 0, none⟩ = some (.iface 304 (.pointer (some (sa 0)))) ∧ w.cell? ⟨3, 0, none⟩ = some (.iface 304 (.pointer (some (sa 1)))) ∧ w.cell? ⟨4, 0, none⟩ = some (.iface 304 (.pointer (some (sa 2)))) ∧
    w.cell? ⟨8, 0, none⟩ = some (.iface 304 (.pointer (some (sa 3)))) ∧ w.cell? ⟨2, 0, none⟩ = some (.iface 304 (.pointer (some (sa 4)))) ∧ w.cell? ⟨9, 0, none⟩ = some (.iface 304 (.pointer (some (sa 5)))) :=
  ⟨h.gl 0 (by decide), h.gl 1 (by decide), h.gl 2 (by decide), h.gl 3 (by decide), h.gl 4 (by decide), h.gl 5 (by decide)⟩
end Go.Proofs.YtkhcepdeppmofaaDoor
