/- The document's RowsOf: rows of reports that are well, counted from the end. -/
import Derived.Test.YtkhcepdeppmofaaDoorFlowBad
import Derived.Test.YtkhcepdeppmofaaDoorWays
import Derived.Deep.OwnRows
import Derived.IntWalk
import Derived.Deep.RegionHeld3
namespace Go.Proofs.YtkhcepdeppmofaaDoor
open Go.RowKit
set_option linter.unusedVariables false

theorem onward_le (may : Int → Int → Bool) (thn : Int → Int) (P : Nat) (hP : P ≤ 16) : ∀ n a, onward may thn P n a ≤ 16 ^ n
  | 0, a => by show 1 ≤ _; exact Nat.le_refl _
  | n + 1, a => by
    show sumU (List.range P) _ ≤ _
    have h1 : sumU (List.range P) (fun p => if may a p = true then onward may thn P n (thn p) else 0) ≤ sumU (List.range P) (fun _ => 16 ^ n) := sumU_le (fun p _ => by
      split
      · exact onward_le may thn P hP n _
      · exact Nat.zero_le _)
    refine Nat.le_trans h1 ?_
    have h2 : ∀ l : List Nat, sumU l (fun _ => 16 ^ n) = l.length * 16 ^ n := by
      intro l
      induction l with
      | nil => simp [sumU]
      | cons x l ih => rw [sumU_cons, ih, List.length_cons, Nat.succ_mul]; omega
    rw [h2, List.length_range, Nat.pow_succ, Nat.mul_comm]
    exact Nat.mul_le_mul_left _ hP
/-- Rows of n reports from a place on; those that begin with one of the first p points. -/
def onw (E : EntV) (n : Nat) (a : Int) : Nat := onward (flowMay E) (flowThen E) E.points.length n a
def onwP (E : EntV) (n : Nat) (a : Int) (p : Nat) : Nat := sumU (List.range p) (fun q => if flowMay E a q = true then onw E n (flowThen E q) else 0)
theorem onwP_zero (E : EntV) (n : Nat) (a : Int) : onwP E n a 0 = 0 := rfl
theorem onwP_all (E : EntV) (n : Nat) (a : Int) : onwP E n a E.points.length = onw E (n + 1) a := rfl
theorem onwP_no {E : EntV} {n : Nat} {a : Int} {p : Nat} (h : flowMay E a p = false) : onwP E n a (p + 1) = onwP E n a p := by
  simp [onwP, sumU, List.range_succ, h]
theorem onwP_yes {E : EntV} {n : Nat} {a : Int} {p : Nat} (h : flowMay E a p = true) : onwP E n a (p + 1) = onwP E n a p + onw E n (flowThen E p) := by
  simp [onwP, sumU, List.range_succ, h]
theorem onwP_mono (E : EntV) (n : Nat) (a : Int) (p : Nat) : onwP E n a p ≤ onwP E n a (p + 1) := by
  cases h : flowMay E a p
  · rw [onwP_no h]; exact Nat.le_refl _
  · rw [onwP_yes h]; omega
theorem onwP_le (E : EntV) (hP : E.points.length ≤ 16) (n : Nat) (hn : n < 15) (a : Int) (p : Nat) (hp : p ≤ E.points.length) : onwP E n a p ≤ 1152921504606846976 := by
  have h1 : ∀ d, p + d ≤ E.points.length → onwP E n a p ≤ onwP E n a (p + d) := by
    intro d
    induction d with
    | zero => intro _; exact Nat.le_refl _
    | succ d ih => intro h; exact Nat.le_trans (ih (by omega)) (onwP_mono E n a (p + d))
  have h2 := h1 (E.points.length - p) (by omega)
  rw [show p + (E.points.length - p) = E.points.length from by omega, onwP_all] at h2
  refine Nat.le_trans h2 (Nat.le_trans (onward_le _ _ _ hP _ _) (Nat.le_trans (Nat.pow_le_pow_right (by decide) (show n + 1 ≤ 15 by omega)) (by decide)))

/-- A row of numbers. -/
def rowA (f : Nat → Nat) (m : Nat) : Array Value := (Array.range m).map (fun i => Value.int .i64 (f i : Nat))
def RowAt (w : World) (b : Nat) (f : Nat → Nat) (m : Nat) : Prop := w.heap[b]? = some (.cells (rowA f m) 3)
theorem rowA_get (f : Nat → Nat) (m i : Nat) (hi : i < m) : (rowA f m)[i]? = some (.int .i64 (f i : Nat)) := by
  simp [rowA, hi]
theorem RowAt.cell {w : World} {b : Nat} {f : Nat → Nat} {m : Nat} (h : RowAt w b f m) (i : Nat) (hi : i < m) : w.cell? ⟨b, i, none⟩ = some (.int .i64 (f i : Nat)) := by
  unfold RowAt at h
  simp [World.cell?, h, rowA_get f m i hi]
theorem RowAt.free {w : World} {b : Nat} {f : Nat → Nat} {m : Nat} (h : RowAt w b f m) (o : Nat) : w.frozen? ⟨b, o, none⟩ = false := by
  unfold RowAt at h
  simp [World.frozen?, h]
theorem RowAt.congr {w : World} {b : Nat} {f g : Nat → Nat} {m : Nat} (h : RowAt w b f m) (e : ∀ i, i < m → f i = g i) : RowAt w b g m := by
  unfold RowAt at h ⊢
  rw [h]
  congr 2
  unfold rowA
  refine Array.ext (by simp) (fun i h1 h2 => ?_)
  simp at h1
  simp [e i h1]
theorem RowAt.set {w : World} {b : Nat} {f g : Nat → Nat} {m : Nat} (h : RowAt w b f m) (i : Nat) (x : Nat) (hi : i < m) (hx : g i = x) (hg : ∀ j, j < m → j ≠ i → g j = f j) : RowAt (w.setCell ⟨b, i, none⟩ (.int .i64 (x : Nat))) b g m := by
  unfold RowAt at h ⊢
  rw [get_setCell _ h]
  congr 2
  unfold rowA
  refine Array.ext (by simp) (fun j h1 h2 => ?_)
  simp at h1 h2
  by_cases e : j = i
  · subst e; simp [hx]
  · rw [Array.getElem_setIfInBounds_ne (by simpa using h1) (fun h => e h.symm)]
    simp [hg j h2 e]
theorem RowAt.keep {S : Nat → Prop} {w w' : World} {b : Nat} {f : Nat → Nat} {m : Nat} (h : RowAt w b f m) (k : Keep S w w') (hS : ¬ S b) : RowAt w' b f m := k.get h hS
theorem RowAt.made (w : World) (m : Nat) : RowAt (w.alloc (.cells (madeCells #[.int .i64 0] m) 3)) w.heap.size (fun _ => 0) m := by
  unfold RowAt
  rw [get_alloc_new]
  congr 2
  unfold rowA madeCells
  refine Array.ext (by simp) (fun i h1 h2 => ?_)
  simp [Nat.mod_one]
/-- What stays while rows are counted. -/
structure RK (R : Nat → Prop) (E : EntV) (vp vg ve vf vl : Value) (w0 w : World) : Prop where
  bel : Below w0.heap.size w0 w
  box : w.heap[w0.heap.size]? = some (.cells (entCs E vp vg ve vf vl) 27)
  ent : EntSl R w E vp vg ve vf vl
  low : ∀ b, R b → b < w0.heap.size
theorem RK.keep {S : Nat → Prop} {R : Nat → Prop} {E : EntV} {vp vg ve vf vl : Value} {w0 w w' : World} (h : RK R E vp vg ve vf vl w0 w) (k : Keep S w w') (hS : ∀ b, S b → w0.heap.size < b) : RK R E vp vg ve vf vl w0 w' := by
  refine ⟨h.bel.trans (k.below h.bel.size (fun b hb => by have := hS b hb; omega)), k.get h.box (fun hb => by have := hS _ hb; omega), h.ent.keep k (fun b hb hs => by have := hS b hs; have := h.low b hb; omega), h.low⟩

theorem RK.drew {R : Nat → Prop} {E : EntV} {vp vg ve vf vl : Value} {w0 w : World} (h : RK R E vp vg ve vf vl w0 w) : RK R E vp vg ve vf vl w0 w.drew := h.keep (Keep.drew (Keep.refl (fun _ => False) w)) (fun _ h => h.elim)

end Go.Proofs.YtkhcepdeppmofaaDoor
