import Derived.Test.YtikehilbmldadaaGreatDoorQ13
import Derived.Test.YtikehilbmldadaaGreatDoorQ08
import Derived.Test.YtikehilbmldadaaGreatDoorQ03
namespace Go.Proofs.YtikehilbmldadaaGreatDoor
open Go.RowKit
set_option linter.unusedVariables false
structure EntX where
  E : EntV
  p : Value
  g : Value
  e : Value
  f : Value
  l : Value
def entXCells (x : EntX) : List Value := (entCs x.E x.p x.g x.e x.f x.l).toList
structure EntsSl (R : Nat → Prop) (w : World) (v : Value) (X : List EntX) : Prop where
  row : SlOf R w v 10 (X.flatMap entXCells) X.length
  each : ∀ x ∈ X, EntSl R w x.E x.p x.g x.e x.f x.l
theorem EntsSl.keep {R S : Nat → Prop} {w w' : World} {v : Value} {X : List EntX} (h : EntsSl R w v X) (k : Keep S w w') (hd : ∀ b, R b → ¬ S b) : EntsSl R w' v X :=
  ⟨h.row.keep k hd, fun x hx => (h.each x hx).keep k hd⟩
def ptE (P : List ByteArray) (k : Nat) : Nat := if isNameB (P.getD k ByteArray.empty) = false then 4 else if sidxOf P (P.getD k ByteArray.empty) < k then 6 else 0
def ptsE (P : List ByteArray) : Nat := ((List.range P.length).find? (fun k => ptE P k != 0)).elim 0 (ptE P)
theorem ptsE_hit {P : List ByteArray} {k : Nat} (hk : k < P.length) (h : ptE P k ≠ 0) (hb : ∀ j, j < k → ptE P j = 0) : ptsE P = ptE P k := by
  have : (List.range P.length).find? (fun k => ptE P k != 0) = some k := by
    rw [List.find?_range_eq_some]
    exact ⟨by simpa using h, List.mem_range.2 hk, fun j hj => by simpa using hb j hj⟩
  unfold ptsE
  rw [this]; rfl
theorem ptsE_miss {P : List ByteArray} (h : ∀ j, j < P.length → ptE P j = 0) : ptsE P = 0 := by
  have : (List.range P.length).find? (fun k => ptE P k != 0) = none := by
    rw [List.find?_range_eq_none]
    intro j hj
    simpa using h j hj
  unfold ptsE
  rw [this]; rfl
theorem ptE_at {P : List ByteArray} {k : Nat} (hk : k < P.length) : ptE P k = if isNameB P[k] = false then 4 else if sidxOf P P[k] < k then 6 else 0 := by
  unfold ptE
  rw [List.getD_eq_getElem?_getD, List.getElem?_eq_getElem hk]; rfl
def gapWrong (g : GapV) : Bool := decide (g.mn < 0 ∨ g.mx < g.mn ∨ 1099511627776 < g.mx)
def edgesTwice (l : List (Int × Int)) : Bool := (List.range l.length).any (fun i => decide (l.getD i (0, 0) ∈ l.take i))
theorem edgesTwice_hit {l : List (Int × Int)} (i : Nat) (hi : i < l.length) (h : l[i] ∈ l.take i) : edgesTwice l = true := by
  unfold edgesTwice
  rw [List.any_eq_true]
  exact ⟨i, List.mem_range.2 hi, by rw [List.getD_eq_getElem?_getD, List.getElem?_eq_getElem hi]; exact decide_eq_true h⟩
theorem edgesTwice_miss {l : List (Int × Int)} (h : ∀ i (hi : i < l.length), l[i] ∉ l.take i) : edgesTwice l = false := by
  unfold edgesTwice
  rw [List.any_eq_false]
  intro i hi
  have hi := List.mem_range.1 hi
  rw [List.getD_eq_getElem?_getD, List.getElem?_eq_getElem hi]
  simpa using h i hi
def pairEqE (P : Program) (t : TypeId) : Prop := ∀ (w : World) (a b c d : Int), (Op.equalIn 10000 t (.agg #[.int .i64 a, .int .i64 b]) (.agg #[.int .i64 c, .int .i64 d])).run P w = .ok (decide ((a, b) = (c, d))) w
theorem pair_equal_of {P : Program} {t e : TypeId} (ut : P.underlying t = some (.array 2 e)) (ue : P.underlying e = some (.int .i64)) (us : ∃ i, P.info? e = some i ∧ i.size = 1) (w : World) (p q : Int × Int) :
    (Op.equalIn 10000 t (.agg #[.int .i64 p.1, .int .i64 p.2]) (.agg #[.int .i64 q.1, .int .i64 q.2])).run P w = .ok (decide (p = q)) w := by
  obtain ⟨i, hi, hs⟩ := us
  have key : ∀ d, (Op.equalIn (d + 2) t (.agg #[.int .i64 p.1, .int .i64 p.2]) (.agg #[.int .i64 q.1, .int .i64 q.2])).run P w = .ok (decide (p = q)) w := by
    intro d
    rw [Op.equalIn]
    have p0 := fun (a b : Int) (w : World) => run_part_int (P := P) w ue #[.int .i64 a, .int .i64 b] 0 _ rfl
    have p1 := fun (a b : Int) (w : World) => run_part_int (P := P) w ue #[.int .i64 a, .int .i64 b] 1 _ rfl
    have e1 := fun (a b : Int) (w : World) => run_equalIn_int (P := P) w d e .i64 .i64 a b ue
    simp [run_underlying ut, sizeOf, typeInfo, hi, hs, Std.Legacy.Range.forIn_eq_forIn_range', Std.Legacy.Range.size, List.range', p0, p1, e1]
    by_cases h1 : p.1 = q.1
    · by_cases h2 : p.2 = q.2
      · rw [if_pos h1, if_pos h2, decide_eq_true (Prod.ext h1 h2)]
      · rw [if_pos h1, if_neg h2, decide_eq_false (fun h => h2 (by rw [h]))]
    · rw [if_neg h1, decide_eq_false (fun h => h1 (by rw [h]))]
  exact key 9998
theorem Tryz.pairEqE : pairEqE Tryz.prog 127 := fun w a b c d => pair_equal_of Tryz.underlying127 Tryz.underlying3 (by
  obtain ⟨i0, hi0, hz0, hz1, hz2⟩ := info_parts Tryz.infoInt
  exact ⟨i0, hi0, hz1⟩) w (a, b) (c, d)
end Go.Proofs.YtikehilbmldadaaGreatDoor
