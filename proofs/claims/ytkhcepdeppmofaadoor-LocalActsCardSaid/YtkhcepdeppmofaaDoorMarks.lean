/- Marks as plain data; what the document says of gaps, in plain words. -/
import Derived.Test.YtkhcepdeppmofaaDoorGapsR
namespace Go.Proofs.YtkhcepdeppmofaaDoor
open Go.RowKit
set_option linter.unusedVariables false

structure MarkV where
  point : Int
  tick : Int
  cycle : Int
def markCells (m : MarkV) : List Value := [.int .i64 m.point, .int .i64 m.tick, .int .i64 m.cycle]
theorem mark_one (x : MarkV) : ∀ u ∈ markCells x, u.oneCell' = true := by
  intro u hu
  simp [markCells] at hu
  rcases hu with rfl | rfl | rfl <;> rfl

theorem mark_cells {R : Nat → Prop} {w : World} {ao : Option Addr} {n cap : Nat} {l : List MarkV} (h : SlOf R w (.slice ao n cap) 3 (l.flatMap markCells) l.length) (h0 : 0 < l.length) :
    ∃ b off, ao = some ⟨b, off, none⟩ ∧ R b ∧ b < w.heap.size ∧ ∀ k (hk : k < l.length), w.cell? ⟨b, off + k * 3, none⟩ = some (.int .i64 l[k].point) ∧ w.cell? ⟨b, off + k * 3 + 1, none⟩ = some (.int .i64 l[k].tick) ∧ w.cell? ⟨b, off + k * 3 + 2, none⟩ = some (.int .i64 l[k].cycle) := by
  obtain ⟨b, off, ha, hR, hb, hc⟩ := h.elem (fun _ => rfl) (by decide) h0
  exact ⟨b, off, ha, hR, hb, fun k hk => ⟨hc k hk 0 _ rfl, hc k hk 1 _ rfl, hc k hk 2 _ rfl⟩⟩
/-- The tick of the latest mark of a point. -/
def lastTick (p : Int) : List MarkV → Option Int
  | [] => none
  | m :: l => match lastTick p l with
    | some t => some t
    | none => if m.point = p then some m.tick else none
theorem lastTick_snoc (p : Int) (l : List MarkV) (m : MarkV) : lastTick p (l ++ [m]) = if m.point = p then some m.tick else lastTick p l := by
  induction l with
  | nil => simp [lastTick]
  | cons x l ih =>
    simp only [List.cons_append, lastTick, ih]
    by_cases h : m.point = p <;> simp [h]
theorem lastTick_none (p : Int) (l : List MarkV) (h : ∀ m ∈ l, m.point ≠ p) : lastTick p l = none := by
  induction l with
  | nil => rfl
  | cons x l ih =>
    simp only [lastTick, ih (fun m hm => h m (by simp [hm]))]
    rw [if_neg (h x (by simp))]
theorem lastTick_hit (p : Int) (a b : List MarkV) (m : MarkV) (hm : m.point = p) (hb : ∀ x ∈ b, x.point ≠ p) : lastTick p (a ++ m :: b) = some m.tick := by
  induction a with
  | nil => simp only [List.nil_append, lastTick, lastTick_none p b hb]; rw [if_pos hm]
  | cons x a ih => simp only [List.cons_append, lastTick, ih]

/-- A report is bad for a gap, with these ahead of it. -/
def dBad (g : GapV) (last : Option Int) (tick : Int) : Bool := match last with
  | none => true
  | some s => decide (tick - s < g.mn) || decide (g.mx < tick - s)
def markBad (g : GapV) (ahead : List MarkV) (m : MarkV) (c : Int) : Bool := decide (m.cycle = c) && decide (m.point = g.dst) && dBad g (lastTick g.fr ahead) m.tick
/-- Is a gap bad in a cycle? -/
def gapBadF (g : GapV) (l : List MarkV) (c : Int) (n : Nat) : Bool := (List.range n).any fun i => match l[i]? with | some m => markBad g (l.take i) m c | none => false
theorem gapBadF_succ (g : GapV) (l : List MarkV) (c : Int) (n : Nat) (hn : n < l.length) : gapBadF g l c (n + 1) = (gapBadF g l c n || markBad g (l.take n) l[n] c) := by
  unfold gapBadF
  rw [List.range_succ, List.any_append]
  simp [hn]
theorem gapBadF_mono (g : GapV) (l : List MarkV) (c : Int) (n m : Nat) (h : gapBadF g l c n = true) (hm : n ≤ m) : gapBadF g l c m = true := by
  unfold gapBadF at h ⊢
  rw [List.any_eq_true] at h ⊢
  obtain ⟨i, hi, hb⟩ := h
  exact ⟨i, by rw [List.mem_range] at hi ⊢; omega, hb⟩
theorem gapBadF_snoc (g : GapV) (l : List MarkV) (m : MarkV) (c : Int) : gapBadF g (l ++ [m]) c (l ++ [m]).length = (gapBadF g l c l.length || markBad g l m c) := by
  have hl : (l ++ [m]).length = l.length + 1 := by simp
  rw [hl, gapBadF_succ _ _ _ _ (by omega)]
  have h1 : (l ++ [m]).take l.length = l := by simp
  have h2 : (l ++ [m])[l.length]'(by omega) = m := by simp
  rw [h1, h2]
  congr 1
  unfold gapBadF
  rw [Bool.eq_iff_iff, List.any_eq_true, List.any_eq_true]
  constructor <;> rintro ⟨i, hi, hb⟩ <;> refine ⟨i, hi, ?_⟩ <;> have hi' := List.mem_range.1 hi
  · rw [List.getElem?_append_left hi', List.take_append_of_le_length (by omega)] at hb; exact hb
  · rw [List.getElem?_append_left hi', List.take_append_of_le_length (by omega)]; exact hb
theorem gapBadF_fresh (g : GapV) (l : List MarkV) (c : Int) (h : ∀ m ∈ l, m.cycle ≠ c) : gapBadF g l c l.length = false := by
  unfold gapBadF
  rw [List.any_eq_false]
  intro i hi
  have hi' := List.mem_range.1 hi
  rw [List.getElem?_eq_getElem hi']
  simp [markBad, h l[i] (List.getElem_mem _)]

/-- The program's gaps behind these marks. -/
def gsOf (g : GapV) (l : List MarkV) : GapS := match lastTick g.fr l with
  | none => gs0 g
  | some t => ⟨g, t, true⟩
theorem gsOf_nil (g : GapV) : gsOf g [] = gs0 g := rfl
theorem gsOf_snoc (g : GapV) (l : List MarkV) (m : MarkV) : gsOf g (l ++ [m]) = gsStep (gsOf g l) m.point m.tick := by
  unfold gsOf
  rw [lastTick_snoc]
  unfold gsStep
  cases h : lastTick g.fr l <;> by_cases hp : m.point = g.fr <;> simp [hp, gs0]
theorem gsOf_bad (g : GapV) (l : List MarkV) (m : MarkV) (c : Int) (hc : m.cycle = c) : gsBad (gsOf g l) m.point m.tick = markBad g l m c := by
  unfold gsOf markBad gsBad dBad
  rw [decide_eq_true hc]
  cases h : lastTick g.fr l <;> simp [gs0] <;> first | rfl | congr
theorem gsOf_ok (gs : List GapV) (l : List MarkV) (h : ∀ m ∈ l, 0 ≤ m.tick ∧ m.tick ≤ 1099511627776) : GsOk (gs.map (gsOf · l)) := by
  intro x hx
  obtain ⟨g, _, rfl⟩ := List.mem_map.1 hx
  unfold gsOf
  cases hl : lastTick g.fr l with
  | none => simp [gs0]
  | some t =>
    simp only
    clear hx
    induction l with
    | nil => simp [lastTick] at hl
    | cons y l ih =>
      simp only [lastTick] at hl
      cases h2 : lastTick g.fr l with
      | some s => rw [h2] at hl; simp at hl; subst hl; exact ih (fun m hm => h m (by simp [hm])) h2
      | none =>
        rw [h2] at hl
        by_cases hp : y.point = g.fr
        · simp [hp] at hl; subst hl; exact h y (by simp)
        · simp [hp] at hl
end Go.Proofs.YtkhcepdeppmofaaDoor
