/- Package ring: Open, part 1: what is held, sorted, as one's own row. -/
import Derived.Test.YtkhcepdeppmofaaDoorRingH
import Derived.Test.YtkhcepdeppmofaaDoorRingF
namespace Go.Proofs.YtkhcepdeppmofaaDoor
open Go.RowKit
set_option linter.unusedVariables false

def openL (b : List UInt8) (k : Nat) : List RecV := (List.range k).filterMap (heldAt b)
theorem openL_zero (b : List UInt8) : openL b 0 = [] := rfl
theorem openL_some {b : List UInt8} {k : Nat} {r : RecV} (h : heldAt b k = some r) : openL b (k + 1) = openL b k ++ [r] := by
  unfold openL; rw [List.range_succ, List.filterMap_append]; simp [h]
theorem openL_none {b : List UInt8} {k : Nat} (h : heldAt b k = none) : openL b (k + 1) = openL b k := by
  unfold openL; rw [List.range_succ, List.filterMap_append]; simp [h]
theorem openL_len (b : List UInt8) (k : Nat) : (openL b k).length ≤ k := by
  unfold openL; exact Nat.le_trans (List.length_filterMap_le _ _) (by simp)
theorem openL_mem {b : List UInt8} {k : Nat} {r : RecV} : r ∈ openL b k ↔ ∃ i, i < k ∧ heldAt b i = some r := by
  unfold openL; simp [List.mem_filterMap]
/-- What is held in the slots has different numbers. -/
theorem openL_nodup (b : List UInt8) : ∀ k, k ≤ 9 → ((openL b k).map (·.seq)).Nodup
  | 0, _ => by simp [openL_zero]
  | k + 1, hk => by
    have ih := openL_nodup b k (by omega)
    cases h : heldAt b k with
    | none => rw [openL_none h]; exact ih
    | some r =>
      rw [openL_some h, List.map_append, List.nodup_append]
      refine ⟨ih, by simp, ?_⟩
      intro a ha c hc
      simp at hc
      subst hc
      obtain ⟨x, hx, rfl⟩ := List.mem_map.1 ha
      obtain ⟨i, hi, hxi⟩ := openL_mem.1 hx
      have h1 := (heldAt_ok b) i x hxi
      have h2 := (heldAt_ok b) k r h
      intro e
      rw [e] at h1
      omega

theorem rowAt_owns {w : World} {base : Nat} {e : TypeId} {g cap : Nat} {l : List RecV} (h : w.ownsRow base e 4 (.slice (some ⟨g, 0, none⟩) l.length cap) l.length (l.flatMap recCells)) (h0 : 0 < l.length) :
    RowAt w g l ∧ base ≤ g ∧ l.length ≤ cap ∧ cap ≤ maxLen := by
  obtain ⟨b, off, ha, hR, hb, hc⟩ := rec_cells (slOf_owns h) h0
  obtain ⟨_, hv⟩ := h
  rcases hv with ⟨h1, h2⟩ | ⟨g', cap', cur, hv, hb', hg, h1, h2, h3, h4⟩
  · omega
  · injection hv with e1 e2 e3
    obtain ⟨rfl, rfl, _⟩ := Option.some.inj ha
    injection e1 with e1
    injection e1 with e4
    subst e4; subst e3
    refine ⟨⟨cur, e, hg, by rw [h3]; exact Nat.mul_le_mul_right _ h1, fun k hk => ?_⟩, hb', h1, h2⟩
    have := hc k hk
    simpa [World.cell?, hg] using this
theorem slOf_rowAt {w : World} {base g cap : Nat} {l : List RecV} (h : RowAt w g l) (hb : base ≤ g) (h1 : l.length ≤ cap) (h2 : cap ≤ maxLen) : SlOf (fun b => base ≤ b) w (.slice (some ⟨g, 0, none⟩) l.length cap) 4 (l.flatMap recCells) l.length := by
  have hc := h.cells
  obtain ⟨C, t, hg, _⟩ := h
  refine ⟨flat_recs l, _, _, rfl, h1, h2, (fun h => by cases h), fun hp => ⟨g, 0, rfl, hb, lt_of_get hg, fun k u hu => ?_⟩⟩
  have hk : k < l.length * 4 := by rw [← flat_recs]; exact (List.getElem?_eq_some_iff.1 hu).1
  have hk4 : k / 4 < l.length := by omega
  have e : k = k / 4 * 4 + k % 4 := by omega
  have hf := flat_get recCells 4 recCells_len l (k / 4) hk4 (k % 4) (Nat.mod_lt _ (by decide))
  rw [← e, hu] at hf
  obtain ⟨c0, c1, c2, c3⟩ := hc (k / 4) hk4
  rw [getD_at hk4] at c0 c1 c2 c3
  rw [Nat.zero_add]
  generalize hq : k / 4 = q at *
  have h4 : k % 4 = 0 ∨ k % 4 = 1 ∨ k % 4 = 2 ∨ k % 4 = 3 := by omega
  rcases h4 with h4 | h4 | h4 | h4 <;> rw [h4] at e hf <;> rw [e] <;> simp [recCells] at hf <;> rw [hf] <;> assumption

theorem sortedTo_pairwise {l : List RecV} (h : SortedTo l l.length) (hn : (l.map (·.seq)).Nodup) : l.Pairwise (fun a b => a.seq < b.seq) := by
  rw [List.pairwise_iff_getElem]
  intro i j hi hj hij
  have h1 := h i j hij hj
  rw [sq_at hi, sq_at hj] at h1
  have h2 : l[i].seq ≠ l[j].seq := by
    have := (List.nodup_iff_pairwise_ne.1 hn)
    rw [List.pairwise_iff_getElem] at this
    have := this i j (by simpa using hi) (by simpa using hj) hij
    simpa using this
  omega
/-- What ring.Open sorts. -/
structure Sorted9 (b : List UInt8) (l : List RecV) : Prop where
  perm : l.Perm (openL b 9)
  up : l.Pairwise (fun a b => a.seq < b.seq)
theorem Sorted9.len {b : List UInt8} {l : List RecV} (h : Sorted9 b l) : l.length ≤ 9 := by rw [h.perm.length_eq]; exact openL_len b 9
/-- Where the loop from the last one down stands. -/
structure Run9 (l : List RecV) (i : Nat) : Prop where
  i1 : i ≤ l.length - 1
  i8 : l.length - i ≤ 8
  run : ∀ j, i ≤ j → j < l.length → sq l j + (l.length - 1 - j) = sq l (l.length - 1)
theorem Run9.start {b : List UInt8} {l : List RecV} (h : Sorted9 b l) : Run9 l (l.length - 1) :=
  ⟨Nat.le_refl _, by have := h.len; omega, fun j h1 h2 => by
    have : j = l.length - 1 := by omega
    subst this
    omega⟩
theorem Run9.step {l : List RecV} {i : Nat} (h : Run9 l (i + 1)) (h8 : l.length - (i + 1) < 8) (he : sq l i + 1 = sq l (i + 1)) : Run9 l i := by
  have hi := h.i1
  refine ⟨by omega, by omega, fun j h1 h2 => ?_⟩
  by_cases e : j = i
  · subst e
    have := h.run (j + 1) (Nat.le_refl _) (by omega)
    omega
  · exact h.run j (by omega) h2
theorem run9_recs {b : List UInt8} {l : List RecV} {i : Nat} (h : Sorted9 b l) (hr : Run9 l i) (hs : i = 0 ∨ 8 ≤ l.length - i ∨ ∃ I, i = I + 1 ∧ sq l I + 1 ≠ sq l (I + 1)) : recsOf b = l.drop i := by
  have hN : ∀ k, k < 9 → heldAt b k = (fun k => if k < 9 then heldAt b k else none) k := fun k hk => by simp [hk]
  have hmem : ∀ r, r ∈ l ↔ ∃ k, (fun k => if k < 9 then heldAt b k else none) k = some r := fun r => by
    rw [h.perm.mem_iff, openL_mem]
    constructor
    · rintro ⟨i, hi, hh⟩; exact ⟨i, by simp [hi, hh]⟩
    · rintro ⟨i, hh⟩
      by_cases hi : i < 9
      · exact ⟨i, hi, by simpa [hi] using hh⟩
      · simp [hi] at hh
  have hlast : (l.getLast?.map (·.seq)).getD 0 = if l = [] then 0 else sq l (l.length - 1) := by
    by_cases e : l = []
    · subst e; simp
    · rw [if_neg e]
      have h0 : 0 < l.length := List.length_pos_iff.2 e
      rw [List.getLast?_eq_getElem?, List.getElem?_eq_getElem (by omega), sq_at (by omega)]; rfl
  have hi := hr.i1
  have hok : HOk (fun k => if k < 9 then heldAt b k else none) := fun k r hh => by
    by_cases hk : k < 9
    · simp [hk] at hh; exact heldAt_ok b k r hh
    · simp [hk] at hh
  have := recs_sorted (fun k => if k < 9 then heldAt b k else none) hok (fun k hk => by simp; omega) l hmem h.up i (by omega) hr.i8
    (fun j h1 h2 => by
      have e : l ≠ [] := fun e => by rw [e] at h2; simp at h2
      rw [hlast, if_neg e, ← sq_at h2]; exact hr.run j h1 h2)
    (fun e => by have h0 : 0 < l.length := List.length_pos_iff.2 e; omega)
    (by
      rcases hs with h | h | ⟨I, rfl, h⟩
      · exact .inl h
      · exact .inr (.inl (by have := hr.i8; omega))
      · by_cases e : l.length = 0
        · omega
        · exact .inr (.inr ⟨by omega, by omega, by omega, by
            have h1 : I < l.length := by omega
            have h2 : I + 1 < l.length := by omega
            rw [sq_at h1, sq_at h2] at h
            exact h⟩))
  rw [← this]
  unfold recsOf
  have e1 : bestOf (heldAt b) 9 = bestOf (fun k => if k < 9 then heldAt b k else none) 9 := by
    simp [bestOf, seqAt]
  rw [e1]
  have e2 : ∀ f s, runDown (heldAt b) f s = runDown (fun k => if k < 9 then heldAt b k else none) f s := by
    intro f
    induction f with
    | zero => intro s; cases s <;> rfl
    | succ f ih =>
      intro s
      cases s with
      | zero => rfl
      | succ s =>
        unfold runDown
        have : s % 9 < 9 := Nat.mod_lt _ (by decide)
        simp only [this, if_true, ih]
  exact e2 _ _
end Go.Proofs.YtkhcepdeppmofaaDoor
