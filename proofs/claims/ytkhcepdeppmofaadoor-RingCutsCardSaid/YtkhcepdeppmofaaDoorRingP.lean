/- Rings: the plain law of appends and cuts: a record is written whole, or not at all. -/
import Derived.Test.YtkhcepdeppmofaaDoorRingM
import Derived.Test.YtkhcepdeppmofaaDoorCells2
namespace Go.Proofs.YtkhcepdeppmofaaDoor
set_option linter.unusedVariables false

theorem wB_get (b : List UInt8) (a : Nat) (l : List UInt8) (j : Nat) (hj : j ≤ l.length) (h : a + j ≤ b.length) (i : Nat) : (wBytes b a l j)[i]? = if i < a then b[i]? else if i < a + j then l[i - a]? else b[i]? := by
  unfold wBytes
  have h1 : (b.take a).length = a := by simp; omega
  have h2 : (l.take j).length = j := by simp; omega
  by_cases hi : i < a
  · rw [if_pos hi, List.append_assoc, List.getElem?_append_left (by omega), List.getElem?_take, if_pos hi]
  · rw [if_neg hi]
    by_cases hi2 : i < a + j
    · rw [if_pos hi2, List.append_assoc, List.getElem?_append_right (by omega), List.getElem?_append_left (by omega), h1, List.getElem?_take, if_pos (by omega)]
    · rw [if_neg hi2, List.getElem?_append_right (by rw [List.length_append]; omega), List.length_append, h1, h2, List.getElem?_drop]
      congr 1; omega
def slotOf (b : List UInt8) (k : Nat) : List UInt8 := (b.drop (k * 17)).take 17
theorem slot_get (b : List UInt8) (k i : Nat) : (slotOf b k)[i]? = if i < 17 then b[k * 17 + i]? else none := by
  unfold slotOf
  rw [List.getElem?_take]
  split
  · rw [List.getElem?_drop]
  · rfl
theorem heldAt_slot (b : List UInt8) (k : Nat) : heldAt b k = heldRec k (slotOf b k) := rfl
theorem slot_other {b : List UInt8} {k k' o j : Nat} {l : List UInt8} (hj : j ≤ l.length) (ho : o + j ≤ 17) (h : k * 17 + o + j ≤ b.length) (hk : k' ≠ k) : slotOf (wBytes b (k * 17 + o) l j) k' = slotOf b k' := by
  apply List.ext_getElem?
  intro i
  rw [slot_get, slot_get]
  by_cases hi : i < 17
  · rw [if_pos hi, if_pos hi, wB_get b _ l j hj h]
    by_cases h1 : k' * 17 + i < k * 17 + o
    · rw [if_pos h1]
    · rw [if_neg h1, if_neg (by omega)]
  · rw [if_neg hi, if_neg hi]
theorem slot_at {b : List UInt8} {k o j : Nat} {l : List UInt8} (hj : j ≤ l.length) (ho : o + j ≤ 17) (h : k * 17 + o + j ≤ b.length) (i : Nat) : (slotOf (wBytes b (k * 17 + o) l j) k)[i]? = if i < o then (slotOf b k)[i]? else if i < o + j then l[i - o]? else (slotOf b k)[i]? := by
  rw [slot_get, slot_get]
  by_cases hi : i < 17
  · rw [if_pos hi, if_pos hi, wB_get b _ l j hj h]
    by_cases h1 : i < o
    · rw [if_pos (by omega), if_pos h1]
    · rw [if_neg (by omega), if_neg h1]
      by_cases h2 : i < o + j
      · rw [if_pos (by omega), if_pos h2]; congr 1; omega
      · rw [if_neg (by omega), if_neg h2]
  · rw [if_neg hi, if_neg hi, if_neg (by omega), if_neg (by omega)]
theorem held_zero {b : List UInt8} {k : Nat} (h : (slotOf b k)[16]? = some 0) : heldAt b k = none := by
  rw [heldAt_slot]
  exact heldRec_last (by rw [h]; decide)

/-- What a log holds: of all records D the last eight, and what there may be in the slot that comes next. -/
structure RInv (b : List UInt8) (D : List RecV) : Prop where
  len : 153 ≤ b.length
  seq : ∀ j (hj : j < D.length), D[j].seq = j + 1 ∧ RecOk D[j]
  old : ∀ k, k < 9 → heldAt b k = none ∨ ∃ j, ∃ hj : j < D.length, heldAt b k = some D[j] ∧ j % 9 = k ∧ D.length ≤ j + 9
  new : ∀ j (hj : j < D.length), D.length ≤ j + 8 → heldAt b (j % 9) = some D[j]
theorem rinv_best {b : List UInt8} {D : List RecV} (h : RInv b D) : bestOf (heldAt b) 9 = D.length := by
  apply Nat.le_antisymm
  · rcases best_in (heldAt b) 9 with h0 | ⟨k, x, h1, h2, h3⟩
    · omega
    · rcases h.old k h1 with h4 | ⟨j, hj, h4, _⟩
      · rw [h4] at h2; cases h2
      · rw [h4] at h2
        obtain rfl := Option.some.inj h2
        have := (h.seq j hj).1
        omega
  · by_cases h0 : D.length = 0
    · omega
    · have h1 := h.new (D.length - 1) (by omega) (by omega)
      have h2 := le_best (heldAt b) (r := 0) h1 9 (Nat.mod_lt _ (by decide))
      have := (h.seq (D.length - 1) (by omega)).1
      omega
theorem rinv_recs {b : List UInt8} {D : List RecV} (h : RInv b D) : recsOf b = D.drop (D.length - 8) := by
  unfold recsOf
  rw [rinv_best h]
  refine runDown_eq (heldAt b) 8 _ _ (by simp; omega) (fun j hj => ?_) ?_
  · simp only [List.length_drop] at hj
    rw [List.getElem_drop]
    have h1 := h.seq (D.length - 8 + j) (by omega)
    have h2 := h.new (D.length - 8 + j) (by omega) (by omega)
    refine ⟨h1.2.s1, ?_, ?_⟩
    · rw [h1.1]
      exact h2
    · rw [h1.1, List.length_drop]; omega
  · rw [List.length_drop]
    by_cases h8 : 8 ≤ D.length
    · left; omega
    · right; left; omega
theorem rinv_touch {b b' : List UInt8} {D : List RecV} (h : RInv b D) (hl : b'.length = b.length) (ho : ∀ k, k < 9 → k ≠ D.length % 9 → heldAt b' k = heldAt b k) (hz : heldAt b' (D.length % 9) = none) : RInv b' D := by
  refine ⟨by rw [hl]; exact h.len, h.seq, fun k hk => ?_, fun j hj h8 => ?_⟩
  · by_cases e : k = D.length % 9
    · subst e; left; exact hz
    · rw [ho k hk e]; exact h.old k hk
  · rw [ho _ (Nat.mod_lt _ (by decide)) (by omega)]; exact h.new j hj h8
theorem rinv_done {b b' : List UInt8} {D : List RecV} {x : RecV} (h : RInv b D) (hl : b'.length = b.length) (ho : ∀ k, k < 9 → k ≠ D.length % 9 → heldAt b' k = heldAt b k) (hz : heldAt b' (D.length % 9) = some x) (hx : x.seq = D.length + 1) (hk : RecOk x) : RInv b' (D ++ [x]) := by
  refine ⟨by rw [hl]; exact h.len, fun j hj => ?_, fun k hk => ?_, fun j hj h8 => ?_⟩
  · rw [List.length_append, List.length_singleton] at hj
    by_cases e : j < D.length
    · rw [List.getElem_append_left e]; exact h.seq j e
    · obtain rfl : j = D.length := by omega
      rw [List.getElem_append_right (Nat.le_refl _)]
      simp [hx, hk]
  · have hLen : (D ++ [x]).length = D.length + 1 := by simp
    by_cases e : k = D.length % 9
    · subst e
      right
      refine ⟨D.length, by simp, ?_, rfl, by omega⟩
      rw [hz, List.getElem_append_right (Nat.le_refl _)]; simp
    · by_cases hlt : k < D.length
      · right
        obtain ⟨j, hj, hjk, hj8⟩ : ∃ j, j < D.length ∧ j % 9 = k ∧ D.length ≤ j + 8 := by
          refine ⟨D.length - 1 - (D.length - 1 + 9 - k) % 9, by omega, by omega, by omega⟩
        refine ⟨j, by simp; omega, ?_, hjk, by omega⟩
        rw [ho k hk e, ← hjk, h.new j hj hj8, List.getElem_append_left hj]
      · left
        rw [ho k hk e]
        rcases h.old k hk with h4 | ⟨j, hj, h4, hjk, hj9⟩
        · exact h4
        · omega
  · rw [List.length_append, List.length_singleton] at hj h8
    by_cases e : j < D.length
    · rw [List.getElem_append_left e, ho _ (Nat.mod_lt _ (by decide)) (by omega)]
      exact h.new j e (by omega)
    · obtain rfl : j = D.length := by omega
      rw [hz, List.getElem_append_right (Nat.le_refl _)]; simp
/-! ### One record written -/
def slotAt (x : RecV) : Nat := (x.seq - 1) % 9 * 17
/-- A record that is written on cells: an error's number, and the cells. -/
def ringPut (m : CM) (x : RecV) : Nat × CM :=
  if lookE m.off m.bs.length (slotAt x + 16 : Nat) 1 = 0 then
    (if m.bs.getD (slotAt x + 16) 0 = 0 then put2 m x else if writeE m.cut 1 = 0 then put2 (writeM m (slotAt x + 16) [0]) x else (writeE m.cut 1, writeM m (slotAt x + 16) [0]))
  else (lookE m.off m.bs.length (slotAt x + 16 : Nat) 1, m)
where
  put2 (m : CM) (x : RecV) : Nat × CM :=
    if writeE m.cut 16 = 0 then (writeE (writeM m (slotAt x) (recBody x)).cut 1, writeM (writeM m (slotAt x) (recBody x)) (slotAt x + 16) [165]) else (writeE m.cut 16, writeM m (slotAt x) (recBody x))

theorem writeN_bd (cut : Int) (n : Nat) : writeN cut n ≤ n := by unfold writeN; split; exact Nat.le_refl _; exact Nat.min_le_right _ _
theorem writeE_zero {cut : Int} {n : Nat} (h : writeE cut n = 0) : writeN cut n = n := by
  unfold writeE at h
  have := writeN_bd cut n
  by_cases e : writeN cut n < n
  · rw [if_pos e] at h; cases h
  · omega
theorem writeE_else {cut : Int} {n : Nat} (h : ¬ writeE cut n = 0) : writeE cut n = 8 ∧ writeN cut n < n := by
  unfold writeE at h ⊢
  by_cases e : writeN cut n < n
  · rw [if_pos e]; exact ⟨rfl, e⟩
  · rw [if_neg e] at h; exact absurd rfl h
theorem cutAt_ge {cut : Int} {n : Nat} (h : -1 ≤ cut) : -1 ≤ cutAt cut (writeN cut n) := by
  unfold cutAt writeN
  by_cases e : cut = -1
  · rw [if_pos e]; omega
  · rw [if_neg e, if_neg e]
    have : min cut.toNat n ≤ cut.toNat := Nat.min_le_left _ _
    omega
/-- Behind a write within slot k. -/
structure WrS (m m' : CM) (k : Nat) : Prop where
  len : m'.bs.length = m.bs.length
  oth : ∀ k', k' ≠ k → slotOf m'.bs k' = slotOf m.bs k'
  cut : -1 ≤ m'.cut
theorem WrS.trans {a b c : CM} {k : Nat} (h : WrS a b k) (g : WrS b c k) : WrS a c k := ⟨g.len.trans h.len, fun k' hk => (g.oth k' hk).trans (h.oth k' hk), g.cut⟩
theorem writeM_in {m : CM} {k o : Nat} {l : List UInt8} (ho : o + l.length ≤ 17) (h : k * 17 + o + l.length ≤ m.bs.length) (hc : -1 ≤ m.cut) :
    WrS m (writeM m (k * 17 + o) l) k ∧ (∀ i, (slotOf (writeM m (k * 17 + o) l).bs k)[i]? = if i < o then (slotOf m.bs k)[i]? else if i < o + writeN m.cut l.length then l[i - o]? else (slotOf m.bs k)[i]?) ∧
    (writeM m (k * 17 + o) l).off = decide (writeN m.cut l.length < l.length) := by
  have hj := writeN_bd m.cut l.length
  refine ⟨⟨?_, fun k' hk' => slot_other hj (by omega) (by omega) hk', cutAt_ge hc⟩, fun i => slot_at hj (by omega) (by omega) i, rfl⟩
  exact wBytes_length m.bs _ l _ hj (by omega)
theorem list17 {l : List UInt8} {a : List UInt8} {z : UInt8} (ha : a.length = 16) (h : ∀ i, i < 16 → l[i]? = a[i]?) (h16 : l[16]? = some z) (hl : l.length ≤ 17) : l = a ++ [z] := by
  apply List.ext_getElem?
  intro i
  by_cases h1 : i < 16
  · rw [h i h1, List.getElem?_append_left (by omega)]
  · by_cases h2 : i = 16
    · subst h2
      rw [h16, List.getElem?_append_right (by omega), ha]; rfl
    · rw [List.getElem?_eq_none (by omega), List.getElem?_eq_none (by simp; omega)]
/-- What one write of a record leaves: the record whole, or not at all. -/
theorem put2_step {m : CM} {x : RecV} {k : Nat} (hk : (x.seq - 1) % 9 = k) (hx : RecOk x) (hl : 153 ≤ m.bs.length) (hc : -1 ≤ m.cut) (hz : (slotOf m.bs k)[16]? = some 0) (hoff : m.off = false) :
    WrS m (ringPut.put2 m x).2 k ∧ (((ringPut.put2 m x).1 = 0 ∧ (ringPut.put2 m x).2.off = false ∧ heldAt (ringPut.put2 m x).2.bs k = some x) ∨
      ((ringPut.put2 m x).1 = 8 ∧ (ringPut.put2 m x).2.off = true ∧ heldAt (ringPut.put2 m x).2.bs k = none)) := by
  have hk9 : k < 9 := by omega
  have hbl := recBody_length x
  obtain ⟨w1, s1, o1⟩ := writeM_in (m := m) (k := k) (o := 0) (l := recBody x) (by omega) (by omega) hc
  unfold ringPut.put2
  rw [show slotAt x = k * 17 + 0 by unfold slotAt; omega]
  rw [hbl] at s1 o1
  have z1 : (slotOf (writeM m (k * 17 + 0) (recBody x)).bs k)[16]? = some 0 := by
    have := writeN_bd m.cut 16
    rw [s1 16, if_neg (by omega), if_neg (by omega)]; exact hz
  by_cases h1 : writeE m.cut 16 = 0
  · rw [if_pos h1]
    have n1 := writeE_zero h1
    obtain ⟨m1, hm1⟩ : ∃ m1, m1 = writeM m (k * 17 + 0) (recBody x) := ⟨_, rfl⟩
    rw [← hm1] at w1 s1 o1 z1 ⊢
    obtain ⟨w2, s2, o2⟩ := writeM_in (m := m1) (k := k) (o := 16) (l := [165]) (by simp) (by simp; have := w1.len; omega) w1.cut
    rw [Nat.add_zero]
    refine ⟨w1.trans w2, ?_⟩
    by_cases h2 : writeE m1.cut 1 = 0
    · have n2 := writeE_zero h2
      left
      refine ⟨h2, ?_, ?_⟩
      · rw [o2]; simp [n2]
      · rw [heldAt_slot]
        have e : slotOf (writeM m1 (k * 17 + 16) [165]).bs k = recBody x ++ [165] := by
          refine list17 hbl (fun i hi => ?_) ?_ ?_
          · rw [s2 i, if_pos hi, s1 i, if_neg (by omega), n1, if_pos (by omega), Nat.sub_zero]
          · rw [s2 16, if_neg (by omega)]
            simp [n2]
          · simp [slotOf]; omega
        rw [e]
        exact heldRec_body x hx k hk
    · obtain ⟨e8, n2⟩ := writeE_else h2
      right
      refine ⟨e8, ?_, ?_⟩
      · rw [o2]; simp; omega
      · apply held_zero
        rw [s2 16, if_neg (by omega), if_neg (by simp; omega)]; exact z1
  · rw [if_neg h1]
    obtain ⟨e8, n1⟩ := writeE_else h1
    refine ⟨w1, .inr ⟨e8, ?_, held_zero z1⟩⟩
    rw [o1]; simp; omega
theorem put_step {m : CM} {x : RecV} {D : List RecV} (h : RInv m.bs D) (hc : -1 ≤ m.cut) (hoff : m.off = false) (hs : x.seq = D.length + 1) (hx : RecOk x) :
    -1 ≤ (ringPut m x).2.cut ∧ (ringPut m x).2.bs.length = m.bs.length ∧ (((ringPut m x).1 = 0 ∧ (ringPut m x).2.off = false ∧ RInv (ringPut m x).2.bs (D ++ [x])) ∨ ((ringPut m x).1 = 8 ∧ (ringPut m x).2.off = true ∧ RInv (ringPut m x).2.bs D)) := by
  obtain ⟨k, hk⟩ : ∃ k, (x.seq - 1) % 9 = k := ⟨_, rfl⟩
  have hkD : k = D.length % 9 := by rw [← hk, hs]; rfl
  have hk9 : k < 9 := by omega
  have hl := h.len
  have hsl : slotAt x = k * 17 := by unfold slotAt; rw [hk]
  unfold ringPut
  rw [hsl, hoff, if_pos (lookE_in (by omega))]
  have fin : ∀ {m' : CM} {p : Nat × CM}, WrS m m' k → WrS m' p.2 k → ((p.1 = 0 ∧ p.2.off = false ∧ heldAt p.2.bs k = some x) ∨ (p.1 = 8 ∧ p.2.off = true ∧ heldAt p.2.bs k = none)) →
      -1 ≤ p.2.cut ∧ p.2.bs.length = m.bs.length ∧ ((p.1 = 0 ∧ p.2.off = false ∧ RInv p.2.bs (D ++ [x])) ∨ (p.1 = 8 ∧ p.2.off = true ∧ RInv p.2.bs D)) := by
    intro m' p a b hr
    have ab := a.trans b
    have ho : ∀ k', k' < 9 → k' ≠ D.length % 9 → heldAt p.2.bs k' = heldAt m.bs k' := fun k' _ hk' => by
      rw [heldAt_slot, heldAt_slot, ab.oth k' (by omega)]
    refine ⟨ab.cut, ab.len, ?_⟩
    rcases hr with ⟨r1, r2, r3⟩ | ⟨r1, r2, r3⟩
    · left; exact ⟨r1, r2, rinv_done h ab.len ho (by rw [← hkD]; exact r3) hs hx⟩
    · right; exact ⟨r1, r2, rinv_touch h ab.len ho (by rw [← hkD]; exact r3)⟩
  have self : WrS m m k := ⟨rfl, fun _ _ => rfl, hc⟩
  have hget : (slotOf m.bs k)[16]? = m.bs[k * 17 + 16]? := by rw [slot_get, if_pos (by omega)]
  have hlt : k * 17 + 16 < m.bs.length := by omega
  by_cases h0 : m.bs.getD (k * 17 + 16) 0 = 0
  · rw [if_pos h0]
    rw [List.getD_eq_getElem?_getD, List.getElem?_eq_getElem hlt] at h0
    have hz : (slotOf m.bs k)[16]? = some 0 := by rw [hget, List.getElem?_eq_getElem hlt]; congr 1
    obtain ⟨a, b⟩ := put2_step hk hx hl hc hz hoff
    exact fin self a b
  · rw [if_neg h0]
    obtain ⟨w1, s1, o1⟩ := writeM_in (m := m) (k := k) (o := 16) (l := [0]) (by simp) (by simp; omega) hc
    simp only [List.length_singleton] at s1 o1
    by_cases h1 : writeE m.cut 1 = 0
    · rw [if_pos h1]
      have n1 := writeE_zero h1
      have hz : (slotOf (writeM m (k * 17 + 16) [0]).bs k)[16]? = some 0 := by
        rw [s1 16, if_neg (by omega), if_pos (by omega)]; rfl
      have hoff1 : (writeM m (k * 17 + 16) [0]).off = false := by rw [o1]; simp [n1]
      obtain ⟨a, b⟩ := put2_step hk hx (by rw [w1.len]; exact hl) w1.cut hz hoff1
      exact fin w1 a b
    · rw [if_neg h1]
      obtain ⟨e8, n1⟩ := writeE_else h1
      -- nothing was written
      have hn : writeN m.cut 1 = 0 := by omega
      refine ⟨w1.cut, w1.len, .inr ⟨e8, ?_, ?_⟩⟩
      · show (writeM m (k * 17 + 16) [0]).off = true
        rw [o1]; simp; omega
      · show RInv (wBytes m.bs (k * 17 + 16) [0] (writeN m.cut [0].length)) D
        rw [show writeN m.cut ([0] : List UInt8).length = 0 from hn, wBytes_zero]
        exact h
/-- Fresh cells hold nothing. -/
theorem rinv_zero (n : Nat) (h : 153 ≤ n) : RInv (List.replicate n 0) [] := by
  refine ⟨by simpa using h, fun j hj => by simp at hj, fun k hk => .inl (held_zero ?_), fun j hj => by simp at hj⟩
  rw [slot_get, if_pos (by omega), List.getElem?_replicate, if_pos (by omega)]
end Go.Proofs.YtkhcepdeppmofaaDoor
