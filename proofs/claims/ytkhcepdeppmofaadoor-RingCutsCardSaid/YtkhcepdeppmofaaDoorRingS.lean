/- Rings, plain: appends one after another; a byte turned. -/
import Derived.Test.YtkhcepdeppmofaaDoorRingF
namespace Go.Proofs.YtkhcepdeppmofaaDoor
open Go.RowKit
set_option linter.unusedVariables false

theorem writeM_uncut {m : CM} (a : Nat) (l : List UInt8) (h : m.cut = -1) : (writeM m a l).cut = -1 ∧ (writeM m a l).off = false ∧ writeE m.cut l.length = 0 := by
  have hn : writeN m.cut l.length = l.length := by unfold writeN; rw [if_pos h]
  refine ⟨?_, ?_, ?_⟩
  · show cutAt m.cut _ = -1
    unfold cutAt; rw [if_pos h]
  · show decide (writeN m.cut l.length < l.length) = false
    rw [hn]; simp
  · unfold writeE; rw [hn]; simp
theorem put2_uncut {m : CM} (x : RecV) (h : m.cut = -1) : (ringPut.put2 m x).1 = 0 ∧ (ringPut.put2 m x).2.cut = -1 := by
  have h1 := writeM_uncut (slotAt x) (recBody x) h
  have h2 := writeM_uncut (slotAt x + 16) [165] h1.1
  rw [recBody_length] at h1
  unfold ringPut.put2
  rw [if_pos h1.2.2]
  exact ⟨h2.2.2, h2.1⟩
theorem put_uncut {m : CM} (x : RecV) (h : m.cut = -1) (ho : m.off = false) (hl : 153 ≤ m.bs.length) : (ringPut m x).1 = 0 ∧ (ringPut m x).2.cut = -1 := by
  have hs : slotAt x + 17 ≤ 153 := by unfold slotAt; omega
  have h1 := writeM_uncut (slotAt x + 16) [0] h
  have e1 : writeE m.cut 1 = 0 := h1.2.2
  unfold ringPut
  rw [ho, if_pos (lookE_in (by omega))]
  split
  · exact put2_uncut x h
  · exact put2_uncut x h1.1
theorem put2_ok {m : CM} {k : Int} (x : RecV) (h : CMOk m k) : CMOk (ringPut.put2 m x).2 (k + 17) := by
  have h1 := h.write (slotAt x) (recBody x)
  have h2 := h1.write (slotAt x + 16) [165]
  rw [recBody_length] at h1 h2
  unfold ringPut.put2
  split
  · exact h2.mono (by simp; omega)
  · exact h1.mono (by omega)
theorem put_ok {m : CM} {k : Int} (x : RecV) (h : CMOk m k) : CMOk (ringPut m x).2 (k + 18) := by
  have h1 := h.write (slotAt x + 16) [0]
  unfold ringPut
  split
  · split
    · exact (put2_ok x h).mono (by omega)
    · split
      · exact (put2_ok x h1).mono (by rw [List.length_singleton]; omega)
      · exact h1.mono (by rw [List.length_singleton]; omega)
  · exact h.mono (by omega)

/-- The last eight. -/
def lastR (D : List RecV) : List RecV := D.drop (D.length - 8)
theorem lastR_len (D : List RecV) : (lastR D).length = min D.length 8 := by unfold lastR; simp; omega
theorem lastR_snoc (D : List RecV) (x : RecV) : (lastR D ++ [x]).drop ((lastR D).length + 1 - 8) = lastR (D ++ [x]) := by
  rw [lastR_len]
  unfold lastR
  rw [List.length_append, List.length_singleton]
  by_cases h : D.length ≤ 7
  · rw [show D.length - 8 = 0 by omega, List.drop_zero, show min D.length 8 + 1 - 8 = 0 by omega, show D.length + 1 - 8 = 0 by omega]
  · rw [show min D.length 8 + 1 - 8 = 1 by omega, ← List.drop_append_of_le_length (by omega), List.drop_drop]
    congr 1
    omega
theorem lastZ_lastR {D : List RecV} (h : ∀ j (hj : j < D.length), D[j].seq = j + 1) : (lastZ (lastR D)).seq = D.length := by
  unfold lastZ
  rw [List.getLast?_eq_getElem?]
  rcases Nat.eq_zero_or_pos D.length with h0 | h0
  · have : D = [] := List.eq_nil_of_length_eq_zero h0
    subst this
    rfl
  · rw [lastR_len]
    unfold lastR
    rw [List.getElem?_drop, show D.length - 8 + (min D.length 8 - 1) = D.length - 1 by omega, List.getElem?_eq_getElem (by omega)]
    show (D[D.length - 1]).seq = D.length
    rw [h]; omega
/-- A log whose bytes hold D, its power as may be. -/
structure Log (m : CM) (D : List RecV) (k : Int) : Prop where
  inv : RInv m.bs D
  ok : CMOk m k
  on : m.off = false
  dn : D.length ≤ 1000
def nextRec (D : List RecV) (e k t : Int) : RecV := ⟨D.length + 1, e.toNat, k.toNat, t.toNat⟩
theorem recNew_lastR {D : List RecV} (h : ∀ j (hj : j < D.length), D[j].seq = j + 1) (e k t : Int) : recNew (lastR D) e k t = nextRec D e k t := by
  unfold recNew nextRec
  rw [lastZ_lastR h]
theorem appOk_rec {D : List RecV} {e k t : Int} (h : appOk e k t = true) (hn : D.length ≤ 1000) : RecOk (nextRec D e k t) := by
  have := of_decide_eq_true h
  exact ⟨by show 1 ≤ D.length + 1; omega, by show D.length + 1 < _; omega, by show e.toNat < _; omega, by show k.toNat < _; omega, by show t.toNat < _; omega⟩
/-- One append of a living ring: done, or cut. -/
theorem log_app {m : CM} {D : List RecV} {kk : Int} (h : Log m D kk) {e k t : Int} (hok : appOk e k t = true) :
    ∃ m', CMOk m' (kk + 18) ∧ ((ringApp m (lastR D) false e k t = (0, nextRec D e k t, m', lastR (D ++ [nextRec D e k t]), false) ∧ m'.off = false ∧ RInv m'.bs (D ++ [nextRec D e k t])) ∨
      (ringApp m (lastR D) false e k t = (8, ⟨0, 0, 0, 0⟩, m', lastR D, true) ∧ m'.off = true ∧ RInv m'.bs D)) ∧ (m.cut = -1 → (ringApp m (lastR D) false e k t).1 = 0 ∧ m'.cut = -1) := by
  have hs := fun j hj => (h.inv.seq j hj).1
  have hz := lastZ_lastR hs
  have hr := recNew_lastR hs e k t
  have hx := appOk_rec hok h.dn
  have hp := put_step h.inv h.ok.c0 h.on (rfl : (nextRec D e k t).seq = D.length + 1) hx
  have hu := fun hc => put_uncut (nextRec D e k t) hc h.on h.inv.len
  have hdn := h.dn
  have ho := put_ok (nextRec D e k t) h.ok
  unfold ringApp
  rw [if_neg (by decide), hok, if_neg (by decide), if_neg (by rw [hz]; omega), hr, lastR_snoc]
  obtain ⟨_, _, h1 | h1⟩ := hp
  · refine ⟨_, ho, .inl ⟨by rw [if_pos h1.1], h1.2.1, h1.2.2⟩, fun hc => ?_⟩
    rw [if_pos h1.1]
    exact ⟨rfl, (hu hc).2⟩
  · refine ⟨_, ho, .inr ⟨by rw [if_neg (by omega), h1.1], h1.2.1, h1.2.2⟩, fun hc => ?_⟩
    have := (hu hc).1
    omega
theorem log_on {m : CM} {D : List RecV} {kk : Int} (h : Log m D kk) {e k t : Int} (hok : appOk e k t = true) (hc : m.cut = -1) (hd : D.length < 1000) :
    ∃ m', ringApp m (lastR D) false e k t = (0, nextRec D e k t, m', lastR (D ++ [nextRec D e k t]), false) ∧ Log m' (D ++ [nextRec D e k t]) (kk + 18) ∧ m'.cut = -1 := by
  obtain ⟨m', h1, h2, h3⟩ := log_app h hok
  obtain ⟨h4, h5⟩ := h3 hc
  rcases h2 with h2 | h2
  · exact ⟨m', h2.1, ⟨h2.2.2, h1, h2.2.1, by simp; omega⟩, h5⟩
  · rw [h2.1] at h4; cases h4
theorem log_zero (n : Nat) (h : 153 ≤ n) : Log ⟨List.replicate n 0, false, -1, 0⟩ [] 0 :=
  ⟨rinv_zero n h, ⟨by simp, by simp, by simp, by simp⟩, rfl, by simp⟩
theorem recs_zero (n : Nat) (h : 153 ≤ n) : recsOf (List.replicate n 0) = [] := by
  rw [rinv_recs (rinv_zero n h)]; rfl

/-! ### A byte turned -/
theorem slotOf_set_at (b : List UInt8) (k a : Nat) (x : UInt8) (ha : a < 17) : slotOf (b.set (k * 17 + a) x) k = (slotOf b k).set a x := by
  apply List.ext_getElem?
  intro i
  rw [slot_get, List.getElem?_set, List.getElem?_set, slot_get]
  by_cases h : i < 17
  · rw [if_pos h, if_pos h]
    by_cases e : a = i
    · subst e
      rw [if_pos rfl, if_pos rfl]
      have : (slotOf b k).length = min 17 (b.length - k * 17) := by unfold slotOf; simp
      rw [this]
      by_cases hl : k * 17 + a < b.length
      · rw [if_pos hl, if_pos (by omega)]
      · rw [if_neg hl, if_neg (by omega)]
    · rw [if_neg (by omega), if_neg e]
  · rw [if_neg h, if_neg h, if_neg (by omega)]
theorem slotOf_set_ne (b : List UInt8) (k k' a : Nat) (x : UInt8) (ha : a < 17) (h : k' ≠ k) : slotOf (b.set (k * 17 + a) x) k' = slotOf b k' := by
  apply List.ext_getElem?
  intro i
  rw [slot_get, slot_get, List.getElem?_set]
  by_cases hi : i < 17
  · rw [if_pos hi, if_pos hi, if_neg (by omega)]
  · rw [if_neg hi, if_neg hi]
/-- The slot of a record that is turned holds none; the others hold what they did. -/
theorem turned_held {b : List UInt8} {D : List RecV} (h : RInv b D) {j a : Nat} {x : UInt8} (hj : j < D.length) (h8 : D.length ≤ j + 8) (ha : a < 17) (hx : b[j % 9 * 17 + a]? ≠ some x) :
    heldAt (b.set (j % 9 * 17 + a) x) (j % 9) = none ∧ ∀ k, k ≠ j % 9 → heldAt (b.set (j % 9 * 17 + a) x) k = heldAt b k := by
  constructor
  · rw [heldAt_slot, slotOf_set_at _ _ _ _ ha]
    have hn := h.new j hj h8
    rw [heldAt_slot] at hn
    exact held_turned hn a x ha (by rw [slot_get, if_pos ha]; exact hx)
  · intro k hk
    rw [heldAt_slot, slotOf_set_ne _ _ _ _ _ ha hk, heldAt_slot]
theorem best_ub (H : Nat → Option RecV) (s : Nat) (h : ∀ k r, k < 9 → H k = some r → r.seq ≤ s) : bestOf H 9 ≤ s := by
  rcases best_in H 9 with h0 | ⟨k, x, h1, h2, h3⟩
  · omega
  · have := h k x h1 h2; omega
theorem turned_recs {b : List UInt8} {D : List RecV} (h : RInv b D) {n a : Nat} {x : UInt8} (hn : n < D.length) (h8 : n < 8) (h0 : 0 < n) (ha : a < 17) (hx : b[(D.length - n - 1) % 9 * 17 + a]? ≠ some x) :
    recsOf (b.set ((D.length - n - 1) % 9 * 17 + a) x) = D.drop (D.length - n) := by
  obtain ⟨t1, t2⟩ := turned_held h (j := D.length - n - 1) (by omega) (by omega) ha hx
  have hb : bestOf (heldAt (b.set ((D.length - n - 1) % 9 * 17 + a) x)) 9 = D.length := by
    apply Nat.le_antisymm
    · apply best_ub
      intro k r hk hr
      by_cases e : k = (D.length - n - 1) % 9
      · rw [e, t1] at hr; cases hr
      · rw [t2 k e] at hr
        rcases h.old k hk with h4 | ⟨j, hj, h4, _⟩
        · rw [h4] at hr; cases hr
        · rw [h4] at hr
          have := Option.some.inj hr
          rw [← this, (h.seq j hj).1]; omega
    · have hl := h.new (D.length - 1) (by omega) (by omega)
      rw [← t2 _ (by omega)] at hl
      have := le_best _ (r := 0) hl 9 (by omega)
      rw [(h.seq (D.length - 1) (by omega)).1] at this
      omega
  unfold recsOf
  rw [hb]
  refine runDown_eq _ 8 _ _ (by simp; omega) (fun j hj => ?_) ?_
  · simp only [List.length_drop] at hj
    rw [List.getElem_drop, List.length_drop]
    have hjn := h.new (D.length - n + j) (by omega) (by omega)
    obtain ⟨s1, s2⟩ := h.seq (D.length - n + j) (by omega)
    refine ⟨s2.s1, ?_, by rw [s1]; omega⟩
    rw [s1, Nat.add_sub_cancel, t2 _ (by omega)]
    exact hjn
  · rw [List.length_drop]
    right; right
    refine ⟨by omega, fun r hr => ?_⟩
    rw [show D.length - (D.length - (D.length - n)) - 1 = D.length - n - 1 by omega, t1] at hr
    cases hr
theorem runDown_hit {H : Nat → Option RecV} {f s : Nat} {r : RecV} (h : H (s % 9) = some r) (hs : r.seq = s + 1) : runDown H (f + 1) (s + 1) = runDown H f s ++ [r] := by
  conv => lhs; unfold runDown
  rw [h]
  simp only
  rw [if_pos hs]
theorem turned_last {b : List UInt8} {D : List RecV} (h : RInv b D) {a : Nat} {x : UInt8} (hn : 0 < D.length) (ha : a < 17) (hx : b[(D.length - 1) % 9 * 17 + a]? ≠ some x) :
    (recsOf (b.set ((D.length - 1) % 9 * 17 + a) x)).isEmpty = decide (D.length = 1) ∧ (1 < D.length → (lastZ (recsOf (b.set ((D.length - 1) % 9 * 17 + a) x))).seq = D.length - 1) := by
  obtain ⟨t1, t2⟩ := turned_held h (j := D.length - 1) (by omega) (by omega) ha hx
  have hub : bestOf (heldAt (b.set ((D.length - 1) % 9 * 17 + a) x)) 9 ≤ D.length - 1 := by
    apply best_ub
    intro k r hk hr
    by_cases e : k = (D.length - 1) % 9
    · rw [e, t1] at hr; cases hr
    · rw [t2 k e] at hr
      rcases h.old k hk with h4 | ⟨j, hj, h4, h5, _⟩
      · rw [h4] at hr; cases hr
      · rw [h4] at hr
        have := Option.some.inj hr
        rw [← this, (h.seq j hj).1]
        by_cases e2 : j = D.length - 1
        · subst e2; exact absurd h5.symm e
        · omega
  by_cases h1 : D.length = 1
  · have hb : bestOf (heldAt (b.set ((D.length - 1) % 9 * 17 + a) x)) 9 = 0 := by omega
    unfold recsOf
    rw [hb, decide_eq_true h1]
    exact ⟨rfl, fun h => by omega⟩
  · have h2 : D.length - 2 < D.length := by omega
    have hl := h.new (D.length - 2) h2 (by omega)
    rw [← t2 _ (by omega)] at hl
    have hs2 := (h.seq (D.length - 2) h2).1
    generalize D[D.length - 2] = y at hl hs2
    have hge := le_best _ (r := 0) hl 9 (by omega)
    rw [hs2] at hge
    have hb : bestOf (heldAt (b.set ((D.length - 1) % 9 * 17 + a) x)) 9 = (D.length - 2) + 1 := by omega
    generalize b.set ((D.length - 1) % 9 * 17 + a) x = b' at hb hl ⊢
    have hr : recsOf b' = runDown (heldAt b') 7 (D.length - 2) ++ [y] := by
      unfold recsOf
      rw [hb]
      exact runDown_hit (f := 7) (s := D.length - 2) hl hs2
    rw [hr, decide_eq_false h1]
    refine ⟨by simp, fun _ => ?_⟩
    unfold lastZ
    rw [List.getLast?_append]
    show y.seq = _
    rw [hs2]; omega
end Go.Proofs.YtkhcepdeppmofaaDoor
