/- Rings, plain: appends one after another; a byte turned. -/
import Derived.Test.YtakjbjokekbmbaaGreatDoorR07
import Derived.Test.YtakjbjokekbmbaaGreatDoorR09
import Derived.Test.YtakjbjokekbmbaaGreatDoorR06
import Derived.Test.YtakjbjokekbmbaaGreatDoorR03
namespace Go.Proofs.YtakjbjokekbmbaaGreatDoor
open Go.RowKit
set_option linter.unusedVariables false

theorem writeM_uncut {m : CM} (a : Nat) (l : List UInt8) (h : m.cut = -1) : (writeM m a l).cut = -1 ∧ (writeM m a l).off = false ∧ writeE m.cut l.length = 0 := by
  have hn : writeN m.cut l.length = l.length := by unfold writeN; rw [if_pos h]
  refine ⟨?_, ?_, ?_⟩
  · show cutAt m.cut _ = -1
    unfold cutAt; rw [if_pos h]
  · show decide (writeN m.cut l.length < l.length) = false
    rw [hn]; simp
  · unfold writeE; rw [hn]; simp
theorem put2_uncut {m : CM} (x : RecV) (h : m.cut = -1) : (ringPut.put2 m x).1 = 0 ∧ (ringPut.put2 m x).2.cut = -1 := by
  have h1 := writeM_uncut (slotAt x) (recBody x) h
  have h2 := writeM_uncut (slotAt x + 16) [165] h1.1
  rw [recBody_length] at h1
  unfold ringPut.put2
  rw [if_pos h1.2.2]
  exact ⟨h2.2.2, h2.1⟩
theorem put_uncut {m : CM} (x : RecV) (h : m.cut = -1) (ho : m.off = false) (hl : 153 ≤ m.bs.length) : (ringPut m x).1 = 0 ∧ (ringPut m x).2.cut = -1 := by
  have hs : slotAt x + 17 ≤ 153 := by unfold slotAt; omega
  have h1 := writeM_uncut (slotAt x + 16) [0] h
  have e1 : writeE m.cut 1 = 0 := h1.2.2
  unfold ringPut
  rw [ho, if_pos (lookE_in (by omega))]
  split
  · exact put2_uncut x h
  · exact put2_uncut x h1.1
theorem put2_ok {m : CM} {k : Int} (x : RecV) (h : CMOk m k) : CMOk (ringPut.put2 m x).2 (k + 17) := by
  have h1 := h.write (slotAt x) (recBody x)
  have h2 := h1.write (slotAt x + 16) [165]
  rw [recBody_length] at h1 h2
  unfold ringPut.put2
  split
  · exact h2.mono (by simp; omega)
  · exact h1.mono (by omega)
theorem put_ok {m : CM} {k : Int} (x : RecV) (h : CMOk m k) : CMOk (ringPut m x).2 (k + 18) := by
  have h1 := h.write (slotAt x + 16) [0]
  unfold ringPut
  split
  · split
    · exact (put2_ok x h).mono (by omega)
    · split
      · exact (put2_ok x h1).mono (by rw [List.length_singleton]; omega)
      · exact h1.mono (by rw [List.length_singleton]; omega)
  · exact h.mono (by omega)

/-- The last eight. -/
def lastR (D : List RecV) : List RecV := D.drop (D.length - 8)
theorem lastR_len (D : List RecV) : (lastR D).length = min D.length 8 := by unfold lastR; simp; omega
theorem lastR_snoc (D : List RecV) (x : RecV) : (lastR D ++ [x]).drop ((lastR D).length + 1 - 8) = lastR (D ++ [x]) := by
  rw [lastR_len]
  unfold lastR
  rw [List.length_append, List.length_singleton]
  by_cases h : D.length ≤ 7
  · rw [show D.length - 8 = 0 by omega, List.drop_zero, show min D.length 8 + 1 - 8 = 0 by omega, show D.length + 1 - 8 = 0 by omega]
  · rw [show min D.length 8 + 1 - 8 = 1 by omega, ← List.drop_append_of_le_length (by omega), List.drop_drop]
    congr 1
    omega
theorem lastZ_lastR {D : List RecV} (h : ∀ j (hj : j < D.length), D[j].seq = j + 1) : (lastZ (lastR D)).seq = D.length := by
  unfold lastZ
  rw [List.getLast?_eq_getElem?]
  rcases Nat.eq_zero_or_pos D.length with h0 | h0
  · have : D = [] := List.eq_nil_of_length_eq_zero h0
    subst this
    rfl
  · rw [lastR_len]
    unfold lastR
    rw [List.getElem?_drop, show D.length - 8 + (min D.length 8 - 1) = D.length - 1 by omega, List.getElem?_eq_getElem (by omega)]
    show (D[D.length - 1]).seq = D.length
    rw [h]; omega
/-- A log whose bytes hold D, its power as may be. -/
structure Log (m : CM) (D : List RecV) (k : Int) : Prop where
  inv : RInv m.bs D
  ok : CMOk m k
  on : m.off = false
  dn : D.length ≤ 1000
def nextRec (D : List RecV) (e k t : Int) : RecV := ⟨D.length + 1, e.toNat, k.toNat, t.toNat⟩
theorem recNew_lastR {D : List RecV} (h : ∀ j (hj : j < D.length), D[j].seq = j + 1) (e k t : Int) : recNew (lastR D) e k t = nextRec D e k t := by
  unfold recNew nextRec
  rw [lastZ_lastR h]
theorem appOk_rec {D : List RecV} {e k t : Int} (h : appOk e k t = true) (hn : D.length ≤ 1000) : RecOk (nextRec D e k t) := by
  have := of_decide_eq_true h
  exact ⟨by show 1 ≤ D.length + 1; omega, by show D.length + 1 < _; omega, by show e.toNat < _; omega, by show k.toNat < _; omega, by show t.toNat < _; omega⟩
/-- One append of a living ring: done, or cut. -/
theorem log_app {m : CM} {D : List RecV} {kk : Int} (h : Log m D kk) {e k t : Int} (hok : appOk e k t = true) :
    ∃ m', CMOk m' (kk + 18) ∧ ((ringApp m (lastR D) false e k t = (0, nextRec D e k t, m', lastR (D ++ [nextRec D e k t]), false) ∧ m'.off = false ∧ RInv m'.bs (D ++ [nextRec D e k t])) ∨
      (ringApp m (lastR D) false e k t = (8, ⟨0, 0, 0, 0⟩, m', lastR D, true) ∧ m'.off = true ∧ RInv m'.bs D)) ∧ (m.cut = -1 → (ringApp m (lastR D) false e k t).1 = 0 ∧ m'.cut = -1) := by
  have hs := fun j hj => (h.inv.seq j hj).1
  have hz := lastZ_lastR hs
  have hr := recNew_lastR hs e k t
  have hx := appOk_rec hok h.dn
  have hp := put_step h.inv h.ok.c0 h.on (rfl : (nextRec D e k t).seq = D.length + 1) hx
  have hu := fun hc => put_uncut (nextRec D e k t) hc h.on h.inv.len
  have hdn := h.dn
  have ho := put_ok (nextRec D e k t) h.ok
  unfold ringApp
  rw [if_neg (by decide), hok, if_neg (by decide), if_neg (by rw [hz]; omega), hr, lastR_snoc]
  obtain ⟨_, _, h1 | h1⟩ := hp
  · refine ⟨_, ho, .inl ⟨by rw [if_pos h1.1], h1.2.1, h1.2.2⟩, fun hc => ?_⟩
    rw [if_pos h1.1]
    exact ⟨rfl, (hu hc).2⟩
  · refine ⟨_, ho, .inr ⟨by rw [if_neg (by omega), h1.1], h1.2.1, h1.2.2⟩, fun hc => ?_⟩
    have := (hu hc).1
    omega
theorem log_on {m : CM} {D : List RecV} {kk : Int} (h : Log m D kk) {e k t : Int} (hok : appOk e k t = true) (hc : m.cut = -1) (hd : D.length < 1000) :
    ∃ m', ringApp m (lastR D) false e k t = (0, nextRec D e k t, m', lastR (D ++ [nextRec D e k t]), false) ∧ Log m' (D ++ [nextRec D e k t]) (kk + 18) ∧ m'.cut = -1 := by
  obtain ⟨m', h1, h2, h3⟩ := log_app h hok
  obtain ⟨h4, h5⟩ := h3 hc
  rcases h2 with h2 | h2
  · exact ⟨m', h2.1, ⟨h2.2.2, h1, h2.2.1, by simp; omega⟩, h5⟩
  · rw [h2.1] at h4; cases h4
theorem log_zero (n : Nat) (h : 153 ≤ n) : Log ⟨List.replicate n 0, false, -1, 0⟩ [] 0 :=
  ⟨rinv_zero n h, ⟨by simp, by simp, by simp, by simp⟩, rfl, by simp⟩
theorem recs_zero (n : Nat) (h : 153 ≤ n) : recsOf (List.replicate n 0) = [] := by
  rw [rinv_recs (rinv_zero n h)]; rfl

/-! ### A byte turned -/
theorem slotOf_set_at (b : List UInt8) (k a : Nat) (x : UInt8) (ha : a < 17) : slotOf (b.set (k * 17 + a) x) k = (slotOf b k).set a x := by
  apply List.ext_getElem?
  intro i
  rw [slot_get, List.getElem?_set, List.getElem?_set, slot_get]
  by_cases h : i < 17
  · rw [if_pos h, if_pos h]
    by_cases e : a = i
    · subst e
      rw [if_pos rfl, if_pos rfl]
      have : (slotOf b k).length = min 17 (b.length - k * 17) := by unfold slotOf; simp
      rw [this]
      by_cases hl : k * 17 + a < b.length
      · rw [if_pos hl, if_pos (by omega)]
      · rw [if_neg hl, if_neg (by omega)]
    · rw [if_neg (by omega), if_neg e]
  · rw [if_neg h, if_neg h, if_neg (by omega)]
theorem slotOf_set_ne (b : List UInt8) (k k' a : Nat) (x : UInt8) (ha : a < 17) (h : k' ≠ k) : slotOf (b.set (k * 17 + a) x) k' = slotOf b k' := by
  apply List.ext_getElem?
  intro i
  rw [slot_get, slot_get, List.getElem?_set]
  by_cases hi : i < 17
  · rw [if_pos hi, if_pos hi, if_neg (by omega)]
  · rw [if_neg hi, if_neg hi]
/-- The slot of a record that is turned holds none; the others hold what they did. -/
theorem turned_held {b : List UInt8} {D : List RecV} (h : RInv b D) {j a : Nat} {x : UInt8} (hj : j < D.length) (h8 : D.length ≤ j + 8) (ha : a < 17) (hx : b[j % 9 * 17 + a]? ≠ some x) :
    heldAt (b.set (j % 9 * 17 + a) x) (j % 9) = none ∧ ∀ k, k ≠ j % 9 → heldAt (b.set (j % 9 * 17 + a) x) k = heldAt b k := by
  constructor
  · rw [heldAt_slot, slotOf_set_at _ _ _ _ ha]
    have hn := h.new j hj h8
    rw [heldAt_slot] at hn
    exact held_turned hn a x ha (by rw [slot_get, if_pos ha]; exact hx)
  · intro k hk
    rw [heldAt_slot, slotOf_set_ne _ _ _ _ _ ha hk, heldAt_slot]
theorem best_ub (H : Nat → Option RecV) (s : Nat) (h : ∀ k r, k < 9 → H k = some r → r.seq ≤ s) : bestOf H 9 ≤ s := by
  rcases best_in H 9 with h0 | ⟨k, x, h1, h2, h3⟩
  · omega
  · have := h k x h1 h2; omega
theorem turned_recs {b : List UInt8} {D : List RecV} (h : RInv b D) {n a : Nat} {x : UInt8} (hn : n < D.length) (h8 : n < 8) (h0 : 0 < n) (ha : a < 17) (hx : b[(D.length - n - 1) % 9 * 17 + a]? ≠ some x) :
    recsOf (b.set ((D.length - n - 1) % 9 * 17 + a) x) = D.drop (D.length - n) := by
  obtain ⟨t1, t2⟩ := turned_held h (j := D.length - n - 1) (by omega) (by omega) ha hx
  have hb : bestOf (heldAt (b.set ((D.length - n - 1) % 9 * 17 + a) x)) 9 = D.length := by
    apply Nat.le_antisymm
    · apply best_ub
      intro k r hk hr
      by_cases e : k = (D.length - n - 1) % 9
      · rw [e, t1] at hr; cases hr
      · rw [t2 k e] at hr
        rcases h.old k hk with h4 | ⟨j, hj, h4, _⟩
        · rw [h4] at hr; cases hr
        · rw [h4] at hr
          have := Option.some.inj hr
          rw [← this, (h.seq j hj).1]; omega
    · have hl := h.new (D.length - 1) (by omega) (by omega)
      rw [← t2 _ (by omega)] at hl
      have := le_best _ (r := 0) hl 9 (by omega)
      rw [(h.seq (D.length - 1) (by omega)).1] at this
      omega
  unfold recsOf
  rw [hb]
  refine runDown_eq _ 8 _ _ (by simp; omega) (fun j hj => ?_) ?_
  · simp only [List.length_drop] at hj
    rw [List.getElem_drop, List.length_drop]
    have hjn := h.new (D.length - n + j) (by omega) (by omega)
    obtain ⟨s1, s2⟩ := h.seq (D.length - n + j) (by omega)
    refine ⟨s2.s1, ?_, by rw [s1]; omega⟩
    rw [s1, Nat.add_sub_cancel, t2 _ (by omega)]
    exact hjn
  · rw [List.length_drop]
    right; right
    refine ⟨by omega, fun r hr => ?_⟩
    rw [show D.length - (D.length - (D.length - n)) - 1 = D.length - n - 1 by omega, t1] at hr
    cases hr
theorem runDown_hit {H : Nat → Option RecV} {f s : Nat} {r : RecV} (h : H (s % 9) = some r) (hs : r.seq = s + 1) : runDown H (f + 1) (s + 1) = runDown H f s ++ [r] := by
  conv => lhs; unfold runDown
  rw [h]
  simp only
  rw [if_pos hs]
theorem turned_last {b : List UInt8} {D : List RecV} (h : RInv b D) {a : Nat} {x : UInt8} (hn : 0 < D.length) (ha : a < 17) (hx : b[(D.length - 1) % 9 * 17 + a]? ≠ some x) :
    (recsOf (b.set ((D.length - 1) % 9 * 17 + a) x)).isEmpty = decide (D.length = 1) ∧ (1 < D.length → (lastZ (recsOf (b.set ((D.length - 1) % 9 * 17 + a) x))).seq = D.length - 1) := by
  obtain ⟨t1, t2⟩ := turned_held h (j := D.length - 1) (by omega) (by omega) ha hx
  have hub : bestOf (heldAt (b.set ((D.length - 1) % 9 * 17 + a) x)) 9 ≤ D.length - 1 := by
    apply best_ub
    intro k r hk hr
    by_cases e : k = (D.length - 1) % 9
    · rw [e, t1] at hr; cases hr
    · rw [t2 k e] at hr
      rcases h.old k hk with h4 | ⟨j, hj, h4, h5, _⟩
      · rw [h4] at hr; cases hr
      · rw [h4] at hr
        have := Option.some.inj hr
        rw [← this, (h.seq j hj).1]
        by_cases e2 : j = D.length - 1
        · subst e2; exact absurd h5.symm e
        · omega
  by_cases h1 : D.length = 1
  · have hb : bestOf (heldAt (b.set ((D.length - 1) % 9 * 17 + a) x)) 9 = 0 := by omega
    unfold recsOf
    rw [hb, decide_eq_true h1]
    exact ⟨rfl, fun h => by omega⟩
  · have h2 : D.length - 2 < D.length := by omega
    have hl := h.new (D.length - 2) h2 (by omega)
    rw [← t2 _ (by omega)] at hl
    have hs2 := (h.seq (D.length - 2) h2).1
    generalize D[D.length - 2] = y at hl hs2
    have hge := le_best _ (r := 0) hl 9 (by omega)
    rw [hs2] at hge
    have hb : bestOf (heldAt (b.set ((D.length - 1) % 9 * 17 + a) x)) 9 = (D.length - 2) + 1 := by omega
    generalize b.set ((D.length - 1) % 9 * 17 + a) x = b' at hb hl ⊢
    have hr : recsOf b' = runDown (heldAt b') 7 (D.length - 2) ++ [y] := by
      unfold recsOf
      rw [hb]
      exact runDown_hit (f := 7) (s := D.length - 2) hl hs2
    rw [hr, decide_eq_false h1]
    refine ⟨by simp, fun _ => ?_⟩
    unfold lastZ
    rw [List.getLast?_append]
    show y.seq = _
    rw [hs2]; omega
end Go.Proofs.YtakjbjokekbmbaaGreatDoor

/- Rings in a statement: cells new or from bytes, opened; the closed fact "logged". -/
namespace Go.Proofs.YtakjbjokekbmbaaGreatDoor
open Go.RowKit
set_option linter.unusedVariables false

structure CR (B : Nat) (sa : Nat → Addr) (w0 : World) (c rb cap : Nat) (m : CM) (w : World) : Prop where
  mem : CellsAt w c rb (some ⟨rb, 0, none⟩) cap m
  se : SentsR B sa w
  bel : Below w0.heap.size w0 w
  lay : w0.heap.size ≤ c ∧ w0.heap.size ≤ rb ∧ B ≤ w0.heap.size
section
variable {B : Nat} {sa : Nat → Addr} {w0 w w' : World} {c rb cap : Nat} {m m' : CM}
theorem CR.below (h : CR B sa w0 c rb cap m w) (b : Below w.heap.size w w') : CR B sa w0 c rb cap m w' :=
  ⟨h.mem.keep (below_keep b) (fun _ h => h.elim), h.se.below b, h.bel.trans (b.mono h.bel.size), h.lay⟩
theorem cr_new (n : Nat) (w0 w : World) (hS : SentsR B sa w) (hb : Below w0.heap.size w0 w) (hB : B ≤ w0.heap.size) (hn : n ≤ 4096) :
    Calls Tryz.prog 25 #[.int .i64 n] w fun e w' => ∃ c rb, e = .returned (.tuple #[.pointer (some ⟨c, 0, none⟩), .nilIface]) ∧ CR B sa w0 c rb n ⟨List.replicate n 0, false, -1, 0⟩ w' := by
  refine (cellsNew_in n w hn).mono ?_
  rintro e w' ⟨rfl, h1, h2⟩
  have := hb.size
  exact ⟨_, _, rfl, h1, hS.below h2, hb.trans (h2.mono hb.size), by omega, by omega, hB⟩
theorem CR.copied {w0 w w' : World} {c rb cap : Nat} {m : CM} (h : CR B sa w0 c rb cap m w) (k : Keep (· = rb) w w') (l : List UInt8) (hl : l.length = m.bs.length) (hb : BytesAt w' rb l) : CR B sa w0 c rb cap ⟨l, m.off, m.cut, m.wr⟩ w' := by
  obtain ⟨h1, h2, h3⟩ := h.lay
  refine ⟨⟨?_, h.mem.ne, .inl rfl, fun _ => hb, by rw [hl]; exact h.mem.len, by rw [hl]; exact h.mem.room⟩, h.se.keep k (fun b hb => by subst hb; omega), h.bel.trans (k.below h.bel.size (fun b hb => by subst hb; omega)), h.lay⟩
  rw [k.get h.mem.box (fun e => h.mem.ne e.symm)]
  simp [cellC, hl]
theorem cr_open (h : CR B sa w0 c rb cap m w) (hl : 153 ≤ m.bs.length) (ho : m.off = false) :
    Calls Tryz.prog 71 #[.pointer (some ⟨c, 0, none⟩)] w fun e w' => ∃ rg lv, e = .returned (.tuple #[.pointer (some ⟨rg, 0, none⟩), .nilIface]) ∧ RSt B sa w0 rg c rb cap m false (recsOf m.bs) lv w' :=
  (openGood_any B sa c rb cap m w0 w h.mem h.se hl ho h.bel h.lay).mono (fun _ _ ⟨rg, lv, he, h, _⟩ => ⟨rg, lv, he, h⟩)
theorem cr_openN (h : CR B sa w0 c rb cap m w) (hl : 153 ≤ m.bs.length) (ho : m.off = false) :
    Calls Tryz.prog 71 #[.pointer (some ⟨c, 0, none⟩)] w fun e w' => ∃ rg lv, e = .returned (.tuple #[.pointer (some ⟨rg, 0, none⟩), .nilIface]) ∧ RSt B sa w0 rg c rb cap m false (recsOf m.bs) lv w' ∧ OpenNew w w' rg lv :=
  openGood_any B sa c rb cap m w0 w h.mem h.se hl ho h.bel h.lay
end

theorem last_st {B : Nat} {sa : Nat → Addr} {w0 w : World} {rg c rb cap : Nat} {m : CM} {dead : Bool} {L : List RecV} {lv : Value} (h : RSt B sa w0 rg c rb cap m dead L lv w) (hn : L.length ≤ 1000) :
    Calls Tryz.prog 46 #[.pointer (some ⟨rg, 0, none⟩)] w fun e w' => e = .returned (.tuple #[recAgg (lastZ L), .bool (!L.isEmpty)]) ∧ Below w.heap.size w w' :=
  ringLast_any w rg c lv dead L (fun b => b < w.heap.size) ⟨h.ring.box, h.ring.row.here⟩ (fun b h => h) hn
theorem box4 (w : World) (v0 v1 v2 v3 : Value) (t : TypeId) : Below w.heap.size w (w.alloc (.cells #[v0, v1, v2, v3] t)) ∧ (w.alloc (.cells #[v0, v1, v2, v3] t)).cell? ⟨w.heap.size, 0, none⟩ = some v0 ∧ (w.alloc (.cells #[v0, v1, v2, v3] t)).cell? ⟨w.heap.size, 1, none⟩ = some v1 ∧
    (w.alloc (.cells #[v0, v1, v2, v3] t)).cell? ⟨w.heap.size, 2, none⟩ = some v2 ∧ (w.alloc (.cells #[v0, v1, v2, v3] t)).cell? ⟨w.heap.size, 3, none⟩ = some v3 ∧ w.heap.size < (w.alloc (.cells #[v0, v1, v2, v3] t)).heap.size := by
  have h := get_alloc_new w (.cells #[v0, v1, v2, v3] t)
  have hb := (Below.refl w.heap.size w).alloc (Nat.le_refl _) (.cells #[v0, v1, v2, v3] t)
  have hl := lt_of_get h
  generalize w.alloc _ = w1 at h hb hl ⊢
  refine ⟨hb, ?_, ?_, ?_, ?_, hl⟩ <;> simp [World.cell?, h]
def recV4 (a b c d : Int) : Value := .agg #[.int .i64 a, .int .i64 b, .int .i64 c, .int .i64 d]
theorem Tryz.recEq4 (a b c d a' b' c' d' : Int) (w : World) : (Op.equalIn 10000 63 (recV4 a b c d) (recV4 a' b' c' d')).run Tryz.prog w = .ok (decide (a = a' ∧ b = b' ∧ c = c' ∧ d = d')) w := by
  have hS : Tryz.prog.underlying 63 = some (.struct (Tryz.prog.fieldsOf 63)) := by kernel_rfl
  have hp : Tryz.prog.stoodInHeld 63 = false := by kernel_rfl
  unfold recV4
  rw [show (10000 : Nat) = 9999 + 1 from rfl, run_equalIn_agg w 9999 63 _ _ hS hp]
  simp only [Program.fieldsOf, Tryz.underlying63]
  go_simp
  by_cases h1 : a = a' <;> by_cases h2 : b = b' <;> by_cases h3 : c = c' <;> by_cases h4 : d = d' <;> simp [h1, h2, h3, h4]
theorem Tryz.recGuard : Tryz.prog.eqGuardType Tryz.prog.depth 63 = false := by kernel_rfl
end Go.Proofs.YtakjbjokekbmbaaGreatDoor

/- Contains, Index of texts. -/
namespace Go.Proofs.YtakjbjokekbmbaaGreatDoor
open Go.RowKit
set_option linter.unusedVariables false

/-- Does a text stand in a list? Its place; -1: none. (Texts are compared byte by byte.) -/
def hasStr (l : List ByteArray) (x : ByteArray) : Bool := l.any (fun y => y.toList == x.toList)
def sidxOf (l : List ByteArray) (x : ByteArray) : Int := match l.findIdx? (fun y => y.toList == x.toList) with | some i => (i : Int) | none => -1
theorem sidxOf_hit {l : List ByteArray} {x : ByteArray} {k : Nat} (hk : k < l.length) (hx : l[k].toList = x.toList) (hb : ∀ j (hj : j < l.length), j < k → l[j].toList ≠ x.toList) : sidxOf l x = k := by
  have : l.findIdx? (fun y => y.toList == x.toList) = some k := by
    rw [List.findIdx?_eq_some_iff_getElem]
    exact ⟨hk, by simp [hx], fun j hj => by have := hb j (by omega) hj; simpa using this⟩
  simp [sidxOf, this]
theorem sidxOf_miss {l : List ByteArray} {x : ByteArray} (h : ∀ j (hj : j < l.length), l[j].toList ≠ x.toList) : sidxOf l x = -1 := by
  have : l.findIdx? (fun y => y.toList == x.toList) = none := by
    rw [List.findIdx?_eq_none_iff]
    intro y hy
    obtain ⟨j, hj, rfl⟩ := List.mem_iff_getElem.1 hy
    simpa using h j hj
  simp [sidxOf, this]
theorem sidxOf_nonneg (l : List ByteArray) (x : ByteArray) : decide (0 ≤ sidxOf l x) = hasStr l x := by
  unfold sidxOf hasStr
  cases h : l.findIdx? (fun y => y.toList == x.toList) with
  | none =>
    rw [List.findIdx?_eq_none_iff] at h
    have : l.any (fun y => y.toList == x.toList) = false := by
      rw [List.any_eq_false]; intro y hy; simpa using h y hy
    rw [this]; decide
  | some i =>
    rw [List.findIdx?_eq_some_iff_getElem] at h
    obtain ⟨hi, he, _⟩ := h
    have : l.any (fun y => y.toList == x.toList) = true := List.any_eq_true.2 ⟨l[i], List.getElem_mem hi, he⟩
    rw [this]
    simp

theorem flat_strs (l : List ByteArray) : l.flatMap (fun x => [Value.string x]) = strCells1 l := by
  unfold strCells1
  induction l with
  | nil => rfl
  | cons x l ih => simp [ih]
theorem str_cells {R : Nat → Prop} {w : World} {ao : Option Addr} {n cap : Nat} {l : List ByteArray} (h : SlOf R w (.slice ao n cap) 1 (strCells1 l) l.length) (h0 : 0 < l.length) :
    ∃ b off, ao = some ⟨b, off, none⟩ ∧ R b ∧ b < w.heap.size ∧ ∀ k (hk : k < l.length), w.cell? ⟨b, off + k, none⟩ = some (.string l[k]) := by
  have h' : SlOf R w (.slice ao n cap) 1 (l.flatMap (fun x => [Value.string x])) l.length := by
    rw [flat_strs]; exact h
  obtain ⟨b, off, ha, hR, hb, hc⟩ := h'.elem (fun _ => rfl) (by decide) h0
  refine ⟨b, off, ha, hR, hb, fun k hk => ?_⟩
  have := hc k hk 0 _ rfl
  simpa using this

set_option maxHeartbeats 400000 in
theorem indexStrs_any (R : Nat → Prop) (l : List ByteArray) (v : Value) (x : ByteArray) (w : World) (h : SlOf R w v 1 (strCells1 l) l.length) :
    Calls Tryz.prog 107 #[v, .string x] w fun e w' => e = .returned (.int .i64 (sidxOf l x)) ∧ w = w' := by
  obtain ⟨hl, ao, cap, rfl, h1, h2, h3, h4⟩ := h
  have hsl : SlOf R w (.slice ao l.length cap) 1 (strCells1 l) l.length := ⟨hl, _, _, rfl, h1, h2, h3, h4⟩
  have hn : l.length ≤ 9223372036854775807 := by unfold maxLen at h2; omega
  have H := Lib.hid hsl
  clear hl h1 h2 h3 h4 hsl
  go_enter Tryz.func107, Tryz.ntmps107
  go_wp2_with fail
  go_loop [8] (fun s => ∃ k : Nat, k ≤ l.length ∧ s = .int .i64 k ∧ Hid (∀ j (hj : j < l.length), j < k → l[j].toList ≠ x.toList)) (fun s => l.length - (intOf s).toNat)
  case atStart => exact ⟨0, Nat.zero_le _, rfl, fun j hj h => by omega⟩
  case round =>
    obtain ⟨k, hk, rfl, hall⟩ := hrel
    by_cases hlt : k < l.length
    · obtain ⟨b, off, rfl, hRb, _, hc⟩ := str_cells H.out (by omega)
      have q := hc k hlt
      clear hc
      by_cases hx : x.toList = l[k].toList
      · have hxb : (x.toList == l[k].toList) = true := by simp [hx]
        have hI := sidxOf_hit hlt hx.symm hall.out
        have HI := Lib.hid hI
        clear hx hI
        go_wp2_with fail
        go_ret
        exact ⟨ret_int HI.out.symm, rfl⟩
      · have hxb : (x.toList == l[k].toList) = false := by simp [hx]
        go_wp2_with fail
        go_round
        case rel =>
          refine ⟨k + 1, by omega, by go_num, fun j hj h => ?_⟩
          by_cases hjk : j = k
          · subst hjk; exact fun h => hx h.symm
          · exact hall.out j hj (by omega)
        case measure => simp [intOf]; omega
    · have hI := sidxOf_miss (l := l) (x := x) (fun j hj => hall.out j hj (by omega))
      have HI := Lib.hid hI
      clear hI
      go_wp2_with fail
      go_ret
      exact ⟨ret_int HI.out.symm, rfl⟩

set_option maxHeartbeats 400000 in
theorem containsStrs_any (R : Nat → Prop) (l : List ByteArray) (v : Value) (x : ByteArray) (w : World) (h : SlOf R w v 1 (strCells1 l) l.length) :
    Calls Tryz.prog 86 #[v, .string x] w fun e w' => e = .returned (.bool (hasStr l x)) ∧ w = w' := by
  obtain ⟨ao, cap, rfl⟩ := h.val
  have H := Lib.hid h
  clear h
  go_enter Tryz.func86, Tryz.ntmps86
  go_wp2_with fail
  refine (indexStrs_any R l _ x _ H.out).mono ?_
  rintro e w' ⟨rfl, rfl⟩
  go_wp2_with fail
  go_ret
  exact ⟨ret_bool (sidxOf_nonneg l x), rfl⟩
end Go.Proofs.YtakjbjokekbmbaaGreatDoor

/- Package total: New, End, May. -/
namespace Go.Proofs.YtakjbjokekbmbaaGreatDoor
open Go.RowKit
set_option linter.unusedVariables false

inductive St where | ok | failed | expired | stopped deriving DecidableEq
def St.str : St → ByteArray
  | .ok => ⟨#[111, 107]⟩
  | .failed => ⟨#[102, 97, 105, 108, 101, 100]⟩
  | .expired => ⟨#[101, 120, 112, 105, 114, 101, 100]⟩
  | .stopped => ⟨#[115, 116, 111, 112, 112, 101, 100]⟩

/-- A Total's block. -/
def TotalAt (w : World) (t : Nat) (delay since : Int) (st : St) : Prop := w.heap[t]? = some (.cells #[.int .i64 delay, .int .i64 since, .string st.str] 114)
theorem three_cells {w : World} {b : Nat} {c0 c1 c2 : Value} {t : TypeId} (h : w.heap[b]? = some (.cells #[c0, c1, c2] t)) :
    w.cell? ⟨b, 0, none⟩ = some c0 ∧ w.cell? ⟨b, 1, none⟩ = some c1 ∧ w.cell? ⟨b, 2, none⟩ = some c2 ∧ ∀ o, w.frozen? ⟨b, o, none⟩ = false := by
  simp [World.cell?, World.frozen?, h]

/-- What a cycle's end makes of it. -/
def St.close (d s : Int) (st : St) : Int × St := if st = .expired ∧ d ≤ s then (s, .stopped) else (s, st)
def St.next (d s : Int) (st : St) (l : List ByteArray) : Int × St := match st with
  | .stopped => (s, .stopped)
  | .expired => St.close d (s + 1) .expired
  | _ => St.close d s (if hasStr l St.expired.str then .expired else if hasStr l St.failed.str then .failed else .ok)

set_option maxHeartbeats 400000 in
theorem totalNew_any (d : Int) (w : World) (h0 : 0 ≤ d) (h1 : d ≤ 20) :
    Calls Tryz.prog 73 #[.int .i64 d] w fun e w' => e = .returned (.tuple #[.pointer (some ⟨w.heap.size, 0, none⟩), .nilIface]) ∧ TotalAt w' w.heap.size d 0 .ok ∧ Below w.heap.size w w' := by
  go_enter Tryz.func73, Tryz.ntmps73
  go_wp2_with fail
  all_goals first | omega | skip
  all_goals
    refine bodyPost_ret (results_tmp2 rfl _ _ _) rfl ?_
    exact ⟨rfl, get_alloc_new _ _, (Below.refl _ _).alloc (Nat.le_refl _) _⟩

theorem TotalAt.since {w : World} {t : Nat} {d s : Int} {st : St} (h : TotalAt w t d s st) (s' : Int) : TotalAt (w.setCell ⟨t, 1, none⟩ (.int .i64 s')) t d s' st := by
  unfold TotalAt at h ⊢
  rw [get_setCell _ h]; rfl
theorem TotalAt.status {w : World} {t : Nat} {d s : Int} {st : St} (h : TotalAt w t d s st) (st' : St) : TotalAt (w.setCell ⟨t, 2, none⟩ (.string st'.str)) t d s st' := by
  unfold TotalAt at h ⊢
  rw [get_setCell _ h]; rfl
theorem totalAt_drewN {w : World} {t : Nat} {d s : Int} {st : St} (q : Nat) (h : TotalAt w t d s st) : TotalAt (w.drewN q) t d s st := get_drewN q h
theorem keep_drewN' (S : Nat → Prop) (w : World) (q : Nat) : Keep S w (w.drewN q) := (below_keep (below_drewN' q (Below.refl w.heap.size w))).mono (fun _ _ h => h.elim)

set_option maxHeartbeats 1000000 in
theorem totalEnd_stopped (t : Nat) (d s : Int) (v : Value) (w : World) (h : TotalAt w t d s .stopped) :
    Calls Tryz.prog 65 #[.pointer (some ⟨t, 0, none⟩), v] w fun e w' => e = .returned (.string St.stopped.str) ∧ TotalAt w' t d s .stopped ∧ Keep (· = t) w w' := by
  have H := Lib.hid h
  obtain ⟨c0, c1, c2, cf⟩ := three_cells h
  unfold St.str at c2
  clear h
  go_enter Tryz.func65, Tryz.ntmps65
  go_wp2_with fail
  go_quiet (fail)
  go_wp2_with fail
  go_ret
  exact ⟨rfl, totalAt_drewN _ H.out, keep_drewN' _ _ _⟩

set_option maxHeartbeats 1000000 in
theorem totalEnd_expired (t : Nat) (d s : Int) (v : Value) (w : World) (h : TotalAt w t d s .expired) (h0 : 0 ≤ s) (h1 : s ≤ 1000) :
    Calls Tryz.prog 65 #[.pointer (some ⟨t, 0, none⟩), v] w fun e w' => e = .returned (.string (St.close d (s + 1) .expired).2.str) ∧ TotalAt w' t d (s + 1) (St.close d (s + 1) .expired).2 ∧ Keep (· = t) w w' := by
  have H := Lib.hid h
  obtain ⟨c0, c1, c2, cf⟩ := three_cells h
  unfold St.str at c2
  clear h
  have h1' := Lib.hid (H.out.since (s + 1))
  have k1' := Lib.hid (keep_set w t 1 (.int .i64 (s + 1)))
  go_enter Tryz.func65, Tryz.ntmps65
  by_cases hd : d ≤ s + 1
  · have hc : (St.close d (s + 1) .expired).2 = .stopped := by simp [St.close, hd]
    rw [hc]
    go_wp2_with fail
    generalize World.setCell _ _ _ = w1 at h1' k1' ⊢
    obtain ⟨x0, x1, x2, xf⟩ := three_cells h1'.out
    simp only [St.str] at x2
    go_quiet (fail)
    have h2 := totalAt_drewN nq h1'.out
    have k2 := Keep.trans k1'.out (keep_drewN' (· = t) w1 nq)
    generalize World.drewN _ _ = w2 at h2 k2 ⊢
    have h3 := Lib.hid (h2.status .stopped)
    have k3 := Lib.hid (k2.trans (keep_set w2 t 2 (.string St.stopped.str)))
    obtain ⟨y0, y1, y2, yf⟩ := three_cells h2
    clear h2 k2
    simp only [St.str] at y2
    go_wp2_with fail
    go_ret
    exact ⟨rfl, h3.out, k3.out⟩
  · have hc : (St.close d (s + 1) .expired).2 = .expired := by simp [St.close, hd]
    rw [hc]
    go_wp2_with fail
    generalize World.setCell _ _ _ = w1 at h1' k1' ⊢
    obtain ⟨x0, x1, x2, xf⟩ := three_cells h1'.out
    simp only [St.str] at x2
    go_quiet (fail)
    have h2 := totalAt_drewN nq h1'.out
    have k2 := Keep.trans k1'.out (keep_drewN' (· = t) w1 nq)
    generalize World.drewN _ _ = w2 at h2 k2 ⊢
    obtain ⟨y0, y1, y2, yf⟩ := three_cells h2
    have h3 := Lib.hid h2
    have k3 := Lib.hid k2
    clear h2 k2
    simp only [St.str] at y2
    go_wp2_with fail
    go_ret
    exact ⟨rfl, h3.out, k3.out⟩

theorem totalMay_any (t : Nat) (d s : Int) (st : St) (w : World) (h : TotalAt w t d s st) :
    Calls Tryz.prog 66 #[.pointer (some ⟨t, 0, none⟩)] w fun e w' => e = .returned (.bool (decide (st ≠ .stopped))) ∧ w = w' := by
  obtain ⟨c0, c1, c2, cf⟩ := three_cells h
  clear h
  go_enter Tryz.func66, Tryz.ntmps66
  cases st
  all_goals
    simp only [St.str] at c2
    go_wp2_with fail
    go_ret
    exact ⟨rfl, rfl⟩

set_option maxHeartbeats 4000000 in
theorem totalEnd_live (R : Nat → Prop) (t : Nat) (d s : Int) (st : St) (l : List ByteArray) (v : Value) (w : World) (h : TotalAt w t d s st) (hst : st = .ok ∨ st = .failed) (hl : SlOf R w v 1 (strCells1 l) l.length) :
    Calls Tryz.prog 65 #[.pointer (some ⟨t, 0, none⟩), v] w fun e w' => e = .returned (.string (St.next d s st l).2.str) ∧ TotalAt w' t d s (St.next d s st l).2 ∧ Keep (· = t) w w' := by
  obtain ⟨ao, cap, rfl⟩ := hl.val
  have H := Lib.hid h
  have HL := Lib.hid hl
  obtain ⟨c0, c1, c2, cf⟩ := three_cells h
  clear h hl
  have hE := Lib.hid (H.out.status .expired)
  have hF := Lib.hid (H.out.status .failed)
  have hO := Lib.hid (H.out.status .ok)
  have kE := Lib.hid (keep_set w t 2 (.string St.expired.str))
  have kF := Lib.hid (keep_set w t 2 (.string St.failed.str))
  have kO := Lib.hid (keep_set w t 2 (.string St.ok.str))
  have nE : hasStr l St.expired.str = true → (St.next d s st l).2 = (St.close d s .expired).2 := by rcases hst with rfl | rfl <;> intro h <;> simp [St.next, h]
  have nF : hasStr l St.expired.str = false → hasStr l St.failed.str = true → (St.next d s st l).2 = .failed := by rcases hst with rfl | rfl <;> intro h h2 <;> simp [St.next, h, h2, St.close]
  have nO : hasStr l St.expired.str = false → hasStr l St.failed.str = false → (St.next d s st l).2 = .ok := by rcases hst with rfl | rfl <;> intro h h2 <;> simp [St.next, h, h2, St.close]
  have NE := Lib.hid nE
  have NF := Lib.hid nF
  have NO := Lib.hid nO
  clear nE nF nO
  go_enter Tryz.func65, Tryz.ntmps65
  rcases hst with rfl | rfl
  all_goals
    simp only [St.str] at c2
    go_wp2_with fail
    refine (containsStrs_any R l _ _ w HL.out).mono ?_
    rintro e w' ⟨rfl, rfl⟩
    cases h1 : hasStr l ⟨#[101, 120, 112, 105, 114, 101, 100]⟩
    · go_wp2_with fail
      refine (containsStrs_any R l _ _ w HL.out).mono ?_
      rintro e w' ⟨rfl, rfl⟩
      cases h2 : hasStr l ⟨#[102, 97, 105, 108, 101, 100]⟩
      · have HN := Lib.hid (NO.out h1 h2)
        go_wp2_with fail
        simp only [St.str] at hO kO
        generalize World.setCell _ _ _ = w1 at hO kO ⊢
        obtain ⟨x0, x1, x2, xf⟩ := three_cells (show TotalAt w1 t d s .ok from hO.out)
        simp only [St.str] at x2
        go_quiet (fail)
        go_wp2_with fail
        go_ret
        exact ⟨by rw [HN.out]; rfl, by rw [HN.out]; exact totalAt_drewN nq hO.out, Keep.trans kO.out (keep_drewN' (· = t) w1 nq)⟩
      · have HN := Lib.hid (NF.out h1 h2)
        go_wp2_with fail
        simp only [St.str] at hF kF
        generalize World.setCell _ _ _ = w1 at hF kF ⊢
        obtain ⟨x0, x1, x2, xf⟩ := three_cells (show TotalAt w1 t d s .failed from hF.out)
        simp only [St.str] at x2
        go_quiet (fail)
        go_wp2_with fail
        go_ret
        exact ⟨by rw [HN.out]; rfl, by rw [HN.out]; exact totalAt_drewN nq hF.out, Keep.trans kF.out (keep_drewN' (· = t) w1 nq)⟩
    · have HN1 := Lib.hid (NE.out h1)
      go_wp2_with fail
      simp only [St.str] at hE kE
      generalize World.setCell _ _ _ = w1 at hE kE ⊢
      obtain ⟨x0, x1, x2, xf⟩ := three_cells (show TotalAt w1 t d s .expired from hE.out)
      simp only [St.str] at x2
      by_cases hd : d ≤ s
      · have hc : (St.close d s .expired).2 = .stopped := by simp [St.close, hd]
        have HN := Lib.hid (HN1.out.trans hc)
        clear hc
        go_quiet (fail)
        have h2 := totalAt_drewN (st := .expired) nq hE.out
        have k2 := Keep.trans kE.out (keep_drewN' (· = t) w1 nq)
        generalize World.drewN _ _ = w2 at h2 k2 ⊢
        have h3 := Lib.hid (h2.status .stopped)
        have k3 := Lib.hid (k2.trans (keep_set w2 t 2 (.string St.stopped.str)))
        obtain ⟨y0, y1, y2, yf⟩ := three_cells h2
        clear h2 k2
        simp only [St.str] at y2
        go_wp2_with fail
        go_ret
        exact ⟨by rw [HN.out]; rfl, by rw [HN.out]; exact h3.out, k3.out⟩
      · have hc : (St.close d s .expired).2 = .expired := by simp [St.close, hd]
        have HN := Lib.hid (HN1.out.trans hc)
        clear hc
        go_quiet (fail)
        go_wp2_with fail
        go_ret
        exact ⟨by rw [HN.out]; rfl, by rw [HN.out]; exact totalAt_drewN nq hE.out, Keep.trans kE.out (keep_drewN' (· = t) w1 nq)⟩

theorem St.close_fst (d s : Int) (st : St) : (St.close d s st).1 = s := by unfold St.close; split <;> rfl
theorem totalEnd_any (R : Nat → Prop) (t : Nat) (d s : Int) (st : St) (l : List ByteArray) (v : Value) (w : World) (h : TotalAt w t d s st) (h0 : 0 ≤ s) (h1 : s ≤ 1000) (hl : SlOf R w v 1 (strCells1 l) l.length) :
    Calls Tryz.prog 65 #[.pointer (some ⟨t, 0, none⟩), v] w fun e w' => e = .returned (.string (St.next d s st l).2.str) ∧ TotalAt w' t d (St.next d s st l).1 (St.next d s st l).2 ∧ Keep (· = t) w w' := by
  cases hst : st
  · subst hst
    have := totalEnd_live R t d s .ok l v w h (.inl rfl) hl
    have e : (St.next d s .ok l).1 = s := St.close_fst _ _ _
    rw [e]; exact this
  · subst hst
    have := totalEnd_live R t d s .failed l v w h (.inr rfl) hl
    have e : (St.next d s .failed l).1 = s := St.close_fst _ _ _
    rw [e]; exact this
  · subst hst
    have := totalEnd_expired t d s v w h h0 h1
    have e : (St.next d s .expired l).1 = s + 1 := St.close_fst _ _ _
    rw [e]; exact this
  · subst hst
    exact totalEnd_stopped t d s v w h
end Go.Proofs.YtakjbjokekbmbaaGreatDoor

/- The closed fact "summed"; a list of lists of texts. -/
namespace Go.Proofs.YtakjbjokekbmbaaGreatDoor
open Go.RowKit
set_option linter.unusedVariables false

theorem has1 : hasStr [St.expired.str] St.expired.str = true := by decide +kernel
theorem has2 : hasStr [St.ok.str, St.failed.str] St.expired.str = false := by decide +kernel
theorem has3 : hasStr [St.ok.str, St.failed.str] St.failed.str = true := by decide +kernel
theorem has4 : hasStr [St.failed.str, St.expired.str, St.ok.str] St.expired.str = true := by decide +kernel

/-- A list of lists of texts. -/
def SlLL (R : Nat → Prop) (w : World) (v : Value) (LL : List (List ByteArray)) : Prop :=
  ∃ vs : List Value, vs.length = LL.length ∧ SlOf R w v 1 vs LL.length ∧ ∀ k (hk : k < LL.length) (hv : k < vs.length), SlOf R w vs[k] 1 (strCells1 LL[k]) LL[k].length

theorem one_cells {R : Nat → Prop} {w : World} {ao : Option Addr} {n cap : Nat} {vs : List Value} (h : SlOf R w (.slice ao n cap) 1 vs n) (h0 : 0 < n) :
    ∃ b off, ao = some ⟨b, off, none⟩ ∧ R b ∧ b < w.heap.size ∧ ∀ k (hk : k < vs.length), w.cell? ⟨b, off + k, none⟩ = some vs[k] := by
  obtain ⟨hl, ao', cap', hv, h1, h2, h3, h4⟩ := h
  simp at hv
  obtain ⟨rfl, rfl⟩ := hv
  obtain ⟨b, off, ha, hR, hb, hc⟩ := h4 (by omega)
  exact ⟨b, off, ha, hR, hb, fun k hk => hc k _ (List.getElem?_eq_getElem hk)⟩
end Go.Proofs.YtakjbjokekbmbaaGreatDoor

/- The document's Index of texts. -/
namespace Go.Proofs.YtakjbjokekbmbaaGreatDoor
open Go.RowKit
set_option linter.unusedVariables false

set_option maxHeartbeats 400000 in
theorem rIndex_any (R : Nat → Prop) (l : List ByteArray) (v : Value) (x : ByteArray) (w : World) (h : SlOf R w v 1 (strCells1 l) l.length) :
    Calls Tryz.prog 51 #[v, .string x] w fun e w' => e = .returned (.int .i64 (sidxOf l x)) ∧ w = w' := by
  obtain ⟨hl, ao, cap, rfl, h1, h2, h3, h4⟩ := h
  have hsl : SlOf R w (.slice ao l.length cap) 1 (strCells1 l) l.length := ⟨hl, _, _, rfl, h1, h2, h3, h4⟩
  have hn : l.length ≤ 9223372036854775807 := by unfold maxLen at h2; omega
  have H := Lib.hid hsl
  clear hl h1 h2 h3 h4 hsl
  go_enter Tryz.func51, Tryz.ntmps51
  go_wp2_with fail
  go_loop [5] (fun s => ∃ k : Nat, k ≤ l.length ∧ s = .int .i64 k ∧ Hid (∀ j (hj : j < l.length), j < k → l[j].toList ≠ x.toList)) (fun s => l.length - (intOf s).toNat)
  case atStart => exact ⟨0, Nat.zero_le _, rfl, fun j hj h => by omega⟩
  case round =>
    obtain ⟨k, hk, rfl, hall⟩ := hrel
    by_cases hlt : k < l.length
    · obtain ⟨b, off, rfl, hRb, _, hc⟩ := str_cells H.out (by omega)
      have q := hc k hlt
      clear hc
      by_cases hx : x.toList = l[k].toList
      · have hxb : (l[k].toList == x.toList) = true := by simp [hx]
        have hI := sidxOf_hit hlt hx.symm hall.out
        have HI := Lib.hid hI
        clear hx hI
        go_wp2_with fail
        go_ret
        exact ⟨ret_int HI.out.symm, rfl⟩
      · have hxb : (l[k].toList == x.toList) = false := by simp; exact fun h => hx h.symm
        go_wp2_with fail
        go_round
        case rel =>
          refine ⟨k + 1, by omega, by go_num, fun j hj h => ?_⟩
          by_cases hjk : j = k
          · subst hjk; exact fun h => hx h.symm
          · exact hall.out j hj (by omega)
        case measure => simp [intOf]; omega
    · have hI := sidxOf_miss (l := l) (x := x) (fun j hj => hall.out j hj (by omega))
      have HI := Lib.hid hI
      clear hI
      go_wp2_with fail
      go_ret
      exact ⟨ret_int HI.out.symm, rfl⟩
end Go.Proofs.YtakjbjokekbmbaaGreatDoor

/- The document's Index of texts, its Total; package total's New with an error, Status. -/
namespace Go.Proofs.YtakjbjokekbmbaaGreatDoor
open Go.RowKit
set_option linter.unusedVariables false

set_option maxHeartbeats 400000 in
theorem totalNew_out (B : Nat) (sa : Nat → Addr) (d : Int) (w : World) (hS : Sents B sa w) (h : d < 0 ∨ 20 < d) :
    Calls Tryz.prog 73 #[.int .i64 d] w fun e w' => e = .returned (.tuple #[.pointer none, errv sa 2]) ∧ Below w.heap.size w w' := by
  obtain ⟨g0, g1, g2, g3, g4, g5, g6, g7, g8, g9, g10⟩ := hS.all
  clear hS g0 g2 g3 g4 g5 g6 g7 g8 g9 g10
  by_cases h1 : d < 0
  · clear h
    go_enter Tryz.func73, Tryz.ntmps73
    go_wp2_with fail
    go_quiet (fail)
    go_wp2_with fail
    go_ret2
    exact ⟨rfl, below_drewN' _ (Below.refl _ _)⟩
  · have h4 : 20 < d := by omega
    clear h
    go_enter Tryz.func73, Tryz.ntmps73
    go_wp2_with fail
    go_quiet (fail)
    go_wp2_with fail
    go_ret2
    exact ⟨rfl, below_drewN' _ (Below.refl _ _)⟩

theorem totalStatus_any (t : Nat) (d s : Int) (st : St) (w : World) (h : TotalAt w t d s st) :
    Calls Tryz.prog 37 #[.pointer (some ⟨t, 0, none⟩)] w fun e w' => e = .returned (.string st.str) ∧ w = w' := by
  obtain ⟨c0, c1, c2, cf⟩ := three_cells h
  clear h
  go_enter Tryz.func37, Tryz.ntmps37
  go_wp2_with fail
  go_ret
  exact ⟨rfl, rfl⟩

/-- What is always so of a total. -/
structure TInv (d s : Int) (st : St) : Prop where
  s0 : 0 ≤ s
  s1 : s ≤ d
  live : st = .ok ∨ st = .failed → s = 0
  exp : st = .expired → s < d
theorem TInv.next {d s : Int} {st : St} (h : TInv d s st) (l : List ByteArray) : TInv d (St.next d s st l).1 (St.next d s st l).2 := by
  obtain ⟨h0, h1, h2, h3⟩ := h
  have cl : ∀ x : St, (x = .expired ∨ s = 0) → TInv d (St.close d s x).1 (St.close d s x).2 := by
    intro x hx
    unfold St.close
    split
    · rename_i hc
      exact ⟨h0, h1, (by simp), (by simp)⟩
    · rename_i hc
      refine ⟨h0, h1, (fun hx2 => ?_), (fun hx2 => ?_)⟩
      · simp only at hx2
        rcases hx with hx | hx
        · subst hx; rcases hx2 with h | h <;> cases h
        · exact hx
      · simp only at hx2
        have : ¬ d ≤ s := fun h => hc ⟨hx2, h⟩
        show s < d
        omega
  cases st with
  | stopped => exact ⟨h0, h1, (fun h => by rcases h with h | h <;> cases h), (fun h => by cases h)⟩
  | expired =>
    have h3' := h3 rfl
    show TInv d (St.close d (s + 1) .expired).1 (St.close d (s + 1) .expired).2
    unfold St.close
    split
    · exact ⟨by show 0 ≤ s + 1; omega, by show s + 1 ≤ d; omega, (fun h => by rcases h with h | h <;> cases h), (fun h => by cases h)⟩
    · rename_i hc
      have : ¬ d ≤ s + 1 := fun h => hc ⟨rfl, h⟩
      exact ⟨by show 0 ≤ s + 1; omega, by show s + 1 ≤ d; omega, (fun h => by rcases h with h | h <;> cases h), (fun _ => by show s + 1 < d; omega)⟩
  | ok => exact cl _ (.inr (h2 (.inl rfl)))
  | failed => exact cl _ (.inr (h2 (.inr rfl)))

end Go.Proofs.YtakjbjokekbmbaaGreatDoor
