/- The document's ring: Append. -/
import Derived.Test.YtkhcepdeppmofaaDoorRingR
import Derived.Deep.RegionHeld3
namespace Go.Proofs.YtkhcepdeppmofaaDoor
open Go.RowKit
set_option linter.unusedVariables false

/-- A write in place of the document's cells, power on. -/
theorem rw_in (r : Nat) (m : CM) (a : Nat) (l : List UInt8) (w : World) (h : RC w r m) (k : Int) (hm : CMOk m k) (hk : k ≤ 1000000000) (ho : m.off = false) (hn : a + l.length ≤ m.bs.length) :
    Calls Tryd.prog 76 #[.pointer (some ⟨r, 0, none⟩), .int .i64 a, .string (strOf l)] w fun e w' => e = .returned (.int .i64 (writeE m.cut l.length : Nat)) ∧ RC w' r (writeM m a l) ∧ Keep (· = r) w w' := by
  have h0 : lookE m.off m.bs.length a (strOf l).size = 0 := by rw [ho]; exact lookE_in (by rw [strOf_size]; omega)
  have := rk_write r m a (strOf l) w h k hm hk
  unfold actWE actWM at this
  rw [if_pos h0, if_pos h0, strOf_size, strOf_data] at this
  simpa using this

/-! ### The three writes, one after another -/
def st1 (m : CM) (x : RecV) : Nat × CM :=
  if lookE m.off m.bs.length (slotAt x + 16 : Nat) 1 = 0 then (if m.bs.getD (slotAt x + 16) 0 = 0 then (0, m) else (writeE m.cut 1, writeM m (slotAt x + 16) [0])) else (lookE m.off m.bs.length (slotAt x + 16 : Nat) 1, m)
def st2 (p : Nat × CM) (x : RecV) : Nat × CM := if p.1 = 0 then (writeE p.2.cut 16, writeM p.2 (slotAt x) (recBody x)) else p
def st3 (p : Nat × CM) (x : RecV) : Nat × CM := if p.1 = 0 then (writeE p.2.cut 1, writeM p.2 (slotAt x + 16) [165]) else p
theorem ringPut_st (m : CM) (x : RecV) : ringPut m x = st3 (st2 (st1 m x) x) x := by
  unfold ringPut ringPut.put2 st1
  by_cases h1 : lookE m.off m.bs.length (slotAt x + 16 : Nat) 1 = 0
  · rw [if_pos h1, if_pos h1]
    by_cases h2 : m.bs.getD (slotAt x + 16) 0 = 0
    · rw [if_pos h2, if_pos h2]
      unfold st2
      rw [if_pos rfl]
      by_cases h3 : writeE m.cut 16 = 0
      · rw [if_pos h3]; unfold st3; rw [if_pos h3]
      · rw [if_neg h3]; unfold st3; rw [if_neg h3]
    · rw [if_neg h2, if_neg h2]
      by_cases h4 : writeE m.cut 1 = 0
      · rw [if_pos h4]
        unfold st2
        rw [if_pos h4]
        by_cases h3 : writeE (writeM m (slotAt x + 16) [0]).cut 16 = 0
        · rw [if_pos h3]; unfold st3; rw [if_pos h3]
        · rw [if_neg h3]; unfold st3; rw [if_neg h3]
      · rw [if_neg h4]
        unfold st2
        rw [if_neg h4]
        unfold st3
        rw [if_neg h4]
  · rw [if_neg h1, if_neg h1]
    unfold st2
    rw [if_neg h1]
    unfold st3
    rw [if_neg h1]
structure StOk (p : Nat × CM) (n : Nat) (k : Int) : Prop where
  off : p.1 = 0 → p.2.off = false
  len : p.2.bs.length = n
  ok : CMOk p.2 k
theorem st_write {m : CM} {n : Nat} {k : Int} (a : Nat) (l : List UInt8) (ho : m.bs.length = n) (hk : CMOk m k) (hn : a + l.length ≤ n) : StOk (writeE m.cut l.length, writeM m a l) n (k + l.length) := by
  refine ⟨fun h => ?_, ?_, hk.write a l⟩
  · have := writeE_zero h
    show decide (writeN m.cut l.length < l.length) = false
    rw [this]; simp
  · show (wBytes m.bs a l (writeN m.cut l.length)).length = n
    rw [wBytes_length m.bs a l _ (writeN_bd _ _) (by have := writeN_bd m.cut l.length; omega)]
    exact ho
theorem StOk.mono {p : Nat × CM} {n : Nat} {k k' : Int} (h : StOk p n k) (hk : k ≤ k') : StOk p n k' := ⟨h.off, h.len, h.ok.mono hk⟩
theorem slotAt_le (x : RecV) : slotAt x + 17 ≤ 153 := by unfold slotAt; omega
theorem look16 (m : CM) (x : RecV) (h : 153 ≤ m.bs.length) : lookE m.off m.bs.length (slotAt x + 16 : Nat) 1 = if m.off = true then 8 else 0 := by
  have := slotAt_le x
  unfold lookE
  rw [if_neg (by omega)]
theorem st1_ok {m : CM} {k : Int} (x : RecV) (h : 153 ≤ m.bs.length) (hk : CMOk m k) : StOk (st1 m x) m.bs.length (k + 1) := by
  have hs := slotAt_le x
  unfold st1
  rw [look16 m x h]
  cases ho : m.off with
  | true =>
    rw [show (if true = true then 8 else 0) = 8 from rfl, if_neg (by decide)]
    exact ⟨fun h => (by cases h), rfl, hk.mono (by omega)⟩
  | false =>
    rw [show (if false = true then 8 else 0) = 0 from rfl, if_pos rfl]
    split
    · exact ⟨fun _ => ho, rfl, hk.mono (by omega)⟩
    · exact st_write _ [0] rfl hk (by rw [List.length_singleton]; omega)
theorem st2_ok {p : Nat × CM} {n : Nat} {k : Int} (x : RecV) (h : StOk p n k) (hn : 153 ≤ n) : StOk (st2 p x) n (k + 16) := by
  have hs := slotAt_le x
  unfold st2
  split
  · have := st_write (slotAt x) (recBody x) h.len h.ok (by rw [recBody_length]; omega)
    rwa [recBody_length] at this
  · exact h.mono (by omega)

/-- The world under way: the ring, the result's box, the record's box. -/
structure RQ (w0 w : World) (rr r : Nat) (m : CM) (L : List RecV) (lv : Value) (xb : Nat) (x : RecV) (W : World) : Prop where
  rf : RRing w0 rr r m false L lv W
  res : W.heap[w.heap.size]? = some (recC ⟨0, 0, 0, 0⟩)
  box : W.heap[xb]? = some (recC x)
  kep : Keep (fun b => b = r ∨ w.heap.size ≤ b) w W
  lo : w.heap.size < xb ∧ r < w.heap.size ∧ rr < w.heap.size
  lob : ∀ b, lv.ownBlock = some b → b < w.heap.size
section
variable {w0 w W W' : World} {rr r : Nat} {m m' : CM} {L : List RecV} {lv : Value} {xb : Nat} {x : RecV}
theorem RQ.below (h : RQ w0 w rr r m L lv xb x W) (b : Below W.heap.size W W') : RQ w0 w rr r m L lv xb x W' :=
  ⟨h.rf.below b, below_get b h.res (lt_of_get h.res), below_get b h.box (lt_of_get h.box), h.kep.step (Keep.of_below b) (fun k h1 h2 => by have := h.kep.size; omega), h.lo, h.lob⟩
theorem RQ.drew (h : RQ w0 w rr r m L lv xb x W) : RQ w0 w rr r m L lv xb x W.drew := h.below ((Below.refl _ _).drew)
theorem RQ.write (h : RQ w0 w rr r m L lv xb x W) (k : Keep (· = r) W W') (h' : RC W' r m') : RQ w0 w rr r m' L lv xb x W' := by
  obtain ⟨l1, l2, l3⟩ := h.lo
  exact ⟨h.rf.write k h', k.get h.res (by omega), k.get h.box (by omega), h.kep.step k (fun b h1 _ => .inl h1), h.lo, h.lob⟩
theorem RQ.cells (h : RQ w0 w rr r m L lv xb x W) : W.cell? ⟨rr, 0, none⟩ = some (.pointer (some ⟨r, 0, none⟩)) ∧ W.cell? ⟨xb, 0, none⟩ = some (.int .i64 x.seq) ∧ W.cell? ⟨xb, 1, none⟩ = some (.int .i64 x.ent) ∧ W.cell? ⟨xb, 2, none⟩ = some (.int .i64 x.kind) ∧ W.cell? ⟨xb, 3, none⟩ = some (.int .i64 x.tick) := by
  obtain ⟨x0, x1, x2, x3⟩ := four_cells h.box
  exact ⟨(rring_cells h.rf.box).1, x0, x1, x2, x3⟩
theorem RQ.c0 (h : RQ w0 w rr r m L lv xb x W) : W.cell? ⟨rr, 0, none⟩ = some (.pointer (some ⟨r, 0, none⟩)) := h.cells.1
theorem RQ.seq (h : RQ w0 w rr r m L lv xb x W) (s : Nat) : RQ w0 w rr r m L lv xb ⟨s, x.ent, x.kind, x.tick⟩ (W.setCell ⟨xb, 0, none⟩ (.int .i64 s)) := by
  obtain ⟨l1, l2, l3⟩ := h.lo
  have k := keep_set W xb 0 (.int .i64 s)
  have hb := h.box
  unfold recC at hb
  refine ⟨h.rf.keep k (by omega) (by omega) (fun b hb => by have := h.lob b hb; omega), k.get h.res (by omega), ?_, h.kep.step k (fun b h1 _ => .inr (by omega)), h.lo, h.lob⟩
  rw [get_setCell _ hb]
  rfl
theorem RQ.end0 (h : RQ w0 w rr r m L lv xb x W) (a b c d : Value) : RRing w0 rr r m false L lv ((((W.setCell ⟨w.heap.size, 0, none⟩ a).setCell ⟨w.heap.size, 1, none⟩ b).setCell ⟨w.heap.size, 2, none⟩ c).setCell ⟨w.heap.size, 3, none⟩ d) ∧
    RStep2 rr r lv lv w ((((W.setCell ⟨w.heap.size, 0, none⟩ a).setCell ⟨w.heap.size, 1, none⟩ b).setCell ⟨w.heap.size, 2, none⟩ c).setCell ⟨w.heap.size, 3, none⟩ d) := by
  obtain ⟨l1, l2, l3⟩ := h.lo
  have k := keep_set4 W w.heap.size a b c d
  exact ⟨h.rf.keep k (by omega) (by omega) (fun b hb => by have := h.lob b hb; omega), ⟨(h.kep.step k (fun b h1 _ => .inr (by omega))).mono (fun b _ hb => by rcases hb with e | e; exact .inr (.inl e); exact .inr (.inr (.inr e))), .inl rfl⟩⟩
theorem RQ.dead (h : RQ w0 w rr r m L lv xb x W) (a b c d : Value) : RRing w0 rr r m true L lv (((((W.setCell ⟨rr, 2, none⟩ (.bool true)).setCell ⟨w.heap.size, 0, none⟩ a).setCell ⟨w.heap.size, 1, none⟩ b).setCell ⟨w.heap.size, 2, none⟩ c).setCell ⟨w.heap.size, 3, none⟩ d) ∧
    RStep2 rr r lv lv w (((((W.setCell ⟨rr, 2, none⟩ (.bool true)).setCell ⟨w.heap.size, 0, none⟩ a).setCell ⟨w.heap.size, 1, none⟩ b).setCell ⟨w.heap.size, 2, none⟩ c).setCell ⟨w.heap.size, 3, none⟩ d) := by
  obtain ⟨l1, l2, l3⟩ := h.lo
  have k1 := keep_set W rr 2 (.bool true)
  have hb := h.rf.box
  unfold rringC at hb
  have h1 : RRing w0 rr r m true L lv (W.setCell ⟨rr, 2, none⟩ (.bool true)) := h.rf.set k1 (by rw [get_setCell _ hb]; rfl)
  have k := keep_set4 (W.setCell ⟨rr, 2, none⟩ (.bool true)) w.heap.size a b c d
  refine ⟨h1.keep k (by omega) (by omega) (fun b hb => by have := h.lob b hb; omega), ⟨?_, .inl rfl⟩⟩
  have e0 : Keep (fun b => b = rr ∨ b = r ∨ lv.ownBlock = some b ∨ w.heap.size ≤ b) w W := h.kep.mono (fun b _ hb => by rcases hb with e | e; exact .inr (.inl e); exact .inr (.inr (.inr e)))
  exact (e0.step k1 (fun b h1 _ => .inl h1)).step k (fun b h1 _ => .inr (.inr (.inr (by omega))))
/-- Behind the append onto the row. -/
structure RQ2 (w0 w : World) (rr r : Nat) (m : CM) (lv : Value) (xb : Nat) (x : RecV) (W : World) : Prop where
  box : W.heap[rr]? = some (rringC r lv false)
  mem : RC W r m
  res : W.heap[w.heap.size]? = some (recC ⟨0, 0, 0, 0⟩)
  xbox : W.heap[xb]? = some (recC x)
  kep : Keep (fun b => b = rr ∨ b = r ∨ lv.ownBlock = some b ∨ w.heap.size ≤ b) w W
  ne : rr ≠ r
  lo0 : w0.heap.size ≤ rr ∧ w0.heap.size ≤ r
  lo : w.heap.size < xb ∧ r < w.heap.size ∧ rr < w.heap.size
theorem RQ.app {W1 W6 : World} (h : RQ w0 w rr r m L lv xb x W) (b : Below W.heap.size W W1) (g : W1.grownBy W6 lv.ownBlock) : RQ2 w0 w rr r m lv xb x W6 := by
  obtain ⟨l1, l2, l3⟩ := h.lo
  have h1 := h.below b
  have k := Keep.of_grown g
  refine ⟨k.get h1.rf.box (fun e => (h.rf.off _ e.symm).1 rfl), h1.rf.mem.keep k (fun e => (h.rf.off _ e.symm).2 rfl), k.get h1.res (fun e => by have := h.lob _ e.symm; omega), k.get h1.box (fun e => by have := h.lob _ e.symm; omega), ?_, h.rf.ne, h.rf.lo, h.lo⟩
  have e0 : Keep (fun b => b = rr ∨ b = r ∨ lv.ownBlock = some b ∨ w.heap.size ≤ b) w W1 := h1.kep.mono (fun b _ hb => by rcases hb with e | e; exact .inr (.inl e); exact .inr (.inr (.inr e)))
  exact e0.step k (fun b h1 _ => .inr (.inr (.inl h1.symm)))
theorem RQ.cells1 (h : RQ w0 w rr r m L lv xb x W) : W.cell? ⟨rr, 1, none⟩ = some lv ∧ W.cell? ⟨xb, 0, none⟩ = some (.int .i64 x.seq) ∧ W.cell? ⟨xb, 1, none⟩ = some (.int .i64 x.ent) ∧ W.cell? ⟨xb, 2, none⟩ = some (.int .i64 x.kind) ∧ W.cell? ⟨xb, 3, none⟩ = some (.int .i64 x.tick) :=
  ⟨(rring_cells h.rf.box).2.1, h.cells.2⟩
theorem RQ.app2 {W1 W6 : World} {lv' : Value} {n : Nat} {xs : List Value} (h : RQ w0 w rr r m L lv xb x W) (b : Below W.heap.size W W1) (ho : OwnAt W6 w0.heap.size 60 4 lv' n xs) (g : W1.grownBy W6 lv.ownBlock) (hn : lv'.ownBlock = lv.ownBlock ∨ ∀ k, lv'.ownBlock = some k → W1.heap.size ≤ k) :
    RQ2 w0 w rr r m lv xb x W6 ∧ (lv'.ownBlock = lv.ownBlock ∨ NewV w W6 lv') ∧ ∀ k, lv'.ownBlock = some k → k ≠ w.heap.size := by
  have hs := b.size
  have hw := lt_of_get h.res
  refine ⟨h.app b g, ?_, fun k hk => ?_⟩
  · rcases hn with e | e
    · exact .inl e
    · exact .inr (fun k hk => ⟨by have := e k hk; omega, (ho.lt k hk).2⟩)
  · rcases hn with e | e
    · rw [e] at hk
      have := h.lob k hk; omega
    · have := e k hk; omega
theorem RQ2.cells1 (h : RQ2 w0 w rr r m lv xb x W) : W.cell? ⟨rr, 1, none⟩ = some lv ∧ W.cell? ⟨xb, 0, none⟩ = some (.int .i64 x.seq) ∧ W.cell? ⟨xb, 1, none⟩ = some (.int .i64 x.ent) ∧ W.cell? ⟨xb, 2, none⟩ = some (.int .i64 x.kind) ∧ W.cell? ⟨xb, 3, none⟩ = some (.int .i64 x.tick) :=
  ⟨(rring_cells h.box).2.1, four_cells h.xbox⟩
theorem OwnAt.pos {w : World} {base : Nat} {e : TypeId} {size n cap : Nat} {ao : Option Addr} {xs : List Value} (h : OwnAt w base e size (.slice ao n cap) n xs) (hn : 0 < n) : ∃ g off, ao = some ⟨g, off, none⟩ ∧ n ≤ cap := by
  rcases h.2 with ⟨_, h⟩ | ⟨g, off, cap', cur, hv, _, _, hc, _⟩
  · omega
  · obtain ⟨rfl, _, rfl⟩ := Value.slice.inj hv
    exact ⟨g, off, rfl, hc⟩
theorem run_from_recs_off (w : World) (g off N cap lo : Nat) (h1 : lo < cap) (h2 : lo ≤ N) :
    (Instr.slice 66 (.slice (some ⟨g, off, none⟩) N cap) (some (.int .i64 lo)) none none).run Tryd.prog w = .ok (.slice (some ⟨g, off + lo * 4, none⟩) (N - lo) (cap - lo)) w := by
  have ht : Tryd.prog.underlying 66 = some (.slice (Tryd.prog.elem 66)) := by kernel_rfl
  have hs : ((sizeOf (Tryd.prog.elem 66)).run Tryd.prog w) = .ok 4 w := by kernel_rfl
  rw [run_slice_l w 66 (some ⟨g, off, none⟩) N cap ht .i64 lo (by omega) (by omega), hs]
  show Result.ok (sliced _ _ _ _ _) w = _
  unfold sliced
  rw [show ((lo : Int)).toNat = lo from by omega, if_neg (by omega)]
  show Result.ok (Value.slice (some (Addr.add ⟨g, off, none⟩ (lo * 4))) _ _) w = _
  rw [addr_add]
theorem RQ2.fin {lv' : Value} {L' : List RecV} (h : RQ2 w0 w rr r m lv xb x W) (ho : OwnAt W w0.heap.size 60 4 lv' L'.length (L'.flatMap recCells)) (hb : lv'.ownBlock = lv.ownBlock ∨ NewV w W lv') (hlv : ∀ b, lv.ownBlock = some b → b ≠ rr ∧ b ≠ r ∧ b < w.heap.size) (hxb : ∀ b, lv'.ownBlock = some b → b ≠ w.heap.size) (a b c d : Value) :
    RRing w0 rr r m false L' lv' (((((W.setCell ⟨rr, 1, none⟩ lv').setCell ⟨w.heap.size, 0, none⟩ a).setCell ⟨w.heap.size, 1, none⟩ b).setCell ⟨w.heap.size, 2, none⟩ c).setCell ⟨w.heap.size, 3, none⟩ d) ∧
    RStep2 rr r lv lv' w (((((W.setCell ⟨rr, 1, none⟩ lv').setCell ⟨w.heap.size, 0, none⟩ a).setCell ⟨w.heap.size, 1, none⟩ b).setCell ⟨w.heap.size, 2, none⟩ c).setCell ⟨w.heap.size, 3, none⟩ d) := by
  obtain ⟨l1, l2, l3⟩ := h.lo
  have hoff : ∀ b, lv'.ownBlock = some b → b ≠ rr ∧ b ≠ r := fun b hb' => by
    rcases hb with e | e
    · rw [e] at hb'; exact ⟨(hlv b hb').1, (hlv b hb').2.1⟩
    · have := (e b hb').1; omega
  have k1 := keep_set W rr 1 lv'
  have hbx := h.box
  unfold rringC at hbx
  have h1 : RRing w0 rr r m false L' lv' (W.setCell ⟨rr, 1, none⟩ lv') := ⟨by rw [get_setCell _ hbx]; rfl, h.mem.keep k1 (fun e => h.ne e.symm), ho.keep k1 (fun b hb' => (hoff b hb').1), h.ne, hoff, h.lo0⟩
  have k := keep_set4 (W.setCell ⟨rr, 1, none⟩ lv') w.heap.size a b c d
  refine ⟨h1.keep k (by omega) (by omega) (fun b hb' => hxb b hb'), ⟨(h.kep.step k1 (fun b h1 _ => .inl h1)).step k (fun b h1 _ => .inr (.inr (.inr (by omega)))), ?_⟩⟩
  rcases hb with e | e
  · exact .inl e
  · exact .inr (fun b hb' => ⟨(e b hb').1, Nat.lt_of_lt_of_le (e b hb').2 (Nat.le_trans k1.size k.size)⟩)
end

set_option maxRecDepth 100000 in
set_option maxHeartbeats 8000000 in
theorem rAppend_any (w0 : World) (rr r : Nat) (m : CM) (dead : Bool) (L : List RecV) (lv : Value) (en kd tk : Int) (kk : Int) (w : World) (h : RRing w0 rr r m dead L lv w) (hw0 : w0.heap.size ≤ w.heap.size) (hk : CMOk m kk) (hk2 : kk ≤ 900000000) (hl : 153 ≤ m.bs.length) (hL : L.length ≤ 8) (hS : (lastZ L).seq < 4294967296) :
    Calls Tryd.prog 51 #[.pointer (some ⟨rr, 0, none⟩), .int .i64 en, .int .i64 kd, .int .i64 tk] w fun e w' => e = .returned (.tuple #[recAgg (ringApp m L dead en kd tk).2.1, .int .i64 ((ringApp m L dead en kd tk).1 : Nat)]) ∧
      ∃ lv', RRing w0 rr r (ringApp m L dead en kd tk).2.2.1 (ringApp m L dead en kd tk).2.2.2.2 (ringApp m L dead en kd tk).2.2.2.1 lv' w' ∧ RStep2 rr r lv lv' w w' := by
  obtain ⟨lao, lcp, rfl⟩ := h.own.val
  have ba : Below w.heap.size w (w.alloc (recC ⟨0, 0, 0, 0⟩)) := (Below.refl _ _).alloc (Nat.le_refl _) _
  have na := get_alloc_new w (recC ⟨0, 0, 0, 0⟩)
  have HK0 := Lib.hid h
  have HK1 := Lib.hid (h.below ba)
  have HN := Lib.hid na
  have HBA := Lib.hid ba
  have HW0 := Lib.hid hw0
  clear h ba na hw0
  unfold recC at HK1 HN HBA
  go_enter Tryd.func51, Tryd.ntmps51
  go_upto_region 1 with fail
  generalize w.alloc _ = w1 at HK1 HN HBA ⊢
  obtain ⟨r0, r1, r2, rf⟩ := rring_cells HK1.out.box
  obtain ⟨z0, z1, z2, z3⟩ := four_cells HN.out
  have zf : ∀ o, w1.frozen? ⟨w.heap.size, o, none⟩ = false := fun o => frozen_of HN.out
  cases dead with
  | true =>
    have HE : Hid (ringApp m L true en kd tk = (8, ⟨0, 0, 0, 0⟩, m, L, true)) := (rfl : ringApp m L true en kd tk = (8, ⟨0, 0, 0, 0⟩, m, L, true))
    go_wp2_with fail
    refine bodyPost_ret (v := .tuple #[recAgg ⟨0, 0, 0, 0⟩, .int .i64 8]) (by simp [recAgg, results, Tryd.results51, go_sem, z0, z1, z2, z3, World.cell?_setCell_same, World.cell?_setCell_other]) rfl ?_
    rw [HE.out]
    exact ⟨rfl, _, HK0.out.below (below_set4 HBA.out), ⟨(Keep.of_below (below_set4 HBA.out)).mono (fun b _ hb => .inr (.inr (.inr hb))), .inl rfl⟩⟩
  | false =>
  by_cases hok : appOk en kd tk = true
  · have hb : 0 ≤ en ∧ en ≤ 255 ∧ 0 ≤ kd ∧ kd ≤ 255 ∧ 0 ≤ tk ∧ tk < 281474976710656 := of_decide_eq_true hok
    have hR0 : ringApp m L false en kd tk = if 4294967296 ≤ (lastZ L).seq + 1 then (7, ⟨0, 0, 0, 0⟩, m, L, false)
      else if (ringPut m (recNew L en kd tk)).1 = 0 then (0, recNew L en kd tk, (ringPut m (recNew L en kd tk)).2, (L ++ [recNew L en kd tk]).drop (L.length + 1 - 8), false) else ((ringPut m (recNew L en kd tk)).1, ⟨0, 0, 0, 0⟩, (ringPut m (recNew L en kd tk)).2, L, true) := by
      unfold ringApp
      rw [if_neg (by decide), hok, if_neg (by decide)]
    obtain ⟨b1, b2, b3, b4, b5, b6⟩ := hb
    clear hok
    have HSa := Lib.hid hS
    have HLa := Lib.hid hL
    have Hla := Lib.hid hl
    have Hka := Lib.hid hk2
    clear hS hL hl hk2
    go_upto_region 5 with fail
    have hS := HSa.out
    have hL := HLa.out
    have hl := Hla.out
    have hk2 := Hka.out
    clear HSa HLa Hla Hka z0 z1 z2 z3 zf r0 r1 r2 rf
    obtain ⟨E, rfl⟩ : ∃ E : Nat, en = E := ⟨en.toNat, by omega⟩
    obtain ⟨K, rfl⟩ : ∃ K : Nat, kd = K := ⟨kd.toNat, by omega⟩
    obtain ⟨T, rfl⟩ : ∃ T : Nat, tk = T := ⟨tk.toNat, by omega⟩
    obtain ⟨x, hx⟩ : ∃ x, x = recNew L E K T := ⟨_, rfl⟩
    rw [← hx] at hR0
    obtain ⟨S, hSS⟩ : ∃ S, S = (lastZ L).seq := ⟨_, rfl⟩
    have HX : Hid (x = ⟨S + 1, E, K, T⟩) := (show x = ⟨S + 1, E, K, T⟩ from by rw [hx, hSS]; rfl)
    rw [← hSS] at hS hR0
    have HR := Lib.hid hR0
    have HSS := Lib.hid hSS
    have hs1 : x.seq = S + 1 := by rw [HX.out]
    have hbx : Below w1.heap.size w1 (w1.alloc (recC ⟨1, E, K, T⟩)) := (Below.refl _ _).alloc (Nat.le_refl _) _
    have hq : RQ w0 w rr r m L (.slice lao L.length lcp) w1.heap.size ⟨1, E, K, T⟩ (w1.alloc (recC ⟨1, E, K, T⟩)) := by
      have hb2 := HBA.out.trans (hbx.mono HBA.out.size)
      exact ⟨HK1.out.below hbx, below_get hbx HN.out (lt_of_get HN.out), get_alloc_new _ _, (Keep.of_below hb2).mono (fun b _ hb => .inr hb), ⟨lt_of_get HN.out, HK0.out.mem.lt, lt_of_get HK0.out.box⟩, fun b hb => (HK0.out.own.lt b hb).2⟩
    have HQ : Hid (RQ w0 w rr r m L (.slice lao L.length lcp) w1.heap.size ⟨1, E, K, T⟩ (w1.alloc (.cells #[.int .i64 1, .int .i64 E, .int .i64 K, .int .i64 T] 60))) := hq
    clear hR0 hx hSS hbx hq HBA HN HK1
    go_upto_region 6 with fail
    obtain ⟨xb, hxb⟩ : ∃ xb, xb = w1.heap.size := ⟨_, rfl⟩
    rw [← hxb] at HQ ⊢
    generalize w1.alloc _ = w2 at HQ ⊢
    clear hxb b1 b2 b3 b4 b5 b6
    obtain ⟨y0, y1, y2, y3, y4⟩ := HQ.out.cells
    obtain ⟨r0, r1, r2, rf⟩ := rring_cells HQ.out.rf.box
    have xf : ∀ o, w2.frozen? ⟨xb, o, none⟩ = false := fun o => frozen_of HQ.out.box
    go_upto_if 52 with fail
    go_cut [53] (fun s53 wx => Hid (RQ w0 w rr r m L (.slice lao L.length lcp) xb x wx))
    case first =>
      by_cases h0 : L.length = 0
      · have hd : ¬ (0 : Int) < (L.length : Int) := by omega
        have HX1 : Hid (x = ⟨1, E, K, T⟩) := (show x = ⟨1, E, K, T⟩ from by rw [HX.out, HSS.out, List.eq_nil_of_length_eq_zero h0]; rfl)
        clear h0
        go_wp2_with fail
        go_meet
        exact (show RQ _ _ _ _ _ _ _ _ x _ from by rw [HX1.out]; exact HQ.out)
      · obtain ⟨N, hN⟩ : ∃ N, L.length = N + 1 := ⟨L.length - 1, by omega⟩
        obtain ⟨lb, lo, rfl, _, hlb, hc⟩ := rec_cells HQ.out.rf.own.slOf (by omega)
        have q0 := (hc N (by omega)).1
        have hqS : (L[N]'(by omega)).seq = S := by rw [HSS.out, lastZ_at hN]
        rw [hqS] at q0
        have hlx : lb < w.heap.size := HQ.out.lob lb rfl
        have hxw := HQ.out.lo.1
        have hn1 : ¬ lb = xb := by omega
        have hn2 : ¬ xb = lb := by omega
        have hLN : (L.length : Int) - 1 = (N : Int) := by omega
        have hwN : IntKind.i64.wrap (N : Int) = (N : Int) := IntWalk.i64_in _ (by omega)
        have hN0 : (0 : Int) ≤ (N : Int) := by omega
        have hNL : (N : Int) < (L.length : Int) := by omega
        have hd : (0 : Int) < (L.length : Int) := by omega
        have hwS : IntKind.i64.wrap ((S : Int) + 1) = (S : Int) + 1 := IntWalk.i64_in _ (by omega)
        have HF : Hid (RQ w0 w rr r m L (.slice (some ⟨lb, lo, none⟩) L.length lcp) xb x ((w2.setCell ⟨xb, 0, none⟩ (.int .i64 ((S : Int) + 1))).drew)) := (show RQ w0 w rr r m L (.slice (some ⟨lb, lo, none⟩) L.length lcp) xb x ((w2.setCell ⟨xb, 0, none⟩ (.int .i64 ((S : Int) + 1))).drew) from by
          have := (HQ.out.seq (S + 1)).drew
          rw [HX.out]
          exact this)
        clear hc hN h0 hqS hlb hlx hxw hs1
        go_wp2_with fail
        go_region
        all_goals (go_wp2_with fail; go_meet)
        all_goals exact HF.out
    case rest =>
    have HQ1 := hcut
    clear hcut HQ y0 y1 y2 y3 y4 r0 r1 r2 rf xf
    obtain ⟨q, hq⟩ : ∃ q, q = x.seq := ⟨_, rfl⟩
    have hqS : q = S + 1 := by rw [hq, hs1]
    by_cases hfull : 4294967296 ≤ S + 1
    · have hf2 : (4294967296 : Int) ≤ (q : Int) := by omega
      rw [if_pos hfull] at HR
      obtain ⟨y0, y1, y2, y3, y4⟩ := HQ1.out.cells
      obtain ⟨z0, z1, z2, z3⟩ := four_cells HQ1.out.res
      have zf : ∀ o, wc.frozen? ⟨w.heap.size, o, none⟩ = false := fun o => frozen_of HQ1.out.res
      rw [← hq] at y1
      clear hq hqS hs1 hfull
      go_wp2_with fail
      refine bodyPost_ret (v := .tuple #[recAgg ⟨0, 0, 0, 0⟩, .int .i64 7]) (by simp [recAgg, results, Tryd.results51, go_sem, z0, z1, z2, z3, World.cell?_setCell_same, World.cell?_setCell_other]) rfl ?_
      rw [HR.out]
      exact ⟨rfl, _, HQ1.out.end0 _ _ _ _⟩
    have hf2 : decide ((4294967296 : Int) ≤ (q : Int)) = false := decide_eq_false (by omega)
    rw [if_neg hfull] at HR
    have HRd : Hid (∀ (j : Nat) (m' : CM), ringPut m x = (j + 1, m') → ringApp m L false E K T = (j + 1, ⟨0, 0, 0, 0⟩, m', L, true)) := (show _ from fun j m' hp => by rw [HR.out, hp, if_neg (by simp)])
    have HRs : Hid (∀ m' : CM, ringPut m x = (0, m') → ringApp m L false E K T = (0, x, m', (L ++ [x]).drop (L.length + 1 - 8), false)) := (show _ from fun m' hp => by rw [HR.out, hp, if_pos rfl])
    have hxs : RecSm x := by rw [HX.out]; exact ⟨by show S + 1 < _; omega, by show E < _; omega, by show K < _; omega, by show T < _; omega⟩
    have HXS := Lib.hid hxs
    have hA0 := slotAt_le x
    obtain ⟨A, hA⟩ : ∃ A, A = slotAt x := ⟨_, rfl⟩
    obtain ⟨k9, hk9⟩ : ∃ k, k = (q - 1) % 9 := ⟨_, rfl⟩
    have hAk : A = k9 * 17 := by rw [hA, hk9, hq]; rfl
    have HSO := Lib.hid (rSlotOf_any q (by omega) (by omega))
    rw [← hk9] at HSO
    rw [← hA] at hA0
    have HA := Lib.hid hA
    have HQQ := Lib.hid hq
    obtain ⟨C, hC⟩ : ∃ C, C = A + 16 := ⟨_, rfl⟩
    have hAI : (k9 : Int) * 17 = (A : Int) := by omega
    have hwA : IntKind.i64.wrap (A : Int) = (A : Int) := IntWalk.i64_in _ (by omega)
    have hC1 : (A : Int) + 17 - 1 = (C : Int) := by omega
    have hC2 : (A : Int) + 16 = (C : Int) := by omega
    have hwC : IntKind.i64.wrap (C : Int) = (C : Int) := IntWalk.i64_in _ (by omega)
    have hwC17 : IntKind.i64.wrap ((A : Int) + 17) = (A : Int) + 17 := IntWalk.i64_in _ (by omega)
    have hCl : C < m.bs.length := by omega
    have hlook : lookE m.off m.bs.length C 1 = if m.off = true then 8 else 0 := by rw [hC, hA]; exact look16 m x hl
    have HC := Lib.hid hC
    have HCL := Lib.hid hCl
    have HK := Lib.hid hk
    have HK2 := Lib.hid hk2
    have HLL := Lib.hid hl
    have HL8 := Lib.hid hL
    have HA0 := Lib.hid hA0
    obtain ⟨y0, y1, y2, y3, y4⟩ := HQ1.out.cells
    rw [← hq] at y1
    clear hA hk9 hAk hA0 hq hqS hs1 hfull hC hCl hxs hk hk2 hl hL HR HSS
    cases ho : m.off with
    | true =>
      rw [ho, if_pos rfl] at hlook
      have HLK : Hid (∀ W, RQ w0 w rr r m L (.slice lao L.length lcp) xb x W → Calls Tryd.prog 75 #[.pointer (some ⟨r, 0, none⟩), .int .i64 C, .int .i64 1] W fun e w' => e = .returned (.int .i64 8) ∧ W = w') := (show _ from fun W hW => by
        obtain ⟨left, cuts, hrr⟩ := hW.rf.mem
        have := rError_any r m left cuts C 1 W hrr
        rw [ho, hlook] at this
        exact this)
      have HP : Hid (ringPut m x = (7 + 1, m)) := (show ringPut m x = (7 + 1, m) from by
        unfold ringPut
        rw [← HA.out, ← HC.out, ho, hlook, if_neg (by decide)])
      clear hlook ho
      go_wp2_with fail
      refine (HSO.out _).mono ?_
      rintro e w' ⟨rfl, rfl⟩
      go_wp2_with fail
      refine (HLK.out _ HQ1.out).mono ?_
      rintro e w' ⟨rfl, rfl⟩
      have zne : ¬ rr = w.heap.size := by have := HQ1.out.lo; omega
      have zne2 : ¬ w.heap.size = rr := by have := HQ1.out.lo; omega
      obtain ⟨q0, q1, q2, qf⟩ := rring_cells HQ1.out.rf.box
      obtain ⟨z0, z1, z2, z3⟩ := four_cells HQ1.out.res
      have zf : ∀ o, World.frozen? _ ⟨w.heap.size, o, none⟩ = false := fun o => frozen_of HQ1.out.res
      go_wp2_with fail
      refine bodyPost_ret (v := .tuple #[recAgg ⟨0, 0, 0, 0⟩, .int .i64 8]) (by simp [recAgg, results, Tryd.results51, go_sem, z0, z1, z2, z3, World.cell?_setCell_same, World.cell?_setCell_other]) rfl ?_
      rw [HRd.out 7 _ HP.out]
      exact ⟨rfl, _, HQ1.out.dead _ _ _ _⟩
    | false =>
    rw [ho, if_neg (by decide)] at hlook
    have HLK : Hid (∀ W, RQ w0 w rr r m L (.slice lao L.length lcp) xb x W → Calls Tryd.prog 75 #[.pointer (some ⟨r, 0, none⟩), .int .i64 C, .int .i64 1] W fun e w' => e = .returned (.int .i64 0) ∧ W = w') := (show _ from fun W hW => by
      obtain ⟨left, cuts, hrr⟩ := hW.rf.mem
      have := rError_any r m left cuts C 1 W hrr
      rw [ho, hlook] at this
      exact this)
    obtain ⟨s, hs⟩ : ∃ s, s = strOf m.bs := ⟨_, rfl⟩
    have hCs : C < s.size := by rw [hs, strOf_size]; exact HCL.out
    have hCs2 : (C : Int) < (s.size : Int) := by omega
    have hbs : s[C]'hCs = m.bs.getD C 0 := by
      subst hs
      rw [List.getD_eq_getElem?_getD, List.getElem?_eq_getElem HCL.out]
      rfl
    obtain ⟨yb, hyb⟩ : ∃ y, y = m.bs.getD C 0 := ⟨_, rfl⟩
    rw [← hyb] at hbs
    have hr0 : wc.cell? ⟨r, 0, none⟩ = some (.string s) := by
      obtain ⟨left, cuts, hrr⟩ := HQ1.out.rf.mem
      rw [hs]; exact (rcells_cells hrr).1
    have HST : Hid (st1 m x = if yb = 0 then (0, m) else (writeE m.cut 1, writeM m C [0])) := (show st1 m x = if yb = 0 then (0, m) else (writeE m.cut 1, writeM m C [0]) from by
      unfold st1
      rw [← HA.out, ← HC.out, ho, hlook, if_pos rfl, hyb])
    obtain ⟨zb, hzb⟩ : ∃ zb, ((yb.toNat : Int) != 0) = zb := ⟨_, rfl⟩
    have HZB : Hid (zb = false ↔ yb = 0) := (show zb = false ↔ yb = 0 from by
      rw [← hzb]
      constructor
      · intro h
        have h2 : (yb.toNat : Int) = 0 := by simpa using h
        apply UInt8.toNat_inj.1
        show yb.toNat = 0
        omega
      · intro h; rw [h]; rfl)
    have HO := Lib.hid ho
    clear hlook hs hyb ho
    go_wp2_with fail
    refine (HSO.out _).mono ?_
    rintro e w' ⟨rfl, rfl⟩
    go_wp2_with fail
    refine (HLK.out _ HQ1.out).mono ?_
    rintro e w' ⟨rfl, rfl⟩
    clear HSO HLK
    have HBy0 : Hid (∀ (m : CM) W, RQ w0 w rr r m L (.slice lao L.length lcp) xb x W → Calls Tryd.prog 77 #[.int .i64 0] W fun e w' => e = .returned (.string (strOf [0])) ∧ RQ w0 w rr r m L (.slice lao L.length lcp) xb x w') := (show _ from fun m W hW => (rByte_any 0 W).mono (fun _ _ ⟨he, b⟩ => ⟨he, hW.below b⟩))
    have HBy1 : Hid (∀ (m : CM) W, RQ w0 w rr r m L (.slice lao L.length lcp) xb x W → Calls Tryd.prog 77 #[.int .i64 165] W fun e w' => e = .returned (.string (strOf [165])) ∧ RQ w0 w rr r m L (.slice lao L.length lcp) xb x w') := (show _ from fun m W hW => (rByte_165 W).mono (fun _ _ ⟨he, b⟩ => ⟨he, hW.below b⟩))
    have HBd : Hid (∀ (m : CM) W, RQ w0 w rr r m L (.slice lao L.length lcp) xb x W → Calls Tryd.prog 78 #[.agg #[.int .i64 x.seq, .int .i64 x.ent, .int .i64 x.kind, .int .i64 x.tick]] W fun e w' => e = .returned (.string (strOf (recBody x))) ∧ RQ w0 w rr r m L (.slice lao L.length lcp) xb x w') := (show _ from fun m W hW => (rBody_any x HXS.out W).mono (fun _ _ ⟨he, b⟩ => ⟨he, hW.below b⟩))
    have HWr : Hid (∀ (m1 : CM) (a : Nat) (l : List UInt8) (k : Int) W, RQ w0 w rr r m1 L (.slice lao L.length lcp) xb x W → CMOk m1 k → k ≤ 1000000000 → m1.off = false → a + l.length ≤ m1.bs.length → Calls Tryd.prog 76 #[.pointer (some ⟨r, 0, none⟩), .int .i64 a, .string (strOf l)] W fun e w' => e = .returned (.int .i64 (writeE m1.cut l.length : Nat)) ∧ RQ w0 w rr r (writeM m1 a l) L (.slice lao L.length lcp) xb x w') := (show _ from fun m1 a l k W hW hk hk2 ho hn => (rw_in r m1 a l W hW.rf.mem k hk hk2 ho hn).mono (fun _ _ ⟨he, h1, h2⟩ => ⟨he, hW.write h2 h1⟩))
    go_upto_if 98 with fail
    go_cut [13] (fun s13 wx => ∃ (E1 : Nat) (m1 : CM), s13 = .int .i64 E1 ∧ Eqd (E1, m1) (st1 m x) ∧ Hid (RQ w0 w rr r m1 L (.slice lao L.length lcp) xb x wx))
    case first =>
      cases zb with
      | false =>
        have hy0 := Lib.hid (HZB.out.1 rfl)
        have HE1 : Eqd ((0 : Nat), m) (st1 m x) := ⟨by rw [HST.out, if_pos hy0.out]⟩
        go_wp2_with fail
        go_meet
        exact ⟨0, m, rfl, HE1, HQ1.out⟩
      | true =>
        have hy0 : yb ≠ 0 := fun h => by have := HZB.out.2 h; cases this
        have HE1 : Eqd (writeE m.cut 1, writeM m C [0]) (st1 m x) := ⟨by rw [HST.out, if_neg hy0]⟩
        have HW0 : Hid (∀ W, RQ w0 w rr r m L (.slice lao L.length lcp) xb x W → Calls Tryd.prog 76 #[.pointer (some ⟨r, 0, none⟩), .int .i64 C, .string (strOf [0])] W fun e w' => e = .returned (.int .i64 (writeE m.cut 1 : Nat)) ∧ RQ w0 w rr r (writeM m C [0]) L (.slice lao L.length lcp) xb x w') := (show _ from fun W hW => HWr.out m C [0] kk W hW HK.out (by have := HK2.out; omega) HO.out (by have := HCL.out; rw [List.length_singleton]; omega))
        clear hy0 hbs hr0 hCs2 HZB HST
        go_wp2_with fail
        go_region_held3 (fun w' => w'.cell? ⟨rr, 0, none⟩ = some (.pointer (some ⟨r, 0, none⟩)))
          (first | exact HQ1.out.cells.1 | exact RQ.c0 (by repeat (first | exact kF | exact kE | exact HQ1.out | refine RQ.drew ?_)))
          (first | (go_at_call 77; refine (HBy0.out m _ ?_).mono ?_; (repeat (first | exact HQ1.out | refine RQ.drew ?_)); rintro e w' ⟨rfl, kE⟩) | (go_at_call 76; refine (HW0.out _ ?_).mono ?_; (repeat (first | exact kE | refine RQ.drew ?_)); rintro e w' ⟨rfl, kF⟩))
        all_goals (go_wp2_with fail; go_meet)
        all_goals exact ⟨_, _, rfl, HE1, by repeat (first | exact kF | refine RQ.drew ?_)⟩
    case rest =>
    obtain ⟨E1, m1, rfl, hE1, HQ2⟩ := hcut
    have HS1 : Hid (StOk (E1, m1) m.bs.length (kk + 1)) := (show StOk (E1, m1) m.bs.length (kk + 1) from by rw [hE1.out]; exact st1_ok x HLL.out HK.out)
    clear y0 y1 y2 y3 y4 hbs hr0 hCs2 HZB HST HQ1 hzb
    obtain ⟨y0, y1, y2, y3, y4⟩ := HQ2.out.cells
    by_cases h1 : E1 = 0
    · subst h1
      have HE1 : Hid (st1 m x = (0, m1)) := hE1.out.symm
      have HW1 : Hid (∀ W, RQ w0 w rr r m1 L (.slice lao L.length lcp) xb x W → Calls Tryd.prog 76 #[.pointer (some ⟨r, 0, none⟩), .int .i64 A, .string (strOf (recBody x))] W fun e w' => e = .returned (.int .i64 (writeE m1.cut 16 : Nat)) ∧ RQ w0 w rr r (writeM m1 A (recBody x)) L (.slice lao L.length lcp) xb x w') := (show _ from fun W hW => by
        have := HWr.out m1 A (recBody x) (kk + 1) W hW HS1.out.ok (by have := HK2.out; omega) (HS1.out.off rfl) (by have h1 : m1.bs.length = m.bs.length := HS1.out.len; rw [h1, recBody_length]; have := HA0.out; have := HLL.out; omega)
        rw [recBody_length] at this
        exact this)
      have HS2 : Hid (StOk (writeE m1.cut 16, writeM m1 A (recBody x)) m.bs.length (kk + 17)) := (show StOk (writeE m1.cut 16, writeM m1 A (recBody x)) m.bs.length (kk + 17) from by
        have := st_write A (recBody x) HS1.out.len HS1.out.ok (by rw [recBody_length]; have := HA0.out; have := HLL.out; omega)
        rw [recBody_length] at this
        exact this.mono (by simp; omega))
      have HE2 : Hid (st2 (st1 m x) x = (writeE m1.cut 16, writeM m1 A (recBody x))) := (show st2 (st1 m x) x = (writeE m1.cut 16, writeM m1 A (recBody x)) from by rw [HE1.out, HA.out]; rfl)
      rw [show (((0 : Nat) : Int)) = 0 from rfl]
      obtain ⟨E2, hE2⟩ : ∃ E, E = writeE m1.cut 16 := ⟨_, rfl⟩
      obtain ⟨m2, hm2⟩ : ∃ mm, mm = writeM m1 A (recBody x) := ⟨_, rfl⟩
      rw [← hE2, ← hm2] at HW1 HS2 HE2
      clear hE2 hm2 hE1 HE1
      go_upto_region 16 with fail
      go_cut [13] (fun s13 wx => s13 = .int .i64 E2 ∧ Hid (RQ w0 w rr r m2 L (.slice lao L.length lcp) xb x wx))
      case first =>
        go_region_held3 (fun w' => w'.cell? ⟨rr, 0, none⟩ = some (.pointer (some ⟨r, 0, none⟩)) ∧ w'.cell? ⟨xb, 0, none⟩ = some (.int .i64 x.seq) ∧ w'.cell? ⟨xb, 1, none⟩ = some (.int .i64 x.ent) ∧ w'.cell? ⟨xb, 2, none⟩ = some (.int .i64 x.kind) ∧ w'.cell? ⟨xb, 3, none⟩ = some (.int .i64 x.tick))
          (first | exact HQ2.out.cells | exact RQ.cells (by repeat (first | exact kF | exact kE | exact HQ2.out | refine RQ.drew ?_)))
          (first | (go_at_call 78; refine (HBd.out m1 _ ?_).mono ?_; (repeat (first | exact HQ2.out | refine RQ.drew ?_)); rintro e w' ⟨rfl, kE⟩) | (go_at_call 76; refine (HW1.out _ ?_).mono ?_; (repeat (first | exact kE | refine RQ.drew ?_)); rintro e w' ⟨rfl, kF⟩))
        all_goals (go_wp2_with fail; go_meet)
        all_goals exact ⟨rfl, by repeat (first | exact kF | refine RQ.drew ?_)⟩
      case rest =>
      obtain ⟨rfl, HQ3⟩ := hcut
      clear y0 y1 y2 y3 y4 HQ2 HW1 HBd
      obtain ⟨y0, y1, y2, y3, y4⟩ := HQ3.out.cells
      by_cases h2 : E2 = 0
      · subst h2
        have HE2' : Hid (st2 (st1 m x) x = (0, m2)) := HE2
        have HW2 : Hid (∀ W, RQ w0 w rr r m2 L (.slice lao L.length lcp) xb x W → Calls Tryd.prog 76 #[.pointer (some ⟨r, 0, none⟩), .int .i64 C, .string (strOf [165])] W fun e w' => e = .returned (.int .i64 (writeE m2.cut 1 : Nat)) ∧ RQ w0 w rr r (writeM m2 C [165]) L (.slice lao L.length lcp) xb x w') := (show _ from fun W hW =>
          HWr.out m2 C [165] (kk + 17) W hW HS2.out.ok (by have := HK2.out; omega) (HS2.out.off rfl) (by have h1 : m2.bs.length = m.bs.length := HS2.out.len; rw [h1, List.length_singleton]; have := HCL.out; omega))
        have HE3 : Hid (ringPut m x = (writeE m2.cut 1, writeM m2 C [165])) := (show ringPut m x = (writeE m2.cut 1, writeM m2 C [165]) from by rw [ringPut_st, HE2'.out, HC.out, HA.out]; rfl)
        rw [show (((0 : Nat) : Int)) = 0 from rfl]
        obtain ⟨E3, hE3⟩ : ∃ E, E = writeE m2.cut 1 := ⟨_, rfl⟩
        obtain ⟨m3, hm3⟩ : ∃ mm, mm = writeM m2 C [165] := ⟨_, rfl⟩
        rw [← hE3, ← hm3] at HW2 HE3
        clear hE3 hm3 HE2 HE2'
        go_upto_region 18 with fail
        go_cut [13] (fun s13 wx => s13 = .int .i64 E3 ∧ Hid (RQ w0 w rr r m3 L (.slice lao L.length lcp) xb x wx))
        case first =>
          go_region_held3 (fun w' => w'.cell? ⟨rr, 0, none⟩ = some (.pointer (some ⟨r, 0, none⟩)))
            (first | exact HQ3.out.cells.1 | exact RQ.c0 (by repeat (first | exact kF | exact kE | exact HQ3.out | refine RQ.drew ?_)))
            (first | (go_at_call 77; refine (HBy1.out m2 _ ?_).mono ?_; (repeat (first | exact HQ3.out | refine RQ.drew ?_)); rintro e w' ⟨rfl, kE⟩) | (go_at_call 76; refine (HW2.out _ ?_).mono ?_; (repeat (first | exact kE | refine RQ.drew ?_)); rintro e w' ⟨rfl, kF⟩))
          all_goals (go_wp2_with fail; go_meet)
          all_goals exact ⟨rfl, by repeat (first | exact kF | refine RQ.drew ?_)⟩
        case rest =>
        obtain ⟨rfl, HQ4⟩ := hcut
        clear y0 y1 y2 y3 y4 HQ3 HW2 HBy0 HBy1 HWr HS2 HS1
        by_cases h3 : E3 = 0
        · subst h3
          rw [show (((0 : Nat) : Int)) = 0 from rfl]
          obtain ⟨y0, y1, y2, y3, y4⟩ := HQ4.out.cells
          obtain ⟨r0, r1, r2, rf⟩ := rring_cells HQ4.out.rf.box
          obtain ⟨i0, hi0, hz0, hz1, hz2⟩ := info_parts Tryd.infoRec
          have HRR := Lib.hid (HRs.out m3 HE3.out)
          have h63 : Hid (L.length + 1 ≤ maxLen) := (show L.length + 1 ≤ maxLen from by unfold maxLen; have := HL8.out; omega)
          have hby : Hid ((L.length + 1) * 32 ≤ 140737488355328) := (show (L.length + 1) * 32 ≤ 140737488355328 from by have := HL8.out; omega)
          go_upto_region 22 with fail
          have HOW : Hid (∀ W, Below wc.heap.size wc W → OwnAt W w0.heap.size 60 4 (.slice lao L.length lcp) L.length (L.flatMap recCells) ∧ w0.heap.size ≤ W.heap.size) := (show _ from fun W hW => ⟨HQ4.out.rf.own.later hW, Nat.le_trans (Nat.le_trans HW0.out HQ4.out.kep.size) hW.size⟩)
          have HC1 : Hid (∀ W, Below wc.heap.size wc W → W.cell? ⟨rr, 1, none⟩ = some (.slice lao L.length lcp) ∧ W.cell? ⟨xb, 0, none⟩ = some (.int .i64 x.seq) ∧ W.cell? ⟨xb, 1, none⟩ = some (.int .i64 x.ent) ∧ W.cell? ⟨xb, 2, none⟩ = some (.int .i64 x.kind) ∧ W.cell? ⟨xb, 3, none⟩ = some (.int .i64 x.tick)) := (show _ from fun W hW => (HQ4.out.below hW).cells1)
          have HLV : Hid (∀ b, (Value.slice lao L.length lcp).ownBlock = some b → b ≠ rr ∧ b ≠ r ∧ b < w.heap.size) := (show _ from fun b hb => ⟨(HQ4.out.rf.off b hb).1, (HQ4.out.rf.off b hb).2, HQ4.out.lob b hb⟩)
          go_cut [14] (fun s14 wx => ∃ (ao : Option Addr) (cp : Nat), s14 = .slice ao (L.length + 1) cp ∧ Hid (OwnAt wx w0.heap.size 60 4 (.slice ao (L.length + 1) cp) (L.length + 1) (L.flatMap recCells ++ recCells x)) ∧ Hid (RQ2 w0 w rr r m3 (.slice lao L.length lcp) xb x wx ∧ ((Value.slice ao (L.length + 1) cp).ownBlock = (Value.slice lao L.length lcp).ownBlock ∨ NewV w wx (.slice ao (L.length + 1) cp)) ∧ ∀ k, (Value.slice ao (L.length + 1) cp).ownBlock = some k → k ≠ w.heap.size))
          case first =>
            go_region_held3 (fun w' => w'.cell? ⟨rr, 1, none⟩ = some (.slice lao L.length lcp) ∧ w'.cell? ⟨xb, 0, none⟩ = some (.int .i64 x.seq) ∧ w'.cell? ⟨xb, 1, none⟩ = some (.int .i64 x.ent) ∧ w'.cell? ⟨xb, 2, none⟩ = some (.int .i64 x.kind) ∧ w'.cell? ⟨xb, 3, none⟩ = some (.int .i64 x.tick))
              (first | exact hfin.1.cells1 | exact HC1.out _ (by repeat (first | exact Below.refl _ _ | refine Below.drew ?_ | refine Below.alloc ?_ (by simp) _)))
              (first | (refine step_append_off rfl (.tmp 135) (.tmp 137) 66 rfl w0.heap.size 60 i0 _ 4 32 Tryd.underlying66 hi0 hz0 hz1 hz2 rfl (by decide) (.slice lao L.length lcp) L.length (L.flatMap recCells) rfl ?_ ⟨wc.heap.size, 0, none⟩ 1 1 (recCells x) rfl rfl ?_ (by intro u hu; simp [recCells] at hu; rcases hu with rfl | rfl | rfl | rfl <;> rfl) h63.out hby.out ?_ ?_; exact (HOW.out _ (by repeat (first | exact Below.refl _ _ | refine Below.drew ?_ | refine Below.alloc ?_ (by simp) _))).1; exact new_cells _ (recCells x) _; exact (HOW.out _ (by repeat (first | exact Below.refl _ _ | refine Below.drew ?_ | refine Below.alloc ?_ (by simp) _))).2; intro a1 k1 w6 ho6 hg6 hn6; have hfin := HQ4.out.app2 (by repeat (first | exact Below.refl _ _ | refine Below.drew ?_ | refine Below.alloc ?_ (by simp) _)) ho6 hg6 hn6))
            all_goals (go_wp2_with fail; go_meet)
            all_goals exact ⟨a1, k1, rfl, ho6, hfin⟩
          case rest =>
          obtain ⟨ao, cp, rfl, ho, hq2⟩ := hcut
          clear y0 y1 y2 y3 y4 r0 r1 r2 rf HC1 HOW HQ4
          have HQ5 : Hid (RQ2 w0 w rr r m3 (.slice lao L.length lcp) xb x wc) := hq2.1
          have HNV := Lib.hid hq2.2
          obtain ⟨g, off, rfl, hcap⟩ := ho.out.pos (Nat.succ_pos _)
          have hLL : (L ++ [x]).length = L.length + 1 := by simp
          have HO1 : Hid (OwnAt wc w0.heap.size 60 4 (.slice (some ⟨g, off, none⟩) (L.length + 1) cp) (L ++ [x]).length ((L ++ [x]).flatMap recCells)) := (show OwnAt wc w0.heap.size 60 4 (.slice (some ⟨g, off, none⟩) (L.length + 1) cp) (L ++ [x]).length ((L ++ [x]).flatMap recCells) from by
            have h := ho.out
            rw [hLL, show (L ++ [x]).flatMap recCells = L.flatMap recCells ++ recCells x by simp]
            exact h)
          obtain ⟨r0, r1, r2, rf⟩ := rring_cells HQ5.out.box
          obtain ⟨z0, z1, z2, z3⟩ := four_cells HQ5.out.res
          have zf : ∀ o, World.frozen? _ ⟨w.heap.size, o, none⟩ = false := fun o => frozen_of HQ5.out.res
          obtain ⟨x0, x1, x2, x3⟩ := four_cells HQ5.out.xbox
          have zne : ¬ rr = w.heap.size := by have := HQ5.out.lo; omega
          have zne2 : ¬ w.heap.size = rr := by have := HQ5.out.lo; omega
          have xne : ¬ rr = xb := by have := HQ5.out.lo; omega
          have xne2 : ¬ xb = rr := by have := HQ5.out.lo; omega
          clear hq2 ho
          by_cases h8 : L.length ≤ 7
          · have HD : Hid ((L ++ [x]).drop (L.length + 1 - 8) = L ++ [x]) := (show (L ++ [x]).drop (L.length + 1 - 8) = L ++ [x] from by rw [show L.length + 1 - 8 = 0 by omega]; rfl)
            have h8i : (L.length : Int) ≤ 7 := by omega
            clear h8 hLL hcap
            go_wp2_with fail
            refine bodyPost_ret (v := .tuple #[recAgg x, .int .i64 0]) (by simp [recAgg, results, Tryd.results51, go_sem, z0, z1, z2, z3, World.cell?_setCell_same, World.cell?_setCell_other]) rfl ?_
            rw [HRR.out, HD.out]
            exact ⟨rfl, _, HQ5.out.fin (lv' := (.slice (some ⟨g, off, none⟩) (L.length + 1) cp)) (L' := (L ++ [x])) HO1.out HNV.out.1 HLV.out HNV.out.2 _ _ _ _⟩
          · have hL7 : L.length = 8 := by have := HL8.out; omega
            have HD : Hid ((L ++ [x]).drop (L.length + 1 - 8) = (L ++ [x]).drop 1) := (show (L ++ [x]).drop (L.length + 1 - 8) = (L ++ [x]).drop 1 from by rw [hL7])
            have HO2 : Hid (OwnAt wc w0.heap.size 60 4 (.slice (some ⟨g, off + 1 * 4, none⟩) (L.length + 1 - 1) (cp - 1)) ((L ++ [x]).drop 1).length (((L ++ [x]).drop 1).flatMap recCells)) := (show OwnAt wc w0.heap.size 60 4 (.slice (some ⟨g, off + 1 * 4, none⟩) (L.length + 1 - 1) (cp - 1)) ((L ++ [x]).drop 1).length (((L ++ [x]).drop 1).flatMap recCells) from by
              have h := HO1.out
              rw [hLL] at h
              have := h.dropAt 1 (by omega)
              rw [List.length_drop, hLL, flat_drop]
              exact this)
            have hsub := fun w => run_from_recs_off w g off (L.length + 1) cp 1 (by omega) (by omega)
            simp only [Int.natCast_one] at hsub
            have h8i : (8 : Int) < (L.length : Int) + 1 := by omega
            have h8j : (8 : Int) ≤ (L.length : Int) := by omega
            clear h8 hLL hcap hL7
            go_wp2_with fail
            refine bodyPost_ret (v := .tuple #[recAgg x, .int .i64 0]) (by simp [recAgg, results, Tryd.results51, go_sem, z0, z1, z2, z3, World.cell?_setCell_same, World.cell?_setCell_other]) rfl ?_
            rw [HRR.out, HD.out]
            exact ⟨rfl, _, HQ5.out.fin (lv' := (.slice (some ⟨g, off + 1 * 4, none⟩) (L.length + 1 - 1) (cp - 1))) (L' := ((L ++ [x]).drop 1)) HO2.out HNV.out.1 HLV.out HNV.out.2 _ _ _ _⟩
        · obtain ⟨j, rfl⟩ : ∃ j, E3 = j + 1 := ⟨E3 - 1, by omega⟩
          have HP : Hid (ringPut m x = (j + 1, m3)) := HE3
          obtain ⟨jj, hjj⟩ : ∃ jj : Int, jj = ((j + 1 : Nat) : Int) := ⟨_, rfl⟩
          have hpos : 0 < jj := by omega
          rw [← hjj]
          have HJ := Lib.hid hjj
          clear h3 hjj
          have zne : ¬ rr = w.heap.size := by have := HQ4.out.lo; omega
          have zne2 : ¬ w.heap.size = rr := by have := HQ4.out.lo; omega
          obtain ⟨q0, q1, q2, qf⟩ := rring_cells HQ4.out.rf.box
          obtain ⟨z0, z1, z2, z3⟩ := four_cells HQ4.out.res
          have zf : ∀ o, World.frozen? _ ⟨w.heap.size, o, none⟩ = false := fun o => frozen_of HQ4.out.res
          go_wp2_with fail
          refine bodyPost_ret (v := .tuple #[recAgg ⟨0, 0, 0, 0⟩, .int .i64 jj]) (by simp [recAgg, results, Tryd.results51, go_sem, z0, z1, z2, z3, World.cell?_setCell_same, World.cell?_setCell_other]) rfl ?_
          rw [HRd.out j _ HP.out, HJ.out]
          exact ⟨rfl, _, HQ4.out.dead _ _ _ _⟩
      · obtain ⟨j, rfl⟩ : ∃ j, E2 = j + 1 := ⟨E2 - 1, by omega⟩
        have HP : Hid (ringPut m x = (j + 1, m2)) := (show ringPut m x = (j + 1, m2) from by rw [ringPut_st, HE2.out]; rfl)
        obtain ⟨jj, hjj⟩ : ∃ jj : Int, jj = ((j + 1 : Nat) : Int) := ⟨_, rfl⟩
        have hpos : 0 < jj := by omega
        rw [← hjj]
        have HJ := Lib.hid hjj
        clear h2 hjj y0 y1 y2 y3 y4
        have zne : ¬ rr = w.heap.size := by have := HQ3.out.lo; omega
        have zne2 : ¬ w.heap.size = rr := by have := HQ3.out.lo; omega
        obtain ⟨q0, q1, q2, qf⟩ := rring_cells HQ3.out.rf.box
        obtain ⟨z0, z1, z2, z3⟩ := four_cells HQ3.out.res
        have zf : ∀ o, World.frozen? _ ⟨w.heap.size, o, none⟩ = false := fun o => frozen_of HQ3.out.res
        go_wp2_with fail
        refine bodyPost_ret (v := .tuple #[recAgg ⟨0, 0, 0, 0⟩, .int .i64 jj]) (by simp [recAgg, results, Tryd.results51, go_sem, z0, z1, z2, z3, World.cell?_setCell_same, World.cell?_setCell_other]) rfl ?_
        rw [HRd.out j _ HP.out, HJ.out]
        exact ⟨rfl, _, HQ3.out.dead _ _ _ _⟩
    · obtain ⟨j, rfl⟩ : ∃ j, E1 = j + 1 := ⟨E1 - 1, by omega⟩
      have HP : Hid (ringPut m x = (j + 1, m1)) := (show ringPut m x = (j + 1, m1) from by rw [ringPut_st, ← hE1.out]; rfl)
      obtain ⟨jj, hjj⟩ : ∃ jj : Int, jj = ((j + 1 : Nat) : Int) := ⟨_, rfl⟩
      have hpos : 0 < jj := by omega
      rw [← hjj]
      have HJ := Lib.hid hjj
      clear h1 hjj hE1 y0 y1 y2 y3 y4
      have zne : ¬ rr = w.heap.size := by have := HQ2.out.lo; omega
      have zne2 : ¬ w.heap.size = rr := by have := HQ2.out.lo; omega
      obtain ⟨q0, q1, q2, qf⟩ := rring_cells HQ2.out.rf.box
      obtain ⟨z0, z1, z2, z3⟩ := four_cells HQ2.out.res
      have zf : ∀ o, World.frozen? _ ⟨w.heap.size, o, none⟩ = false := fun o => frozen_of HQ2.out.res
      go_wp2_with fail
      refine bodyPost_ret (v := .tuple #[recAgg ⟨0, 0, 0, 0⟩, .int .i64 jj]) (by simp [recAgg, results, Tryd.results51, go_sem, z0, z1, z2, z3, World.cell?_setCell_same, World.cell?_setCell_other]) rfl ?_
      rw [HRd.out j _ HP.out, HJ.out]
      exact ⟨rfl, _, HQ2.out.dead _ _ _ _⟩
  · have HE : Hid (ringApp m L false en kd tk = (2, ⟨0, 0, 0, 0⟩, m, L, false)) := (show ringApp m L false en kd tk = (2, ⟨0, 0, 0, 0⟩, m, L, false) from by
      unfold ringApp
      rw [if_neg (by decide), if_pos (by simpa using hok)])
    have hb : ¬ (0 ≤ en ∧ en ≤ 255 ∧ 0 ≤ kd ∧ kd ≤ 255 ∧ 0 ≤ tk ∧ tk < 281474976710656) := fun h => hok (decide_eq_true h)
    clear hok
    by_cases b1 : en < 0
    · clear hb
      go_wp2_with fail
      refine bodyPost_ret (v := .tuple #[recAgg ⟨0, 0, 0, 0⟩, .int .i64 2]) (by simp [recAgg, results, Tryd.results51, go_sem, z0, z1, z2, z3, World.cell?_setCell_same, World.cell?_setCell_other]) rfl ?_
      rw [HE.out]
      exact ⟨rfl, _, HK0.out.below (below_set4 HBA.out), ⟨(Keep.of_below (below_set4 HBA.out)).mono (fun b _ hb => .inr (.inr (.inr hb))), .inl rfl⟩⟩
    by_cases b2 : 255 < en
    · clear hb
      go_wp2_with fail
      refine bodyPost_ret (v := .tuple #[recAgg ⟨0, 0, 0, 0⟩, .int .i64 2]) (by simp [recAgg, results, Tryd.results51, go_sem, z0, z1, z2, z3, World.cell?_setCell_same, World.cell?_setCell_other]) rfl ?_
      rw [HE.out]
      exact ⟨rfl, _, HK0.out.below (below_set4 HBA.out), ⟨(Keep.of_below (below_set4 HBA.out)).mono (fun b _ hb => .inr (.inr (.inr hb))), .inl rfl⟩⟩
    by_cases b3 : kd < 0
    · clear hb
      go_wp2_with fail
      refine bodyPost_ret (v := .tuple #[recAgg ⟨0, 0, 0, 0⟩, .int .i64 2]) (by simp [recAgg, results, Tryd.results51, go_sem, z0, z1, z2, z3, World.cell?_setCell_same, World.cell?_setCell_other]) rfl ?_
      rw [HE.out]
      exact ⟨rfl, _, HK0.out.below (below_set4 HBA.out), ⟨(Keep.of_below (below_set4 HBA.out)).mono (fun b _ hb => .inr (.inr (.inr hb))), .inl rfl⟩⟩
    by_cases b4 : 255 < kd
    · clear hb
      go_wp2_with fail
      refine bodyPost_ret (v := .tuple #[recAgg ⟨0, 0, 0, 0⟩, .int .i64 2]) (by simp [recAgg, results, Tryd.results51, go_sem, z0, z1, z2, z3, World.cell?_setCell_same, World.cell?_setCell_other]) rfl ?_
      rw [HE.out]
      exact ⟨rfl, _, HK0.out.below (below_set4 HBA.out), ⟨(Keep.of_below (below_set4 HBA.out)).mono (fun b _ hb => .inr (.inr (.inr hb))), .inl rfl⟩⟩
    by_cases b5 : tk < 0
    · clear hb
      go_wp2_with fail
      refine bodyPost_ret (v := .tuple #[recAgg ⟨0, 0, 0, 0⟩, .int .i64 2]) (by simp [recAgg, results, Tryd.results51, go_sem, z0, z1, z2, z3, World.cell?_setCell_same, World.cell?_setCell_other]) rfl ?_
      rw [HE.out]
      exact ⟨rfl, _, HK0.out.below (below_set4 HBA.out), ⟨(Keep.of_below (below_set4 HBA.out)).mono (fun b _ hb => .inr (.inr (.inr hb))), .inl rfl⟩⟩
    have b6 : 281474976710656 ≤ tk := by omega
    clear hb
    go_wp2_with fail
    refine bodyPost_ret (v := .tuple #[recAgg ⟨0, 0, 0, 0⟩, .int .i64 2]) (by simp [recAgg, results, Tryd.results51, go_sem, z0, z1, z2, z3, World.cell?_setCell_same, World.cell?_setCell_other]) rfl ?_
    rw [HE.out]
    exact ⟨rfl, _, HK0.out.below (below_set4 HBA.out), ⟨(Keep.of_below (below_set4 HBA.out)).mono (fun b _ hb => .inr (.inr (.inr hb))), .inl rfl⟩⟩
end Go.Proofs.YtkhcepdeppmofaaDoor
