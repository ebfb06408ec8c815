/- The document's ring in memory; both rings side by side. -/
import Derived.Test.YtkhcepdeppmofaaDoorRingZ2
import Derived.Test.YtkhcepdeppmofaaDoorRingW
import Derived.Test.YtkhcepdeppmofaaDoorAppOff
import Derived.Test.YtkhcepdeppmofaaDoorCellsW
namespace Go.Proofs.YtkhcepdeppmofaaDoor
open Go.RowKit
set_option linter.unusedVariables false

def rringC (r : Nat) (lv : Value) (dead : Bool) : Obj := .cells #[.pointer (some ⟨r, 0, none⟩), lv, .bool dead] 93
/-- The document's ring rr on the document's cells r. -/
structure RRing (w0 : World) (rr r : Nat) (m : CM) (dead : Bool) (L : List RecV) (lv : Value) (w : World) : Prop where
  box : w.heap[rr]? = some (rringC r lv dead)
  mem : RC w r m
  own : OwnAt w w0.heap.size 60 4 lv L.length (L.flatMap recCells)
  ne : rr ≠ r
  off : ∀ b, lv.ownBlock = some b → b ≠ rr ∧ b ≠ r
  lo : w0.heap.size ≤ rr ∧ w0.heap.size ≤ r
theorem RC.lt {w : World} {r : Nat} {m : CM} (h : RC w r m) : r < w.heap.size := by
  obtain ⟨_, _, h⟩ := h
  exact lt_of_get h.box
section
variable {w0 w w' : World} {rr r : Nat} {m m' : CM} {dead dead' : Bool} {L L' : List RecV} {lv lv' : Value}
theorem RRing.keep {S : Nat → Prop} (h : RRing w0 rr r m dead L lv w) (k : Keep S w w') (h1 : ¬ S rr) (h2 : ¬ S r) (h3 : ∀ b, lv.ownBlock = some b → ¬ S b) : RRing w0 rr r m dead L lv w' :=
  ⟨k.get h.box h1, h.mem.keep k h2, h.own.keep k h3, h.ne, h.off, h.lo⟩
theorem RRing.below (h : RRing w0 rr r m dead L lv w) (b : Below w.heap.size w w') : RRing w0 rr r m dead L lv w' :=
  h.keep (below_keep b) (fun h => h) (fun h => h) (fun _ _ h => h)
/-- The cells are written. -/
theorem RRing.write (h : RRing w0 rr r m dead L lv w) (k : Keep (· = r) w w') (h' : RC w' r m') : RRing w0 rr r m' dead L lv w' :=
  ⟨k.get h.box h.ne, h', h.own.keep k (fun b hb => (h.off b hb).2), h.ne, h.off, h.lo⟩
/-- The ring's own block is written. -/
theorem RRing.set (h : RRing w0 rr r m dead L lv w) (k : Keep (· = rr) w w') (hb : w'.heap[rr]? = some (rringC r lv dead')) : RRing w0 rr r m dead' L lv w' :=
  ⟨hb, h.mem.keep k (fun e => h.ne e.symm), h.own.keep k (fun b hb => (h.off b hb).1), h.ne, h.off, h.lo⟩
/-- A new row. -/
theorem RRing.row (h : RRing w0 rr r m dead L lv w) (k : Keep (· = rr) w w') (hb : w'.heap[rr]? = some (rringC r lv' dead')) (ho : OwnAt w' w0.heap.size 60 4 lv' L'.length (L'.flatMap recCells)) (hn : ∀ b, lv'.ownBlock = some b → b ≠ rr ∧ b ≠ r) : RRing w0 rr r m dead' L' lv' w' :=
  ⟨hb, h.mem.keep k (fun e => h.ne e.symm), ho, h.ne, hn, h.lo⟩
theorem rring_cells (h : w.heap[rr]? = some (rringC r lv dead)) : w.cell? ⟨rr, 0, none⟩ = some (.pointer (some ⟨r, 0, none⟩)) ∧ w.cell? ⟨rr, 1, none⟩ = some lv ∧ w.cell? ⟨rr, 2, none⟩ = some (.bool dead) ∧ ∀ o, w.frozen? ⟨rr, o, none⟩ = false := by
  unfold rringC at h
  simp [World.cell?, World.frozen?, h]
end

/-- What a call on the document's ring turns. -/
structure RStep2 (rr r : Nat) (lv lv' : Value) (w w' : World) : Prop where
  keep : Keep (fun b => b = rr ∨ b = r ∨ lv.ownBlock = some b ∨ w.heap.size ≤ b) w w'
  lv : lv'.ownBlock = lv.ownBlock ∨ NewV w w' lv'

theorem lastZ_at {L : List RecV} {N : Nat} (h : L.length = N + 1) : lastZ L = L[N] := by
  unfold lastZ
  rw [List.getLast?_eq_getElem?, show L.length - 1 = N by omega, List.getElem?_eq_getElem (by omega)]
  rfl

/-! ### Both rings -/
structure RA (B : Nat) (sa : Nat → Addr) (w0 : World) (rg c rb cap : Nat) (m : CM) (dead : Bool) (L : List RecV) (lv : Value) (rr r : Nat) (m2 : CM) (dead2 : Bool) (L2 : List RecV) (lv2 : Value) (w : World) : Prop where
  st : RSt B sa w0 rg c rb cap m dead L lv w
  rf : RRing w0 rr r m2 dead2 L2 lv2 w
  ne1 : rr ≠ rg ∧ rr ≠ c ∧ rr ≠ rb
  ne2 : r ≠ rg ∧ r ≠ c ∧ r ≠ rb
  off2 : ∀ b, lv2.ownBlock = some b → b ≠ rg ∧ b ≠ c ∧ b ≠ rb
  off1 : ∀ b, lv.ownBlock = some b → b ≠ rr ∧ b ≠ r ∧ lv2.ownBlock ≠ some b
  lt1 : ∀ b, lv.ownBlock = some b → b < w.heap.size
theorem slOf_block {R : Nat → Prop} {w : World} {v : Value} {sz : Nat} {cs : List Value} {n : Nat} (h : SlOf R w v sz cs n) : SlOf (fun b => R b ∧ v.ownBlock = some b) w v sz cs n := by
  obtain ⟨hl, ao, cap, rfl, h1, h2, h3, h4⟩ := h
  refine ⟨hl, ao, cap, rfl, h1, h2, h3, fun hp => ?_⟩
  obtain ⟨b, off, rfl, hR, hb, hc⟩ := h4 hp
  exact ⟨b, off, rfl, ⟨hR, rfl⟩, hb, hc⟩
section
variable {B : Nat} {sa : Nat → Addr} {w0 w w' : World} {rg c rb cap : Nat} {m m' : CM} {dead dead' : Bool} {L L' : List RecV} {lv lv' : Value} {rr r : Nat} {m2 m2' : CM} {dead2 dead2' : Bool} {L2 L2' : List RecV} {lv2 lv2' : Value}
theorem RSt.lts (h : RSt B sa w0 rg c rb cap m dead L lv w) : rg < w.heap.size ∧ c < w.heap.size ∧ rb < w.heap.size := by
  obtain ⟨C, t, hh, _⟩ := h.mem.row rfl
  exact ⟨lt_of_get h.ring.box, lt_of_get h.mem.box, lt_of_get hh⟩
/-- Writes far from the ring. -/
theorem RSt.far {S : Nat → Prop} (h : RSt B sa w0 rg c rb cap m dead L lv w) (k : Keep S w w') (h0 : ∀ b, S b → w0.heap.size ≤ b) (h1 : ¬ S rg ∧ ¬ S c ∧ ¬ S rb) (h2 : ∀ b, lv.ownBlock = some b → ¬ S b) : RSt B sa w0 rg c rb cap m dead L lv w' := by
  refine ⟨⟨k.get h.ring.box h1.1, ((slOf_block h.ring.row).keep k (fun b hb => h2 b hb.2)).mono (fun b hb => hb.1)⟩, h.mem.keep k (fun b hb => ⟨fun e => h1.2.1 (e ▸ hb), fun e => h1.2.2 (e ▸ hb)⟩), h.se.keep k (fun b hb => ?_), h.bel.trans (k.below h.bel.size h0), h.lay⟩
  have := h0 b hb
  have := h.lay
  omega
theorem RA.below (h : RA B sa w0 rg c rb cap m dead L lv rr r m2 dead2 L2 lv2 w) (b : Below w.heap.size w w') : RA B sa w0 rg c rb cap m dead L lv rr r m2 dead2 L2 lv2 w' :=
  ⟨h.st.below b, h.rf.below b, h.ne1, h.ne2, h.off2, h.off1, fun x hx => Nat.lt_of_lt_of_le (h.lt1 x hx) b.size⟩
theorem RA.drew (h : RA B sa w0 rg c rb cap m dead L lv rr r m2 dead2 L2 lv2 w) : RA B sa w0 rg c rb cap m dead L lv rr r m2 dead2 L2 lv2 w.drew := h.below ((Below.refl _ _).drew)
/-- The program's ring takes a step. -/
theorem RA.prog (h : RA B sa w0 rg c rb cap m dead L lv rr r m2 dead2 L2 lv2 w) (h' : RSt B sa w0 rg c rb cap m' dead' L' lv' w') (k : Keep (fun b => b = c ∨ b = rb ∨ b = rg ∨ w.heap.size ≤ b) w w') (hn : lv' = lv ∨ NewV w w' lv') : RA B sa w0 rg c rb cap m' dead' L' lv' rr r m2 dead2 L2 lv2 w' := by
  have l1 := lt_of_get h.rf.box
  have l2 := h.rf.mem.lt
  have l3 := fun b hb => (h.rf.own.lt b hb).2
  obtain ⟨a1, a2, a3⟩ := h.ne1
  obtain ⟨a4, a5, a6⟩ := h.ne2
  refine ⟨h', h.rf.keep k (by omega) (by omega) (fun b hb => ?_), h.ne1, h.ne2, h.off2, fun b hb => ?_, fun b hb => ?_⟩
  · have := h.off2 b hb
    have := l3 b hb
    omega
  · rcases hn with rfl | hn
    · exact h.off1 b hb
    · have h1 := hn b hb
      exact ⟨by omega, by omega, fun e => by have := l3 b e; omega⟩
  · rcases hn with rfl | hn
    · exact Nat.lt_of_lt_of_le (h.lt1 b hb) k.size
    · exact (hn b hb).2
/-- The document's ring takes a step. -/
theorem RA.ref (h : RA B sa w0 rg c rb cap m dead L lv rr r m2 dead2 L2 lv2 w) (h' : RRing w0 rr r m2' dead2' L2' lv2' w') (k : RStep2 rr r lv2 lv2' w w') : RA B sa w0 rg c rb cap m dead L lv rr r m2' dead2' L2' lv2' w' := by
  obtain ⟨a1, a2, a3⟩ := h.ne1
  obtain ⟨a4, a5, a6⟩ := h.ne2
  obtain ⟨l1, l2, l3⟩ := h.st.lts
  have l4 := h.st.bel.size
  refine ⟨h.st.far k.keep (fun b hb => ?_) ⟨?_, ?_, ?_⟩ (fun b hb => ?_), h', h.ne1, h.ne2, fun b hb => ?_, fun b hb => ?_, fun b hb => Nat.lt_of_lt_of_le (h.lt1 b hb) k.keep.size⟩
  · rcases hb with rfl | rfl | hb | hb
    · exact h.rf.lo.1
    · exact h.rf.lo.2
    · exact (h.rf.own.lt b hb).1
    · omega
  · rintro (e | e | e | e)
    · exact a1 e.symm
    · exact a4 e.symm
    · exact (h.off2 _ e).1 rfl
    · omega
  · rintro (e | e | e | e)
    · exact a2 e.symm
    · exact a5 e.symm
    · exact (h.off2 _ e).2.1 rfl
    · omega
  · rintro (e | e | e | e)
    · exact a3 e.symm
    · exact a6 e.symm
    · exact (h.off2 _ e).2.2 rfl
    · omega
  · obtain ⟨o1, o2, o3⟩ := h.off1 b hb
    have hbl := h.lt1 b hb
    rintro (e | e | e | e)
    · exact o1 e
    · exact o2 e
    · exact o3 e
    · omega
  · rcases k.lv with e | e
    · rw [e] at hb; exact h.off2 b hb
    · have := e b hb; omega
  · obtain ⟨o1, o2, o3⟩ := h.off1 b hb
    refine ⟨o1, o2, fun e => ?_⟩
    rcases k.lv with e2 | e2
    · rw [e2] at e; exact o3 e
    · have := e2 b e
      have := h.lt1 b hb
      omega
end
end Go.Proofs.YtkhcepdeppmofaaDoor
