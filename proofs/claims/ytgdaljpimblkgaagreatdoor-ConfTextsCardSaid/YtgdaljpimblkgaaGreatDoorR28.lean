/- The document's Reader in memory (made of XRdA by mkrr.py). -/
import Derived.Test.YtgdaljpimblkgaaGreatDoorR20
import Derived.Test.YtgdaljpimblkgaaGreatDoorR21
import Derived.Test.YtgdaljpimblkgaaGreatDoorR26
import Derived.Test.YtgdaljpimblkgaaGreatDoorR27
import Derived.Deep.CutBlock
import Derived.Outline
import Derived.Test.YtgdaljpimblkgaaGreatDoorR22
namespace Go.Proofs.YtgdaljpimblkgaaGreatDoor
open Go.RowKit
set_option linter.unusedVariables false


def rrCs (C : ConfV) (v : Value) (st : ByteArray) : Array Value := #[.int .i64 C.closed, .int .i64 C.opn, .int .i64 C.cycle, .int .i64 C.delay, v, .string st]
structure RrAt (base rb : Nat) (o : Nat → Option Nat) (C : ConfV) (st : ByteArray) (v : Value) (Y : List EntX) (w : World) : Prop where
  blk : w.heap[rb]? = some (.cells (rrCs C v st) 85)
  lo : rb < base
  top : base ≤ w.heap.size
  fr : ∀ b, w.heap.size ≤ b → o b = none
  ob : ∀ b, b < base → o b = none
  row : OwnAt w base 52 10 v Y.length (Y.flatMap entXCells)
  rt : ∀ b, v.ownBlock = some b → o b = some 0
  own : ∀ i (hi : i < Y.length), EntOwn base o (1 + 5 * i) Y[i] w
  eq : C.ents = Y.map EntX.E
theorem RrAt.keep {base rb : Nat} {o : Nat → Option Nat} {C : ConfV} {st : ByteArray} {v : Value} {Y : List EntX} {S : Nat → Prop} {w w' : World} (h : RrAt base rb o C st v Y w) (k : Keep S w w') (hS : ∀ b, b < w.heap.size → S b → b ≠ rb ∧ o b = none) : RrAt base rb o C st v Y w' := by
  have hl := lt_of_get h.blk
  refine ⟨k.get h.blk (fun hs => (hS rb hl hs).1 rfl), h.lo, Nat.le_trans h.top k.size, fun b hb => h.fr b (Nat.le_trans k.size hb), h.ob, ?_, h.rt, fun i hi => ?_, h.eq⟩
  · exact h.row.keep k (fun b hb hs => by have := (hS b (h.row.lt b hb).2 hs).2; rw [h.rt b hb] at this; cases this)
  · exact (h.own i hi).keep k (fun b hb hs j hj => by rw [(hS b hb hs).2]; simp) (fun _ _ => rfl)
theorem RrAt.later {base rb : Nat} {o : Nat → Option Nat} {C : ConfV} {st : ByteArray} {v : Value} {Y : List EntX} {w w' : World} (h : RrAt base rb o C st v Y w) (b : Below w.heap.size w w') : RrAt base rb o C st v Y w' :=
  h.keep (below_keep b) (fun _ _ h => h.elim)
theorem rr_cells {w : World} {rb : Nat} {C : ConfV} {v : Value} {st : ByteArray} (h : w.heap[rb]? = some (.cells (rrCs C v st) 85)) :
    w.cell? ⟨rb, 0, none⟩ = some (.int .i64 C.closed) ∧ w.cell? ⟨rb, 1, none⟩ = some (.int .i64 C.opn) ∧ w.cell? ⟨rb, 2, none⟩ = some (.int .i64 C.cycle) ∧ w.cell? ⟨rb, 3, none⟩ = some (.int .i64 C.delay) ∧ w.cell? ⟨rb, 4, none⟩ = some v ∧ w.cell? ⟨rb, 5, none⟩ = some (.string st) ∧ ∀ o, w.frozen? ⟨rb, o, none⟩ = false := by
  unfold rrCs at h
  simp [World.cell?, World.frozen?, h]
/-- A store into the reader's own cells. -/
theorem RrAt.set {base rb : Nat} {o : Nat → Option Nat} {C C' : ConfV} {st st' : ByteArray} {v : Value} {Y : List EntX} {w : World} (h : RrAt base rb o C st v Y w) (k : Nat) (u : Value) (he : (rrCs C v st).setIfInBounds k u = rrCs C' v st') (hC : C'.ents = C.ents) : RrAt base rb o C' st' v Y (w.setCell ⟨rb, k, none⟩ u) := by
  have kk := keep_set w rb k u
  have hor : o rb = none := h.ob rb h.lo
  refine ⟨?_, h.lo, Nat.le_trans h.top kk.size, fun b hb => h.fr b (Nat.le_trans kk.size hb), h.ob, ?_, h.rt, fun i hi => ?_, by rw [hC]; exact h.eq⟩
  · rw [get_setCell _ h.blk, he]
  · exact h.row.keep kk (fun b hb hs => by have := h.rt b hb; rw [show b = rb from hs, hor] at this; cases this)
  · exact (h.own i hi).keep kk (fun b hb hs j hj => by rw [show b = rb from hs, hor]; simp) (fun _ _ => rfl)

/-- The last entity's place. -/
theorem RrAt.form {base rb : Nat} {o : Nat → Option Nat} {C : ConfV} {st : ByteArray} {v : Value} {Z : List EntX} {y : EntX} {w : World} (h : RrAt base rb o C st v (Z ++ [y]) w) :
    ∃ g off cap, v = .slice (some ⟨g, off, none⟩) (Z.length + 1) cap ∧ (Z.length + 1 ≤ cap ∧ cap ≤ maxLen) ∧ o g = some 0 ∧ base ≤ g ∧ g < w.heap.size ∧ g ≠ rb ∧ ∀ k u, (entXCells y)[k]? = some u → w.cell? ⟨g, off + (Z.length * 10 + k), none⟩ = some u := by
  have hr := h.row
  rw [List.length_append, List.length_singleton] at hr
  rcases hr.2 with ⟨_, h0⟩ | ⟨g, off, cap, cur, rfl, h2, h3, h4, h5, h6, h7⟩
  · omega
  · refine ⟨g, off, cap, rfl, ⟨h4, h5⟩, h.rt g rfl, h2, lt_of_get h3, by have := h.lo; omega, fun k u hu => ?_⟩
    have := hr.cells (g := g) (off := off) (cap := cap) (Z.length * 10 + k) u (by
      rw [List.flatMap_append, List.getElem?_append_right (by rw [flat_len entXCells 10 (fun _ => rfl)]; omega), flat_len entXCells 10 (fun _ => rfl)]
      simpa using hu)
    rw [addr_add] at this
    exact this
/-- Behind an append onto a row of the reader's own: whatever is not the reader's stands. -/
theorem RrAt.far {base rb : Nat} {o : Nat → Option Nat} {C : ConfV} {st : ByteArray} {v : Value} {Y : List EntX} {w w1 w2 : World} (h : RrAt base rb o C st v Y w) (b1 : Below w.heap.size w w1) {u : Value} {T : Nat} (hu : ∀ b, u.ownBlock = some b → o b = some T) (hg : w1.grownBy w2 u.ownBlock) :
    ∀ b k, b < w.heap.size → o b = none → w2.cell? ⟨b, k, none⟩ = w.cell? ⟨b, k, none⟩ ∧ w2.frozen? ⟨b, k, none⟩ = w.frozen? ⟨b, k, none⟩ := by
  intro b k hb hn
  have k1 : Keep (fun b => o b = some T) w w2 := (Keep.refl _ w).step (Keep.of_below b1) (fun b hb hl => by have := b1.size; omega) |>.step (Keep.of_grown hg) (fun b hb hl => hu b (Eq.symm hb))
  have e := k1.block b hb (fun hs => by rw [hn] at hs; cases hs)
  exact ⟨World.cell?_of_block (a := ⟨b, k, none⟩) e, World.frozen?_of_block (a := ⟨b, k, none⟩) e⟩
/-- One entity more, stored. -/
theorem RrAt.appE {base rb : Nat} {o : Nat → Option Nat} {C : ConfV} {st : ByteArray} {v v2 : Value} {Y : List EntX} {w w1 w2 : World} (h : RrAt base rb o C st v Y w) (b1 : Below w.heap.size w w1) (name : ByteArray) (tol : Int)
    (ho : OwnAt w2 base 52 10 v2 (Y.length + 1) (Y.flatMap entXCells ++ entXCells ⟨newE name tol, .slice none 0 0, .slice none 0 0, .slice none 0 0, .slice none 0 0, .slice none 0 0⟩)) (hg : w1.grownBy w2 v.ownBlock) (hn : v2.ownBlock = v.ownBlock ∨ ∀ b, v2.ownBlock = some b → w1.heap.size ≤ b) :
    (∃ o', RrAt base rb o' { C with ents := C.ents ++ [newE name tol] } st v2 (Y ++ [⟨newE name tol, .slice none 0 0, .slice none 0 0, .slice none 0 0, .slice none 0 0, .slice none 0 0⟩]) (w2.setCell ⟨rb, 4, none⟩ v2)) ∧ Keep (fun b => b = rb ∨ ∃ t, o b = some t) w (w2.setCell ⟨rb, 4, none⟩ v2) ∧ w2.cell? ⟨rb, 4, none⟩ = some v ∧ w2.frozen? ⟨rb, 4, none⟩ = false := by
  have hsz1 := b1.size
  have hrb : o rb = none := h.ob rb h.lo
  have hrl := lt_of_get h.blk
  have k1 : Keep (fun b => o b = some 0) w w2 := (Keep.refl _ w).step (Keep.of_below b1) (fun b hb hl => by omega) |>.step (Keep.of_grown hg) (fun b hb hl => h.rt b (Eq.symm hb))
  have k2 := keep_set w2 rb 4 v2
  have k3 : Keep (fun b => o b = some 0 ∨ b = rb) w (w2.setCell ⟨rb, 4, none⟩ v2) := (k1.mono (fun b _ hb => .inl hb)).step k2 (fun b hb _ => .inr hb)
  have hsz := k3.size
  have hblk2 := k1.get h.blk (fun hs => by rw [hrb] at hs; cases hs)
  have hob : ∀ b, b < w.heap.size → (if v2.ownBlock = some b then some 0 else o b) = o b := by
    intro b hb
    split
    · next e => exact (own_of hn h.rt (by omega) e).symm
    · rfl
  refine ⟨⟨fun b => if v2.ownBlock = some b then some 0 else o b, ?_⟩, k3.mono (fun b _ hb => by rcases hb with hb | rfl; exact .inr ⟨_, hb⟩; exact .inl rfl), by simp [World.cell?, hblk2, rrCs], by simp [World.frozen?, hblk2]⟩
  refine ⟨?_, h.lo, Nat.le_trans h.top hsz, fun b hb => ?_, fun b hb => ?_, ?_, fun b hb => by rw [if_pos hb], fun i hi => ?_, ?_⟩
  · rw [get_setCell _ hblk2]
    rfl
  · rw [if_neg (fun e => by have := (ho.lt b e).2; have := k2.size; omega)]
    exact h.fr b (by omega)
  · rw [if_neg (fun e => by have := (ho.lt b e).1; omega)]
    exact h.ob b hb
  · rw [List.length_append, List.length_singleton, List.flatMap_append, List.flatMap_singleton]
    exact ho.keep k2 (fun b hb hs => by have := (ho.lt b hb).1; have := h.lo; have : b = rb := hs; omega)
  · rw [List.length_append, List.length_singleton] at hi
    by_cases him : i < Y.length
    · rw [List.getElem_append_left him]
      refine (h.own i him).keep k3 (fun b hb hs i' hi' hh => ?_) hob
      rcases hs with hs | rfl
      · rw [hs] at hh; injection hh with hh; omega
      · rw [hrb] at hh; cases hh
    · obtain rfl : i = Y.length := by omega
      rw [List.getElem_concat_length rfl]
      intro j hj
      match j, hj with
      | 0, _ => exact ⟨⟨rfl, .inl ⟨rfl, rfl⟩⟩, fun b hb => by cases hb⟩
      | 1, _ => exact ⟨⟨rfl, .inl ⟨rfl, rfl⟩⟩, fun b hb => by cases hb⟩
      | 2, _ => exact ⟨⟨rfl, .inl ⟨rfl, rfl⟩⟩, fun b hb => by cases hb⟩
      | 3, _ => exact ⟨⟨rfl, .inl ⟨rfl, rfl⟩⟩, fun b hb => by cases hb⟩
      | 4, _ => exact ⟨⟨rfl, .inl ⟨rfl, rfl⟩⟩, fun b hb => by cases hb⟩
  · show C.ents ++ [newE name tol] = (Y ++ [_]).map EntX.E
    rw [List.map_append, h.eq]
    rfl
theorem flat_ten (Z : List EntX) (y y' : EntX) : ((((((((((((Z ++ [y]).flatMap entXCells).set (Z.length * 10 + 0) (.string y'.E.name)).set (Z.length * 10 + 1) (.int .i64 y'.E.tol)).set (Z.length * 10 + 2) y'.p).set (Z.length * 10 + 3) (.int .i64 y'.E.count)).set (Z.length * 10 + 4) (.int .i64 y'.E.mn)).set (Z.length * 10 + 5) (.int .i64 y'.E.mx)).set (Z.length * 10 + 6) y'.g).set (Z.length * 10 + 7) y'.e).set (Z.length * 10 + 8) y'.f).set (Z.length * 10 + 9) y'.l) = (Z ++ [y']).flatMap entXCells := by
  have hl : (Z.flatMap entXCells).length = Z.length * 10 := flat_len entXCells 10 (fun _ => rfl) Z
  rw [List.flatMap_append, List.flatMap_append, List.flatMap_singleton, List.flatMap_singleton]
  iterate 10 rw [List.set_append_right _ _ (by omega), hl, Nat.add_sub_cancel_left]
  rfl
/-- The ten cells of an entity stored over those of the row's last one. -/
def tenSet (w : World) (g a : Nat) (y : EntX) : World :=
  ((((((((((w.setCell ⟨g, a, none⟩ (.string y.E.name)).setCell ⟨g, a + 1, none⟩ (.int .i64 y.E.tol)).setCell ⟨g, a + 2, none⟩ y.p).setCell ⟨g, a + 3, none⟩ (.int .i64 y.E.count)).setCell ⟨g, a + 4, none⟩ (.int .i64 y.E.mn)).setCell ⟨g, a + 5, none⟩ (.int .i64 y.E.mx)).setCell ⟨g, a + 6, none⟩ y.g).setCell ⟨g, a + 7, none⟩ y.e).setCell ⟨g, a + 8, none⟩ y.f).setCell ⟨g, a + 9, none⟩ y.l)
theorem tenSet_keep (w : World) (g a : Nat) (y : EntX) : Keep (· = g) w (tenSet w g a y) := by
  unfold tenSet
  iterate 10 refine keep_more ?_ _ _
  exact Keep.refl _ _
theorem OwnAt.ten {w : World} {base g off cap : Nat} {Z : List EntX} {y : EntX} (h : OwnAt w base 52 10 (.slice (some ⟨g, off, none⟩) (Z.length + 1) cap) (Z.length + 1) ((Z ++ [y]).flatMap entXCells)) (y' : EntX) :
    OwnAt (tenSet w g (off + Z.length * 10) y') base 52 10 (.slice (some ⟨g, off, none⟩) (Z.length + 1) cap) (Z.length + 1) ((Z ++ [y']).flatMap entXCells) := by
  have h0 := (h.stored (Z.length * 10 + 0) (by omega) (.string y'.E.name)).1
  have h1 := (h0.stored (Z.length * 10 + 1) (by omega) (.int .i64 y'.E.tol)).1
  have h2 := (h1.stored (Z.length * 10 + 2) (by omega) y'.p).1
  have h3 := (h2.stored (Z.length * 10 + 3) (by omega) (.int .i64 y'.E.count)).1
  have h4 := (h3.stored (Z.length * 10 + 4) (by omega) (.int .i64 y'.E.mn)).1
  have h5 := (h4.stored (Z.length * 10 + 5) (by omega) (.int .i64 y'.E.mx)).1
  have h6 := (h5.stored (Z.length * 10 + 6) (by omega) y'.g).1
  have h7 := (h6.stored (Z.length * 10 + 7) (by omega) y'.e).1
  have h8 := (h7.stored (Z.length * 10 + 8) (by omega) y'.f).1
  have h9 := (h8.stored (Z.length * 10 + 9) (by omega) y'.l).1
  rw [flat_ten] at h9
  simp only [← Nat.add_assoc, Nat.add_zero] at h9
  exact h9
/-- The last entity put anew: one of its rows appended to (or none), its ten cells stored. -/
theorem RrAt.put {base rb : Nat} {o : Nat → Option Nat} {C C' : ConfV} {st : ByteArray} {Z : List EntX} {y y' : EntX} {w w2 w4 : World} {g off cap : Nat} (h : RrAt base rb o C st (.slice (some ⟨g, off, none⟩) (Z.length + 1) cap) (Z ++ [y]) w) (j : Nat) (hj : j < 5) (k1 : Keep (fun b => o b = some (1 + 5 * Z.length + j)) w w2) {v2 : Value} {n : Nat} {cs : List Value}
    (ho : OwnAt w2 base (fT j) (fS j) v2 n cs) (hn : v2.ownBlock = (fV y j).ownBlock ∨ ∀ b, v2.ownBlock = some b → w.heap.size ≤ b)
    (hs : ∀ i, i < 5 → i ≠ j → fV y' i = fV y i ∧ fN y'.E i = fN y.E i ∧ fC y'.E i = fC y.E i) (hj2 : fV y' j = v2 ∧ fN y'.E j = n ∧ fC y'.E j = cs)
    (hC : rrCs C' (.slice (some ⟨g, off, none⟩) (Z.length + 1) cap) st = rrCs C (.slice (some ⟨g, off, none⟩) (Z.length + 1) cap) st) (hE : C'.ents = (Z ++ [y']).map EntX.E) (k2 : Keep (· = g) w2 w4)
    (hrow : OwnAt w4 base 52 10 (.slice (some ⟨g, off, none⟩) (Z.length + 1) cap) (Z.length + 1) ((Z ++ [y']).flatMap entXCells)) :
    (∃ o', RrAt base rb o' C' st (.slice (some ⟨g, off, none⟩) (Z.length + 1) cap) (Z ++ [y']) w4) ∧ Keep (fun b => ∃ t, o b = some t) w w4 := by
  have hzl : (Z ++ [y]).length = Z.length + 1 := by rw [List.length_append, List.length_singleton]
  have hym := h.own Z.length (by omega)
  rw [List.getElem_concat_length rfl] at hym
  obtain ⟨hyj, hyt⟩ := hym j hj
  have hgw : g < w.heap.size := (h.row.lt g rfl).2
  have hgo : o g = some 0 := h.rt g rfl
  have hsz1 := k1.size
  have k3 : Keep (fun b => o b = some (1 + 5 * Z.length + j) ∨ b = g) w w4 := (k1.mono (fun b _ hb => .inl hb)).step k2 (fun b hb _ => .inr hb)
  have hsz := k3.size
  have hng : v2.ownBlock ≠ some g := fun e => by
    rcases hn with hn | hn
    · have := hyt g (by rw [← hn]; exact e)
      rw [hgo] at this
      injection this with this
      omega
    · have := hn g e; omega
  have hv2 : ∀ b, b < w.heap.size → v2.ownBlock = some b → o b = some (1 + 5 * Z.length + j) := by
    intro b hb e
    rcases hn with hn | hn
    · exact hyt b (by rw [← hn]; exact e)
    · have := hn b e; omega
  refine ⟨⟨fun b => if v2.ownBlock = some b then some (1 + 5 * Z.length + j) else o b, ?_⟩, k3.mono (fun b _ hb => by rcases hb with hb | rfl; exact ⟨_, hb⟩; exact ⟨_, hgo⟩)⟩
  have hob : ∀ b, b < w.heap.size → (if v2.ownBlock = some b then some (1 + 5 * Z.length + j) else o b) = o b := by
    intro b hb
    split
    · next e => exact (hv2 b hb e).symm
    · rfl
  have hrb : o rb = none := h.ob rb h.lo
  have hrl := lt_of_get h.blk
  refine ⟨?_, h.lo, Nat.le_trans h.top hsz, fun b hb => ?_, fun b hb => ?_, ?_, fun b hb => ?_, fun i hi => ?_, hE⟩
  · rw [hC]
    exact k3.get h.blk (fun hs => by rcases hs with hs | hs; rw [hrb] at hs; cases hs; rw [hs, hgo] at hrb; cases hrb)
  · rw [if_neg (fun e => by have := (ho.lt b e).2; have := k2.size; omega)]
    exact h.fr b (by omega)
  · rw [if_neg (fun e => by have := (ho.lt b e).1; omega)]
    exact h.ob b hb
  · rw [List.length_append, List.length_singleton]
    exact hrow
  · obtain rfl : g = b := Option.some.inj hb
    rw [if_neg hng]
    exact hgo
  · rw [List.length_append, List.length_singleton] at hi
    by_cases him : i < Z.length
    · have hy := h.own i (by omega)
      rw [List.getElem_append_left him] at hy ⊢
      refine hy.keep k3 (fun b hb hs i' hi' hh => ?_) hob
      rcases hs with hs | rfl
      · rw [hs] at hh; injection hh with hh; omega
      · rw [hgo] at hh; injection hh with hh; omega
    · obtain rfl : i = Z.length := by omega
      rw [List.getElem_concat_length rfl]
      intro i' hi'
      by_cases hij : i' = j
      · subst hij
        obtain ⟨q1, q2, q3⟩ := hj2
        rw [q1, q2, q3]
        refine ⟨ho.keep k2 (fun b hb hs => hng (by rw [← show b = g from hs]; exact hb)), fun b hb => if_pos hb⟩
      · obtain ⟨q1, q2, q3⟩ := hs i' hi' hij
        rw [q1, q2, q3]
        obtain ⟨p1, p2⟩ := hym i' hi'
        refine ⟨p1.keep k3 (fun b hb hs => ?_), fun b hb => ?_⟩
        · rcases hs with hs | rfl
          · rw [p2 b hb] at hs; injection hs with hs; omega
          · rw [p2 b hb] at hgo; injection hgo with hgo; omega
        · show (if v2.ownBlock = some b then some (1 + 5 * Z.length + j) else o b) = _
          rw [hob b (p1.lt b hb).2]
          exact p2 b hb
theorem RrAt.last {base rb : Nat} {o : Nat → Option Nat} {C : ConfV} {st : ByteArray} {v : Value} {Z : List EntX} {y : EntX} {w : World} (h : RrAt base rb o C st v (Z ++ [y]) w) : EntOwn base o (1 + 5 * Z.length) y w := by
  have := h.own Z.length (by rw [List.length_append, List.length_singleton]; omega)
  rw [List.getElem_concat_length rfl] at this
  exact this
end Go.Proofs.YtgdaljpimblkgaaGreatDoor

/- The document's Line: an entity in a box of its own, put back over the last one. -/
namespace Go.Proofs.YtgdaljpimblkgaaGreatDoor
open Go.RowKit
set_option linter.unusedVariables false

/-- The box of the last entity, one of its rows grown (or none). -/
structure BX (w5 : World) (base : Nat) (o : Nat → Option Nat) (zl eb : Nat) (E' : EntV) (y y' : EntX) (wx : World) : Prop where
  eq : y'.E = E'
  box : wx.heap[eb]? = some (.cells (entXCells y').toArray 52)
  row : ∃ j, j < 5 ∧ Keep (fun b => o b = some (1 + 5 * zl + j)) w5 wx ∧ OwnAt wx base (fT j) (fS j) (fV y' j) (fN y'.E j) (fC y'.E j) ∧ ((fV y' j).ownBlock = (fV y j).ownBlock ∨ ∀ b, (fV y' j).ownBlock = some b → w5.heap.size ≤ b) ∧ (∀ i, i < 5 → i ≠ j → fV y' i = fV y i ∧ fN y'.E i = fN y.E i ∧ fC y'.E i = fC y.E i)
theorem fS_len (E : EntV) (j : Nat) (hj : j < 5) : (fC E j).length = fN E j * fS j := by
  match j, hj with
  | 0, _ => simp [fC, fN, fS, strCells1]
  | 1, _ => simp only [fC, fN, fS]; exact flat_len gapCells 4 (fun _ => rfl) E.gaps
  | 2, _ => simp only [fC, fN, fS]; exact flat_len edgeCells 2 (fun _ => rfl) E.edges
  | 3, _ => simp [fC, fN, fS, intCells]
  | 4, _ => simp [fC, fN, fS, intCells]
theorem BX.here {base rb : Nat} {o : Nat → Option Nat} {C : ConfV} {st : ByteArray} {Z : List EntX} {y y' : EntX} {w5 wx : World} {g off cap eb : Nat} {E' : EntV} (hb : BX w5 base o Z.length eb E' y y' wx) (h : RrAt base rb o C st (.slice (some ⟨g, off, none⟩) (Z.length + 1) cap) (Z ++ [y]) w5) :
    wx.cell? ⟨rb, 4, none⟩ = some (.slice (some ⟨g, off, none⟩) (Z.length + 1) cap) ∧ OwnAt wx base 52 10 (.slice (some ⟨g, off, none⟩) (Z.length + 1) cap) (Z.length + 1) ((Z ++ [y]).flatMap entXCells) ∧
      (∃ a c, y'.p = .slice a y'.E.points.length c) ∧ (∃ a c, y'.g = .slice a y'.E.gaps.length c) ∧ (∃ a c, y'.e = .slice a y'.E.edges.length c) ∧ (∃ a c, y'.f = .slice a y'.E.first.length c) ∧ (∃ a c, y'.l = .slice a y'.E.last.length c) := by
  obtain ⟨j, hj, k1, ho, hn, hs⟩ := hb.row
  have hrow := h.row
  rw [List.length_append, List.length_singleton] at hrow
  have hvals : ∀ i, i < 5 → ∃ a c, fV y' i = .slice a (fN y'.E i) c := by
    intro i hi
    by_cases hij : i = j
    · subst hij; exact ho.val
    · obtain ⟨e1, e2, e3⟩ := hs i hi hij
      rw [e1, e2]
      exact (h.last i hi).1.val
  refine ⟨?_, hrow.keep k1 (fun b hb hh => by rw [h.rt b hb] at hh; injection hh with hh; omega), hvals 0 (by decide), hvals 1 (by decide), hvals 2 (by decide), hvals 3 (by decide), hvals 4 (by decide)⟩
  rw [k1.cell (p := ⟨rb, 4, none⟩) (lt_of_get h.blk) (fun hh => by
    have : o rb = some (1 + 5 * Z.length + j) := hh
    rw [h.ob rb h.lo] at this; cases this)]
  exact (rr_cells h.blk).2.2.2.2.1
/-- The ten cells of the row's last one: what stands there, and that they can be stored over. -/
theorem ten_old {w : World} {base g off cap : Nat} {Z : List EntX} {y : EntX} (h : OwnAt w base 52 10 (.slice (some ⟨g, off, none⟩) (Z.length + 1) cap) (Z.length + 1) ((Z ++ [y]).flatMap entXCells)) :
    (∀ k u, (entXCells y)[k]? = some u → w.cell? ⟨g, off + Z.length * 10 + k, none⟩ = some u) ∧ ∀ k, k < 10 → w.frozen? ⟨g, off + Z.length * 10 + k, none⟩ = false := by
  refine ⟨fun k u hu => ?_, fun k hk => ?_⟩
  · have := h.cells (Z.length * 10 + k) u (by
      rw [List.flatMap_append, List.getElem?_append_right (by rw [flat_len entXCells 10 (fun _ => rfl)]; omega), flat_len entXCells 10 (fun _ => rfl)]
      simpa using hu)
    rw [addr_add, ← Nat.add_assoc] at this
    exact this
  · have := (h.stored (Z.length * 10 + k) (by omega) (.bool true)).2
    rw [← Nat.add_assoc] at this
    exact this
theorem BX.end {base rb : Nat} {o : Nat → Option Nat} {C : ConfV} {st : ByteArray} {Z : List EntX} {y y' : EntX} {w5 wx : World} {g off cap eb : Nat} {k : Nat} (hk : 4 ≤ k) {name : ByteArray} {n : List Int} (hb : BX w5 base o Z.length eb (takeE k name n y.E) y y' wx) (h : RrAt base rb o C st (.slice (some ⟨g, off, none⟩) (Z.length + 1) cap) (Z ++ [y]) w5) :
    (∃ o', RrAt base rb o' (takeC k name n C) st (.slice (some ⟨g, off, none⟩) (Z.length + 1) cap) (Z ++ [y']) (tenSet wx g (off + Z.length * 10) y')) ∧ Keep (fun b => ∃ t, o b = some t) w5 (tenSet wx g (off + Z.length * 10) y') := by
  obtain ⟨-, hrow, -⟩ := hb.here h
  obtain ⟨j, hj, k1, ho, hn, hs⟩ := hb.row
  have hE := ents_next (y' := y') h.eq k hk name n hb.eq.symm
  refine h.put (C' := takeC k name n C) j hj k1 ho hn hs ⟨rfl, rfl, rfl⟩ ?_ hE (tenSet_keep _ _ _ _) (hrow.ten y')
  unfold rrCs
  unfold takeC
  rw [if_neg (by omega), if_neg (by omega), if_neg (by omega), if_neg (by omega)]
theorem BX.app {base rb : Nat} {o : Nat → Option Nat} {C : ConfV} {st : ByteArray} {Z : List EntX} {y y' : EntX} {w5 W1 W2 : World} {v : Value} {eb : Nat} {E' : EntV} (h : RrAt base rb o C st v (Z ++ [y]) w5) (b1 : Below w5.heap.size w5 W1) (heb : w5.heap.size ≤ eb) (hx : W1.heap[eb]? = some (.cells (entXCells y).toArray 52)) (j : Nat) (hj : j < 5)
    {v2 : Value} {n : Nat} {cs : List Value} (ho : OwnAt W2 base (fT j) (fS j) v2 n cs) (hg : W1.grownBy W2 (fV y j).ownBlock) (hn : v2.ownBlock = (fV y j).ownBlock ∨ ∀ b, v2.ownBlock = some b → W1.heap.size ≤ b) (hE : y'.E = E') (hX : entXCells y' = (entXCells y).set (fO j) v2) (hO : (entXCells y)[fO j]? = some (fV y j))
    (hs : ∀ i, i < 5 → i ≠ j → fV y' i = fV y i ∧ fN y'.E i = fN y.E i ∧ fC y'.E i = fC y.E i) (hj2 : fV y' j = v2 ∧ fN y'.E j = n ∧ fC y'.E j = cs) :
    BX w5 base o Z.length eb E' y y' (W2.setCell ⟨eb, fO j, none⟩ v2) ∧ W2.cell? ⟨eb, fO j, none⟩ = some (fV y j) ∧ W2.frozen? ⟨eb, fO j, none⟩ = false ∧ (∀ b k, b < w5.heap.size → o b = none → W2.cell? ⟨b, k, none⟩ = w5.cell? ⟨b, k, none⟩) := by
  obtain ⟨hyo, hyt⟩ := h.last j hj
  have hel := lt_of_get hx
  have hsz1 := b1.size
  have hx2 := (Keep.of_grown hg).get hx (fun hb => by have := (hyo.lt eb (Eq.symm hb)).2; omega)
  have k1 : Keep (fun b => o b = some (1 + 5 * Z.length + j)) w5 W2 := (Keep.refl _ w5).step (Keep.of_below b1) (fun b hb hl => by omega) |>.step (Keep.of_grown hg) (fun b hb hl => hyt b (Eq.symm hb))
  have k2 := keep_set W2 eb (fO j) v2
  have k3 : Keep (fun b => o b = some (1 + 5 * Z.length + j)) w5 (W2.setCell ⟨eb, fO j, none⟩ v2) := k1.step k2 (fun b hb hl => by have : b = eb := hb; omega)
  obtain ⟨e1, e2, e3⟩ := hj2
  refine ⟨⟨hE, ?_, j, hj, k3, ?_, ?_, hs⟩, ?_, by simp [World.frozen?, hx2], fun b k hb hb2 => ?_⟩
  · rw [get_setCell _ hx2, hX]
    simp
  · rw [e1, e2, e3]
    refine ho.keep k2 (fun b hb hbs => ?_)
    have hbe : b = eb := hbs
    subst hbe
    rcases hn with hn | hn
    · have := (hyo.lt b (by rw [← hn]; exact hb)).2
      omega
    · have := hn b hb
      omega
  · rw [e1]
    rcases hn with hn | hn
    · exact .inl hn
    · exact .inr (fun b hb => by have := hn b hb; omega)
  · rw [cell_of_row _ _ _ _ _ _ hx2]
    simpa using hO
  · exact World.cell?_of_block (a := ⟨b, k, none⟩) (k1.block b hb (fun hs => by rw [hb2] at hs; cases hs))
theorem BX.cnt {base rb : Nat} {o : Nat → Option Nat} {C : ConfV} {st : ByteArray} {Z : List EntX} {y : EntX} {w5 w6 : World} {v : Value} {eb : Nat} (h : RrAt base rb o C st v (Z ++ [y]) w5) (b1 : Below w5.heap.size w5 w6) (heb : w5.heap.size ≤ eb) (hx : w6.heap[eb]? = some (.cells (entXCells y).toArray 52)) (a b c : Int) :
    BX w5 base o Z.length eb { y.E with count := a, mn := b, mx := c } y ⟨{ y.E with count := a, mn := b, mx := c }, y.p, y.g, y.e, y.f, y.l⟩ (((w6.setCell ⟨eb, 3, none⟩ (.int .i64 a)).setCell ⟨eb, 4, none⟩ (.int .i64 b)).setCell ⟨eb, 5, none⟩ (.int .i64 c)) := by
  obtain ⟨hyo, hyt⟩ := h.last 0 (by decide)
  have hel := lt_of_get hx
  have k2 : Keep (· = eb) w6 (((w6.setCell ⟨eb, 3, none⟩ (.int .i64 a)).setCell ⟨eb, 4, none⟩ (.int .i64 b)).setCell ⟨eb, 5, none⟩ (.int .i64 c)) := keep_more (keep_more (keep_set _ _ _ _) _ _) _ _
  have k0 : Keep (fun b => o b = some (1 + 5 * Z.length + 0)) w5 w6 := (Keep.refl _ w5).step (Keep.of_below b1) (fun b hb hl => by omega)
  have k3 := k0.step k2 (fun b hb hl => by have : b = eb := hb; omega)
  refine ⟨rfl, ?_, 0, by decide, k3, ?_, .inl rfl, fun i hi _ => ?_⟩
  · rw [get_setCell _ (get_setCell _ (get_setCell _ hx))]
    rfl
  · refine (hyo.later b1).keep k2 (fun b hb hbs => ?_)
    have hbe : b = eb := hbs
    subst hbe
    have := (hyo.lt b hb).2
    omega
  · match i, hi with
    | 0, _ => exact ⟨rfl, rfl, rfl⟩
    | 1, _ => exact ⟨rfl, rfl, rfl⟩
    | 2, _ => exact ⟨rfl, rfl, rfl⟩
    | 3, _ => exact ⟨rfl, rfl, rfl⟩
    | 4, _ => exact ⟨rfl, rfl, rfl⟩
end Go.Proofs.YtgdaljpimblkgaaGreatDoor

/- The document's Line (what its texts share). -/
namespace Go.Proofs.YtgdaljpimblkgaaGreatDoor
open Go.RowKit
set_option linter.unusedVariables false

/-- Behind Line. -/
def RLined (base rb : Nat) (r : Nat × RdS) (w : World) (e : Ending) (w' : World) : Prop :=
  e = .returned (.int .i64 (r.1 : Nat)) ∧ (r.1 = 0 → ∃ o' v' Y', RrAt base rb o' r.2.c (stB r.2.stage) v' Y' w') ∧ Keep (fun b => b = rb ∨ base ≤ b) w w'
theorem rlined_bad {base rb : Nat} {r : Nat × RdS} {w w' : World} {n : Nat} {st : RdS} (hr : r = (n, st)) (hn : n ≠ 0) (k : Keep (fun b => b = rb ∨ base ≤ b) w w') : RLined base rb r w (.returned (.int .i64 (n : Nat))) w' := by
  rw [hr]
  exact ⟨rfl, fun h => absurd h hn, k⟩
theorem rlined_good {base rb : Nat} {r : Nat × RdS} {C' : ConfV} {k : Nat} {w w' : World} (hr : r = (0, ⟨C', (k : Int)⟩)) (h : ∃ o' v' Y', RrAt base rb o' C' (kwB k) v' Y' w') (h2 : Keep (fun b => b = rb ∨ base ≤ b) w w') : RLined base rb r w (.returned (.int .i64 (0 : Nat))) w' := by
  rw [hr]
  refine ⟨rfl, fun _ => ?_, h2⟩
  show ∃ o' v' Y', RrAt base rb o' C' (stB (k : Int)) v' Y' w'
  rw [stB_nat]
  exact h
theorem keep_rb {base rb : Nat} {w w5 : World} (h : Keep (fun b => b = rb ∨ base ≤ b) w w5) (j : Nat) (u : Value) : Keep (fun b => b = rb ∨ base ≤ b) w (w5.setCell ⟨rb, j, none⟩ u) :=
  h.step (keep_set w5 rb j u) (fun b hb _ => .inl hb)
theorem ent_vals {base : Nat} {o : Nat → Option Nat} {t : Nat} {y : EntX} {w : World} (h : EntOwn base o t y w) : (∃ a c, y.p = .slice a y.E.points.length c) ∧ (∃ a c, y.g = .slice a y.E.gaps.length c) ∧ (∃ a c, y.e = .slice a y.E.edges.length c) ∧ (∃ a c, y.f = .slice a y.E.first.length c) ∧ (∃ a c, y.l = .slice a y.E.last.length c) :=
  ⟨(h 0 (by decide)).1.val, (h 1 (by decide)).1.val, (h 2 (by decide)).1.val, (h 3 (by decide)).1.val, (h 4 (by decide)).1.val⟩
theorem bx_drew {w5 : World} {base : Nat} {o : Nat → Option Nat} {zl eb : Nat} {E' : EntV} {y y' : EntX} {wx : World} (h : Hid (BX w5 base o zl eb E' y y' wx)) : Hid (BX w5 base o zl eb E' y y' wx.drew) := (show BX w5 base o zl eb E' y y' wx.drew from by
  obtain ⟨h1, h2, j, hj, k1, ho, hn, hs⟩ := h.out
  exact ⟨h1, h2, j, hj, k1.drew, ho.later ((Below.refl _ _).drew), hn, hs⟩)
theorem rr_drew {base rb : Nat} {C' : ConfV} {st : ByteArray} {w : World} (h : ∃ o' v' Y', RrAt base rb o' C' st v' Y' w) : ∃ o' v' Y', RrAt base rb o' C' st v' Y' w.drew := by
  obtain ⟨o', v', Y', hA⟩ := h
  exact ⟨o', v', Y', hA.later ((Below.refl _ _).drew)⟩
def blocksOf (n : Nat) : Code → List Code
  | .block m c => if m = n then [.block m c] else blocksOf n c
  | .seq a b => blocksOf n a ++ blocksOf n b
  | .loop c => blocksOf n c
  | .scope c => blocksOf n c
  | .cond _ a b => blocksOf n a ++ blocksOf n b
  | _ => []
noncomputable def lnBlk (n : Nat) : Code := ((Tryz.f32.body.map (blocksOf n)).getD []).getD 0 .skip
end Go.Proofs.YtgdaljpimblkgaaGreatDoor
