import Derived.Test.YtikehilbmldadaaGreatDoorQ31
import Derived.Deep.DeepCutAuto
import Derived.Deep.RegionHeld3
import Derived.BigRegion
set_option maxHeartbeats 4000000
set_option maxRecDepth 100000
namespace Go.Proofs.YtikehilbmldadaaGreatDoor
open Go.RowKit
set_option linter.unusedVariables false
theorem Tryz.infoEntR : (Tryz.prog.info? 50).map (fun i => (i.zero, i.size, i.bytes)) = some (some (.agg (entCs ⟨ByteArray.empty, 0, [], 0, 0, 0, [], [], [], []⟩ (.slice none 0 0) (.slice none 0 0) (.slice none 0 0) (.slice none 0 0) (.slice none 0 0))), 10, 168) := by kernel_rfl
def Took (base rb : Nat) (o : Nat → Option Nat) (C' : ConfV) (st : Int) (w w' : World) : Prop :=
  (∃ o' v' Y', RdAt base rb o' C' st v' Y' w') ∧ Keep (fun b => b = rb ∨ ∃ t, o b = some t) w w'
theorem Took.drew {base rb : Nat} {o : Nat → Option Nat} {C' : ConfV} {st : Int} {w w' : World} (h : Took base rb o C' st w w') : Took base rb o C' st w w'.drew := by
  obtain ⟨⟨o', v', Y', h1⟩, h2⟩ := h
  exact ⟨⟨o', v', Y', h1.later ((Below.refl _ _).drew)⟩, h2.drew⟩
theorem take0_any (base rb : Nat) (o : Nat → Option Nat) (C : ConfV) (v : Value) (Y : List EntX) (w : World) (h : RdAt base rb o C 0 v Y w) (name : ByteArray) (nb noff ncap : Nat) (a b : Int)
    (n0 : w.cell? ⟨nb, noff, none⟩ = some (.int .i64 a)) (n1 : w.cell? ⟨nb, noff + 1, none⟩ = some (.int .i64 b)) (hnb : ¬ nb = rb) :
    Calls Tryz.prog 114 #[.pointer (some ⟨rb, 0, none⟩), .int .i64 0, .string name, .slice (some ⟨nb, noff, none⟩) 2 ncap] w fun e w' => e = .returned (.tuple #[]) ∧ Took base rb o (takeC 0 name [a, b] C) 0 w w' := by
  have hk : ∀ k u, Keep (fun b => b = rb ∨ ∃ t, o b = some t) w (w.setCell ⟨rb, k, none⟩ u) := fun k u => (keep_set w rb k u).mono (fun b _ hb => .inl hb)
  have F1 : Hid (Took base rb o (takeC 0 name [a, b] C) 0 w ((w.setCell ⟨rb, 0, none⟩ (.int .i64 a)).setCell ⟨rb, 1, none⟩ (.int .i64 b))) :=
    (show Took base rb o (takeC 0 name [a, b] C) 0 w ((w.setCell ⟨rb, 0, none⟩ (.int .i64 a)).setCell ⟨rb, 1, none⟩ (.int .i64 b)) from
      ⟨⟨o, v, Y, (h.set (C' := { C with closed := a }) (st' := 0) 0 (.int .i64 a) rfl rfl).set (C' := takeC 0 name [a, b] C) (st' := 0) 1 (.int .i64 b) rfl rfl⟩, (hk 0 (.int .i64 a)).setCell (p := ⟨rb, 1, none⟩) (fun _ => .inl rfl) _⟩)
  have F2 : Hid (Took base rb o (takeC 0 name [a, b] C) 0 w ((w.setCell ⟨rb, 1, none⟩ (.int .i64 b)).setCell ⟨rb, 0, none⟩ (.int .i64 a))) :=
    (show Took base rb o (takeC 0 name [a, b] C) 0 w ((w.setCell ⟨rb, 1, none⟩ (.int .i64 b)).setCell ⟨rb, 0, none⟩ (.int .i64 a)) from
      ⟨⟨o, v, Y, (h.set (C' := { C with opn := b }) (st' := 0) 1 (.int .i64 b) rfl rfl).set (C' := takeC 0 name [a, b] C) (st' := 0) 0 (.int .i64 a) rfl rfl⟩, (hk 1 (.int .i64 b)).setCell (p := ⟨rb, 0, none⟩) (fun _ => .inl rfl) _⟩)
  obtain ⟨c0, c1, c2, c3, c4, c5, cf⟩ := rd_cells h.blk
  have hbn : ¬ rb = nb := fun e => hnb e.symm
  clear h hk
  go_enter Tryz.func114, Tryz.ntmps114
  go_wp2_with fail
  go_region
  all_goals
    go_wp2_with fail
    go_end0
    first
      | exact ⟨rfl, F1.out⟩
      | exact ⟨rfl, F2.out⟩
      | exact ⟨rfl, F1.out.drew⟩
      | exact ⟨rfl, F2.out.drew⟩
theorem take1_any (base rb : Nat) (o : Nat → Option Nat) (C : ConfV) (v : Value) (Y : List EntX) (w : World) (h : RdAt base rb o C 1 v Y w) (name : ByteArray) (nb noff ncap : Nat) (a : Int)
    (n0 : w.cell? ⟨nb, noff, none⟩ = some (.int .i64 a)) :
    Calls Tryz.prog 114 #[.pointer (some ⟨rb, 0, none⟩), .int .i64 1, .string name, .slice (some ⟨nb, noff, none⟩) 1 ncap] w fun e w' => e = .returned (.tuple #[]) ∧ Took base rb o (takeC 1 name [a] C) 1 w w' := by
  have F1 : Hid (Took base rb o (takeC 1 name [a] C) 1 w (w.setCell ⟨rb, 2, none⟩ (.int .i64 a))) :=
    (show Took base rb o (takeC 1 name [a] C) 1 w (w.setCell ⟨rb, 2, none⟩ (.int .i64 a)) from
      ⟨⟨o, v, Y, h.set (C' := takeC 1 name [a] C) (st' := 1) 2 (.int .i64 a) rfl rfl⟩, (keep_set w rb 2 (.int .i64 a)).mono (fun b _ hb => .inl hb)⟩)
  obtain ⟨c0, c1, c2, c3, c4, c5, cf⟩ := rd_cells h.blk
  clear h
  go_enter Tryz.func114, Tryz.ntmps114
  go_wp2_with fail
  go_end0
  exact ⟨rfl, F1.out⟩
theorem take2_any (base rb : Nat) (o : Nat → Option Nat) (C : ConfV) (v : Value) (Y : List EntX) (w : World) (h : RdAt base rb o C 2 v Y w) (name : ByteArray) (nb noff ncap : Nat) (a : Int)
    (n0 : w.cell? ⟨nb, noff, none⟩ = some (.int .i64 a)) :
    Calls Tryz.prog 114 #[.pointer (some ⟨rb, 0, none⟩), .int .i64 2, .string name, .slice (some ⟨nb, noff, none⟩) 1 ncap] w fun e w' => e = .returned (.tuple #[]) ∧ Took base rb o (takeC 2 name [a] C) 2 w w' := by
  have F1 : Hid (Took base rb o (takeC 2 name [a] C) 2 w (w.setCell ⟨rb, 3, none⟩ (.int .i64 a))) :=
    (show Took base rb o (takeC 2 name [a] C) 2 w (w.setCell ⟨rb, 3, none⟩ (.int .i64 a)) from
      ⟨⟨o, v, Y, h.set (C' := takeC 2 name [a] C) (st' := 2) 3 (.int .i64 a) rfl rfl⟩, (keep_set w rb 3 (.int .i64 a)).mono (fun b _ hb => .inl hb)⟩)
  obtain ⟨c0, c1, c2, c3, c4, c5, cf⟩ := rd_cells h.blk
  clear h
  go_enter Tryz.func114, Tryz.ntmps114
  go_wp2_with fail
  go_end0
  exact ⟨rfl, F1.out⟩
theorem take3_any (base rb : Nat) (o : Nat → Option Nat) (C : ConfV) (v : Value) (Y : List EntX) (w : World) (h : RdAt base rb o C 3 v Y w) (hY : Y.length ≤ 100000) (name : ByteArray) (nb noff ncap : Nat) (a : Int)
    (n0 : w.cell? ⟨nb, noff, none⟩ = some (.int .i64 a)) (hnb : nb < w.heap.size) (hon : o nb = none) :
    Calls Tryz.prog 114 #[.pointer (some ⟨rb, 0, none⟩), .int .i64 3, .string name, .slice (some ⟨nb, noff, none⟩) 1 ncap] w fun e w' => e = .returned (.tuple #[]) ∧ Took base rb o (takeC 3 name [a] C) 3 w w' := by
  obtain ⟨i0, hi0, hz0, hz1, hz2⟩ := info_parts Tryz.infoEntR
  obtain ⟨ao, cap, rfl⟩ := h.row.val
  have hrl := lt_of_get h.blk
  have horb : o rb = none := h.ob rb h.lo
  have HOW : Hid (∀ W, Below w.heap.size w W → OwnAt W base 50 10 (.slice ao Y.length cap) Y.length (Y.flatMap entXCells) ∧ base ≤ W.heap.size) := (show _ from fun W hW => ⟨h.row.later hW, Nat.le_trans h.top hW.size⟩)
  obtain ⟨c0, c1, c2, c3, c4, c5, cf⟩ := rd_cells h.blk
  have HC : Hid (∀ W, Below w.heap.size w W → W.cell? ⟨rb, 4, none⟩ = some (.slice ao Y.length cap) ∧ W.cell? ⟨nb, noff, none⟩ = some (.int .i64 a)) := (show _ from fun W hW => ⟨by rw [hW.cell (p := ⟨rb, 4, none⟩) hrl]; exact c4, by rw [hW.cell (p := ⟨nb, noff, none⟩) hnb]; exact n0⟩)
  have HA : Hid (∀ (w1 w2 : World) (v2 : Value), Below w.heap.size w w1 → OwnAt w2 base 50 10 v2 (Y.length + 1) (Y.flatMap entXCells ++ entXCells ⟨newE name a, .slice none 0 0, .slice none 0 0, .slice none 0 0, .slice none 0 0, .slice none 0 0⟩) → w1.grownBy w2 (Value.slice ao Y.length cap).ownBlock → (v2.ownBlock = (Value.slice ao Y.length cap).ownBlock ∨ ∀ b, v2.ownBlock = some b → w1.heap.size ≤ b) →
      Hid (Took base rb o (takeC 3 name [a] C) 3 w (w2.setCell ⟨rb, 4, none⟩ v2)) ∧ (w2.cell? ⟨rb, 4, none⟩ = some (.slice ao Y.length cap) ∧ w2.cell? ⟨nb, noff, none⟩ = some (.int .i64 a)) ∧ w2.frozen? ⟨rb, 4, none⟩ = false) := (show _ from by
    intro w1 w2 v2 b1 ho hg hn
    obtain ⟨⟨o', hA⟩, hK, hc, hf⟩ := h.appE b1 name a ho hg hn
    refine ⟨⟨⟨o', v2, _, hA⟩, hK⟩, ⟨hc, ?_⟩, hf⟩
    rw [(h.far b1 h.rt hg nb noff hnb hon).1]
    exact n0)
  have hYl := hY
  clear h hY hon horb
  go_enter Tryz.func114, Tryz.ntmps114
  go_upto_region 23 with fail
  go_region_law (refine step_append_off rfl (.tmp 164) (.tmp 170) 28 rfl base 50 i0 _ 10 168 Tryz.underlying28 hi0 hz0 hz1 hz2 rfl (by decide) (.slice ao Y.length cap) Y.length (Y.flatMap entXCells) rfl ?_ ⟨w.heap.size, 0, none⟩ 1 1 (entXCells ⟨newE name a, .slice none 0 0, .slice none 0 0, .slice none 0 0, .slice none 0 0, .slice none 0 0⟩) rfl rfl ?_ (by intro u hu; simp [entXCells, entCs] at hu; rcases hu with rfl | rfl | rfl | rfl | rfl | rfl | rfl | rfl | rfl | rfl <;> rfl) (by unfold maxLen; omega) (by omega) ?_ ?_; exact (HOW.out _ (by repeat (first | exact Below.refl _ _ | refine Below.drew ?_ | refine Below.alloc ?_ (by simp) _))).1; exact new_cells _ (entXCells ⟨newE name a, .slice none 0 0, .slice none 0 0, .slice none 0 0, .slice none 0 0, .slice none 0 0⟩) _; exact (HOW.out _ (by repeat (first | exact Below.refl _ _ | refine Below.drew ?_ | refine Below.alloc ?_ (by simp) _))).2; intro a1 k1 w6 ho6 hg6 hn6; have hfin := HA.out _ w6 _ (by repeat (first | exact Below.refl _ _ | refine Below.drew ?_ | refine Below.alloc ?_ (by simp) _)) ho6 hg6 hn6)
  all_goals
    obtain ⟨F1, ⟨d4, _⟩, df⟩ := hfin
    clear ho6 hg6 hn6 c0 c1 c2 c3 c4 c5 cf
    go_wp2_with fail
    go_end0
    first
      | exact ⟨rfl, F1.out⟩
      | exact ⟨rfl, F1.out.drew⟩
end Go.Proofs.YtikehilbmldadaaGreatDoor
