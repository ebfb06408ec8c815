import Derived.Test.YtikehilbmldadaaGreatDoorQ06
import Derived.BigQuiet
import Derived.Test.YtikehilbmldadaaGreatDoorQ05
import Derived.Test.YtikehilbmldadaaGreatDoorQ03
set_option maxHeartbeats 4000000
set_option maxRecDepth 20000
namespace Go.Proofs.YtikehilbmldadaaGreatDoor
open Go.RowKit
set_option linter.unusedVariables false
theorem cellsSize_any (c rb : Nat) (ao : Option Addr) (cap : Nat) (m : CM) (w : World) (h : CellsAt w c rb ao cap m) : Calls Tryz.prog 183 #[.pointer (some ⟨c, 0, none⟩)] w fun e w' => e = .returned (.int .i64 m.bs.length) ∧ w = w' := by
  obtain ⟨c0, c1, c2, c3, cf⟩ := cells_cells h
  clear h
  go_enter Tryz.func183, Tryz.ntmps183
  go_wp2_with fail
  go_ret
  exact ⟨rfl, rfl⟩
def slotB (b : List UInt8) (k : Nat) : List UInt8 := (b.drop (k * 17)).take 17
theorem cellsRead_17 (B : Nat) (sa : Nat → Addr) (c rb cap : Nat) (m : CM) (k : Nat) (w : World) (h : CellsAt w c rb (some ⟨rb, 0, none⟩) cap m) (hS : SentsR B sa w) (ho : m.off = false) (hn : k * 17 + 17 ≤ m.bs.length) :
    Calls Tryz.prog 182 #[.pointer (some ⟨c, 0, none⟩), .int .i64 ((k : Int) * 17), .int .i64 17] w fun e w' => e = .returned (.tuple #[.string (strOf (slotB m.bs k)), .nilIface]) ∧ w = w' := by
  have := cellsRead_good B sa c rb _ cap m (k * 17) 17 w h hS ho hn
  rw [Int.natCast_mul] at this
  exact this
structure OwnL (w : World) (base : Nat) (ao : Option Addr) (cap : Nat) (l : List RecV) : Prop where
  row : w.ownsRow base 147 4 (.slice ao l.length cap) l.length (l.flatMap recCells)
  nil : l = [] → ao = none ∧ cap = 0
structure OwnS (w : World) (base : Nat) (ao : Option Addr) (cap : Nat) (l : List RecV) : Prop where
  row : SlOf (fun b => base ≤ b) w (.slice ao l.length cap) 4 (l.flatMap recCells) l.length
  nil : l = [] → ao = none ∧ cap = 0
theorem OwnL.some {w : World} {base : Nat} {ao : Option Addr} {cap : Nat} {l : List RecV} (h : OwnL w base ao cap l) (h0 : 0 < l.length) : ∃ g, ao = some ⟨g, 0, none⟩ := by
  obtain ⟨g, e, _⟩ := owned_slice h.row h0
  exact ⟨g, e⟩
theorem insNil_any (w : World) : Calls Tryz.prog 263 #[.slice none 0 0, .int .i64 0, .int .i64 0, cmpV] w fun e w' => e = .returned (.tuple #[]) ∧ w' = w := by
  unfold cmpV
  go_enter Tryz.func263, Tryz.ntmps263
  go_wp2_with fail
  go_loopw [8] (fun s8 wr => s8 = .int .i64 1 ∧ wr = w) (fun _ _ => 0)
  case atStart => exact ⟨rfl, rfl⟩
  case round =>
    obtain ⟨rfl, rfl⟩ := hrel
    go_wp2_with fail
    go_end0
    exact ⟨rfl, rfl⟩
theorem pdqNil_any (w : World) (k : Int) : Calls Tryz.prog 228 #[.slice none 0 0, .int .i64 0, .int .i64 0, .int .i64 k, cmpV] w fun e w' => e = .returned (.tuple #[]) ∧ w' = w := by
  have h := insNil_any w
  unfold cmpV at h ⊢
  go_enter Tryz.func228, Tryz.ntmps228
  go_wp2_with fail
  go_loopw [1, 2, 3, 10, 11] (fun s1 s2 s3 s10 s11 wr => s1 = .int .i64 0 ∧ s2 = .int .i64 0 ∧ wr = w) (fun _ _ _ _ _ _ => 0)
  case atStart => exact ⟨rfl, rfl, rfl⟩
  case round =>
    obtain ⟨rfl, rfl, rfl⟩ := hrel
    go_wp2_with fail
    refine h.mono ?_
    rintro e w1 ⟨rfl, rfl⟩
    go_wp2_with fail
    refine bodyPost_ret (results_none rfl _ _ _) rfl ?_
    exact ⟨rfl, rfl⟩
theorem sortNil_any (w : World) : Calls Tryz.prog 185 #[.slice none 0 0, cmpV] w fun e w' => e = .returned (.tuple #[]) ∧ w' = w := by
  have h1 := len_any 0 (by decide) w
  have h2 := fun k => Lib.hid (pdqNil_any w k)
  unfold cmpV at h2 ⊢
  go_enter Tryz.func185, Tryz.ntmps185
  go_wp2_with fail
  refine h1.mono ?_
  rintro e w1 ⟨⟨k, rfl⟩, rfl⟩
  go_wp2_with fail
  refine (h2 k).out.mono ?_
  rintro e w1 ⟨rfl, rfl⟩
  go_wp2_with fail
  go_end0
  exact ⟨rfl, rfl⟩
theorem sortOpen_any (b : List UInt8) (w : World) (base : Nat) (ao : Option Addr) (cap : Nat) (h : OwnL w base ao cap (openL b 9)) :
    Calls Tryz.prog 185 #[.slice ao (openL b 9).length cap, cmpV] w fun e w' => e = .returned (.tuple #[]) ∧ ∃ l, l.length = (openL b 9).length ∧ Sorted9 b l ∧ OwnS w' base ao cap l ∧ Keep (fun x => base ≤ x) w w' := by
  by_cases h0 : (openL b 9).length = 0
  · have hn := List.eq_nil_of_length_eq_zero h0
    obtain ⟨rfl, rfl⟩ := h.nil hn
    rw [h0]
    refine (sortNil_any w).mono ?_
    rintro e w1 ⟨rfl, rfl⟩
    refine ⟨rfl, [], rfl, ⟨by rw [hn], List.Pairwise.nil⟩, ⟨?_, fun _ => ⟨rfl, rfl⟩⟩, Keep.refl _ _⟩
    have := slOf_owns h.row
    rw [hn] at this
    exact this
  · obtain ⟨g, rfl⟩ := h.some (by omega)
    obtain ⟨hr, hb, h1, h2⟩ := rowAt_owns h.row (by omega)
    refine (sortRecs_any w g cap (openL b 9) hr (fun r hr => by obtain ⟨i, _, hi⟩ := openL_mem.1 hr; exact (heldAt_ok b i r hi).1.s2) (openL_len b 9)).mono ?_
    rintro e w1 ⟨rfl, l, hs, hI⟩
    have hl := hI.len
    rw [← hl] at hs h1
    refine ⟨rfl, l, hl, ⟨hI.perm, sortedTo_pairwise hs ?_⟩, ⟨?_, fun e => by subst e; simp at hl; omega⟩, hI.kp.mono (fun b _ hb => by subst hb; assumption)⟩
    · exact (List.Perm.nodup_iff (hI.perm.map _)).2 (openL_nodup b 9 (Nat.le_refl _))
    · exact slOf_rowAt hI.row hb h1 h2
end Go.Proofs.YtikehilbmldadaaGreatDoor
namespace Go.Proofs.YtikehilbmldadaaGreatDoor
open Go.RowKit
set_option linter.unusedVariables false
theorem heldAt_slot2 (b : List UInt8) (k : Nat) : heldRec k (strOf (slotB b k)).data.toList = heldAt b k := by rw [strOf_data]; rfl
structure OpB (B : Nat) (sa : Nat → Addr) (c rb cap : Nat) (m : CM) (w0 w : World) : Prop where
  mem : CellsAt w c rb (some ⟨rb, 0, none⟩) cap m
  se : SentsR B sa w
  bel : Below w0.heap.size w0 w
theorem OpB.below {B : Nat} {sa : Nat → Addr} {c rb cap : Nat} {m : CM} {w0 w w' : World} (h : OpB B sa c rb cap m w0 w) (b : Below w.heap.size w w') : OpB B sa c rb cap m w0 w' :=
  ⟨h.mem.keep (below_keep b) (fun _ h => h.elim), h.se.below b, h.bel.trans (b.mono h.bel.size)⟩
theorem OpB.keep {B : Nat} {sa : Nat → Addr} {c rb cap : Nat} {m : CM} {w0 w w' : World} (h : OpB B sa c rb cap m w0 w) (k : Keep (fun x => w0.heap.size ≤ x) w w') (h1 : c < w0.heap.size) (h2 : rb < w0.heap.size) (h3 : B ≤ w0.heap.size) : OpB B sa c rb cap m w0 w' :=
  ⟨h.mem.keep k (fun b hb => by omega), h.se.keep k (fun b hb => by omega), h.bel.trans (k.below h.bel.size (fun b hb => hb))⟩
theorem OwnL.below {w w' : World} {base : Nat} {ao : Option Addr} {cap : Nat} {l : List RecV} (h : OwnL w base ao cap l) (b : Below w.heap.size w w') : OwnL w' base ao cap l := by
  refine ⟨?_, h.nil⟩
  obtain ⟨h1, h2⟩ := h.row
  refine ⟨h1, ?_⟩
  rcases h2 with hn | ⟨g, cp, cur, e, hg, hh, rest⟩
  · exact .inl hn
  · exact .inr ⟨g, cp, cur, e, hg, below_get b hh (lt_of_get hh), rest⟩
theorem open_box (w : World) (r : RecV) : (w.alloc (recC r)).heap[w.heap.size]? = some (recC r) ∧ Below w.heap.size w (w.alloc (recC r)) := ⟨get_alloc_new _ _, (Below.refl _ _).alloc (Nat.le_refl _) _⟩
theorem own_grown {w4 w6 : World} {base : Nat} {ao : Option Addr} {cap : Nat} {l : List RecV} {o : Obj} (h : OwnL w4 base ao cap l) (hb : base ≤ w4.heap.size) (hg : (w4.alloc o).grownBy w6 (Value.slice ao l.length cap).ownBlock) : Below base w4 w6 :=
  ((Below.refl base w4).alloc hb o).grown hg (by simp; omega) (fun k hk => ((h.row.alloc o).lt k hk).1)
theorem own_more {w : World} {base : Nat} {b : List UInt8} {k : Nat} {r : RecV} {ao : Option Addr} {cap : Nat} (hh : heldAt b k = some r) (h : w.ownsRow base 147 4 (.slice ao ((openL b k).length + 1) cap) ((openL b k).length + 1) ((openL b k).flatMap recCells ++ recCells r)) : OwnL w base ao cap (openL b (k + 1)) := by
  rw [openL_some hh]
  refine ⟨?_, fun e => by simp at e⟩
  rw [List.length_append, List.flatMap_append]
  simpa using h
theorem SlOf.imp2 {R S : Nat → Prop} {w : World} {v : Value} {sz : Nat} {cs : List Value} {n : Nat} (h : SlOf R w v sz cs n) (hd : ∀ b, R b → b < w.heap.size → S b) : SlOf S w v sz cs n := by
  obtain ⟨hl, ao, cap, hv, h1, h2, h3, h4⟩ := h
  refine ⟨hl, ao, cap, hv, h1, h2, h3, fun hp => ?_⟩
  obtain ⟨b, off, ha, hR, hb, hc⟩ := h4 hp
  exact ⟨b, off, ha, hd b hR hb, hb, hc⟩
theorem OwnS.at {w : World} {base g cap : Nat} {l : List RecV} (h : OwnS w base (some ⟨g, 0, none⟩) cap l) (k : Nat) (hk : k < l.length) : w.cell? ⟨g, k * 4, none⟩ = some (.int .i64 (sq l k)) := by
  obtain ⟨b, off, ha, hR, hb, hc⟩ := rec_cells h.row (by omega)
  obtain ⟨rfl, rfl, _⟩ := Option.some.inj ha
  have := (hc k hk).1
  rw [Nat.zero_add] at this
  rw [this, sq_at hk]
structure OpenNew (w w' : World) (rg : Nat) (lv : Value) : Prop where
  bel : Below w.heap.size w w'
  rg : w.heap.size ≤ rg
  lv : NewV w w' lv
theorem open_rst {B : Nat} {sa : Nat → Addr} {c rb cap : Nat} {m : CM} {w0 w W w7 : World} {L : List RecV} {a7 : Option Addr} {k7 : Nat} (h : OpB B sa c rb cap m w w7) (hw : Below w0.heap.size w0 w) (hlay : w0.heap.size ≤ c ∧ w0.heap.size ≤ rb ∧ B ≤ w0.heap.size)
    (hc : c < w.heap.size) (hb : rb < w.heap.size) (hWs : w.heap.size ≤ W.heap.size) (ho : w7.ownsRow W.heap.size 147 4 (.slice a7 L.length k7) L.length (L.flatMap recCells)) :
    RSt B sa w0 w7.heap.size c rb cap m false L (.slice a7 L.length k7) (w7.alloc (ringC c (.slice a7 L.length k7) false)) ∧ OpenNew w (w7.alloc (ringC c (.slice a7 L.length k7) false)) w7.heap.size (.slice a7 L.length k7) := by
  have hb' : Below w7.heap.size w7 (w7.alloc (ringC c (.slice a7 L.length k7) false)) := (Below.refl _ _).alloc (Nat.le_refl _) _
  have h2 := h.below hb'
  have hs := h.bel.size
  refine ⟨⟨⟨get_alloc_new _ _, ?_⟩, h2.mem, h2.se, hw.trans (h2.bel.mono hw.size), ?_⟩, h2.bel, hs, fun b hbb => ⟨Nat.le_trans hWs (ho.lt b hbb).1, Nat.lt_of_lt_of_le (ho.lt b hbb).2 hb'.size⟩⟩
  · refine ((slOf_owns ho).imp2 (fun b hb hl => ?_)).later hb'
    show b ≠ c ∧ b ≠ rb ∧ b ≠ w7.heap.size
    omega
  · omega
theorem OwnS.below {w w' : World} {base : Nat} {ao : Option Addr} {cap : Nat} {l : List RecV} (h : OwnS w base ao cap l) (b : Below w.heap.size w w') : OwnS w' base ao cap l := ⟨h.row.later b, h.nil⟩
theorem openGood_any (B : Nat) (sa : Nat → Addr) (c rb cap : Nat) (m : CM) (w0 w : World) (h : CellsAt w c rb (some ⟨rb, 0, none⟩) cap m) (hS : SentsR B sa w) (hl : 153 ≤ m.bs.length) (ho : m.off = false)
    (hw : Below w0.heap.size w0 w) (hlay : w0.heap.size ≤ c ∧ w0.heap.size ≤ rb ∧ B ≤ w0.heap.size) :
    Calls Tryz.prog 115 #[.pointer (some ⟨c, 0, none⟩)] w fun e w' => ∃ rg lv, e = .returned (.tuple #[.pointer (some ⟨rg, 0, none⟩), .nilIface]) ∧ RSt B sa w0 rg c rb cap m false (recsOf m.bs) lv w' ∧ OpenNew w w' rg lv := by
  obtain ⟨i0, hi0, hz0, hz1, hz2⟩ := info_parts Tryz.infoRec
  have hli : (153 : Int) ≤ (m.bs.length : Int) := by omega
  have hl2 : (m.bs.length : Int) ≤ 4611686018427387904 := by have := h.len; omega
  have hcl := lt_of_get h.box
  have hbl : rb < w.heap.size := by
    obtain ⟨C, t, hh, _⟩ := h.row rfl
    exact lt_of_get hh
  have HO0 : Hid (OpB B sa c rb cap m w w) := (show OpB B sa c rb cap m w w from ⟨h, hS, Below.refl _ _⟩)
  have HRd : Hid (∀ (k : Nat) W, k < 9 → OpB B sa c rb cap m w W → Calls Tryz.prog 182 #[.pointer (some ⟨c, 0, none⟩), .int .i64 ((k : Int) * 17), .int .i64 17] W fun e w' => e = .returned (.tuple #[.string (strOf (slotB m.bs k)), .nilIface]) ∧ W = w') := (show _ from fun k W hk hW => cellsRead_17 B sa c rb cap m k W hW.mem hW.se ho (by omega))
  have HSz : Hid (∀ W, OpB B sa c rb cap m w W → Calls Tryz.prog 183 #[.pointer (some ⟨c, 0, none⟩)] W fun e w' => e = .returned (.int .i64 m.bs.length) ∧ W = w') := (show _ from fun W hW => cellsSize_any c rb _ cap m W hW.mem)
  have HHd : Hid (∀ (k : Nat) W, k < 9 → Calls Tryz.prog 184 #[.int .i64 k, .string (strOf (slotB m.bs k))] W fun e w' => e = .returned (recAgg (recZ (heldAt m.bs k))) ∧ Below W.heap.size W w') := (show _ from by
    intro k W hk
    have := held_any k hk (strOf (slotB m.bs k)) (by rw [strOf_size]; unfold slotB; simp; omega) W
    rwa [heldAt_slot2] at this)
  have HL9 : Hid (OwnL w w.heap.size none 0 (openL m.bs 0)) := (show OwnL w w.heap.size none 0 (openL m.bs 0) from ⟨World.ownsRow_nil _ _ _ _, fun _ => ⟨rfl, rfl⟩⟩)
  have HW := Lib.hid hw
  have HLAY := Lib.hid hlay
  clear h hS hl ho hw hlay
  go_enter Tryz.func115, Tryz.ntmps115
  go_wp2_with fail
  go_loopw [4, 13] (fun s4 s13 wr => ∃ (k : Nat) (ao : Option Addr) (cp : Nat), k ≤ 9 ∧ s13 = .int .i64 k ∧ s4 = .slice ao (openL m.bs k).length cp ∧ Hid (OwnL wr w.heap.size ao cp (openL m.bs k)) ∧ Hid (OpB B sa c rb cap m w wr)) (fun _ s13 _ => 9 - (intOf s13).toNat)
  case atStart => exact ⟨0, none, 0, by decide, rfl, rfl, HL9, HO0⟩
  case round =>
    obtain ⟨k, ao, cp, hk9, rfl, rfl, HL, HO⟩ := hrel
    clear HL9
    by_cases hk : k < 9
    · have hki : (k : Int) < 9 := by omega
      go_wp2_with fail
      refine (HRd.out k _ hk HO.out).mono ?_
      rintro e w' ⟨rfl, rfl⟩
      go_wp2_with fail
      refine (HSz.out _ HO.out).mono ?_
      rintro e w' ⟨rfl, rfl⟩
      go_wp2_with fail
      refine (HHd.out k _ hk).mono ?_
      rintro e w3 ⟨rfl, b3⟩
      cases hh : heldAt m.bs k with
      | none =>
        have HO3 := Lib.hid ((HO.out.below b3).below (open_box w3 ⟨0, 0, 0, 0⟩).2)
        have HL3 := Lib.hid ((HL.out.below b3).below (open_box w3 ⟨0, 0, 0, 0⟩).2)
        obtain ⟨x0, _, _, _⟩ := four_cells (open_box w3 ⟨0, 0, 0, 0⟩).1
        rw [← openL_none hh] at HL3
        rw [show recAgg (recZ none) = .agg #[.int .i64 0, .int .i64 0, .int .i64 0, .int .i64 0] from rfl, ← openL_none hh]
        unfold recC at HO3 HL3 x0
        clear HL HO b3 hh
        go_upto_region 13 with fail
        generalize w3.alloc _ = w4 at HO3 HL3 x0 ⊢
        go_wp2_with fail
        go_roundw
        case rel => exact ⟨k + 1, ao, cp, by omega, by go_num, rfl, HL3, HO3⟩
        case measure => simp [intOf]; omega
      | some r =>
        have hok := (heldAt_ok m.bs k r hh).1
        have HO3 := Lib.hid ((HO.out.below b3).below (open_box w3 r).2)
        have HL3 := Lib.hid ((HL.out.below b3).below (open_box w3 r).2)
        obtain ⟨x0, x1, x2, x3⟩ := four_cells (open_box w3 r).1
        have hs1 : (1 : Int) ≤ r.seq := by have := hok.s1; omega
        have h9 : (openL m.bs k).length ≤ 9 := Nat.le_trans (openL_len m.bs k) hk9
        have h63 : Hid ((openL m.bs k).length + 1 ≤ maxLen) := by show (openL m.bs k).length + 1 ≤ maxLen; unfold maxLen; omega
        have hby : Hid (((openL m.bs k).length + 1) * 32 ≤ 140737488355328) := by show ((openL m.bs k).length + 1) * 32 ≤ 140737488355328; omega
        have HH := Lib.hid hh
        rw [show recAgg (recZ (some r)) = .agg #[.int .i64 r.seq, .int .i64 r.ent, .int .i64 r.kind, .int .i64 r.tick] from rfl]
        unfold recC at HO3 HL3 x0 x1 x2 x3
        clear HL HO b3 hok h9 hh
        go_upto_region 13 with fail
        obtain ⟨a4, ha4⟩ : ∃ a, a = w3.heap.size := ⟨_, rfl⟩
        rw [← ha4] at x0 x1 x2 x3 ⊢
        generalize w3.alloc _ = w4 at HO3 HL3 x0 x1 x2 x3 ⊢
        clear ha4
        have hbs : Hid (∀ o, w.heap.size ≤ (w4.alloc o).heap.size) := (show ∀ o, w.heap.size ≤ (w4.alloc o).heap.size from fun o => Nat.le_trans HO3.out.bel.size (by simp))
        go_wp2_with (at_builtin; go_must (refine wpList_append_ownS rfl (.tmp 36) (.tmp 38) 68 rfl w.heap.size 147 i0 _ 4 32 Tryz.underlying68 hi0 hz0 hz1 hz2 rfl (by decide) _ (openL m.bs k).length _ rfl (HL3.out.row.alloc _) ⟨w4.heap.size, 0, none⟩ 1 1 (recCells r) rfl rfl (new_cells _ (recCells r) _) (by intro u hu; simp [recCells] at hu; rcases hu with rfl | rfl | rfl | rfl <;> rfl) h63.out hby.out (hbs.out _) ?_; intro a1 k1 w6 ho6 hg6))
        have hb6 := own_grown HL3.out HO3.out.bel.size hg6
        have HO6 := Lib.hid (HO3.out.keep (Keep.of_below hb6) hcl hbl HO0.out.se.top)
        have HL6 : Hid (OwnL w6 w.heap.size a1 k1 (openL m.bs (k + 1))) := (show OwnL w6 w.heap.size a1 k1 (openL m.bs (k + 1)) from own_more HH.out ho6)
        have hln : Hid ((openL m.bs k).length + 1 = (openL m.bs (k + 1)).length) := (show (openL m.bs k).length + 1 = (openL m.bs (k + 1)).length from by rw [openL_some HH.out]; simp)
        clear ho6 hg6 hb6 x0 x1 x2 x3 hs1
        go_wp2_with fail
        go_roundw
        case rel => exact ⟨k + 1, a1, k1, by omega, by go_num, by rw [hln.out], HL6, HO6⟩
        case measure => simp [intOf]; omega
    · have hk0 : k = 9 := by omega
      have hlay := HLAY.out
      have HSo : Hid (Calls Tryz.prog 185 #[.slice ao (openL m.bs 9).length cp, .func (.func 186) #[] #[]] wr fun e w' => e = .returned (.tuple #[]) ∧ ∃ l, l.length = (openL m.bs 9).length ∧ Sorted9 m.bs l ∧ OwnS w' w.heap.size ao cp l ∧ Keep (fun x => w.heap.size ≤ x) wr w') := (show _ from sortOpen_any m.bs wr w.heap.size ao cp (by rw [hk0] at HL; exact HL.out))
      have HCL : Hid (∀ (W : World) (v : Value) (l : List RecV), SlOf (fun x => w.heap.size ≤ x) W v 4 (l.flatMap recCells) l.length → l.length ≤ 9 → Calls Tryz.prog 95 #[v] W fun e w' => ∃ ao cp, e = .returned (.slice ao l.length cp) ∧ w'.ownsRow W.heap.size 147 4 (.slice ao l.length cp) l.length (l.flatMap recCells) ∧ Below W.heap.size W w') := (show _ from fun W v l h1 h2 => cloneRecs_any _ l v W h1 (by omega))
      have hao : Hid (0 < (openL m.bs 9).length → ∃ g, ao = some ⟨g, 0, none⟩) := (show 0 < (openL m.bs 9).length → ∃ g, ao = some ⟨g, 0, none⟩ from by rw [hk0] at HL; exact HL.out.some)
      rw [hk0]
      clear hk0 hk hlay HL
      go_wp2_with fail
      refine HSo.out.mono ?_
      rintro e w4 ⟨rfl, l, hln, hSl, hOl, hkl⟩
      have HO4 := Lib.hid (HO.out.keep hkl hcl hbl HO0.out.se.top)
      have HSL := Lib.hid hSl
      have HOL := Lib.hid hOl
      have hl9 : l.length ≤ 9 := hSl.len
      rw [← hln] at hao ⊢
      clear hln hSl hOl hkl HSo HO
      by_cases h0 : l.length = 0
      · obtain ⟨rfl, rfl⟩ := HOL.out.nil (List.eq_nil_of_length_eq_zero h0)
        rw [h0]
        have hl0 : l = [] := List.eq_nil_of_length_eq_zero h0
        obtain ⟨L, hL⟩ : ∃ L, L = l.drop 0 := ⟨_, rfl⟩
        have HRC : Hid (recsOf m.bs = L) := (show recsOf m.bs = L from by rw [hL]; exact run9_recs HSL.out (by have := Run9.start HSL.out; rw [h0] at this; exact this) (.inl rfl))
        have HNIL : Hid (∀ W, SlOf (fun x => w.heap.size ≤ x) W (.slice none 0 0) 4 (L.flatMap recCells) L.length) := (show ∀ W, SlOf (fun x => w.heap.size ≤ x) W (.slice none 0 0) 4 (L.flatMap recCells) L.length from fun W => by rw [hL, hl0]; exact SlOf.nil _ W 4)
        have hlen : Hid (L.length ≤ 9) := (show L.length ≤ 9 from by rw [hL, hl0]; decide)
        clear hl0 hao HOL hL
        go_wp2_with fail
        go_loopw [9] (fun s9 wy => s9 = .int .i64 0 ∧ Hid (OpB B sa c rb cap m w wy)) (fun _ _ => 0)
        case atStart => exact ⟨rfl, HO4⟩
        case round =>
          obtain ⟨rfl, HO5⟩ := hrel
          go_wp2_with fail
          go_quiet (fail)
          go_wp2_with fail
          refine (HCL.out _ _ L (HNIL.out _) hlen.out).mono ?_
          rintro e w7 ⟨a7, k7, rfl, ho7, b7⟩
          have HO7 := Lib.hid ((HO5.out.below (below_drewN' _ (Below.refl _ _))).below b7)
          have HF := Lib.hid (open_rst HO7.out HW.out HLAY.out hcl hbl HO5.out.bel.size ho7)
          unfold ringC at HF
          go_wp2_with fail
          go_ret2
          rw [HRC.out]
          exact ⟨_, _, rfl, HF.out.1, HF.out.2⟩
      · obtain ⟨g, rfl⟩ := hao.out (by omega)
        obtain ⟨N, hN⟩ : ∃ N, l.length = N + 1 := ⟨l.length - 1, by omega⟩
        have hNi : (l.length : Int) - 1 = (N : Int) := by omega
        have hmax : max (0 : Int) (N : Int) = (N : Int) := by omega
        have hN9 : N ≤ 8 := by omega
        have hcap : l.length ≤ cp := by
          obtain ⟨_, ao, cap, hv, h1, _⟩ := HOL.out.row
          injection hv with _ _ e
          omega
        have hR0 : Hid (Run9 l N) := (show Run9 l N from by have := Run9.start HSL.out; rwa [hN] at this)
        have HSQ : Hid (∀ k, k < l.length → sq l k < 4294967296) := (show ∀ k, k < l.length → sq l k < 4294967296 from fun k hk => by
          rw [sq_at hk]
          obtain ⟨i, _, hi⟩ := openL_mem.1 (HSL.out.perm.subset (List.getElem_mem hk))
          exact (heldAt_ok m.bs i _ hi).1.s2)
        have hNH := Lib.hid hN
        have hlI : (l.length : Int) ≤ 9 := by omega
        have HS9 : Hid (OwnS w4 w.heap.size (some ⟨g, 0, none⟩) cp l) := HOL
        clear hao h0 hN HOL
        go_wp2_with fail
        · clear hlI
          go_loopw [9] (fun s9 wy => ∃ i, s9 = .int .i64 (i : Nat) ∧ Hid (Run9 l i) ∧ Hid (OwnS wy w.heap.size (some ⟨g, 0, none⟩) cp l) ∧ Hid (OpB B sa c rb cap m w wy)) (fun s9 _ => (intOf s9).toNat)
          case atStart => exact ⟨N, rfl, hR0, HS9, HO4⟩
          case round =>
            obtain ⟨i, rfl, HR, HS5, HO5⟩ := hrel
            clear HS9 HO4 hR0
            have hiN : i < l.length := by have := HR.out.i1; have := hNH.out; omega
            by_cases hi0 : i = 0
            · subst hi0
              have HSL2 := Lib.hid (run9_recs HSL.out HR.out (.inl rfl))
              have hsub := fun w => run_from_recs w g l.length cp 0 (by omega) (by omega)
              simp only [Int.natCast_zero] at hsub
              obtain ⟨L, hL⟩ : ∃ L, L = l.drop 0 := ⟨_, rfl⟩
              have hLl : l.length - 0 = L.length := by rw [hL, List.length_drop]
              rw [← hL] at HSL2
              rw [hLl] at hsub
              have HRC := HSL2
              have HLS : Hid (∀ W, OwnS W w.heap.size (some ⟨g, 0, none⟩) cp l → SlOf (fun x => w.heap.size ≤ x) W (.slice (some ⟨g, 0 * 4, none⟩) L.length (cp - 0)) 4 (L.flatMap recCells) L.length) := (show _ from fun W hW => by
                have := slOf_drop hW.row 0 hiN
                rw [← hL, hLl] at this
                exact this)
              have hlen : Hid (L.length ≤ 9) := (show L.length ≤ 9 from by rw [hL, List.length_drop]; omega)
              clear hL hLl hiN HSQ HSL HR HSL2
              go_wp2_with fail
              go_quiet (fail)
              have HS6 := Lib.hid (HS5.out.below (below_drewN' nq (Below.refl _ _)))
              go_wp2_with fail
              refine (HCL.out _ _ L (HLS.out _ HS6.out) hlen.out).mono ?_
              rintro e w7 ⟨a7, k7, rfl, ho7, b7⟩
              have HO7 := Lib.hid ((HO5.out.below (below_drewN' _ (Below.refl _ _))).below b7)
              have HF := Lib.hid (open_rst HO7.out HW.out HLAY.out hcl hbl HO5.out.bel.size ho7)
              unfold ringC at HF
              go_wp2_with fail
              go_ret2
              rw [HRC.out]
              exact ⟨_, _, rfl, HF.out.1, HF.out.2⟩
            · obtain ⟨I, rfl⟩ : ∃ I, i = I + 1 := ⟨i - 1, by omega⟩
              have hb1 : (I : Int) + 1 < (l.length : Int) := by omega
              have hb2 : (I : Int) < (l.length : Int) := by omega
              have hi1 : (0 : Int) < (I : Int) + 1 := by omega
              have hw1 : IntKind.i64.wrap (I : Int) = (I : Int) := IntWalk.i64_in _ (by omega)
              have q0 := HS5.out.at (I + 1) hiN
              have p0 := HS5.out.at I (by omega)
              have hmj := HSQ.out (I + 1) hiN
              obtain ⟨rj, hrj⟩ : ∃ r, r = sq l (I + 1) := ⟨_, rfl⟩
              obtain ⟨rJ, hrJ⟩ : ∃ r, r = sq l I := ⟨_, rfl⟩
              rw [← hrj] at q0 hmj
              rw [← hrJ] at p0
              have hw2 : IntKind.i64.wrap ((rj : Int) - 1) = (rj : Int) - 1 := IntWalk.i64_in _ (by omega)
              have hj4 : (rj : Int) < 4294967296 := by omega
              have hsub := fun w => run_from_recs w g l.length cp (I + 1) (by omega) (by omega)
              simp only [Int.natCast_add, Int.natCast_one] at hsub
              by_cases h8 : 8 ≤ l.length - (I + 1)
              · have hs8 : decide ((l.length : Int) - ((I : Int) + 1) < 8) = false := decide_eq_false (by omega)
                have HSL2 := Lib.hid (run9_recs HSL.out HR.out (.inr (.inl h8)))
                obtain ⟨L, hL⟩ : ∃ L, L = l.drop (I + 1) := ⟨_, rfl⟩
                have hLl : l.length - (I + 1) = L.length := by rw [hL, List.length_drop]
                rw [← hL] at HSL2
                rw [hLl] at hsub
                have HRC := HSL2
                have HLS : Hid (∀ W, OwnS W w.heap.size (some ⟨g, 0, none⟩) cp l → SlOf (fun x => w.heap.size ≤ x) W (.slice (some ⟨g, (I + 1) * 4, none⟩) L.length (cp - (I + 1))) 4 (L.flatMap recCells) L.length) := (show _ from fun W hW => by
                  have := slOf_drop hW.row (I + 1) hiN
                  rw [← hL, hLl] at this
                  exact this)
                have hlen : Hid (L.length ≤ 9) := (show L.length ≤ 9 from by rw [hL, List.length_drop]; omega)
                clear hL hLl hiN HSQ HSL HR HSL2
                go_wp2_with fail
                go_quiet (fail)
                have HS6 := Lib.hid (HS5.out.below (below_drewN' nq (Below.refl _ _)))
                go_wp2_with fail
                refine (HCL.out _ _ L (HLS.out _ HS6.out) hlen.out).mono ?_
                rintro e w7 ⟨a7, k7, rfl, ho7, b7⟩
                have HO7 := Lib.hid ((HO5.out.below (below_drewN' _ (Below.refl _ _))).below b7)
                have HF := Lib.hid (open_rst HO7.out HW.out HLAY.out hcl hbl HO5.out.bel.size ho7)
                unfold ringC at HF
                go_wp2_with fail
                go_ret2
                rw [HRC.out]
                exact ⟨_, _, rfl, HF.out.1, HF.out.2⟩
              · have hs8 : decide ((l.length : Int) - ((I : Int) + 1) < 8) = true := decide_eq_true (by omega)
                by_cases he : rJ + 1 = rj
                · have heq : ((rJ : Int) == (rj : Int) - 1) = true := by simp; omega
                  have HR2 := Lib.hid (HR.out.step (by omega) (by rw [← hrj, ← hrJ]; exact he))
                  clear hsub hiN h8 hmj hrj hrJ he
                  go_wp2_with fail
                  go_quiet (fail)
                  have HO6 := Lib.hid (HO5.out.below (below_drewN' nq (Below.refl _ _)))
                  have HS6 := Lib.hid (HS5.out.below (below_drewN' nq (Below.refl _ _)))
                  go_wp2_with fail
                  go_roundw
                  case rel => exact ⟨I, by go_num, HR2, HS6, HO6⟩
                  case measure => simp [intOf]
                · have heq : ((rJ : Int) == (rj : Int) - 1) = false := by simp; omega
                  have HSL2 := Lib.hid (run9_recs HSL.out HR.out (.inr (.inr ⟨I, rfl, by rw [← hrj, ← hrJ]; exact he⟩)))
                  clear he h8 hmj hrj hrJ
                  obtain ⟨L, hL⟩ : ∃ L, L = l.drop (I + 1) := ⟨_, rfl⟩
                  have hLl : l.length - (I + 1) = L.length := by rw [hL, List.length_drop]
                  rw [← hL] at HSL2
                  rw [hLl] at hsub
                  have HRC := HSL2
                  have HLS : Hid (∀ W, OwnS W w.heap.size (some ⟨g, 0, none⟩) cp l → SlOf (fun x => w.heap.size ≤ x) W (.slice (some ⟨g, (I + 1) * 4, none⟩) L.length (cp - (I + 1))) 4 (L.flatMap recCells) L.length) := (show _ from fun W hW => by
                    have := slOf_drop hW.row (I + 1) hiN
                    rw [← hL, hLl] at this
                    exact this)
                  have hlen : Hid (L.length ≤ 9) := (show L.length ≤ 9 from by rw [hL, List.length_drop]; omega)
                  clear hL hLl hiN HSQ HSL HR HSL2
                  go_wp2_with fail
                  go_quiet (fail)
                  have HS6 := Lib.hid (HS5.out.below (below_drewN' nq (Below.refl _ _)))
                  go_wp2_with fail
                  refine (HCL.out _ _ L (HLS.out _ HS6.out) hlen.out).mono ?_
                  rintro e w7 ⟨a7, k7, rfl, ho7, b7⟩
                  have HO7 := Lib.hid ((HO5.out.below (below_drewN' _ (Below.refl _ _))).below b7)
                  have HF := Lib.hid (open_rst HO7.out HW.out HLAY.out hcl hbl HO5.out.bel.size ho7)
                  unfold ringC at HF
                  go_wp2_with fail
                  go_ret2
                  rw [HRC.out]
                  exact ⟨_, _, rfl, HF.out.1, HF.out.2⟩
        · have hN0 : N = 0 := by omega
          rw [hN0] at hR0
          have HR := hR0
          have hiN : 0 < l.length := by have := hNH.out; omega
          clear hNi hmax hN9 hR0 hN0
          go_loopw [9] (fun s9 wy => s9 = .int .i64 0 ∧ Hid (OwnS wy w.heap.size (some ⟨g, 0, none⟩) cp l) ∧ Hid (OpB B sa c rb cap m w wy)) (fun s9 _ => 0)
          case atStart => exact ⟨rfl, HS9, HO4⟩
          case round =>
            obtain ⟨rfl, HS5, HO5⟩ := hrel
            clear HS9 HO4
            have HSL2 := Lib.hid (run9_recs HSL.out HR.out (.inl rfl))
            have hsub := fun w => run_from_recs w g l.length cp 0 (by omega) (by omega)
            simp only [Int.natCast_zero] at hsub
            obtain ⟨L, hL⟩ : ∃ L, L = l.drop 0 := ⟨_, rfl⟩
            have hLl : l.length - 0 = L.length := by rw [hL, List.length_drop]
            rw [← hL] at HSL2
            rw [hLl] at hsub
            have HRC := HSL2
            have HLS : Hid (∀ W, OwnS W w.heap.size (some ⟨g, 0, none⟩) cp l → SlOf (fun x => w.heap.size ≤ x) W (.slice (some ⟨g, 0 * 4, none⟩) L.length (cp - 0)) 4 (L.flatMap recCells) L.length) := (show _ from fun W hW => by
              have := slOf_drop hW.row 0 hiN
              rw [← hL, hLl] at this
              exact this)
            have hlen : Hid (L.length ≤ 9) := (show L.length ≤ 9 from by rw [hL, List.length_drop]; omega)
            clear hL hLl hiN HSQ HSL HR HSL2
            go_wp2_with fail
            go_quiet (fail)
            have HS6 := Lib.hid (HS5.out.below (below_drewN' nq (Below.refl _ _)))
            go_wp2_with fail
            refine (HCL.out _ _ L (HLS.out _ HS6.out) hlen.out).mono ?_
            rintro e w7 ⟨a7, k7, rfl, ho7, b7⟩
            have HO7 := Lib.hid ((HO5.out.below (below_drewN' _ (Below.refl _ _))).below b7)
            have HF := Lib.hid (open_rst HO7.out HW.out HLAY.out hcl hbl HO5.out.bel.size ho7)
            unfold ringC at HF
            go_wp2_with fail
            go_ret2
            rw [HRC.out]
            exact ⟨_, _, rfl, HF.out.1, HF.out.2⟩
end Go.Proofs.YtikehilbmldadaaGreatDoor
namespace Go.Proofs.YtikehilbmldadaaGreatDoor
open Go.RowKit
set_option linter.unusedVariables false
theorem writeM_uncut {m : CM} (a : Nat) (l : List UInt8) (h : m.cut = -1) : (writeM m a l).cut = -1 ∧ (writeM m a l).off = false ∧ writeE m.cut l.length = 0 := by
  have hn : writeN m.cut l.length = l.length := by unfold writeN; rw [if_pos h]
  refine ⟨?_, ?_, ?_⟩
  · show cutAt m.cut _ = -1
    unfold cutAt; rw [if_pos h]
  · show decide (writeN m.cut l.length < l.length) = false
    rw [hn]; simp
  · unfold writeE; rw [hn]; simp
theorem put2_uncut {m : CM} (x : RecV) (h : m.cut = -1) : (ringPut.put2 m x).1 = 0 ∧ (ringPut.put2 m x).2.cut = -1 := by
  have h1 := writeM_uncut (slotAt x) (recBody x) h
  have h2 := writeM_uncut (slotAt x + 16) [165] h1.1
  rw [recBody_length] at h1
  unfold ringPut.put2
  rw [if_pos h1.2.2]
  exact ⟨h2.2.2, h2.1⟩
theorem put_uncut {m : CM} (x : RecV) (h : m.cut = -1) (ho : m.off = false) (hl : 153 ≤ m.bs.length) : (ringPut m x).1 = 0 ∧ (ringPut m x).2.cut = -1 := by
  have hs : slotAt x + 17 ≤ 153 := by unfold slotAt; omega
  have h1 := writeM_uncut (slotAt x + 16) [0] h
  have e1 : writeE m.cut 1 = 0 := h1.2.2
  unfold ringPut
  rw [ho, if_pos (lookE_in (by omega))]
  split
  · exact put2_uncut x h
  · exact put2_uncut x h1.1
theorem put2_ok {m : CM} {k : Int} (x : RecV) (h : CMOk m k) : CMOk (ringPut.put2 m x).2 (k + 17) := by
  have h1 := h.write (slotAt x) (recBody x)
  have h2 := h1.write (slotAt x + 16) [165]
  rw [recBody_length] at h1 h2
  unfold ringPut.put2
  split
  · exact h2.mono (by simp; omega)
  · exact h1.mono (by omega)
theorem put_ok {m : CM} {k : Int} (x : RecV) (h : CMOk m k) : CMOk (ringPut m x).2 (k + 18) := by
  have h1 := h.write (slotAt x + 16) [0]
  unfold ringPut
  split
  · split
    · exact (put2_ok x h).mono (by omega)
    · split
      · exact (put2_ok x h1).mono (by rw [List.length_singleton]; omega)
      · exact h1.mono (by rw [List.length_singleton]; omega)
  · exact h.mono (by omega)
def lastR (D : List RecV) : List RecV := D.drop (D.length - 8)
theorem lastR_len (D : List RecV) : (lastR D).length = min D.length 8 := by unfold lastR; simp; omega
theorem lastR_snoc (D : List RecV) (x : RecV) : (lastR D ++ [x]).drop ((lastR D).length + 1 - 8) = lastR (D ++ [x]) := by
  rw [lastR_len]
  unfold lastR
  rw [List.length_append, List.length_singleton]
  by_cases h : D.length ≤ 7
  · rw [show D.length - 8 = 0 by omega, List.drop_zero, show min D.length 8 + 1 - 8 = 0 by omega, show D.length + 1 - 8 = 0 by omega]
  · rw [show min D.length 8 + 1 - 8 = 1 by omega, ← List.drop_append_of_le_length (by omega), List.drop_drop]
    congr 1
    omega
theorem lastZ_lastR {D : List RecV} (h : ∀ j (hj : j < D.length), D[j].seq = j + 1) : (lastZ (lastR D)).seq = D.length := by
  unfold lastZ
  rw [List.getLast?_eq_getElem?]
  rcases Nat.eq_zero_or_pos D.length with h0 | h0
  · have : D = [] := List.eq_nil_of_length_eq_zero h0
    subst this
    rfl
  · rw [lastR_len]
    unfold lastR
    rw [List.getElem?_drop, show D.length - 8 + (min D.length 8 - 1) = D.length - 1 by omega, List.getElem?_eq_getElem (by omega)]
    show (D[D.length - 1]).seq = D.length
    rw [h]; omega
structure Log (m : CM) (D : List RecV) (k : Int) : Prop where
  inv : RInv m.bs D
  ok : CMOk m k
  on : m.off = false
  dn : D.length ≤ 1000
def nextRec (D : List RecV) (e k t : Int) : RecV := ⟨D.length + 1, e.toNat, k.toNat, t.toNat⟩
theorem recNew_lastR {D : List RecV} (h : ∀ j (hj : j < D.length), D[j].seq = j + 1) (e k t : Int) : recNew (lastR D) e k t = nextRec D e k t := by
  unfold recNew nextRec
  rw [lastZ_lastR h]
theorem recs_zero (n : Nat) (h : 153 ≤ n) : recsOf (List.replicate n 0) = [] := by
  rw [rinv_recs (rinv_zero n h)]; rfl
end Go.Proofs.YtikehilbmldadaaGreatDoor
namespace Go.Proofs.YtikehilbmldadaaGreatDoor
open Go.RowKit
set_option linter.unusedVariables false
structure CR (B : Nat) (sa : Nat → Addr) (w0 : World) (c rb cap : Nat) (m : CM) (w : World) : Prop where
  mem : CellsAt w c rb (some ⟨rb, 0, none⟩) cap m
  se : SentsR B sa w
  bel : Below w0.heap.size w0 w
  lay : w0.heap.size ≤ c ∧ w0.heap.size ≤ rb ∧ B ≤ w0.heap.size
section
variable {B : Nat} {sa : Nat → Addr} {w0 w w' : World} {c rb cap : Nat} {m m' : CM}
theorem CR.below (h : CR B sa w0 c rb cap m w) (b : Below w.heap.size w w') : CR B sa w0 c rb cap m w' :=
  ⟨h.mem.keep (below_keep b) (fun _ h => h.elim), h.se.below b, h.bel.trans (b.mono h.bel.size), h.lay⟩
end
end Go.Proofs.YtikehilbmldadaaGreatDoor
namespace Go.Proofs.YtikehilbmldadaaGreatDoor
open Go.RowKit
set_option linter.unusedVariables false
def hasStr (l : List ByteArray) (x : ByteArray) : Bool := l.any (fun y => y.toList == x.toList)
def sidxOf (l : List ByteArray) (x : ByteArray) : Int := match l.findIdx? (fun y => y.toList == x.toList) with | some i => (i : Int) | none => -1
theorem sidxOf_hit {l : List ByteArray} {x : ByteArray} {k : Nat} (hk : k < l.length) (hx : l[k].toList = x.toList) (hb : ∀ j (hj : j < l.length), j < k → l[j].toList ≠ x.toList) : sidxOf l x = k := by
  have : l.findIdx? (fun y => y.toList == x.toList) = some k := by
    rw [List.findIdx?_eq_some_iff_getElem]
    exact ⟨hk, by simp [hx], fun j hj => by have := hb j (by omega) hj; simpa using this⟩
  simp [sidxOf, this]
theorem sidxOf_miss {l : List ByteArray} {x : ByteArray} (h : ∀ j (hj : j < l.length), l[j].toList ≠ x.toList) : sidxOf l x = -1 := by
  have : l.findIdx? (fun y => y.toList == x.toList) = none := by
    rw [List.findIdx?_eq_none_iff]
    intro y hy
    obtain ⟨j, hj, rfl⟩ := List.mem_iff_getElem.1 hy
    simpa using h j hj
  simp [sidxOf, this]
theorem sidxOf_nonneg (l : List ByteArray) (x : ByteArray) : decide (0 ≤ sidxOf l x) = hasStr l x := by
  unfold sidxOf hasStr
  cases h : l.findIdx? (fun y => y.toList == x.toList) with
  | none =>
    rw [List.findIdx?_eq_none_iff] at h
    have : l.any (fun y => y.toList == x.toList) = false := by
      rw [List.any_eq_false]; intro y hy; simpa using h y hy
    rw [this]; decide
  | some i =>
    rw [List.findIdx?_eq_some_iff_getElem] at h
    obtain ⟨hi, he, _⟩ := h
    have : l.any (fun y => y.toList == x.toList) = true := List.any_eq_true.2 ⟨l[i], List.getElem_mem hi, he⟩
    rw [this]
    simp
theorem flat_strs (l : List ByteArray) : l.flatMap (fun x => [Value.string x]) = strCells1 l := by
  unfold strCells1
  induction l with
  | nil => rfl
  | cons x l ih => simp [ih]
theorem str_cells {R : Nat → Prop} {w : World} {ao : Option Addr} {n cap : Nat} {l : List ByteArray} (h : SlOf R w (.slice ao n cap) 1 (strCells1 l) l.length) (h0 : 0 < l.length) :
    ∃ b off, ao = some ⟨b, off, none⟩ ∧ R b ∧ b < w.heap.size ∧ ∀ k (hk : k < l.length), w.cell? ⟨b, off + k, none⟩ = some (.string l[k]) := by
  have h' : SlOf R w (.slice ao n cap) 1 (l.flatMap (fun x => [Value.string x])) l.length := by
    rw [flat_strs]; exact h
  obtain ⟨b, off, ha, hR, hb, hc⟩ := h'.elem (fun _ => rfl) (by decide) h0
  refine ⟨b, off, ha, hR, hb, fun k hk => ?_⟩
  have := hc k hk 0 _ rfl
  simpa using this
theorem indexStrs_any (R : Nat → Prop) (l : List ByteArray) (v : Value) (x : ByteArray) (w : World) (h : SlOf R w v 1 (strCells1 l) l.length) :
    Calls Tryz.prog 113 #[v, .string x] w fun e w' => e = .returned (.int .i64 (sidxOf l x)) ∧ w = w' := by
  obtain ⟨hl, ao, cap, rfl, h1, h2, h3, h4⟩ := h
  have hsl : SlOf R w (.slice ao l.length cap) 1 (strCells1 l) l.length := ⟨hl, _, _, rfl, h1, h2, h3, h4⟩
  have hn : l.length ≤ 9223372036854775807 := by unfold maxLen at h2; omega
  have H := Lib.hid hsl
  clear hl h1 h2 h3 h4 hsl
  go_enter Tryz.func113, Tryz.ntmps113
  go_wp2_with fail
  go_loop [8] (fun s => ∃ k : Nat, k ≤ l.length ∧ s = .int .i64 k ∧ Hid (∀ j (hj : j < l.length), j < k → l[j].toList ≠ x.toList)) (fun s => l.length - (intOf s).toNat)
  case atStart => exact ⟨0, Nat.zero_le _, rfl, fun j hj h => by omega⟩
  case round =>
    obtain ⟨k, hk, rfl, hall⟩ := hrel
    by_cases hlt : k < l.length
    · obtain ⟨b, off, rfl, hRb, _, hc⟩ := str_cells H.out (by omega)
      have q := hc k hlt
      clear hc
      by_cases hx : x.toList = l[k].toList
      · have hxb : (x.toList == l[k].toList) = true := by simp [hx]
        have hI := sidxOf_hit hlt hx.symm hall.out
        have HI := Lib.hid hI
        clear hx hI
        go_wp2_with fail
        go_ret
        exact ⟨ret_int HI.out.symm, rfl⟩
      · have hxb : (x.toList == l[k].toList) = false := by simp [hx]
        go_wp2_with fail
        go_round
        case rel =>
          refine ⟨k + 1, by omega, by go_num, fun j hj h => ?_⟩
          by_cases hjk : j = k
          · subst hjk; exact fun h => hx h.symm
          · exact hall.out j hj (by omega)
        case measure => simp [intOf]; omega
    · have hI := sidxOf_miss (l := l) (x := x) (fun j hj => hall.out j hj (by omega))
      have HI := Lib.hid hI
      clear hI
      go_wp2_with fail
      go_ret
      exact ⟨ret_int HI.out.symm, rfl⟩
theorem containsStrs_any (R : Nat → Prop) (l : List ByteArray) (v : Value) (x : ByteArray) (w : World) (h : SlOf R w v 1 (strCells1 l) l.length) :
    Calls Tryz.prog 199 #[v, .string x] w fun e w' => e = .returned (.bool (hasStr l x)) ∧ w = w' := by
  obtain ⟨ao, cap, rfl⟩ := h.val
  have H := Lib.hid h
  clear h
  go_enter Tryz.func199, Tryz.ntmps199
  go_wp2_with fail
  refine (indexStrs_any R l _ x _ H.out).mono ?_
  rintro e w' ⟨rfl, rfl⟩
  go_wp2_with fail
  go_ret
  exact ⟨ret_bool (sidxOf_nonneg l x), rfl⟩
end Go.Proofs.YtikehilbmldadaaGreatDoor
