import Derived.Test.YtikehilbmldadaaGreatDoorQ32
import Derived.Deep.QuietTactic
import Derived.BigQuiet
set_option maxHeartbeats 8000000
set_option maxRecDepth 100000
namespace Go.Proofs.YtikehilbmldadaaGreatDoor
open Go.RowKit
set_option linter.unusedVariables false
theorem RdAt.last {base rb : Nat} {o : Nat → Option Nat} {C : ConfV} {st : Int} {v : Value} {Z : List EntX} {y : EntX} {w : World} (h : RdAt base rb o C st v (Z ++ [y]) w) : EntOwn base o (1 + 5 * Z.length) y w := by
  have := h.own Z.length (by rw [List.length_append]; simp)
  rw [List.getElem_concat_length rfl] at this
  exact this
theorem last_map {C : ConfV} {Z : List EntX} {y : EntX} (h : C.ents = (Z ++ [y]).map EntX.E) : lastE C.ents = y.E ∧ C.ents.dropLast = Z.map EntX.E := by
  rw [h, List.map_append, List.map_singleton, lastE_app', List.dropLast_concat]
  exact ⟨rfl, rfl⟩
where lastE_app' {L : List EntV} {E : EntV} : lastE (L ++ [E]) = E := by simp [lastE]
theorem ents_next {C : ConfV} {Z : List EntX} {y y' : EntX} (h : C.ents = (Z ++ [y]).map EntX.E) (k : Nat) (hk : 4 ≤ k) (name : ByteArray) (n : List Int) (he : takeE k name n y.E = y'.E) : (takeC k name n C).ents = (Z ++ [y']).map EntX.E := by
  obtain ⟨h1, h2⟩ := last_map h
  unfold takeC
  rw [if_neg (by omega), if_neg (by omega), if_neg (by omega), if_neg (by omega)]
  show C.ents.dropLast ++ [takeE k name n (lastE C.ents)] = _
  rw [h1, h2, he, List.map_append]
  rfl
theorem cs_next (C : ConfV) (k : Nat) (hk : 3 ≤ k) (name : ByteArray) (n : List Int) (v : Value) (st : Int) : rdCs (takeC k name n C) v st = rdCs C v st := by
  unfold takeC
  rw [if_neg (by omega), if_neg (by omega), if_neg (by omega)]
  split <;> rfl
theorem take4_any (base rb : Nat) (o : Nat → Option Nat) (C : ConfV) (v : Value) (Z : List EntX) (y : EntX) (w : World) (h : RdAt base rb o C 4 v (Z ++ [y]) w) (hZ : Z.length ≤ 100000) (hn : y.E.points.length ≤ 100000) (name : ByteArray) (nv : Value) :
    Calls Tryz.prog 114 #[.pointer (some ⟨rb, 0, none⟩), .int .i64 4, .string name, nv] w fun e w' => e = .returned (.tuple #[]) ∧ Took base rb o (takeC 4 name [] C) 4 w w' := by
  obtain ⟨i0, hi0, hz0, hz1, hz2⟩ := info_parts Tryz.infoStr
  obtain ⟨g, off, cap, rfl, ⟨hc1, hc2⟩, hog, hbg, hgw, hgr, hcell⟩ := h.form
  have hrl := lt_of_get h.blk
  have hlast := h.last
  obtain ⟨hpo, hpt⟩ := hlast 0 (by decide)
  obtain ⟨pa, pc, hpv⟩ := hpo.val
  have hpv : y.p = .slice pa y.E.points.length pc := hpv
  have HOW : Hid (∀ W, Below w.heap.size w W → OwnAt W base 9 1 (.slice pa y.E.points.length pc) y.E.points.length (strCells1 y.E.points) ∧ base ≤ W.heap.size) := (show _ from fun W hW => ⟨by rw [← hpv]; exact hpo.later hW, Nat.le_trans h.top hW.size⟩)
  obtain ⟨c0, c1, c2, c3, c4, c5, cf⟩ := rd_cells h.blk
  have q2 := hcell 2 _ rfl
  rw [hpv, ← Nat.add_assoc] at q2
  have HA : Hid (∀ (w1 w2 : World) (ao : Option Addr) (cp : Nat), Below w.heap.size w w1 → OwnAt w2 base 9 1 (.slice ao (y.E.points.length + 1) cp) (y.E.points.length + 1) (strCells1 y.E.points ++ [.string name]) → w1.grownBy w2 (Value.slice pa y.E.points.length pc).ownBlock → ((Value.slice ao (y.E.points.length + 1) cp).ownBlock = (Value.slice pa y.E.points.length pc).ownBlock ∨ ∀ b, (Value.slice ao (y.E.points.length + 1) cp).ownBlock = some b → w1.heap.size ≤ b) →
      Hid (Took base rb o (takeC 4 name [] C) 4 w (w2.setCell ⟨g, off + Z.length * 10 + 2, none⟩ (.slice ao (y.E.points.length + 1) cp))) ∧ w2.cell? ⟨g, off + Z.length * 10 + 2, none⟩ = some (.slice pa y.E.points.length pc) ∧ w2.frozen? ⟨g, off + Z.length * 10 + 2, none⟩ = false) := (show _ from by
    intro w1 w2 ao cp b1 ho hg hnn
    rw [← hpv] at hg hnn ⊢
    have hE := ents_next (y' := ⟨takeE 4 name [] y.E, .slice ao (y.E.points.length + 1) cp, y.g, y.e, y.f, y.l⟩) h.eq 4 (by decide) name [] rfl
    obtain ⟨⟨o', hA⟩, hK, hc, hf⟩ := h.appF (y' := ⟨takeE 4 name [] y.E, .slice ao (y.E.points.length + 1) cp, y.g, y.e, y.f, y.l⟩) (C' := takeC 4 name [] C) 0 (by decide) b1 ho hg hnn rfl rfl
      (fun i hi hne => by
        match i, hi with
        | 0, _ => exact absurd rfl hne
        | 1, _ => exact ⟨rfl, rfl, rfl⟩
        | 2, _ => exact ⟨rfl, rfl, rfl⟩
        | 3, _ => exact ⟨rfl, rfl, rfl⟩
        | 4, _ => exact ⟨rfl, rfl, rfl⟩
        )
      ⟨rfl, by show (y.E.points ++ [name]).length = _; simp, by show strCells1 (y.E.points ++ [name]) = _; simp [strCells1]⟩ (cs_next C 4 (by decide) name _ _ 4) hE
    rw [show fO 0 = 2 from rfl, ← Nat.add_assoc] at hA hK hc hf
    exact ⟨⟨⟨o', _, _, hA⟩, hK.mono (fun b _ hb => .inr hb)⟩, hc, hf⟩)
  obtain ⟨m, hm⟩ : ∃ m, m = Z.length := ⟨_, rfl⟩
  obtain ⟨np, hnp⟩ : ∃ np, np = y.E.points.length := ⟨_, rfl⟩
  rw [← hm] at hc1 HA q2 c4 hZ
  rw [← hnp] at hn HOW HA q2
  clear h hlast hpo hpt hpv hcell hm hnp hog
  go_enter Tryz.func114, Tryz.ntmps114
  go_upto_region 2 with fail
  go_quiet (fail)
  go_wp2_with (at_builtin; go_must (refine wpList_append_off rfl (.tmp 32) (.tmp 34) 22 rfl base 9 i0 _ 1 16 Tryz.underlying22 hi0 hz0 hz1 hz2 rfl (by decide) (.slice pa np pc) np (strCells1 y.E.points) rfl (HOW.out _ (by repeat (first | exact Below.refl _ _ | refine below_drewN' _ ?_ | refine Below.drew ?_ | refine Below.alloc ?_ (by simp) _))).1 ⟨w.heap.size, 0, none⟩ 1 1 [.string name] rfl rfl (new_cells _ [.string name] _) (by intro u hu; simp at hu; subst hu; rfl) (by unfold maxLen; omega) (by omega) (HOW.out _ (by repeat (first | exact Below.refl _ _ | refine below_drewN' _ ?_ | refine Below.drew ?_ | refine Below.alloc ?_ (by simp) _))).2 ?_; intro a1 k1 w6 ho6 hg6 hn6; obtain ⟨F1, d4, df⟩ := HA.out _ w6 _ _ (by repeat (first | exact Below.refl _ _ | refine below_drewN' _ ?_ | refine Below.drew ?_ | refine Below.alloc ?_ (by simp) _)) ho6 hg6 hn6; clear ho6 hg6 hn6))
  go_end0
  first
    | exact ⟨rfl, F1.out⟩
    | exact ⟨rfl, F1.out.drew⟩
theorem take8_any (base rb : Nat) (o : Nat → Option Nat) (C : ConfV) (v : Value) (Z : List EntX) (y : EntX) (w : World) (h : RdAt base rb o C 8 v (Z ++ [y]) w) (hZ : Z.length ≤ 100000) (hn : y.E.first.length ≤ 100000) (name : ByteArray) (nb noff ncap : Nat) (a : Int) (n0 : w.cell? ⟨nb, noff, none⟩ = some (.int .i64 a)) (hnb : nb < w.heap.size) (hon : o nb = none) :
    Calls Tryz.prog 114 #[.pointer (some ⟨rb, 0, none⟩), .int .i64 8, .string name, .slice (some ⟨nb, noff, none⟩) 1 ncap] w fun e w' => e = .returned (.tuple #[]) ∧ Took base rb o (takeC 8 name [a] C) 8 w w' := by
  obtain ⟨i0, hi0, hz0, hz1, hz2⟩ := info_parts Tryz.infoInt
  obtain ⟨g, off, cap, rfl, ⟨hc1, hc2⟩, hog, hbg, hgw, hgr, hcell⟩ := h.form
  have hrl := lt_of_get h.blk
  have hlast := h.last
  obtain ⟨hpo, hpt⟩ := hlast 3 (by decide)
  obtain ⟨pa, pc, hpv⟩ := hpo.val
  have hpv : y.f = .slice pa y.E.first.length pc := hpv
  have HOW : Hid (∀ W, Below w.heap.size w W → OwnAt W base 3 1 (.slice pa y.E.first.length pc) y.E.first.length (intCells y.E.first) ∧ base ≤ W.heap.size) := (show _ from fun W hW => ⟨by rw [← hpv]; exact hpo.later hW, Nat.le_trans h.top hW.size⟩)
  obtain ⟨c0, c1, c2, c3, c4, c5, cf⟩ := rd_cells h.blk
  have q2 := hcell 8 _ rfl
  rw [hpv, ← Nat.add_assoc] at q2
  have hgn : ¬ g = nb := fun e => by rw [e, hon] at hog; cases hog
  have hng : ¬ nb = g := fun e => hgn e.symm
  have hgs : ¬ g = w.heap.size := by omega
  have hgs2 : ¬ w.heap.size = g := by omega
  have hns : ¬ nb = w.heap.size := by omega
  have hns2 : ¬ w.heap.size = nb := by omega
  have HA : Hid (∀ (w1 w2 : World) (ao : Option Addr) (cp : Nat), Below w.heap.size w w1 → OwnAt w2 base 3 1 (.slice ao (y.E.first.length + 1) cp) (y.E.first.length + 1) (intCells y.E.first ++ [.int .i64 a]) → w1.grownBy w2 (Value.slice pa y.E.first.length pc).ownBlock → ((Value.slice ao (y.E.first.length + 1) cp).ownBlock = (Value.slice pa y.E.first.length pc).ownBlock ∨ ∀ b, (Value.slice ao (y.E.first.length + 1) cp).ownBlock = some b → w1.heap.size ≤ b) →
      Hid (Took base rb o (takeC 8 name [a] C) 8 w (w2.setCell ⟨g, off + Z.length * 10 + 8, none⟩ (.slice ao (y.E.first.length + 1) cp))) ∧ w2.cell? ⟨g, off + Z.length * 10 + 8, none⟩ = some (.slice pa y.E.first.length pc) ∧ w2.frozen? ⟨g, off + Z.length * 10 + 8, none⟩ = false) := (show _ from by
    intro w1 w2 ao cp b1 ho hg hnn
    rw [← hpv] at hg hnn ⊢
    have hE := ents_next (y' := ⟨takeE 8 name [a] y.E, y.p, y.g, y.e, .slice ao (y.E.first.length + 1) cp, y.l⟩) h.eq 8 (by decide) name [a] rfl
    obtain ⟨⟨o', hA⟩, hK, hc, hf⟩ := h.appF (y' := ⟨takeE 8 name [a] y.E, y.p, y.g, y.e, .slice ao (y.E.first.length + 1) cp, y.l⟩) (C' := takeC 8 name [a] C) 3 (by decide) b1 ho hg hnn rfl rfl
      (fun i hi hne => by
        match i, hi with
        | 0, _ => exact ⟨rfl, rfl, rfl⟩
        | 1, _ => exact ⟨rfl, rfl, rfl⟩
        | 2, _ => exact ⟨rfl, rfl, rfl⟩
        | 3, _ => exact absurd rfl hne
        | 4, _ => exact ⟨rfl, rfl, rfl⟩
        )
      ⟨rfl, by show (y.E.first ++ [a]).length = _; simp, by show intCells (y.E.first ++ [a]) = _; simp [intCells]⟩ (cs_next C 8 (by decide) name _ _ 8) hE
    rw [show fO 3 = 8 from rfl, ← Nat.add_assoc] at hA hK hc hf
    exact ⟨⟨⟨o', _, _, hA⟩, hK.mono (fun b _ hb => .inr hb)⟩, hc, hf⟩)
  obtain ⟨m, hm⟩ : ∃ m, m = Z.length := ⟨_, rfl⟩
  obtain ⟨np, hnp⟩ : ∃ np, np = y.E.first.length := ⟨_, rfl⟩
  rw [← hm] at hc1 HA q2 c4 hZ
  rw [← hnp] at hn HOW HA q2
  clear h hlast hpo hpt hpv hcell hm hnp hog
  go_enter Tryz.func114, Tryz.ntmps114
  go_upto_region 2 with fail
  go_quiet (fail)
  generalize hq : World.drewN w _ = wq
  have bq : Below w.heap.size w wq := by rw [← hq]; exact below_drewN' _ (Below.refl _ _)
  have hle := bq.size
  have ec : ∀ p, wq.cell? p = w.cell? p := fun p => by rw [← hq]; rfl
  have hqs : wq.heap.size = w.heap.size := by rw [← hq]; rfl
  rw [← ec] at n0 q2
  rw [← hqs] at hgs hgs2 hns hns2 hgw hnb
  clear hq ec hqs c0 c1 c2 c3 c4 c5 cf
  go_upto_region 13 with fail
  go_region_law (refine step_append_off rfl (.tmp 106) (.tmp 110) 48 rfl base 3 i0 _ 1 8 Tryz.underlying48 hi0 hz0 hz1 hz2 rfl (by decide) (.slice pa np pc) np (intCells y.E.first) rfl ?_ ⟨wq.heap.size, 0, none⟩ 1 1 [.int .i64 a] rfl rfl ?_ (by intro u hu; simp at hu; subst hu; rfl) (by unfold maxLen; omega) (by omega) ?_ ?_; exact (HOW.out _ (by repeat (first | exact bq | refine Below.drew ?_ | refine Below.alloc ?_ hle _))).1; exact new_cells _ [.int .i64 a] _; exact (HOW.out _ (by repeat (first | exact bq | refine Below.drew ?_ | refine Below.alloc ?_ hle _))).2; intro a1 k1 w6 ho6 hg6 hn6; obtain ⟨F1, d4, df⟩ := HA.out _ w6 _ _ (by repeat (first | exact bq | refine Below.drew ?_ | refine Below.alloc ?_ hle _)) ho6 hg6 hn6; clear ho6 hg6 hn6)
  all_goals
    go_wp2_with fail
    go_end0
    first
      | exact ⟨rfl, F1.out⟩
      | exact ⟨rfl, F1.out.drew⟩
theorem take9_any (base rb : Nat) (o : Nat → Option Nat) (C : ConfV) (v : Value) (Z : List EntX) (y : EntX) (w : World) (h : RdAt base rb o C 9 v (Z ++ [y]) w) (hZ : Z.length ≤ 100000) (hn : y.E.last.length ≤ 100000) (name : ByteArray) (nb noff ncap : Nat) (a : Int) (n0 : w.cell? ⟨nb, noff, none⟩ = some (.int .i64 a)) (hnb : nb < w.heap.size) (hon : o nb = none) :
    Calls Tryz.prog 114 #[.pointer (some ⟨rb, 0, none⟩), .int .i64 9, .string name, .slice (some ⟨nb, noff, none⟩) 1 ncap] w fun e w' => e = .returned (.tuple #[]) ∧ Took base rb o (takeC 9 name [a] C) 9 w w' := by
  obtain ⟨i0, hi0, hz0, hz1, hz2⟩ := info_parts Tryz.infoInt
  obtain ⟨g, off, cap, rfl, ⟨hc1, hc2⟩, hog, hbg, hgw, hgr, hcell⟩ := h.form
  have hrl := lt_of_get h.blk
  have hlast := h.last
  obtain ⟨hpo, hpt⟩ := hlast 4 (by decide)
  obtain ⟨pa, pc, hpv⟩ := hpo.val
  have hpv : y.l = .slice pa y.E.last.length pc := hpv
  have HOW : Hid (∀ W, Below w.heap.size w W → OwnAt W base 3 1 (.slice pa y.E.last.length pc) y.E.last.length (intCells y.E.last) ∧ base ≤ W.heap.size) := (show _ from fun W hW => ⟨by rw [← hpv]; exact hpo.later hW, Nat.le_trans h.top hW.size⟩)
  obtain ⟨c0, c1, c2, c3, c4, c5, cf⟩ := rd_cells h.blk
  have q2 := hcell 9 _ rfl
  rw [hpv, ← Nat.add_assoc] at q2
  have hgn : ¬ g = nb := fun e => by rw [e, hon] at hog; cases hog
  have hng : ¬ nb = g := fun e => hgn e.symm
  have hgs : ¬ g = w.heap.size := by omega
  have hgs2 : ¬ w.heap.size = g := by omega
  have hns : ¬ nb = w.heap.size := by omega
  have hns2 : ¬ w.heap.size = nb := by omega
  have HA : Hid (∀ (w1 w2 : World) (ao : Option Addr) (cp : Nat), Below w.heap.size w w1 → OwnAt w2 base 3 1 (.slice ao (y.E.last.length + 1) cp) (y.E.last.length + 1) (intCells y.E.last ++ [.int .i64 a]) → w1.grownBy w2 (Value.slice pa y.E.last.length pc).ownBlock → ((Value.slice ao (y.E.last.length + 1) cp).ownBlock = (Value.slice pa y.E.last.length pc).ownBlock ∨ ∀ b, (Value.slice ao (y.E.last.length + 1) cp).ownBlock = some b → w1.heap.size ≤ b) →
      Hid (Took base rb o (takeC 9 name [a] C) 9 w (w2.setCell ⟨g, off + Z.length * 10 + 9, none⟩ (.slice ao (y.E.last.length + 1) cp))) ∧ w2.cell? ⟨g, off + Z.length * 10 + 9, none⟩ = some (.slice pa y.E.last.length pc) ∧ w2.frozen? ⟨g, off + Z.length * 10 + 9, none⟩ = false) := (show _ from by
    intro w1 w2 ao cp b1 ho hg hnn
    rw [← hpv] at hg hnn ⊢
    have hE := ents_next (y' := ⟨takeE 9 name [a] y.E, y.p, y.g, y.e, y.f, .slice ao (y.E.last.length + 1) cp⟩) h.eq 9 (by decide) name [a] rfl
    obtain ⟨⟨o', hA⟩, hK, hc, hf⟩ := h.appF (y' := ⟨takeE 9 name [a] y.E, y.p, y.g, y.e, y.f, .slice ao (y.E.last.length + 1) cp⟩) (C' := takeC 9 name [a] C) 4 (by decide) b1 ho hg hnn rfl rfl
      (fun i hi hne => by
        match i, hi with
        | 0, _ => exact ⟨rfl, rfl, rfl⟩
        | 1, _ => exact ⟨rfl, rfl, rfl⟩
        | 2, _ => exact ⟨rfl, rfl, rfl⟩
        | 3, _ => exact ⟨rfl, rfl, rfl⟩
        | 4, _ => exact absurd rfl hne
        )
      ⟨rfl, by show (y.E.last ++ [a]).length = _; simp, by show intCells (y.E.last ++ [a]) = _; simp [intCells]⟩ (cs_next C 9 (by decide) name _ _ 9) hE
    rw [show fO 4 = 9 from rfl, ← Nat.add_assoc] at hA hK hc hf
    exact ⟨⟨⟨o', _, _, hA⟩, hK.mono (fun b _ hb => .inr hb)⟩, hc, hf⟩)
  obtain ⟨m, hm⟩ : ∃ m, m = Z.length := ⟨_, rfl⟩
  obtain ⟨np, hnp⟩ : ∃ np, np = y.E.last.length := ⟨_, rfl⟩
  rw [← hm] at hc1 HA q2 c4 hZ
  rw [← hnp] at hn HOW HA q2
  clear h hlast hpo hpt hpv hcell hm hnp hog
  go_enter Tryz.func114, Tryz.ntmps114
  go_upto_region 2 with fail
  go_quiet (fail)
  generalize hq : World.drewN w _ = wq
  have bq : Below w.heap.size w wq := by rw [← hq]; exact below_drewN' _ (Below.refl _ _)
  have hle := bq.size
  have ec : ∀ p, wq.cell? p = w.cell? p := fun p => by rw [← hq]; rfl
  have hqs : wq.heap.size = w.heap.size := by rw [← hq]; rfl
  rw [← ec] at n0 q2
  rw [← hqs] at hgs hgs2 hns hns2 hgw hnb
  clear hq ec hqs c0 c1 c2 c3 c4 c5 cf
  go_upto_region 15 with fail
  go_region_law (refine step_append_off rfl (.tmp 120) (.tmp 124) 48 rfl base 3 i0 _ 1 8 Tryz.underlying48 hi0 hz0 hz1 hz2 rfl (by decide) (.slice pa np pc) np (intCells y.E.last) rfl ?_ ⟨wq.heap.size, 0, none⟩ 1 1 [.int .i64 a] rfl rfl ?_ (by intro u hu; simp at hu; subst hu; rfl) (by unfold maxLen; omega) (by omega) ?_ ?_; exact (HOW.out _ (by repeat (first | exact bq | refine Below.drew ?_ | refine Below.alloc ?_ hle _))).1; exact new_cells _ [.int .i64 a] _; exact (HOW.out _ (by repeat (first | exact bq | refine Below.drew ?_ | refine Below.alloc ?_ hle _))).2; intro a1 k1 w6 ho6 hg6 hn6; obtain ⟨F1, d4, df⟩ := HA.out _ w6 _ _ (by repeat (first | exact bq | refine Below.drew ?_ | refine Below.alloc ?_ hle _)) ho6 hg6 hn6; clear ho6 hg6 hn6)
  all_goals
    go_wp2_with fail
    go_end0
    first
      | exact ⟨rfl, F1.out⟩
      | exact ⟨rfl, F1.out.drew⟩
theorem take7_any (base rb : Nat) (o : Nat → Option Nat) (C : ConfV) (v : Value) (Z : List EntX) (y : EntX) (w : World) (h : RdAt base rb o C 7 v (Z ++ [y]) w) (hZ : Z.length ≤ 100000) (hn : y.E.edges.length ≤ 100000) (name : ByteArray) (nb noff ncap : Nat) (a b : Int) (n0 : w.cell? ⟨nb, noff, none⟩ = some (.int .i64 a)) (n1 : w.cell? ⟨nb, noff + 1, none⟩ = some (.int .i64 b)) (hnb : nb < w.heap.size) (hon : o nb = none) :
    Calls Tryz.prog 114 #[.pointer (some ⟨rb, 0, none⟩), .int .i64 7, .string name, .slice (some ⟨nb, noff, none⟩) 2 ncap] w fun e w' => e = .returned (.tuple #[]) ∧ Took base rb o (takeC 7 name [a, b] C) 7 w w' := by
  obtain ⟨i0, hi0, hz0, hz1, hz2⟩ := info_parts Tryz.infoEdge
  obtain ⟨g, off, cap, rfl, ⟨hc1, hc2⟩, hog, hbg, hgw, hgr, hcell⟩ := h.form
  have hrl := lt_of_get h.blk
  have hlast := h.last
  obtain ⟨hpo, hpt⟩ := hlast 2 (by decide)
  obtain ⟨pa, pc, hpv⟩ := hpo.val
  have hpv : y.e = .slice pa y.E.edges.length pc := hpv
  have HOW : Hid (∀ W, Below w.heap.size w W → OwnAt W base 127 2 (.slice pa y.E.edges.length pc) y.E.edges.length (y.E.edges.flatMap edgeCells) ∧ base ≤ W.heap.size) := (show _ from fun W hW => ⟨by rw [← hpv]; exact hpo.later hW, Nat.le_trans h.top hW.size⟩)
  obtain ⟨c0, c1, c2, c3, c4, c5, cf⟩ := rd_cells h.blk
  have q2 := hcell 7 _ rfl
  rw [hpv, ← Nat.add_assoc] at q2
  have hgn : ¬ g = nb := fun e => by rw [e, hon] at hog; cases hog
  have hng : ¬ nb = g := fun e => hgn e.symm
  have hgs : ¬ g = w.heap.size := by omega
  have hgs2 : ¬ w.heap.size = g := by omega
  have hns : ¬ nb = w.heap.size := by omega
  have hns2 : ¬ w.heap.size = nb := by omega
  have HA : Hid (∀ (w1 w2 : World) (ao : Option Addr) (cp : Nat), Below w.heap.size w w1 → OwnAt w2 base 127 2 (.slice ao (y.E.edges.length + 1) cp) (y.E.edges.length + 1) (y.E.edges.flatMap edgeCells ++ [.int .i64 a, .int .i64 b]) → w1.grownBy w2 (Value.slice pa y.E.edges.length pc).ownBlock → ((Value.slice ao (y.E.edges.length + 1) cp).ownBlock = (Value.slice pa y.E.edges.length pc).ownBlock ∨ ∀ b, (Value.slice ao (y.E.edges.length + 1) cp).ownBlock = some b → w1.heap.size ≤ b) →
      Hid (Took base rb o (takeC 7 name [a, b] C) 7 w (w2.setCell ⟨g, off + Z.length * 10 + 7, none⟩ (.slice ao (y.E.edges.length + 1) cp))) ∧ w2.cell? ⟨g, off + Z.length * 10 + 7, none⟩ = some (.slice pa y.E.edges.length pc) ∧ w2.frozen? ⟨g, off + Z.length * 10 + 7, none⟩ = false) := (show _ from by
    intro w1 w2 ao cp b1 ho hg hnn
    rw [← hpv] at hg hnn ⊢
    have hE := ents_next (y' := ⟨takeE 7 name [a, b] y.E, y.p, y.g, .slice ao (y.E.edges.length + 1) cp, y.f, y.l⟩) h.eq 7 (by decide) name [a, b] rfl
    obtain ⟨⟨o', hA⟩, hK, hc, hf⟩ := h.appF (y' := ⟨takeE 7 name [a, b] y.E, y.p, y.g, .slice ao (y.E.edges.length + 1) cp, y.f, y.l⟩) (C' := takeC 7 name [a, b] C) 2 (by decide) b1 ho hg hnn rfl rfl
      (fun i hi hne => by
        match i, hi with
        | 0, _ => exact ⟨rfl, rfl, rfl⟩
        | 1, _ => exact ⟨rfl, rfl, rfl⟩
        | 2, _ => exact absurd rfl hne
        | 3, _ => exact ⟨rfl, rfl, rfl⟩
        | 4, _ => exact ⟨rfl, rfl, rfl⟩
        )
      ⟨rfl, by show (y.E.edges ++ [(a, b)]).length = _; simp, by show (y.E.edges ++ [(a, b)]).flatMap edgeCells = _; simp [edgeCells]⟩ (cs_next C 7 (by decide) name _ _ 7) hE
    rw [show fO 2 = 7 from rfl, ← Nat.add_assoc] at hA hK hc hf
    exact ⟨⟨⟨o', _, _, hA⟩, hK.mono (fun b _ hb => .inr hb)⟩, hc, hf⟩)
  obtain ⟨m, hm⟩ : ∃ m, m = Z.length := ⟨_, rfl⟩
  obtain ⟨np, hnp⟩ : ∃ np, np = y.E.edges.length := ⟨_, rfl⟩
  rw [← hm] at hc1 HA q2 c4 hZ
  rw [← hnp] at hn HOW HA q2
  clear h hlast hpo hpt hpv hcell hm hnp hog
  go_enter Tryz.func114, Tryz.ntmps114
  go_upto_region 2 with fail
  go_quiet (fail)
  generalize hq : World.drewN w _ = wq
  have bq : Below w.heap.size w wq := by rw [← hq]; exact below_drewN' _ (Below.refl _ _)
  have hle := bq.size
  have ec : ∀ p, wq.cell? p = w.cell? p := fun p => by rw [← hq]; rfl
  have hqs : wq.heap.size = w.heap.size := by rw [← hq]; rfl
  rw [← ec] at n0 n1 q2
  rw [← hqs] at hgs hgs2 hns hns2 hgw hnb
  clear hq ec hqs c0 c1 c2 c3 c4 c5 cf
  go_upto_region 11 with fail
  go_region_law (refine step_append_off rfl (.tmp 88) (.tmp 96) 47 rfl base 127 i0 _ 2 16 Tryz.underlying47 hi0 hz0 hz1 hz2 rfl (by decide) (.slice pa np pc) np (y.E.edges.flatMap edgeCells) rfl ?_ ⟨wq.heap.size, 0, none⟩ 1 1 [.int .i64 a, .int .i64 b] rfl rfl ?_ (by intro u hu; simp at hu; rcases hu with rfl | rfl <;> rfl) (by unfold maxLen; omega) (by omega) ?_ ?_; exact (HOW.out _ (by repeat (first | exact bq | refine Below.drew ?_ | refine Below.alloc ?_ hle _))).1; exact new_cells _ [.int .i64 a, .int .i64 b] _; exact (HOW.out _ (by repeat (first | exact bq | refine Below.drew ?_ | refine Below.alloc ?_ hle _))).2; intro a1 k1 w6 ho6 hg6 hn6; obtain ⟨F1, d4, df⟩ := HA.out _ w6 _ _ (by repeat (first | exact bq | refine Below.drew ?_ | refine Below.alloc ?_ hle _)) ho6 hg6 hn6; clear ho6 hg6 hn6)
  all_goals
    go_wp2_with fail
    go_end0
    first
      | exact ⟨rfl, F1.out⟩
      | exact ⟨rfl, F1.out.drew⟩
end Go.Proofs.YtikehilbmldadaaGreatDoor
