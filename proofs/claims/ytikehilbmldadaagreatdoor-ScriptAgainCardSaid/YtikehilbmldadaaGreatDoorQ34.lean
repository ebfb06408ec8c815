import Derived.Test.YtikehilbmldadaaGreatDoorQ01
import Derived.Deep.RegionHeld3
import Derived.Test.YtikehilbmldadaaGreatDoorQ33
set_option maxHeartbeats 8000000
set_option maxRecDepth 100000
namespace Go.Proofs.YtikehilbmldadaaGreatDoor
set_option linter.unusedVariables false
section
variable {P : Program} {ops : Array Oper} {Q : Exit → Act → World → Prop} {md : Region.Mode} {S : World → Prop}
theorem take_lit {i : Nat} {d : Option Tmp} {op : Op} {t : TypeId} {p : String} {af : Array Edge} {g : Option (Nat × Bool)} {v : Value} {fuel : Nat} {listed : Array Bool} {a : Act} {w : World} (hi : ops[i]? = some { dst := d, op := op, type := t, pos := p, after := af, guard := g })
    (hs : Region.noSelect ops = true) (hf : Region.free md ops listed i = true) (hr : (Region.ready md ops listed).contains i = true)
    (hQ : ∀ c a w, Q (.panic c) (a.put d v) w → Q (.panic c) a w) (hy : YieldsIf P ops S { dst := d, op := op, type := t, pos := p, after := af, guard := g } v a) (hS : S w)
    (h : wpAnyH P md ops Q S fuel (listed.setIfInBounds i true) (a.put d v) w) : wpAnyH P md ops Q S (fuel + 1) listed a w :=
  wpAnyH_take hi hs hf hr hQ hy hS h
end
end Go.Proofs.YtikehilbmldadaaGreatDoor
namespace Go.Proofs.YtikehilbmldadaaGreatDoor
open Go.RowKit
set_option linter.unusedVariables false
def setN (E : EntV) (k : Nat) (a : Int) : EntV := if k = 3 then { E with count := a } else if k = 4 then { E with mn := a } else { E with mx := a }
def setC (C : ConfV) (E : EntV) : ConfV := { C with ents := C.ents.dropLast ++ [E] }
theorem RdAt.setN {base rb : Nat} {o : Nat → Option Nat} {C : ConfV} {st : Int} {Z : List EntX} {y : EntX} {w : World} {g off cap : Nat} (h : RdAt base rb o C st (.slice (some ⟨g, off, none⟩) (Z.length + 1) cap) (Z ++ [y]) w) (k : Nat) (hk : k = 3 ∨ k = 4 ∨ k = 5) (a : Int) :
    RdAt base rb o (setC C (setN y.E k a)) st (.slice (some ⟨g, off, none⟩) (Z.length + 1) cap) (Z ++ [{ y with E := setN y.E k a }]) (w.setCell ⟨g, off + Z.length * 10 + k, none⟩ (.int .i64 a)) ∧ w.frozen? ⟨g, off + Z.length * 10 + k, none⟩ = false := by
  have hzl : (Z ++ [y]).length = Z.length + 1 := by rw [List.length_append, List.length_singleton]
  have hgw : g < w.heap.size := (h.row.lt g rfl).2
  have hgo : o g = some 0 := h.rt g rfl
  have hrb : o rb = none := h.ob rb h.lo
  have kk := keep_set w g (off + Z.length * 10 + k) (.int .i64 a)
  have hsz := kk.size
  have hr := h.row
  rw [hzl] at hr
  have hst := hr.stored (Z.length * 10 + k) (by omega) (.int .i64 a)
  rw [← Nat.add_assoc] at hst
  refine ⟨⟨?_, h.lo, Nat.le_trans h.top hsz, fun b hb => h.fr b (by omega), h.ob, ?_, h.rt, fun i hi => ?_, ?_⟩, hst.2⟩
  · exact kk.get h.blk (fun hs => by rw [hs, hgo] at hrb; cases hrb)
  · have := hst.1
    rw [flat_setR Z y { y with E := Go.Proofs.YtikehilbmldadaaGreatDoor.setN y.E k a } k (by omega) _ (by rcases hk with rfl | rfl | rfl <;> rfl)] at this
    rw [List.length_append, List.length_singleton]
    exact this
  · rw [List.length_append, List.length_singleton] at hi
    have hS : ∀ (t : Nat) (b : Nat), b < w.heap.size → b = g → ∀ j, j < 5 → o b ≠ some (1 + 5 * t + j) := fun t b _ hb j _ hh => by rw [hb, hgo] at hh; injection hh with hh; omega
    by_cases him : i < Z.length
    · have hy := h.own i (by omega)
      rw [List.getElem_append_left him] at hy ⊢
      exact hy.keep kk (hS i) (fun _ _ => rfl)
    · obtain rfl : i = Z.length := by omega
      rw [List.getElem_concat_length rfl]
      have hy := h.last.keep (o' := o) kk (hS Z.length) (fun _ _ => rfl)
      rcases hk with rfl | rfl | rfl
      · exact hy
      · exact hy
      · exact hy
  · show C.ents.dropLast ++ [_] = _
    rw [(last_map h.eq).2, List.map_append]
    rfl
theorem Took.drewN {base rb : Nat} {o : Nat → Option Nat} {C' : ConfV} {st : Int} {w w' : World} (h : Took base rb o C' st w w') (n : Nat) : Took base rb o C' st w (w'.drewN n) := by
  obtain ⟨⟨o', v', Y', h1⟩, h2⟩ := h
  exact ⟨⟨o', v', Y', h1.later (below_drewN' _ (Below.refl _ _))⟩, keep_drewN _ h2⟩
theorem setC_twice (C : ConfV) (E F : EntV) : setC (setC C E) F = setC C F := by
  unfold setC
  simp
theorem take_five (C : ConfV) (name : ByteArray) (a b c : Int) (E : EntV) (hE : lastE C.ents = E) : takeC 5 name [a, b, c] C = setC C { E with count := a, mn := b, mx := c } := by
  unfold takeC setC
  rw [hE]
  rfl
theorem RdAt.three {base rb : Nat} {o : Nat → Option Nat} {C : ConfV} {st : Int} {Z : List EntX} {y : EntX} {w : World} {g off cap : Nat} (h : RdAt base rb o C st (.slice (some ⟨g, off, none⟩) (Z.length + 1) cap) (Z ++ [y]) w) (name : ByteArray) (a b c : Int)
    (k1 k2 k3 : Nat) (x1 x2 x3 : Int) (h1 : k1 = 3 ∨ k1 = 4 ∨ k1 = 5) (h2 : k2 = 3 ∨ k2 = 4 ∨ k2 = 5) (h3 : k3 = 3 ∨ k3 = 4 ∨ k3 = 5) (he : Go.Proofs.YtikehilbmldadaaGreatDoor.setN (Go.Proofs.YtikehilbmldadaaGreatDoor.setN (Go.Proofs.YtikehilbmldadaaGreatDoor.setN y.E k1 x1) k2 x2) k3 x3 = { y.E with count := a, mn := b, mx := c }) :
    Hid (Took base rb o (takeC 5 name [a, b, c] C) st w (((w.setCell ⟨g, off + Z.length * 10 + k1, none⟩ (.int .i64 x1)).setCell ⟨g, off + Z.length * 10 + k2, none⟩ (.int .i64 x2)).setCell ⟨g, off + Z.length * 10 + k3, none⟩ (.int .i64 x3))) := by
  have hgo : o g = some 0 := h.rt g rfl
  have e3 := (((h.setN k1 h1 x1).1.setN k2 h2 x2).1.setN k3 h3 x3).1
  have kk := (((keep_set w g (off + Z.length * 10 + k1) (.int .i64 x1)).setCell (p := ⟨g, off + Z.length * 10 + k2, none⟩) (fun _ => rfl) (.int .i64 x2)).setCell (p := ⟨g, off + Z.length * 10 + k3, none⟩) (fun _ => rfl) (.int .i64 x3))
  suffices e4 : Took base rb o (takeC 5 name [a, b, c] C) st w (((w.setCell ⟨g, off + Z.length * 10 + k1, none⟩ (.int .i64 x1)).setCell ⟨g, off + Z.length * 10 + k2, none⟩ (.int .i64 x2)).setCell ⟨g, off + Z.length * 10 + k3, none⟩ (.int .i64 x3)) from e4
  refine ⟨⟨o, .slice (some ⟨g, off, none⟩) (Z.length + 1) cap, Z ++ [{ y with E := { y.E with count := a, mn := b, mx := c } }], ?_⟩, kk.mono (fun b _ hb => .inr ⟨0, by rw [hb]; exact hgo⟩)⟩
  rw [take_five C name a b c y.E (last_map h.eq).1, ← he]
  rw [setC_twice, setC_twice] at e3
  exact e3
theorem take5_any (base rb : Nat) (o : Nat → Option Nat) (C : ConfV) (v : Value) (Z : List EntX) (y : EntX) (w : World) (h : RdAt base rb o C 5 v (Z ++ [y]) w) (hZ : Z.length ≤ 100000) (name : ByteArray) (nb noff ncap : Nat) (a b c : Int)
    (n0 : w.cell? ⟨nb, noff, none⟩ = some (.int .i64 a)) (n1 : w.cell? ⟨nb, noff + 1, none⟩ = some (.int .i64 b)) (n2 : w.cell? ⟨nb, noff + 2, none⟩ = some (.int .i64 c)) (hnb : nb < w.heap.size) (hon : o nb = none) :
    Calls Tryz.prog 114 #[.pointer (some ⟨rb, 0, none⟩), .int .i64 5, .string name, .slice (some ⟨nb, noff, none⟩) 3 ncap] w fun e w' => e = .returned (.tuple #[]) ∧ Took base rb o (takeC 5 name [a, b, c] C) 5 w w' := by
  obtain ⟨g, off, cap, rfl, ⟨hc1, hc2⟩, hog, hbg, hgw, hgr, hcell⟩ := h.form
  obtain ⟨c0, c1, c2, c3, c4, c5, cf⟩ := rd_cells h.blk
  have q3 := hcell 3 _ rfl
  have q4 := hcell 4 _ rfl
  have q5 := hcell 5 _ rfl
  rw [← Nat.add_assoc] at q3 q4 q5
  have z3 := (h.setN 3 (by omega) a).2
  have z4 := (h.setN 4 (by omega) a).2
  have z5 := (h.setN 5 (by omega) a).2
  have hgn : ¬ g = nb := fun e => by rw [e, hon] at hog; cases hog
  have hng : ¬ nb = g := fun e => hgn e.symm
  have F1 := h.three name a b c 3 4 5 a b c (by omega) (by omega) (by omega) rfl
  have F2 := h.three name a b c 3 5 4 a c b (by omega) (by omega) (by omega) rfl
  have F3 := h.three name a b c 4 3 5 b a c (by omega) (by omega) (by omega) rfl
  have F4 := h.three name a b c 4 5 3 b c a (by omega) (by omega) (by omega) rfl
  have F5 := h.three name a b c 5 3 4 c a b (by omega) (by omega) (by omega) rfl
  have F6 := h.three name a b c 5 4 3 c b a (by omega) (by omega) (by omega) rfl
  obtain ⟨m, hm⟩ : ∃ m, m = Z.length := ⟨_, rfl⟩
  rw [← hm] at hc1 q3 q4 q5 z3 z4 z5 c4 hZ F1 F2 F3 F4 F5 F6
  have HF1 := Lib.hid (And.intro F1 (And.intro F2 (And.intro F3 (And.intro F4 (And.intro F5 F6)))))
  clear h hcell hm hog F1 F2 F3 F4 F5 F6
  go_enter Tryz.func114, Tryz.ntmps114
  go_upto_region 2 with fail
  go_quiet (fail)
  go_upto_region 7 with fail
  generalize hq : World.drewN w _ = wq
  have ec : ∀ p, wq.cell? p = w.cell? p := fun p => by rw [← hq]; rfl
  have ef : ∀ p, wq.frozen? p = w.frozen? p := fun p => by rw [← hq]; rfl
  rw [← ec] at n0 n1 n2 q3 q4 q5
  rw [← ef] at z3 z4 z5
  have HQ := Lib.hid hq
  clear hq ec ef c0 c1 c2 c3 c4 c5 cf
  go_region_held3 (fun w' => w'.cell? ⟨nb, noff, none⟩ = some (.int .i64 a) ∧ w'.cell? ⟨nb, noff + 1, none⟩ = some (.int .i64 b) ∧ w'.cell? ⟨nb, noff + 2, none⟩ = some (.int .i64 c)) (go_keep) (fail)
  all_goals
    go_wp2_with fail
    go_end0
    rw [← HQ.out]
    obtain ⟨F1, F2, F3, F4, F5, F6⟩ := HF1.out
    first
      | exact ⟨rfl, (F1.out.drewN _).drew⟩
      | exact ⟨rfl, (F2.out.drewN _).drew⟩
      | exact ⟨rfl, (F3.out.drewN _).drew⟩
      | exact ⟨rfl, (F4.out.drewN _).drew⟩
      | exact ⟨rfl, (F5.out.drewN _).drew⟩
      | exact ⟨rfl, (F6.out.drewN _).drew⟩
end Go.Proofs.YtikehilbmldadaaGreatDoor
namespace Go.Proofs.YtikehilbmldadaaGreatDoor
open Go.RowKit
set_option linter.unusedVariables false
theorem take6_any (base rb : Nat) (o : Nat → Option Nat) (C : ConfV) (v : Value) (Z : List EntX) (y : EntX) (w : World) (h : RdAt base rb o C 6 v (Z ++ [y]) w) (hZ : Z.length ≤ 100000) (hn : y.E.gaps.length ≤ 100000) (name : ByteArray) (nb noff ncap : Nat) (a b c d : Int) (n0 : w.cell? ⟨nb, noff, none⟩ = some (.int .i64 a)) (n1 : w.cell? ⟨nb, noff + 1, none⟩ = some (.int .i64 b)) (n2 : w.cell? ⟨nb, noff + 2, none⟩ = some (.int .i64 c)) (n3 : w.cell? ⟨nb, noff + 3, none⟩ = some (.int .i64 d)) (hnb : nb < w.heap.size) (hon : o nb = none) :
    Calls Tryz.prog 114 #[.pointer (some ⟨rb, 0, none⟩), .int .i64 6, .string name, .slice (some ⟨nb, noff, none⟩) 4 ncap] w fun e w' => e = .returned (.tuple #[]) ∧ Took base rb o (takeC 6 name [a, b, c, d] C) 6 w w' := by
  obtain ⟨i0, hi0, hz0, hz1, hz2⟩ := info_parts Tryz.infoGap
  obtain ⟨g, off, cap, rfl, ⟨hc1, hc2⟩, hog, hbg, hgw, hgr, hcell⟩ := h.form
  have hrl := lt_of_get h.blk
  have hlast := h.last
  obtain ⟨hpo, hpt⟩ := hlast 1 (by decide)
  obtain ⟨pa, pc, hpv⟩ := hpo.val
  have hpv : y.g = .slice pa y.E.gaps.length pc := hpv
  have HOW : Hid (∀ W, Below w.heap.size w W → OwnAt W base 126 4 (.slice pa y.E.gaps.length pc) y.E.gaps.length (y.E.gaps.flatMap gapCells) ∧ base ≤ W.heap.size) := (show _ from fun W hW => ⟨by rw [← hpv]; exact hpo.later hW, Nat.le_trans h.top hW.size⟩)
  obtain ⟨c0, c1, c2, c3, c4, c5, cf⟩ := rd_cells h.blk
  have q2 := hcell 6 _ rfl
  rw [hpv, ← Nat.add_assoc] at q2
  have hgn : ¬ g = nb := fun e => by rw [e, hon] at hog; cases hog
  have hng : ¬ nb = g := fun e => hgn e.symm
  have hgs : ¬ g = w.heap.size := by omega
  have hgs2 : ¬ w.heap.size = g := by omega
  have hns : ¬ nb = w.heap.size := by omega
  have hns2 : ¬ w.heap.size = nb := by omega
  have HA : Hid (∀ (w1 w2 : World) (ao : Option Addr) (cp : Nat), Below w.heap.size w w1 → OwnAt w2 base 126 4 (.slice ao (y.E.gaps.length + 1) cp) (y.E.gaps.length + 1) (y.E.gaps.flatMap gapCells ++ [.int .i64 a, .int .i64 b, .int .i64 c, .int .i64 d]) → w1.grownBy w2 (Value.slice pa y.E.gaps.length pc).ownBlock → ((Value.slice ao (y.E.gaps.length + 1) cp).ownBlock = (Value.slice pa y.E.gaps.length pc).ownBlock ∨ ∀ b, (Value.slice ao (y.E.gaps.length + 1) cp).ownBlock = some b → w1.heap.size ≤ b) →
      Hid (Took base rb o (takeC 6 name [a, b, c, d] C) 6 w (w2.setCell ⟨g, off + Z.length * 10 + 6, none⟩ (.slice ao (y.E.gaps.length + 1) cp))) ∧ w2.cell? ⟨g, off + Z.length * 10 + 6, none⟩ = some (.slice pa y.E.gaps.length pc) ∧ w2.frozen? ⟨g, off + Z.length * 10 + 6, none⟩ = false ∧ ∀ k, w2.cell? ⟨nb, k, none⟩ = w.cell? ⟨nb, k, none⟩) := (show _ from by
    intro w1 w2 ao cp b1 ho hg hnn
    have hfar := fun k => (h.far b1 (T := 1 + 5 * Z.length + 1) (fun b hb => hpt b (by rw [← hb, ← hpv]; rfl)) hg nb k hnb hon).1
    rw [← hpv] at hg hnn ⊢
    have hE := ents_next (y' := ⟨takeE 6 name [a, b, c, d] y.E, y.p, .slice ao (y.E.gaps.length + 1) cp, y.e, y.f, y.l⟩) h.eq 6 (by decide) name [a, b, c, d] rfl
    obtain ⟨⟨o', hA⟩, hK, hc, hf⟩ := h.appF (y' := ⟨takeE 6 name [a, b, c, d] y.E, y.p, .slice ao (y.E.gaps.length + 1) cp, y.e, y.f, y.l⟩) (C' := takeC 6 name [a, b, c, d] C) 1 (by decide) b1 ho hg hnn rfl rfl
      (fun i hi hne => by
        match i, hi with
        | 0, _ => exact ⟨rfl, rfl, rfl⟩
        | 1, _ => exact absurd rfl hne
        | 2, _ => exact ⟨rfl, rfl, rfl⟩
        | 3, _ => exact ⟨rfl, rfl, rfl⟩
        | 4, _ => exact ⟨rfl, rfl, rfl⟩
        )
      ⟨rfl, by show (y.E.gaps ++ [(⟨a, b, c, d⟩ : GapV)]).length = _; simp, by show (y.E.gaps ++ [(⟨a, b, c, d⟩ : GapV)]).flatMap gapCells = _; simp [gapCells]⟩ (cs_next C 6 (by decide) name _ _ 6) hE
    rw [show fO 1 = 6 from rfl, ← Nat.add_assoc] at hA hK hc hf
    exact ⟨⟨⟨o', _, _, hA⟩, hK.mono (fun b _ hb => .inr hb)⟩, hc, hf, hfar⟩)
  obtain ⟨m, hm⟩ : ∃ m, m = Z.length := ⟨_, rfl⟩
  obtain ⟨np, hnp⟩ : ∃ np, np = y.E.gaps.length := ⟨_, rfl⟩
  rw [← hm] at hc1 HA q2 c4 hZ
  rw [← hnp] at hn HOW HA q2
  clear h hlast hpo hpt hpv hcell hm hnp hog
  go_enter Tryz.func114, Tryz.ntmps114
  go_upto_region 2 with fail
  go_quiet (fail)
  generalize hq : World.drewN w _ = wq
  have bq : Below w.heap.size w wq := by rw [← hq]; exact below_drewN' _ (Below.refl _ _)
  have hle := bq.size
  have ec : ∀ p, wq.cell? p = w.cell? p := fun p => by rw [← hq]; rfl
  have hqs : wq.heap.size = w.heap.size := by rw [← hq]; rfl
  have ec2 := Lib.hid ec
  rw [← ec] at n0 n1 n2 n3 q2
  rw [← hqs] at hgs hgs2 hns hns2 hgw hnb
  clear hq ec hqs c0 c1 c2 c3 c4 c5 cf
  go_upto_region 9 with fail
  have HSb : Hid (∀ W, Below wq.heap.size wq W → (fun w' => w'.cell? ⟨nb, noff, none⟩ = some (.int .i64 a) ∧ w'.cell? ⟨nb, noff + 1, none⟩ = some (.int .i64 b) ∧ w'.cell? ⟨nb, noff + 2, none⟩ = some (.int .i64 c) ∧ w'.cell? ⟨nb, noff + 3, none⟩ = some (.int .i64 d)) W) := (show _ from fun W hW => by
    refine ⟨?_, ?_, ?_, ?_⟩
    · rw [hW.cell (p := ⟨nb, noff, none⟩) hnb]; exact n0
    · rw [hW.cell (p := ⟨nb, noff + 1, none⟩) hnb]; exact n1
    · rw [hW.cell (p := ⟨nb, noff + 2, none⟩) hnb]; exact n2
    · rw [hW.cell (p := ⟨nb, noff + 3, none⟩) hnb]; exact n3)
  have HS6 : Hid (∀ W : World, (∀ k, W.cell? ⟨nb, k, none⟩ = w.cell? ⟨nb, k, none⟩) → (fun w' => w'.cell? ⟨nb, noff, none⟩ = some (.int .i64 a) ∧ w'.cell? ⟨nb, noff + 1, none⟩ = some (.int .i64 b) ∧ w'.cell? ⟨nb, noff + 2, none⟩ = some (.int .i64 c) ∧ w'.cell? ⟨nb, noff + 3, none⟩ = some (.int .i64 d)) W) := (show _ from fun W hW => by
    refine ⟨?_, ?_, ?_, ?_⟩
    · rw [hW, ← ec2.out]; exact n0
    · rw [hW, ← ec2.out]; exact n1
    · rw [hW, ← ec2.out]; exact n2
    · rw [hW, ← ec2.out]; exact n3)
  clear ec2 n0 n1 n2 n3
  refine wp_region_noPanic ?_
  refine wp_region_held_drew (S := (fun w' => w'.cell? ⟨nb, noff, none⟩ = some (.int .i64 a) ∧ w'.cell? ⟨nb, noff + 1, none⟩ = some (.int .i64 b) ∧ w'.cell? ⟨nb, noff + 2, none⟩ = some (.int .i64 c) ∧ w'.cell? ⟨nb, noff + 3, none⟩ = some (.int .i64 d))) (by kernel_rfl) (HSb.out _ ((Below.refl _ _).drew)) (fun hS => ?_)
  refine take_lit (i := 0) (v := .pointer (some ⟨g, off + m * 10, none⟩)) rfl (by kernel_rfl) (by kernel_rfl) (by kernel_rfl) (fun _ _ _ h => h) (Or.inl ⟨by rfl, fun w hw => by (obtain ⟨e0, e1, e2, e3⟩ := hw; go_simp)⟩) hS ?_
  ((try simp only [Act.put]); (try simp only [List.setIfInBounds_toArray]); (try simp only [List.set_cons_succ]); (try simp only [List.set_cons_zero]))
  refine take_lit (i := 1) (v := .pointer (some ⟨g, off + m * 10, none⟩)) rfl (by kernel_rfl) (by kernel_rfl) (by kernel_rfl) (fun _ _ _ h => h) (Or.inl ⟨by rfl, fun w hw => by (obtain ⟨e0, e1, e2, e3⟩ := hw; go_simp)⟩) hS ?_
  ((try simp only [Act.put]); (try simp only [List.setIfInBounds_toArray]); (try simp only [List.set_cons_succ]); (try simp only [List.set_cons_zero]))
  refine take_lit (i := 2) (v := .pointer (some ⟨g, off + m * 10, none⟩)) rfl (by kernel_rfl) (by kernel_rfl) (by kernel_rfl) (fun _ _ _ h => h) (Or.inl ⟨by rfl, fun w hw => by (obtain ⟨e0, e1, e2, e3⟩ := hw; go_simp)⟩) hS ?_
  ((try simp only [Act.put]); (try simp only [List.setIfInBounds_toArray]); (try simp only [List.set_cons_succ]); (try simp only [List.set_cons_zero]))
  refine take_lit (i := 3) (v := .pointer (some ⟨g, off + m * 10 + 6, none⟩)) rfl (by kernel_rfl) (by kernel_rfl) (by kernel_rfl) (fun _ _ _ h => h) (Or.inl ⟨by rfl, fun w hw => by (obtain ⟨e0, e1, e2, e3⟩ := hw; go_simp)⟩) hS ?_
  ((try simp only [Act.put]); (try simp only [List.setIfInBounds_toArray]); (try simp only [List.set_cons_succ]); (try simp only [List.set_cons_zero]))
  refine take_lit (i := 5) (v := .slice (some ⟨nb, noff, none⟩) 4 ncap) rfl (by kernel_rfl) (by kernel_rfl) (by kernel_rfl) (fun _ _ _ h => h) (Or.inl ⟨by rfl, fun w hw => by (obtain ⟨e0, e1, e2, e3⟩ := hw; go_simp)⟩) hS ?_
  ((try simp only [Act.put]); (try simp only [List.setIfInBounds_toArray]); (try simp only [List.set_cons_succ]); (try simp only [List.set_cons_zero]))
  refine take_lit (i := 6) (v := .pointer (some ⟨nb, noff, none⟩)) rfl (by kernel_rfl) (by kernel_rfl) (by kernel_rfl) (fun _ _ _ h => h) (Or.inl ⟨by rfl, fun w hw => by (obtain ⟨e0, e1, e2, e3⟩ := hw; go_simp)⟩) hS ?_
  ((try simp only [Act.put]); (try simp only [List.setIfInBounds_toArray]); (try simp only [List.set_cons_succ]); (try simp only [List.set_cons_zero]))
  refine take_lit (i := 7) (v := .int .i64 a) rfl (by kernel_rfl) (by kernel_rfl) (by kernel_rfl) (fun _ _ _ h => h) (Or.inl ⟨by rfl, fun w hw => by (obtain ⟨e0, e1, e2, e3⟩ := hw; go_simp)⟩) hS ?_
  ((try simp only [Act.put]); (try simp only [List.setIfInBounds_toArray]); (try simp only [List.set_cons_succ]); (try simp only [List.set_cons_zero]))
  refine take_lit (i := 8) (v := .slice (some ⟨nb, noff, none⟩) 4 ncap) rfl (by kernel_rfl) (by kernel_rfl) (by kernel_rfl) (fun _ _ _ h => h) (Or.inl ⟨by rfl, fun w hw => by (obtain ⟨e0, e1, e2, e3⟩ := hw; go_simp)⟩) hS ?_
  ((try simp only [Act.put]); (try simp only [List.setIfInBounds_toArray]); (try simp only [List.set_cons_succ]); (try simp only [List.set_cons_zero]))
  refine take_lit (i := 9) (v := .pointer (some ⟨nb, noff + 1, none⟩)) rfl (by kernel_rfl) (by kernel_rfl) (by kernel_rfl) (fun _ _ _ h => h) (Or.inl ⟨by rfl, fun w hw => by (obtain ⟨e0, e1, e2, e3⟩ := hw; go_simp)⟩) hS ?_
  ((try simp only [Act.put]); (try simp only [List.setIfInBounds_toArray]); (try simp only [List.set_cons_succ]); (try simp only [List.set_cons_zero]))
  refine take_lit (i := 10) (v := .int .i64 b) rfl (by kernel_rfl) (by kernel_rfl) (by kernel_rfl) (fun _ _ _ h => h) (Or.inl ⟨by rfl, fun w hw => by (obtain ⟨e0, e1, e2, e3⟩ := hw; go_simp)⟩) hS ?_
  ((try simp only [Act.put]); (try simp only [List.setIfInBounds_toArray]); (try simp only [List.set_cons_succ]); (try simp only [List.set_cons_zero]))
  refine take_lit (i := 11) (v := .slice (some ⟨nb, noff, none⟩) 4 ncap) rfl (by kernel_rfl) (by kernel_rfl) (by kernel_rfl) (fun _ _ _ h => h) (Or.inl ⟨by rfl, fun w hw => by (obtain ⟨e0, e1, e2, e3⟩ := hw; go_simp)⟩) hS ?_
  ((try simp only [Act.put]); (try simp only [List.setIfInBounds_toArray]); (try simp only [List.set_cons_succ]); (try simp only [List.set_cons_zero]))
  refine take_lit (i := 12) (v := .pointer (some ⟨nb, noff + 2, none⟩)) rfl (by kernel_rfl) (by kernel_rfl) (by kernel_rfl) (fun _ _ _ h => h) (Or.inl ⟨by rfl, fun w hw => by (obtain ⟨e0, e1, e2, e3⟩ := hw; go_simp)⟩) hS ?_
  ((try simp only [Act.put]); (try simp only [List.setIfInBounds_toArray]); (try simp only [List.set_cons_succ]); (try simp only [List.set_cons_zero]))
  refine take_lit (i := 13) (v := .int .i64 c) rfl (by kernel_rfl) (by kernel_rfl) (by kernel_rfl) (fun _ _ _ h => h) (Or.inl ⟨by rfl, fun w hw => by (obtain ⟨e0, e1, e2, e3⟩ := hw; go_simp)⟩) hS ?_
  ((try simp only [Act.put]); (try simp only [List.setIfInBounds_toArray]); (try simp only [List.set_cons_succ]); (try simp only [List.set_cons_zero]))
  refine take_lit (i := 14) (v := .slice (some ⟨nb, noff, none⟩) 4 ncap) rfl (by kernel_rfl) (by kernel_rfl) (by kernel_rfl) (fun _ _ _ h => h) (Or.inl ⟨by rfl, fun w hw => by (obtain ⟨e0, e1, e2, e3⟩ := hw; go_simp)⟩) hS ?_
  ((try simp only [Act.put]); (try simp only [List.setIfInBounds_toArray]); (try simp only [List.set_cons_succ]); (try simp only [List.set_cons_zero]))
  refine take_lit (i := 15) (v := .pointer (some ⟨nb, noff + 3, none⟩)) rfl (by kernel_rfl) (by kernel_rfl) (by kernel_rfl) (fun _ _ _ h => h) (Or.inl ⟨by rfl, fun w hw => by (obtain ⟨e0, e1, e2, e3⟩ := hw; go_simp)⟩) hS ?_
  ((try simp only [Act.put]); (try simp only [List.setIfInBounds_toArray]); (try simp only [List.set_cons_succ]); (try simp only [List.set_cons_zero]))
  refine take_lit (i := 16) (v := .int .i64 d) rfl (by kernel_rfl) (by kernel_rfl) (by kernel_rfl) (fun _ _ _ h => h) (Or.inl ⟨by rfl, fun w hw => by (obtain ⟨e0, e1, e2, e3⟩ := hw; go_simp)⟩) hS ?_
  ((try simp only [Act.put]); (try simp only [List.setIfInBounds_toArray]); (try simp only [List.set_cons_succ]); (try simp only [List.set_cons_zero]))
  refine take_lit (i := 17) (v := .agg #[.int .i64 a, .int .i64 b, .int .i64 c, .int .i64 d]) rfl (by kernel_rfl) (by kernel_rfl) (by kernel_rfl) (fun _ _ _ h => h) (Or.inl ⟨by rfl, fun w hw => by (obtain ⟨e0, e1, e2, e3⟩ := hw; go_simp)⟩) hS ?_
  ((try simp only [Act.put]); (try simp only [List.setIfInBounds_toArray]); (try simp only [List.set_cons_succ]); (try simp only [List.set_cons_zero]))
  refine wpAnyH_ready (rs := [4, 18]) (by kernel_rfl) (by simp) ?_
  refine AllReadyH.cons rfl (fun K hK => ?_) (AllReadyH.cons rfl (fun K hK => ?_) AllReadyH.nil)
  · go_simp
    refine hK.out _ _ (HSb.out _ (by repeat (first | exact Below.refl _ _ | refine Below.drew ?_ | refine below_alloc1 ?_ _))) (fun hS => ?_)
    clear hK K
    ((try simp only [Act.put]); (try simp only [List.setIfInBounds_toArray]); (try simp only [List.set_cons_succ]); (try simp only [List.set_cons_zero]))
    refine wpAnyH_ready (rs := [18]) (by kernel_rfl) (by simp) ?_
    refine AllReadyH.cons rfl (fun K hK => ?_) AllReadyH.nil
    go_simp
    refine hK.out _ _ (HSb.out _ (by repeat (first | exact Below.refl _ _ | refine Below.drew ?_ | refine below_alloc1 ?_ _))) (fun hS => ?_)
    clear hK K
    ((try simp only [Act.put]); (try simp only [List.setIfInBounds_toArray]); (try simp only [List.set_cons_succ]); (try simp only [List.set_cons_zero]))
    refine wpAnyH_ready (rs := [19]) (by kernel_rfl) (by simp) ?_
    refine AllReadyH.cons rfl (fun K hK => ?_) AllReadyH.nil
    refine step_append_off rfl (.tmp 64) (.tmp 78) 46 rfl base 126 i0 _ 4 32 Tryz.underlying46 hi0 hz0 hz1 hz2 rfl (by decide) (.slice pa np pc) np (y.E.gaps.flatMap gapCells) rfl ?_ ⟨wq.heap.size, 0, none⟩ 1 1 [.int .i64 a, .int .i64 b, .int .i64 c, .int .i64 d] rfl rfl ?_ (by intro u hu; simp at hu; rcases hu with rfl | rfl | rfl | rfl <;> rfl) (by unfold maxLen; omega) (by omega) ?_ ?_
    · exact (HOW.out _ (by repeat (first | exact bq | refine Below.drew ?_ | refine Below.alloc ?_ hle _))).1
    · exact new_cells _ [.int .i64 a, .int .i64 b, .int .i64 c, .int .i64 d] _
    · exact (HOW.out _ (by repeat (first | exact bq | refine Below.drew ?_ | refine Below.alloc ?_ hle _))).2
    intro a1 k1 w6 ho6 hg6 hn6
    obtain ⟨F1, d4, df, dn⟩ := HA.out _ w6 _ _ (by repeat (first | exact bq | refine Below.drew ?_ | refine Below.alloc ?_ hle _)) ho6 hg6 hn6
    have hS6 := HS6.out w6 dn
    refine hK.out _ _ hS6 (fun hS => ?_)
    clear hK K ho6 hg6 hn6
    ((try simp only [Act.put]); (try simp only [List.setIfInBounds_toArray]); (try simp only [List.set_cons_succ]); (try simp only [List.set_cons_zero]))
    refine take_lit (i := 20) (v := .pointer (some ⟨g, off + m * 10, none⟩)) rfl (by kernel_rfl) (by kernel_rfl) (by kernel_rfl) (fun _ _ _ h => h) (Or.inl ⟨by rfl, fun w hw => by (obtain ⟨e0, e1, e2, e3⟩ := hw; go_simp)⟩) hS ?_
    ((try simp only [Act.put]); (try simp only [List.setIfInBounds_toArray]); (try simp only [List.set_cons_succ]); (try simp only [List.set_cons_zero]))
    refine take_lit (i := 21) (v := .pointer (some ⟨g, off + m * 10 + 6, none⟩)) rfl (by kernel_rfl) (by kernel_rfl) (by kernel_rfl) (fun _ _ _ h => h) (Or.inl ⟨by rfl, fun w hw => by (obtain ⟨e0, e1, e2, e3⟩ := hw; go_simp)⟩) hS ?_
    ((try simp only [Act.put]); (try simp only [List.setIfInBounds_toArray]); (try simp only [List.set_cons_succ]); (try simp only [List.set_cons_zero]))
    refine wpAnyH_ready (rs := [22]) (by kernel_rfl) (by simp) ?_
    refine AllReadyH.cons rfl (fun K hK => ?_) AllReadyH.nil
    go_simp
    refine hK.out _ _ ?_ (fun hS => ?_)
    · exact HS6.out _ (fun k => by rw [World.cell?_setCell_far _ _ _ _ hgn]; exact dn k)
    clear hK K
    ((try simp only [Act.put]); (try simp only [List.setIfInBounds_toArray]); (try simp only [List.set_cons_succ]); (try simp only [List.set_cons_zero]))
    refine wpAnyH_done (by kernel_rfl) ?_ _
    refine NoPanic.normal ?_
    go_wp2_with fail
    go_end0
    first
      | exact ⟨rfl, F1.out⟩
      | exact ⟨rfl, F1.out.drew⟩
  · go_simp
    refine hK.out _ _ (HSb.out _ (by repeat (first | exact Below.refl _ _ | refine Below.drew ?_ | refine below_alloc1 ?_ _))) (fun hS => ?_)
    clear hK K
    ((try simp only [Act.put]); (try simp only [List.setIfInBounds_toArray]); (try simp only [List.set_cons_succ]); (try simp only [List.set_cons_zero]))
    refine wpAnyH_ready (rs := [4]) (by kernel_rfl) (by simp) ?_
    refine AllReadyH.cons rfl (fun K hK => ?_) AllReadyH.nil
    go_simp
    refine hK.out _ _ (HSb.out _ (by repeat (first | exact Below.refl _ _ | refine Below.drew ?_ | refine below_alloc1 ?_ _))) (fun hS => ?_)
    clear hK K
    ((try simp only [Act.put]); (try simp only [List.setIfInBounds_toArray]); (try simp only [List.set_cons_succ]); (try simp only [List.set_cons_zero]))
    refine wpAnyH_ready (rs := [19]) (by kernel_rfl) (by simp) ?_
    refine AllReadyH.cons rfl (fun K hK => ?_) AllReadyH.nil
    refine step_append_off rfl (.tmp 64) (.tmp 78) 46 rfl base 126 i0 _ 4 32 Tryz.underlying46 hi0 hz0 hz1 hz2 rfl (by decide) (.slice pa np pc) np (y.E.gaps.flatMap gapCells) rfl ?_ ⟨wq.heap.size, 0, none⟩ 1 1 [.int .i64 a, .int .i64 b, .int .i64 c, .int .i64 d] rfl rfl ?_ (by intro u hu; simp at hu; rcases hu with rfl | rfl | rfl | rfl <;> rfl) (by unfold maxLen; omega) (by omega) ?_ ?_
    · exact (HOW.out _ (by repeat (first | exact bq | refine Below.drew ?_ | refine Below.alloc ?_ hle _))).1
    · exact new_cells _ [.int .i64 a, .int .i64 b, .int .i64 c, .int .i64 d] _
    · exact (HOW.out _ (by repeat (first | exact bq | refine Below.drew ?_ | refine Below.alloc ?_ hle _))).2
    intro a1 k1 w6 ho6 hg6 hn6
    obtain ⟨F1, d4, df, dn⟩ := HA.out _ w6 _ _ (by repeat (first | exact bq | refine Below.drew ?_ | refine Below.alloc ?_ hle _)) ho6 hg6 hn6
    have hS6 := HS6.out w6 dn
    refine hK.out _ _ hS6 (fun hS => ?_)
    clear hK K ho6 hg6 hn6
    ((try simp only [Act.put]); (try simp only [List.setIfInBounds_toArray]); (try simp only [List.set_cons_succ]); (try simp only [List.set_cons_zero]))
    refine take_lit (i := 20) (v := .pointer (some ⟨g, off + m * 10, none⟩)) rfl (by kernel_rfl) (by kernel_rfl) (by kernel_rfl) (fun _ _ _ h => h) (Or.inl ⟨by rfl, fun w hw => by (obtain ⟨e0, e1, e2, e3⟩ := hw; go_simp)⟩) hS ?_
    ((try simp only [Act.put]); (try simp only [List.setIfInBounds_toArray]); (try simp only [List.set_cons_succ]); (try simp only [List.set_cons_zero]))
    refine take_lit (i := 21) (v := .pointer (some ⟨g, off + m * 10 + 6, none⟩)) rfl (by kernel_rfl) (by kernel_rfl) (by kernel_rfl) (fun _ _ _ h => h) (Or.inl ⟨by rfl, fun w hw => by (obtain ⟨e0, e1, e2, e3⟩ := hw; go_simp)⟩) hS ?_
    ((try simp only [Act.put]); (try simp only [List.setIfInBounds_toArray]); (try simp only [List.set_cons_succ]); (try simp only [List.set_cons_zero]))
    refine wpAnyH_ready (rs := [22]) (by kernel_rfl) (by simp) ?_
    refine AllReadyH.cons rfl (fun K hK => ?_) AllReadyH.nil
    go_simp
    refine hK.out _ _ ?_ (fun hS => ?_)
    · exact HS6.out _ (fun k => by rw [World.cell?_setCell_far _ _ _ _ hgn]; exact dn k)
    clear hK K
    ((try simp only [Act.put]); (try simp only [List.setIfInBounds_toArray]); (try simp only [List.set_cons_succ]); (try simp only [List.set_cons_zero]))
    refine wpAnyH_done (by kernel_rfl) ?_ _
    refine NoPanic.normal ?_
    go_wp2_with fail
    go_end0
    first
      | exact ⟨rfl, F1.out⟩
      | exact ⟨rfl, F1.out.drew⟩
end Go.Proofs.YtikehilbmldadaaGreatDoor
namespace Go.Proofs.YtikehilbmldadaaGreatDoor
open Go.RowKit
set_option linter.unusedVariables false
def NumsAt (rb : Nat) (o : Nat → Option Nat) (w : World) (nv : Value) (n : List Int) : Prop :=
  n = [] ∨ ∃ nb noff ncap, nv = .slice (some ⟨nb, noff, none⟩) n.length ncap ∧ nb < w.heap.size ∧ (o nb = none ∧ nb ≠ rb) ∧ ∀ (i : Nat) x, n[i]? = some x → w.cell? ⟨nb, noff + i, none⟩ = some (.int .i64 x)
def nLen (k : Nat) : Nat := [2, 1, 1, 1, 0, 3, 4, 2, 1, 1].getD k 0
structure Few (Y : List EntX) : Prop where
  n : Y.length ≤ 100000
  each : ∀ y ∈ Y, y.E.points.length ≤ 100000 ∧ y.E.gaps.length ≤ 100000 ∧ y.E.edges.length ≤ 100000 ∧ y.E.first.length ≤ 100000 ∧ y.E.last.length ≤ 100000
theorem split_last {Y : List EntX} (h : Y ≠ []) : ∃ Z y, Y = Z ++ [y] := ⟨Y.dropLast, Y.getLast h, (List.dropLast_concat_getLast h).symm⟩
theorem nums1 {n : List Int} (h : n.length = 1) : ∃ a, n = [a] := by
  match n, h with
  | [a], _ => exact ⟨a, rfl⟩
theorem nums2 {n : List Int} (h : n.length = 2) : ∃ a b, n = [a, b] := by
  match n, h with
  | [a, b], _ => exact ⟨a, b, rfl⟩
theorem nums3 {n : List Int} (h : n.length = 3) : ∃ a b c, n = [a, b, c] := by
  match n, h with
  | [a, b, c], _ => exact ⟨a, b, c, rfl⟩
theorem nums4 {n : List Int} (h : n.length = 4) : ∃ a b c d, n = [a, b, c, d] := by
  match n, h with
  | [a, b, c, d], _ => exact ⟨a, b, c, d, rfl⟩
theorem take_any (base rb : Nat) (o : Nat → Option Nat) (C : ConfV) (k : Nat) (hk : k ≤ 9) (v : Value) (Y : List EntX) (w : World) (h : RdAt base rb o C (k : Int) v Y w) (hF : Few Y) (hne : 4 ≤ k → Y ≠ []) (name : ByteArray) (nv : Value) (n : List Int) (hl : n.length = nLen k) (hn : NumsAt rb o w nv n) :
    Calls Tryz.prog 114 #[.pointer (some ⟨rb, 0, none⟩), .int .i64 k, .string name, nv] w fun e w' => e = .returned (.tuple #[]) ∧ Took base rb o (takeC k name n C) (k : Int) w w' := by
  match k, hk with
  | 0, _ =>
    obtain ⟨a, b, rfl⟩ := nums2 hl
    rcases hn with h0 | ⟨nb, noff, ncap, rfl, h1, ⟨h2, hb⟩, h3⟩
    · cases h0
    · exact take0_any base rb o C v Y w h name nb noff ncap a b (h3 0 _ rfl) (h3 1 _ rfl) hb
  | 1, _ =>
    obtain ⟨a, rfl⟩ := nums1 hl
    rcases hn with h0 | ⟨nb, noff, ncap, rfl, h1, ⟨h2, hb⟩, h3⟩
    · cases h0
    · exact take1_any base rb o C v Y w h name nb noff ncap a (h3 0 _ rfl)
  | 2, _ =>
    obtain ⟨a, rfl⟩ := nums1 hl
    rcases hn with h0 | ⟨nb, noff, ncap, rfl, h1, ⟨h2, hb⟩, h3⟩
    · cases h0
    · exact take2_any base rb o C v Y w h name nb noff ncap a (h3 0 _ rfl)
  | 3, _ =>
    obtain ⟨a, rfl⟩ := nums1 hl
    rcases hn with h0 | ⟨nb, noff, ncap, rfl, h1, ⟨h2, hb⟩, h3⟩
    · cases h0
    · exact take3_any base rb o C v Y w h hF.n name nb noff ncap a (h3 0 _ rfl) h1 h2
  | 4, _ =>
    obtain ⟨Z, y, rfl⟩ := split_last (hne (by decide))
    obtain rfl := List.eq_nil_of_length_eq_zero hl
    have hZ := hF.n
    rw [List.length_append, List.length_singleton] at hZ
    exact take4_any base rb o C v Z y w h (by omega) (hF.each y (by simp)).1 name nv
  | 5, _ =>
    obtain ⟨Z, y, rfl⟩ := split_last (hne (by decide))
    obtain ⟨a, b, c, rfl⟩ := nums3 hl
    have hZ := hF.n
    rw [List.length_append, List.length_singleton] at hZ
    rcases hn with h0 | ⟨nb, noff, ncap, rfl, h1, ⟨h2, hb⟩, h3⟩
    · cases h0
    · exact take5_any base rb o C v Z y w h (by omega) name nb noff ncap a b c (h3 0 _ rfl) (h3 1 _ rfl) (h3 2 _ rfl) h1 h2
  | 6, _ =>
    obtain ⟨Z, y, rfl⟩ := split_last (hne (by decide))
    obtain ⟨a, b, c, d, rfl⟩ := nums4 hl
    have hZ := hF.n
    rw [List.length_append, List.length_singleton] at hZ
    rcases hn with h0 | ⟨nb, noff, ncap, rfl, h1, ⟨h2, hb⟩, h3⟩
    · cases h0
    · exact take6_any base rb o C v Z y w h (by omega) (hF.each y (by simp)).2.1 name nb noff ncap a b c d (h3 0 _ rfl) (h3 1 _ rfl) (h3 2 _ rfl) (h3 3 _ rfl) h1 h2
  | 7, _ =>
    obtain ⟨Z, y, rfl⟩ := split_last (hne (by decide))
    obtain ⟨a, b, rfl⟩ := nums2 hl
    have hZ := hF.n
    rw [List.length_append, List.length_singleton] at hZ
    rcases hn with h0 | ⟨nb, noff, ncap, rfl, h1, ⟨h2, hb⟩, h3⟩
    · cases h0
    · exact take7_any base rb o C v Z y w h (by omega) (hF.each y (by simp)).2.2.1 name nb noff ncap a b (h3 0 _ rfl) (h3 1 _ rfl) h1 h2
  | 8, _ =>
    obtain ⟨Z, y, rfl⟩ := split_last (hne (by decide))
    obtain ⟨a, rfl⟩ := nums1 hl
    have hZ := hF.n
    rw [List.length_append, List.length_singleton] at hZ
    rcases hn with h0 | ⟨nb, noff, ncap, rfl, h1, ⟨h2, hb⟩, h3⟩
    · cases h0
    · exact take8_any base rb o C v Z y w h (by omega) (hF.each y (by simp)).2.2.2.1 name nb noff ncap a (h3 0 _ rfl) h1 h2
  | 9, _ =>
    obtain ⟨Z, y, rfl⟩ := split_last (hne (by decide))
    obtain ⟨a, rfl⟩ := nums1 hl
    have hZ := hF.n
    rw [List.length_append, List.length_singleton] at hZ
    rcases hn with h0 | ⟨nb, noff, ncap, rfl, h1, ⟨h2, hb⟩, h3⟩
    · cases h0
    · exact take9_any base rb o C v Z y w h (by omega) (hF.each y (by simp)).2.2.2.2 name nb noff ncap a (h3 0 _ rfl) h1 h2
end Go.Proofs.YtikehilbmldadaaGreatDoor
