/- The walks of package gaps. -/
import Derived.Test.YtakjbjokekbmbaaGreatDoorQ05
import Derived.Deep.RegionLaw
import Derived.Deep.DeepCutAuto
import Derived.Deep.QuietTactic
import Derived.BigQuiet
namespace Go.Proofs.YtakjbjokekbmbaaGreatDoor
open Go.RowKit
set_option linter.unusedVariables false

/-- A gap, the tick of its latest start, and was there one. -/
structure GapS where
  g : GapV
  since : Int
  rep : Bool
def gsCells (x : GapS) : List Value := gapCells x.g ++ [.int .i64 x.since, .bool x.rep]
def gs0 (g : GapV) : GapS := ⟨g, 0, false⟩
theorem Tryz.infoGs : (Tryz.prog.info? 156).map (fun i => (i.zero, i.size, i.bytes)) = some (some (.agg #[.int .i64 0, .int .i64 0, .int .i64 0, .int .i64 0, .int .i64 0, .bool false]), 6, 48) := by kernel_rfl

/-- The memory of Gaps: block g, its slice's own row. -/
def GapsAt (base : Nat) (ro : Option Nat) (w : World) (g : Nat) (L : List GapS) (bad : Bool) : Prop :=
  ∃ ao cap, w.heap[g]? = some (.cells #[.slice ao L.length cap, .bool bad] 154) ∧ w.ownsRow base 156 6 (.slice ao L.length cap) L.length (L.flatMap gsCells) ∧ g < base ∧ (Value.slice ao L.length cap).ownBlock = ro
theorem GapsAt.lt {base : Nat} {ro : Option Nat} {w : World} {g : Nat} {L : List GapS} {bad : Bool} (h : GapsAt base ro w g L bad) : g < w.heap.size ∧ g < base ∧ ∀ b, ro = some b → base ≤ b ∧ b < w.heap.size := by
  obtain ⟨ao, cap, h1, h2, h3, rfl⟩ := h
  exact ⟨lt_of_get h1, h3, fun b hb => h2.lt b hb⟩

theorem GapsAt.keep {S : Nat → Prop} {base : Nat} {ro : Option Nat} {w w' : World} {g : Nat} {L : List GapS} {bad : Bool} (h : GapsAt base ro w g L bad) (hk : Keep S w w') (hS : ∀ b, b = g ∨ ro = some b → ¬ S b) : GapsAt base ro w' g L bad := by
  obtain ⟨ao, cap, h1, h2, h3, h4⟩ := h
  exact ⟨ao, cap, hk.get h1 (hS g (.inl rfl)), ownsRow_keepO h2 hk (fun b hb => hS b (.inr (h4 ▸ hb))), h3, h4⟩

theorem gs_one (x : GapS) : ∀ u ∈ gsCells x, u.oneCell' = true := by
  intro u hu
  simp [gsCells, gapCells] at hu
  rcases hu with rfl | rfl | rfl | rfl | rfl | rfl <;> rfl

theorem gapsNew_step {w0 wc W w1 : World} {gps : List GapV} {k : Nat} {c0 : Value} {o : Option Nat} {a1 : Option Addr} {k1 : Nat} (hlt : k < gps.length) (hb : Below w0.heap.size w0 wc)
    (hh : wc.heap[w0.heap.size + 1]? = some (.cells #[c0, .bool false] 154)) (hW : Keep (fun _ => False) wc W) (hg : W.grownBy w1 o) (ho : ∀ b, o = some b → w0.heap.size + 2 ≤ b)
    (ho1 : w1.ownsRow (w0.heap.size + 2) 156 6 (.slice a1 (k + 1) k1) (k + 1) (((gps.take k).map gs0).flatMap gsCells ++ gsCells (gs0 gps[k]))) :
    Below w0.heap.size w0 (w1.setCell ⟨w0.heap.size + 1, 0, none⟩ (.slice a1 (k + 1) k1)) ∧ ∃ ro, GapsAt (w0.heap.size + 2) ro (w1.setCell ⟨w0.heap.size + 1, 0, none⟩ (.slice a1 (k + 1) k1)) (w0.heap.size + 1) ((gps.take (k + 1)).map gs0) false := by
  have kg : Keep (fun b => w0.heap.size + 2 ≤ b) wc w1 := Keep.step (S := fun b => w0.heap.size + 2 ≤ b) (hW.mono (fun _ _ h => h.elim)) (Keep.of_grown hg) (fun b hb' _ => ho b hb'.symm)
  have h1 := kg.get hh (by omega)
  have kk := keep_set w1 (w0.heap.size + 1) 0 (.slice a1 (k + 1) k1)
  refine ⟨(hb.trans (kg.below hb.size (fun b hb' => by omega))).trans (kk.below (Nat.le_trans hb.size kg.size) (fun b hb' => by omega)), _, a1, k1, ?_, ?_, by omega, rfl⟩
  · rw [get_setCell _ h1]
    have hl : ((gps.take (k + 1)).map gs0).length = k + 1 := by simp; omega
    rw [hl]
    simp
  · have hl : ((gps.take (k + 1)).map gs0).length = k + 1 := by simp; omega
    have hf : ((gps.take (k + 1)).map gs0).flatMap gsCells = ((gps.take k).map gs0).flatMap gsCells ++ gsCells (gs0 gps[k]) := by
      rw [List.take_succ_eq_append_getElem hlt, List.map_append, List.flatMap_append, List.map_cons, List.map_nil, List.flatMap_cons, List.flatMap_nil, List.append_nil]
    rw [hl, hf]
    exact ownsRow_keep' ho1 kk (fun b hb' _ => by omega)

set_option maxHeartbeats 1000000 in
theorem gapsNew_any (R : Nat → Prop) (nm vp ve vf vl : Value) (tol cnt mn mx : Int) (gps : List GapV) (ga : Option Addr) (gc : Nat) (w : World)
    (h : SlOf R w (.slice ga gps.length gc) 4 (gps.flatMap gapCells) gps.length) (hR : ∀ b, R b → b < w.heap.size) (hn : gps.length ≤ 100) :
    Calls Tryz.prog 56 #[.agg #[nm, .int .i64 tol, vp, .int .i64 cnt, .int .i64 mn, .int .i64 mx, .slice ga gps.length gc, ve, vf, vl]] w fun e w' =>
      e = .returned (.pointer (some ⟨w.heap.size + 1, 0, none⟩)) ∧ (∃ ro, GapsAt (w.heap.size + 2) ro w' (w.heap.size + 1) (gps.map gs0) false) ∧ Below w.heap.size w w' := by
  obtain ⟨i0, hi, hz0, hz1, hz2⟩ := info_parts Tryz.infoGs
  have H := Lib.hid h; clear h
  go_enter Tryz.func56, Tryz.ntmps56
  go_wp2_with fail
  go_loopw [11] (fun s wr => ∃ k : Nat, k ≤ gps.length ∧ s = .int .i64 k ∧ Below w.heap.size w wr ∧ Hid (∃ ro, GapsAt (w.heap.size + 2) ro wr (w.heap.size + 1) ((gps.take k).map gs0) false)) (fun s _ => gps.length - (intOf s).toNat)
  case atStart =>
    refine ⟨0, Nat.zero_le _, rfl, ((Below.refl _ _).alloc (Nat.le_refl _) _).alloc (by simp) _, none, none, 0, ?_, World.ownsRow_nil _ _ _ _, by omega, rfl⟩
    have := get_alloc_new (w.alloc (.cells #[nm, .int .i64 tol, vp, .int .i64 cnt, .int .i64 mn, .int .i64 mx, .slice ga gps.length gc, ve, vf, vl] 38)) (.cells #[.slice none 0 0, .bool false] 154)
    rw [World.size_alloc] at this
    exact this
  case round =>
    obtain ⟨k, hk, rfl, hb, hg⟩ := hrel
    by_cases hlt : k < gps.length
    · obtain ⟨gb, goff, rfl, hRb, _, hc⟩ := H.out.elem (f := gapCells) (fun _ => rfl) (by decide) (by omega)
      have q0 := hc k hlt 0 _ rfl
      have q1 := hc k hlt 1 _ rfl
      have q2 := hc k hlt 2 _ rfl
      have q3 := hc k hlt 3 _ rfl
      rw [← hb.cell (hR gb hRb)] at q0 q1 q2 q3
      rw [Nat.add_zero] at q0
      clear hc
      have hsz := hg.out.choose_spec.lt.1
      go_upto_region 4 with fail
      go_cut [5] (fun s wx => ∃ x, s = .pointer (some ⟨x, 0, none⟩) ∧ wr.heap.size ≤ x ∧ Hid (wx.heap[x]? = some (.cells #[.int .i64 gps[k].fr, .int .i64 gps[k].dst, .int .i64 gps[k].mn, .int .i64 gps[k].mx] 96)) ∧ Below w.heap.size w wx ∧ Hid (∃ ro, GapsAt (w.heap.size + 2) ro wx (w.heap.size + 1) ((gps.take k).map gs0) false))
      case first =>
        go_wp2_with fail
        go_meet
        exact ⟨_, rfl, Nat.le_refl _, get_alloc_new _ _, hb.alloc hb.size _, (let ⟨ro, hq⟩ := hg.out; ⟨ro, hq.keep ((Keep.refl (fun _ => False) _).alloc _) (fun _ _ h => h)⟩)⟩
      case rest =>
      obtain ⟨x, rfl, hxw, hx, hb', hg'⟩ := hcut
      clear q0 q1 q2 q3 hg hb
      obtain ⟨ro, ao, cap, hgh, hgo, _, _⟩ := hg'.out
      have hlen : ((gps.take k).map gs0).length = k := by simp; omega
      rw [hlen] at hgh hgo
      obtain ⟨g0, g1, gf⟩ := two_cells hgh
      have x0 : wc.cell? ⟨x, 0, none⟩ = some (.int .i64 gps[k].fr) := by have := hx.out; simp [World.cell?, this]
      have x1 : wc.cell? ⟨x, 1, none⟩ = some (.int .i64 gps[k].dst) := by have := hx.out; simp [World.cell?, this]
      have x2 : wc.cell? ⟨x, 2, none⟩ = some (.int .i64 gps[k].mn) := by have := hx.out; simp [World.cell?, this]
      have x3 : wc.cell? ⟨x, 3, none⟩ = some (.int .i64 gps[k].mx) := by have := hx.out; simp [World.cell?, this]
      have hxlt := lt_of_get hx.out
      have ga0 := cell_old g0
      have HO := Lib.hid hgo
      have HH := Lib.hid hgh
      clear hgo hgh
      go_upto_region 5 with fail
      go_region_law (refine step_append_own rfl (.tmp 19) (.tmp 22) 152 rfl (w.heap.size + 2) 156 i0 _ 6 48 Tryz.underlying152 hi hz0 hz1 hz2 rfl (by decide) _ k _ rfl (HO.out.alloc _) ⟨wc.heap.size, 0, none⟩ 1 1 (gsCells (gs0 gps[k])) rfl rfl (by exact new_cells _ (gsCells (gs0 gps[k])) _) (by exact gs_one _) (by unfold maxLen; omega) (by omega) (by simp; omega) ?_; intro a1 k1 w1 ho1 hgr1; have e1 := grown_two hgr1 (get_alloc_old _ HH.out) (fun e => by have := (HO.out.lt _ e).1; omega); obtain ⟨d0, d1, df⟩ := two_cells e1)
      all_goals
        have st := gapsNew_step hlt hb' HH.out ((Keep.refl (fun _ => False) wc).alloc _).drew hgr1 (fun b hb => (HO.out.lt _ hb).1) ho1
        have ST := Lib.hid st
        clear st ho1 hgr1 e1 d0 d1 df ga0 g0 g1 gf x0 x1 x2 x3 HO HH
        go_wp2_with fail
        go_roundw
        case rel => exact ⟨k + 1, by omega, by go_num, ST.out.1, ST.out.2⟩
        case measure => simp [intOf]; omega
    · go_wp2_with fail
      go_ret
      have hkk : k = gps.length := by omega
      refine ⟨rfl, ?_, hb⟩
      have := hg.out
      rw [hkk, List.take_length] at this
      exact this

def gsStep (x : GapS) (point tick : Int) : GapS := if point = x.g.fr then { x with since := tick, rep := true } else x

end Go.Proofs.YtakjbjokekbmbaaGreatDoor
