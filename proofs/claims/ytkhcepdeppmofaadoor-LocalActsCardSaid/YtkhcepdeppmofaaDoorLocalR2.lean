/- The document's Local in memory: Begin, Stop, Report, End, Status. -/
import Derived.Test.YtkhcepdeppmofaaDoorLocalR
import Derived.Deep.RegionHeld3
namespace Go.Proofs.YtkhcepdeppmofaaDoor
open Go.RowKit
set_option linter.unusedVariables false

theorem Tryd.infoMarkL : (Tryd.prog.info? 124).map (fun i => (i.zero, i.size, i.bytes)) = some (some (.agg #[.int .i64 0, .int .i64 0, .int .i64 0]), 3, 24) := by kernel_rfl
section
variable {base rl : Nat} {E : EntV} {vp vg ve vf vl : Value} {m : RLocM} {lv : Value} {w : World}
theorem rloc_set10 (h : w.heap[rl]? = some (rlocC E vp vg ve vf vl m lv)) (x : Bool) : (w.setCell ⟨rl, 10, none⟩ (.bool x)).heap[rl]? = some (rlocC E vp vg ve vf vl ⟨x, m.since, m.L, m.run, m.exp⟩ lv) := by
  unfold rlocC at h ⊢
  rw [get_setCell _ h]; rfl
theorem rloc_set11 (h : w.heap[rl]? = some (rlocC E vp vg ve vf vl m lv)) (x : Nat) : (w.setCell ⟨rl, 11, none⟩ (.int .i64 x)).heap[rl]? = some (rlocC E vp vg ve vf vl ⟨m.act, x, m.L, m.run, m.exp⟩ lv) := by
  unfold rlocC at h ⊢
  rw [get_setCell _ h]; rfl
theorem rloc_set11' (h : w.heap[rl]? = some (rlocC E vp vg ve vf vl m lv)) : (w.setCell ⟨rl, 11, none⟩ (.int .i64 ((m.since : Int) + 1))).heap[rl]? = some (rlocC E vp vg ve vf vl ⟨m.act, m.since + 1, m.L, m.run, m.exp⟩ lv) := by
  rw [show ((m.since : Int) + 1) = ((m.since + 1 : Nat) : Int) from by omega]
  exact rloc_set11 h _
theorem rloc_set12 (h : w.heap[rl]? = some (rlocC E vp vg ve vf vl m lv)) (L : List MarkV) (v : Value) : (w.setCell ⟨rl, 12, none⟩ v).heap[rl]? = some (rlocC E vp vg ve vf vl ⟨m.act, m.since, L, m.run, m.exp⟩ v) := by
  unfold rlocC at h ⊢
  rw [get_setCell _ h]; rfl
theorem rloc_set13 (h : w.heap[rl]? = some (rlocC E vp vg ve vf vl m lv)) (x : Int) : (w.setCell ⟨rl, 13, none⟩ (.int .i64 x)).heap[rl]? = some (rlocC E vp vg ve vf vl ⟨m.act, m.since, m.L, x, m.exp⟩ lv) := by
  unfold rlocC at h ⊢
  rw [get_setCell _ h]; rfl
theorem rloc_set14 (h : w.heap[rl]? = some (rlocC E vp vg ve vf vl m lv)) (x : Bool) : (w.setCell ⟨rl, 14, none⟩ (.bool x)).heap[rl]? = some (rlocC E vp vg ve vf vl ⟨m.act, m.since, m.L, m.run, x⟩ lv) := by
  unfold rlocC at h ⊢
  rw [get_setCell _ h]; rfl
theorem rloc_begin (h : w.heap[rl]? = some (rlocC E vp vg ve vf vl m lv)) : (((((w.setCell ⟨rl, 10, none⟩ (.bool true)).setCell ⟨rl, 11, none⟩ (.int .i64 0)).setCell ⟨rl, 12, none⟩ (.slice none 0 0)).setCell ⟨rl, 13, none⟩ (.int .i64 0)).setCell ⟨rl, 14, none⟩ (.bool false)).heap[rl]? = some (rlocC E vp vg ve vf vl rl0 (.slice none 0 0)) ∧
    Keep (· = rl) w (((((w.setCell ⟨rl, 10, none⟩ (.bool true)).setCell ⟨rl, 11, none⟩ (.int .i64 0)).setCell ⟨rl, 12, none⟩ (.slice none 0 0)).setCell ⟨rl, 13, none⟩ (.int .i64 0)).setCell ⟨rl, 14, none⟩ (.bool false)) :=
  ⟨rloc_set14 (rloc_set13 (rloc_set12 (rloc_set11 (rloc_set10 h true) 0) [] (.slice none 0 0)) 0) false, keep_more (keep_more (keep_more (keep_more (keep_set w rl 10 _) 11 _) 12 _) 13 _) 14 _⟩
end

set_option maxHeartbeats 1000000 in
theorem rlBegin_any (rl : Nat) (E : EntV) (vp vg ve vf vl : Value) (m : RLocM) (lv : Value) (w : World) (h : w.heap[rl]? = some (rlocC E vp vg ve vf vl m lv)) (ha : m.act = false) :
    Calls Tryd.prog 17 #[.pointer (some ⟨rl, 0, none⟩)] w fun e w' => e = .returned (.int .i64 0) ∧ w'.heap[rl]? = some (rlocC E vp vg ve vf vl rl0 (.slice none 0 0)) ∧ Keep (· = rl) w w' := by
  obtain ⟨_, c10, c11, c12, c13, c14, cf⟩ := rloc_cells h
  have HB := Lib.hid (rloc_begin h)
  rw [ha] at c10
  clear h ha
  go_enter Tryd.func17, Tryd.ntmps17
  go_wp2_with fail
  go_ret
  exact ⟨rfl, HB.out⟩
set_option maxHeartbeats 1000000 in
theorem rlBegin_held (rl : Nat) (E : EntV) (vp vg ve vf vl : Value) (m : RLocM) (lv : Value) (w : World) (h : w.heap[rl]? = some (rlocC E vp vg ve vf vl m lv)) (ha : m.act = true) :
    Calls Tryd.prog 17 #[.pointer (some ⟨rl, 0, none⟩)] w fun e w' => e = .returned (.int .i64 10) ∧ w = w' := by
  obtain ⟨_, c10, c11, c12, c13, c14, cf⟩ := rloc_cells h
  rw [ha] at c10
  clear h ha
  go_enter Tryd.func17, Tryd.ntmps17
  go_wp2_with fail
  go_ret
  exact ⟨rfl, rfl⟩
set_option maxHeartbeats 1000000 in
theorem rlStop_any (rl : Nat) (E : EntV) (vp vg ve vf vl : Value) (m : RLocM) (lv : Value) (w : World) (h : w.heap[rl]? = some (rlocC E vp vg ve vf vl m lv)) (ha : m.act = true) :
    Calls Tryd.prog 19 #[.pointer (some ⟨rl, 0, none⟩)] w fun e w' => e = .returned (.int .i64 0) ∧ w'.heap[rl]? = some (rlocC E vp vg ve vf vl ⟨false, m.since, m.L, m.run, m.exp⟩ lv) ∧ Keep (· = rl) w w' := by
  obtain ⟨_, c10, c11, c12, c13, c14, cf⟩ := rloc_cells h
  have HB := Lib.hid (And.intro (rloc_set10 h false) (keep_set w rl 10 (.bool false)))
  rw [ha] at c10
  clear h ha
  go_enter Tryd.func19, Tryd.ntmps19
  go_wp2_with fail
  go_ret
  exact ⟨rfl, HB.out⟩
set_option maxHeartbeats 1000000 in
theorem rlStop_idle (rl : Nat) (E : EntV) (vp vg ve vf vl : Value) (m : RLocM) (lv : Value) (w : World) (h : w.heap[rl]? = some (rlocC E vp vg ve vf vl m lv)) (ha : m.act = false) :
    Calls Tryd.prog 19 #[.pointer (some ⟨rl, 0, none⟩)] w fun e w' => e = .returned (.int .i64 9) ∧ w = w' := by
  obtain ⟨_, c10, c11, c12, c13, c14, cf⟩ := rloc_cells h
  rw [ha] at c10
  clear h ha
  go_enter Tryd.func19, Tryd.ntmps19
  go_wp2_with fail
  go_ret
  exact ⟨rfl, rfl⟩
set_option maxHeartbeats 1000000 in
theorem rlStatus_any (rl : Nat) (E : EntV) (vp vg ve vf vl : Value) (m : RLocM) (lv : Value) (w : World) (h : w.heap[rl]? = some (rlocC E vp vg ve vf vl m lv)) :
    Calls Tryd.prog 25 #[.pointer (some ⟨rl, 0, none⟩)] w fun e w' => e = .returned (.string (rlStatus m)) ∧ w = w' := by
  obtain ⟨_, c10, c11, c12, c13, c14, cf⟩ := rloc_cells h
  clear h
  unfold rlStatus
  cases ha : m.act
  · rw [ha] at c10
    go_enter Tryd.func25, Tryd.ntmps25
    go_wp2_with fail
    go_ret
    exact ⟨by simp, rfl⟩
  · rw [ha] at c10
    cases hx : m.exp
    · rw [hx] at c14
      by_cases hr : 0 < m.run
      · go_enter Tryd.func25, Tryd.ntmps25
        go_wp2_with fail
        go_ret
        exact ⟨by simp, rfl⟩
      · go_enter Tryd.func25, Tryd.ntmps25
        go_wp2_with fail
        go_ret
        exact ⟨by simp, rfl⟩
    · rw [hx] at c14
      go_enter Tryd.func25, Tryd.ntmps25
      go_wp2_with fail
      go_ret
      exact ⟨by simp, rfl⟩
set_option maxHeartbeats 1000000 in
theorem rlReport_idle (rl : Nat) (E : EntV) (vp vg ve vf vl : Value) (m : RLocM) (lv : Value) (p t : Int) (w : World) (h : w.heap[rl]? = some (rlocC E vp vg ve vf vl m lv)) (ha : m.act = false) :
    Calls Tryd.prog 23 #[.pointer (some ⟨rl, 0, none⟩), .int .i64 p, .int .i64 t] w fun e w' => e = .returned (.int .i64 9) ∧ w = w' := by
  obtain ⟨_, c10, c11, c12, c13, c14, cf⟩ := rloc_cells h
  rw [ha] at c10
  clear h ha
  go_enter Tryd.func23, Tryd.ntmps23
  go_wp2_with fail
  go_ret
  exact ⟨rfl, rfl⟩
set_option maxHeartbeats 1000000 in
theorem rlReport_out (rl : Nat) (E : EntV) (pa : Option Addr) (pc : Nat) (vg ve vf vl : Value) (m : RLocM) (lv : Value) (p t : Int) (w : World) (h : w.heap[rl]? = some (rlocC E (.slice pa E.points.length pc) vg ve vf vl m lv)) (ha : m.act = true) (hp : p < 0 ∨ (E.points.length : Int) ≤ p) :
    Calls Tryd.prog 23 #[.pointer (some ⟨rl, 0, none⟩), .int .i64 p, .int .i64 t] w fun e w' => e = .returned (.int .i64 5) ∧ w = w' := by
  obtain ⟨⟨_, _, c2, _⟩, c10, c11, c12, c13, c14, cf⟩ := rloc_cells h
  rw [ha] at c10
  clear h ha
  by_cases h0 : p < 0
  · clear hp
    go_enter Tryd.func23, Tryd.ntmps23
    go_wp2_with fail
    go_ret
    exact ⟨rfl, rfl⟩
  · have hp' : (E.points.length : Int) ≤ p := by omega
    clear hp
    go_enter Tryd.func23, Tryd.ntmps23
    go_wp2_with fail
    go_ret
    exact ⟨rfl, rfl⟩

/-- Behind the append of Report. -/
theorem rl_note {base rl : Nat} {E : EntV} {vp vg ve vf vl : Value} {m : RLocM} {lv : Value} {w W w1 : World} {p t : Int} {ao : Option Addr} {cap : Nat} (h : RLocAt base rl E vp vg ve vf vl m lv w) (ha : m.act = true) (k : Keep (fun _ => False) w W) (g : W.grownBy w1 lv.ownBlock)
    (hown : w1.ownsRow base 124 3 (.slice ao (m.L.length + 1) cap) (m.L.length + 1) (m.L.flatMap markCells ++ markCells ⟨p, t, m.since⟩)) :
    RLocAt base rl E vp vg ve vf vl (rlNote m p t) (.slice ao (m.L.length + 1) cap) (w1.setCell ⟨rl, 12, none⟩ (.slice ao (m.L.length + 1) cap)) ∧ Keep (fun b => b = rl ∨ lv.ownBlock = some b) w (w1.setCell ⟨rl, 12, none⟩ (.slice ao (m.L.length + 1) cap)) := by
  have kg := Keep.of_grown g
  have hl := h.lo
  have hob := fun b hb => ((h.own ha).lt b hb).1
  have k1 : Keep (fun b => lv.ownBlock = some b) w w1 := Keep.step (S := fun b => lv.ownBlock = some b) (k.mono (fun _ _ h => h.elim)) kg (fun b hb _ => hb.symm)
  have hbx := k1.get h.box (fun e => by have := hob _ e; omega)
  have k2 := keep_set w1 rl 12 (.slice ao (m.L.length + 1) cap)
  refine ⟨⟨rloc_set12 hbx _ _, fun _ => ?_, ⟨_, _, _, rfl⟩, hl, fun _ => ?_⟩, ?_⟩
  · have e : (m.L ++ [(⟨p, t, m.since⟩ : MarkV)]).length = m.L.length + 1 := by simp
    show World.ownsRow _ _ _ _ _ (m.L ++ [(⟨p, t, m.since⟩ : MarkV)]).length ((m.L ++ [(⟨p, t, m.since⟩ : MarkV)]).flatMap markCells)
    rw [e, List.flatMap_append]
    have : ([(⟨p, t, m.since⟩ : MarkV)]).flatMap markCells = markCells ⟨p, t, m.since⟩ := by simp
    rw [this]
    exact ownsRow_keep' hown k2 (fun b hb _ e => by omega)
  · have := h.top ha
    have := k1.size
    have := k2.size
    omega
  · exact (k1.mono (fun b _ hb => .inr hb)).step k2 (fun b hb _ => .inl hb)
set_option maxRecDepth 100000 in
set_option maxHeartbeats 2000000 in
theorem rlReport_in (base rl : Nat) (E : EntV) (pa : Option Addr) (pc : Nat) (vg ve vf vl : Value) (m : RLocM) (lv : Value) (p t : Int) (w : World) (h : RLocAt base rl E (.slice pa E.points.length pc) vg ve vf vl m lv w) (ha : m.act = true) (hp : 0 ≤ p) (hp1 : p < E.points.length) (hl : m.L.length ≤ 1000) :
    Calls Tryd.prog 23 #[.pointer (some ⟨rl, 0, none⟩), .int .i64 p, .int .i64 t] w fun e w' => e = .returned (.int .i64 0) ∧ ∃ lv', RLocAt base rl E (.slice pa E.points.length pc) vg ve vf vl (rlNote m p t) lv' w' ∧ Keep (fun b => b = rl ∨ lv.ownBlock = some b) w w' := by
  obtain ⟨⟨_, _, c2, _⟩, c10, c11, c12, c13, c14, cf⟩ := rloc_cells h.box
  obtain ⟨i0, hi0, hz0, hz1, hz2⟩ := info_parts Tryd.infoMarkL
  rw [ha] at c10
  have H := Lib.hid h
  have HO := Lib.hid (h.own ha)
  have HAc := Lib.hid ha
  have hrl := lt_of_get h.box
  have hlo := h.lo
  have htop := h.top ha
  obtain ⟨lao, ln, lcap, rfl⟩ := h.val
  have hne : ¬ rl = w.heap.size := by omega
  have hne2 : ¬ w.heap.size = rl := by omega
  clear h ha c13 c14
  go_enter Tryd.func23, Tryd.ntmps23
  go_upto_region 5 with fail
  go_region_law (refine step_append_own rfl (.tmp 28) (.tmp 36) 37 rfl base 124 i0 _ 3 24 Tryd.underlying37 hi0 hz0 hz1 hz2 rfl (by decide) _ m.L.length _ rfl (HO.out.alloc _) ⟨w.heap.size, 0, none⟩ 1 1 (markCells ⟨p, t, m.since⟩) rfl rfl (by exact new_cells _ (markCells ⟨p, t, m.since⟩) _) (mark_one _) (by unfold maxLen; omega) (by omega) (by simp; omega) ?_; intro a1 k1 w1 ho1 hgr1)
  all_goals
    have nx := rl_note (p := p) (t := t) H.out HAc.out (((Keep.refl (fun _ => False) w).alloc _).drew) hgr1 ho1
    have e1 := (Keep.of_grown hgr1).get (get_alloc_old (.cells (markCells ⟨p, t, m.since⟩).toArray 124) H.out.box) (fun e => by have := (HO.out.lt _ e.symm).1; omega)
    obtain ⟨_, d10, d11, d12, d13, d14, df⟩ := rloc_cells e1
    have NX := Lib.hid nx
    clear nx ho1 hgr1 e1 c2 c10 c11 c12 cf
    go_wp2_with fail
    go_ret
    exact ⟨rfl, _, NX.out⟩

set_option maxHeartbeats 1000000 in
theorem rlEnd_idle (rl : Nat) (E : EntV) (vp vg ve vf vl : Value) (m : RLocM) (lv : Value) (w : World) (h : w.heap[rl]? = some (rlocC E vp vg ve vf vl m lv)) (ha : m.act = false) :
    Calls Tryd.prog 21 #[.pointer (some ⟨rl, 0, none⟩)] w fun e w' => e = .returned (.tuple #[.int .i64 0, .bool false]) ∧ w = w' := by
  obtain ⟨_, c10, c11, c12, c13, c14, cf⟩ := rloc_cells h
  rw [ha] at c10
  clear h ha
  go_enter Tryd.func21, Tryd.ntmps21
  go_wp2_with fail
  go_ret2
  exact ⟨rfl, rfl⟩
theorem rlEnd_fin {base rl : Nat} {E : EntV} {vp vg ve vf vl : Value} {m m' : RLocM} {lv : Value} {w w' : World} (h : RLocAt base rl E vp vg ve vf vl m lv w) (b : w'.heap[rl]? = some (rlocC E vp vg ve vf vl m' lv)) (k : Keep (fun b => b = rl ∨ w.heap.size ≤ b) w w') (hL : m'.L = m.L) (ha : m'.act = m.act) :
    RLocAt base rl E vp vg ve vf vl m' lv w' := by
  have hl := h.lo
  refine ⟨b, fun hx => ?_, h.val, hl, fun hx => Nat.le_trans (h.top (ha ▸ hx)) k.size⟩
  rw [hL]
  exact ownsRow_keep' (h.own (ha ▸ hx)) k (fun b hb h2 e => by omega)
set_option maxRecDepth 100000 in
set_option maxHeartbeats 4000000 in
theorem rlEnd_any (R : Nat → Prop) (base rl : Nat) (E : EntV) (vp vg ve vf vl : Value) (m : RLocM) (lv : Value) (w : World) (h : RLocAt base rl E vp vg ve vf vl m lv w) (hE : EntSl R w E vp vg ve vf vl) (hR : ∀ b, R b → b < w.heap.size) (hL : Light E) (ha : m.act = true) (hl : m.L.length ≤ 200) (hok : MarksOk m.L) (hs : m.since ≤ 100000) (hr : 0 ≤ m.run ∧ m.run ≤ 100000) :
    Calls Tryd.prog 21 #[.pointer (some ⟨rl, 0, none⟩)] w fun e w' => e = .returned (.tuple #[.int .i64 (kindF E m.L m.since), .bool (rlNow E m)]) ∧ RLocAt base rl E vp vg ve vf vl (rlEnd E m) lv w' ∧ Keep (fun b => b = rl ∨ w.heap.size ≤ b) w w' := by
  have H := Lib.hid h
  have hrl := lt_of_get h.box
  have hbx := h.box
  obtain ⟨lao, ln, lcap, rfl⟩ := h.val
  have hso := (slOf_owns (h.own ha)).here
  have HKi := Lib.hid (fun W (hB : Below w.heap.size w W) => kindOf_any (· < w.heap.size) E m.L m.since vp vg ve vf vl _ W (show EntSl (· < w.heap.size) W E vp vg ve vf vl from
      ⟨hE.p.here.below hB (fun _ h => h), hE.g.here.below hB (fun _ h => h), hE.e.here.below hB (fun _ h => h), hE.f.here.below hB (fun _ h => h), hE.l.here.below hB (fun _ h => h)⟩) (hso.below hB (fun _ h => h)) (below_lt (fun _ h => h) hB) hL hl hok)
  clear h hE hso hok hL
  obtain ⟨⟨c0, c1, c2, c3, c4, c5, c6, c7, c8, c9⟩, c10, c11, c12, c13, c14, cf⟩ := rloc_cells hbx
  rw [ha] at c10
  unfold entCs at HKi
  obtain ⟨K, hK⟩ : ∃ K, K = kindF E m.L m.since := ⟨_, rfl⟩
  rw [← hK] at HKi ⊢
  have HK := Lib.hid hK
  clear hK
  have HBX := Lib.hid hbx
  clear hbx
  go_enter Tryd.func21, Tryd.ntmps21
  go_upto_region 3 with fail
  go_cut [4] (fun s wx => s = .int .i64 K ∧ Below w.heap.size w wx)
  case first =>
   go_region_held3 (fun w' => (∀ o, w'.cell? ⟨rl, o, none⟩ = w.cell? ⟨rl, o, none⟩))
    (first | exact fun _ => rfl | exact fun o => b1.cell (p := ⟨rl, o, none⟩) hrl)
    (first | (go_at_call 62; refine (HKi.out _ ?_).mono ?_; (repeat (first | exact Below.refl _ _ | refine Below.drew ?_)); rintro e w1 ⟨rfl, d1⟩; have b1 : Below w.heap.size w w1 := (by repeat (first | exact Below.refl _ _ | exact d1 | refine Below.drew ?_ | refine Below.trans ?_ d1))))
   all_goals (go_wp2_with fail; go_meet)
   all_goals exact ⟨rfl, by repeat (first | exact Below.refl _ _ | assumption | refine Below.drew ?_)⟩
  case rest =>
  obtain ⟨rfl, hB⟩ := hcut
  have hb := below_get hB HBX.out hrl
  have HB := Lib.hid hB
  have HBX1 := Lib.hid hb
  have HE1 := Lib.hid (rloc_set11' hb)
  clear hB c0 c1 c2 c3 c4 c5 c6 c7 c8 c9 c10 c11 c12 c13 c14 cf HKi
  obtain ⟨_, c10, c11, c12, c13, c14, cf⟩ := rloc_cells hb
  have hrw := lt_of_get hb
  clear hb
  go_upto_if 31 with fail
  go_cut [] (fun wx => wx.heap[rl]? = some (rlocC E vp vg ve vf vl ⟨m.act, m.since + 1, m.L, rlRun E m, m.exp⟩ (.slice lao ln lcap)) ∧ Keep (fun b => b = rl ∨ w.heap.size ≤ b) w wx)
  case first =>
    have HK1 : Hid (∀ (v : Value), Keep (fun b => b = rl ∨ w.heap.size ≤ b) w ((wc.setCell ⟨rl, 11, none⟩ (.int .i64 ((m.since : Int) + 1))).setCell ⟨rl, 13, none⟩ v)) := fun v =>
      ((Keep.of_below HB.out).mono (fun b _ hb => .inr hb)).step (keep_more (keep_set wc rl 11 _) 13 _) (fun b hb _ => .inl hb)
    by_cases hk : K = 0
    · have hkb : (K == 0) = true := by simp [hk]
      have HR : Hid (rlRun E m = 0) := if_pos (HK.out.symm.trans hk)
      clear hk
      go_wp2_with fail
      go_meet
      rw [HR.out]
      exact ⟨rloc_set13 HE1.out 0, HK1.out _⟩
    · have hkb : (K == 0) = false := by simp [hk]
      have HR : Hid (rlRun E m = m.run + 1) := if_neg (fun e => hk (HK.out.trans e))
      clear hk
      go_wp2_with fail
      go_meet
      rw [HR.out]
      exact ⟨rloc_set13 HE1.out (m.run + 1), HK1.out _⟩
  case rest =>
  obtain ⟨hb2, k2⟩ := hcut
  have HB2 := Lib.hid hb2
  have HK2 := Lib.hid k2
  clear c10 c11 c12 c13 c14 cf k2
  obtain ⟨⟨_, c1, _⟩, c10, c11, c12, c13, c14, cf⟩ := rloc_cells hb2
  have HN : Hid (rlNow E m = (decide (E.tol < rlRun E m) && !m.exp)) := rfl
  have HE : Hid (rlEnd E m = ⟨m.act, m.since + 1, m.L, rlRun E m, m.exp || decide (E.tol < rlRun E m)⟩) := rfl
  simp only at c10 c11 c13 c14
  clear hb2 c11 c12 HE1 HBX1 HBX HB
  generalize rlRun E m = r at HN HE c13 HB2
  cases hx : m.exp
  · rw [hx] at c14
    by_cases ht : E.tol < r
    · go_wp2_with fail
      go_quiet (fail)
      go_wp2_with fail
      go_ret2
      rw [HN.out, HE.out, hx, decide_eq_true ht]
      refine ⟨rfl, rlEnd_fin H.out (rloc_set14 (get_drewN _ HB2.out) true) ?_ rfl rfl, ?_⟩ <;> exact (keep_drewN _ HK2.out).step (keep_set _ rl 14 _) (fun b hb _ => .inl hb)
    · go_wp2_with fail
      go_quiet (fail)
      go_wp2_with fail
      go_ret2
      rw [HN.out, HE.out, hx, decide_eq_false (show ¬ E.tol < r by omega)]
      rw [hx] at HB2
      exact ⟨rfl, rlEnd_fin H.out (get_drewN _ HB2.out) (keep_drewN _ HK2.out) rfl rfl, keep_drewN _ HK2.out⟩
  · rw [hx] at c14
    go_wp2_with fail
    go_quiet (fail)
    go_wp2_with fail
    go_ret2
    rw [HN.out, HE.out, hx]
    rw [hx] at HB2
    exact ⟨by simp, rlEnd_fin H.out (get_drewN _ HB2.out) (keep_drewN _ HK2.out) rfl rfl, keep_drewN _ HK2.out⟩
end Go.Proofs.YtkhcepdeppmofaaDoor
