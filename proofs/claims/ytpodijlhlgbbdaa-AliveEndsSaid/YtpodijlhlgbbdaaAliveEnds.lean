/- AliveEnds: how often any point of any entity is reported, cycle by cycle. -/
import Derived.Test.YtpodijlhlgbbdaaAliveMany
import Derived.Test.YtpodijlhlgbbdaaReps
import Derived.Deep.QuietTactic
import Derived.BigQuiet
import Derived.Deep.DeepCutAuto
namespace Go.Proofs.Ytpodijlhlgbbdaa
open Go.RowKit
set_option linter.unusedVariables false

def cntB (E : EntV) : Bool := decide (0 ≤ E.count ∧ E.count < E.points.length)
theorem cntB_pos {E : EntV} (h : 0 ≤ E.count ∧ E.count < E.points.length) : cntB E = true := decide_eq_true h
theorem cntB_neg {E : EntV} (h : ¬ (0 ≤ E.count ∧ E.count < E.points.length)) : cntB E = false := decide_eq_false h
theorem cntB_true {E : EntV} (h : cntB E = true) : 0 ≤ E.count ∧ E.count < E.points.length := of_decide_eq_true h
theorem alivePt_cnt (E : EntV) : alivePt E.count E.points.length = if cntB E then E.count else -1 := by
  unfold alivePt cntB
  by_cases h : 0 ≤ E.count ∧ E.count < E.points.length
  · rw [if_neg (by omega), decide_eq_true h]; rfl
  · rw [if_pos (by omega), decide_eq_false h]; rfl

set_option maxRecDepth 100000 in
set_option maxHeartbeats 2000000 in
theorem aliveEnds_any (E : EntV) (reps : List RepV) (whole : List Bool) (vp vg ve vf vl vr vw : Value) (w : World) (h : EntSl (· < w.heap.size) w E vp vg ve vf vl)
    (hr : SlOf (· < w.heap.size) w vr 3 (reps.flatMap repCells) reps.length) (hw : SlOf (· < w.heap.size) w vw 1 (whole.flatMap boolCell) whole.length) :
    Calls Try.prog 4 #[.agg (entCs E vp vg ve vf vl), vr, vw] w fun e w' => e = .returned (.bool true) ∧ Below w.heap.size w w' := by
  obtain ⟨pa, pc, rfl⟩ := h.p.val
  obtain ⟨ga, gc, rfl⟩ := h.g.val
  obtain ⟨ea, ec, rfl⟩ := h.e.val
  obtain ⟨fa, fc, rfl⟩ := h.f.val
  obtain ⟨la, lc, rfl⟩ := h.l.val
  obtain ⟨ra, rc, rfl⟩ := hr.val
  obtain ⟨wa, wc, rfl⟩ := hw.val
  have H := Lib.hid h
  have HR := Lib.hid hr
  have HW := Lib.hid hw
  clear h hr hw
  unfold entCs
  go_enter Try.func4, Try.ntmps4
  go_wp2_with fail
  refine (counts_any _).mono ?_
  rintro e w1 ⟨rfl, b1⟩
  obtain ⟨bb1, hx1⟩ := box_below b1
  clear b1
  have HX1 := Lib.hid hx1
  obtain ⟨c0, c1, c2, c3, c4, c5, c6, c7, c8, c9, cf⟩ := ten_cells hx1
  clear hx1 cf
  go_wp2_with fail
  refine (heavyEntity_x E _ _ _ _ _ _ _ _ _ _ w w1 H.out bb1).mono ?_
  rintro e w2 ⟨rfl, b2⟩
  have bb2 := bb1.trans (b2.mono bb1.size)
  have hx2 := below_get b2 HX1.out (lt_of_get HX1.out)
  clear c0 c1 c2 c3 c4 c5 c6 c7 c8 c9 HX1 b2
  by_cases hH : Heavy E
  · rw [heavyN_pos hH]
    go_wp2_with fail
    go_ret
    exact ⟨rfl, bb2⟩
  rw [heavyN_neg hH]
  by_cases hl : (100 : Int) < (reps.length : Int)
  · go_wp2_with fail
    go_ret
    exact ⟨rfl, bb2⟩
  have HX2 := Lib.hid hx2
  obtain ⟨c0, c1, c2, c3, c4, c5, c6, c7, c8, c9, cf⟩ := ten_cells hx2
  clear hx2 cf
  go_wp2_with fail
  refine (ownEntity_x E _ _ _ _ _ _ _ _ _ _ w w2 H.out bb2 hH).mono ?_
  rintro e w3 ⟨_, _, _, _, _, _, _, _, _, _, rfl, hs3, b3⟩
  have bb3 := bb2.trans (b3.mono bb2.size)
  have hx3 := below_get b3 HX2.out (lt_of_get HX2.out)
  clear c0 c1 c2 c3 c4 c5 c6 c7 c8 c9 HX2 b3 hs3
  go_wp2_with fail
  refine (aliveNew_any _ _ _ _ _ _ _ _ _ _ _ _ _).mono ?_
  rintro e w4 ⟨b, rfl, hwb, hb4, b4⟩
  have bb4 := bb3.trans (b4.mono bb3.size)
  have hx4 := below_get b4 hx3 (lt_of_get hx3)
  have hwb' : w.heap.size < b := by have := lt_of_get hx3; omega
  clear hx3 b4 hwb
  have HB := Lib.hid hb4
  clear hb4
  have HX := Lib.hid hx4
  obtain ⟨c0, c1, c2, c3, c4, c5, c6, c7, c8, c9, cf⟩ := ten_cells hx4
  clear hx4 cf c0 c1 c6 c7 c8 c9
  go_upto_region 8 with fail
  go_cut [10] (fun s wx => ∃ c, s = .bool c ∧ cntB E = c ∧ w4 = wx)
  case first =>
    by_cases h1 : 0 ≤ E.count
    · by_cases h2 : E.count < E.points.length
      · go_wp2_with fail
        go_meet
        exact ⟨_, rfl, cntB_pos ⟨h1, h2⟩, rfl⟩
      · go_wp2_with fail
        go_meet
        exact ⟨_, rfl, cntB_neg (by omega), rfl⟩
    · go_wp2_with fail
      go_meet
      exact ⟨_, rfl, cntB_neg (by omega), rfl⟩
  case rest =>
  obtain ⟨c, rfl, hcb, rfl⟩ := hcut
  have HCB := Lib.hid hcb
  clear hcb
  clear c2 c3 c4 c5
  go_wp2_with fail
  go_loopw [9, 11, 12] (fun s9 s11 s12 wr => ∃ k n ends : Nat, k ≤ reps.length ∧ n ≤ k ∧ ends ≤ k ∧ s9 = .int .i64 n ∧ s11 = .int .i64 ends ∧ s12 = .int .i64 k ∧ Below w.heap.size w wr ∧
      Hid (wr.heap[w.heap.size]? = some (.cells (entCs E (.slice pa E.points.length pc) (.slice ga E.gaps.length gc) (.slice ea E.edges.length ec) (.slice fa E.first.length fc) (.slice la E.last.length lc)) 30)) ∧
      Hid (wr.heap[b]? = some (aliveC (alivePt E.count E.points.length) E.mn E.mx n))) (fun _ _ i _ => reps.length - (intOf i).toNat)
  case atStart => exact ⟨0, 0, 0, Nat.zero_le _, Nat.le_refl _, Nat.le_refl _, rfl, rfl, rfl, bb4, HX, HB⟩
  case round =>
    obtain ⟨k, n, ends, hk, hn, he, rfl, rfl, rfl, hbr, hxr, hbb⟩ := hrel
    clear HX HB bb4 bb3 bb2 bb1
    by_cases hlt : k < reps.length
    · obtain ⟨rb, roff, rfl, hRb, _, hc⟩ := rep_cells HR.out (by omega)
      obtain ⟨q0, q1, q2⟩ := hc k hlt
      clear hc q1
      rw [← hbr.cell (p := ⟨rb, roff + k * 3, none⟩) hRb] at q0
      rw [← hbr.cell (p := ⟨rb, roff + k * 3 + 2, none⟩) hRb] at q2
      cases hfin : reps[k].fin
      · rw [hfin] at q2
        go_wp2_with fail
        refine (aliveReport_any b _ _ _ _ _ _ hbb.out (by omega) (by omega)).mono ?_
        rintro e w5 ⟨rfl, h5, k5⟩
        have hbr5 := hbr.trans (k5.below hbr.size (by intro j hj; omega))
        have hx5 := k5.get hxr.out (by omega)
        have q0' : w5.cell? ⟨rb, roff + k * 3, none⟩ = some (.int .i64 reps[k].point) := by
          rw [k5.cell (p := ⟨rb, roff + k * 3, none⟩) (Nat.lt_of_lt_of_le hRb hbr.size) (by intro hj; simp at hj; omega)]; exact q0
        clear q0 q2 k5
        have c3 := (ten_cells hx5).2.2.2.1
        have HX5 := Lib.hid hx5
        clear hx5 hxr
        rw [alivePt_cnt, HCB.out] at h5
        cases c
        · have e5 : aliveStep (if false = true then E.count else -1) n reps[k].point = n := by simp [aliveStep]
          rw [e5] at h5
          go_wp2_with fail
          go_quiet (fail)
          replace h5 := get_drewN nq h5
          replace hbr5 := below_drewN' nq hbr5
          replace HX5 := Lib.hid (get_drewN nq HX5.out)
          generalize w5.drewN nq = w6 at h5 hbr5 HX5 ⊢
          have HB5 := Lib.hid h5
          clear h5 c3 q0' hbb e5
          go_wp2_with fail
          refine (aliveCount_any b _ _ _ _ _ HB5.out).mono ?_
          rintro e w' ⟨rfl, rfl⟩
          go_wp2_with fail
          go_roundw
          case rel => exact ⟨k + 1, n, ends, by omega, by omega, by omega, rfl, rfl, by go_num, hbr5, HX5, by rw [alivePt_cnt, HCB.out]; exact HB5⟩
          case measure => simp [intOf]; omega
        · have hcc := cntB_true HCB.out
          by_cases hp : reps[k].point = E.count
          · have e5 : aliveStep (if true = true then E.count else -1) n reps[k].point = (n + 1 : Nat) := by
              rw [if_pos rfl, aliveStep, if_pos ⟨hcc.1, hp⟩]; omega
            rw [e5] at h5
            rw [hp] at q0'
            have HP := Lib.hid hp; clear hp
            go_wp2_with fail
            go_quiet (fail)
            replace h5 := get_drewN nq h5
            replace hbr5 := below_drewN' nq hbr5
            replace HX5 := Lib.hid (get_drewN nq HX5.out)
            generalize w5.drewN nq = w6 at h5 hbr5 HX5 ⊢
            have HB5 := Lib.hid h5
            clear h5 c3 q0' hbb e5
            go_wp2_with fail
            refine (aliveCount_any b _ _ _ _ _ HB5.out).mono ?_
            rintro e w' ⟨rfl, rfl⟩
            go_wp2_with fail
            go_roundw
            case rel => exact ⟨k + 1, n + 1, ends, by omega, by omega, by omega, by go_num, rfl, by go_num, hbr5, HX5, by rw [alivePt_cnt, HCB.out]; exact HB5⟩
            case measure => simp [intOf]; omega
          · have e5 : aliveStep (if true = true then E.count else -1) n reps[k].point = n := by
              rw [if_pos rfl, aliveStep, if_neg (by omega)]
            rw [e5] at h5
            have HP : (reps[k].point == E.count) = false := by simp [hp]
            go_wp2_with fail
            go_quiet (fail)
            replace h5 := get_drewN nq h5
            replace hbr5 := below_drewN' nq hbr5
            replace HX5 := Lib.hid (get_drewN nq HX5.out)
            generalize w5.drewN nq = w6 at h5 hbr5 HX5 ⊢
            have HB5 := Lib.hid h5
            clear h5 c3 q0' hbb e5
            go_wp2_with fail
            refine (aliveCount_any b _ _ _ _ _ HB5.out).mono ?_
            rintro e w' ⟨rfl, rfl⟩
            go_wp2_with fail
            go_roundw
            case rel => exact ⟨k + 1, n, ends, by omega, by omega, by omega, rfl, rfl, by go_num, hbr5, HX5, by rw [alivePt_cnt, HCB.out]; exact HB5⟩
            case measure => simp [intOf]; omega
      · rw [hfin] at q2
        go_upto_region 19 with fail
        go_cut [13] (fun s wx => ∃ wh, s = .bool wh ∧ wr = wx)
        case first =>
          by_cases hw : ends < whole.length
          · obtain ⟨wb, woff, rfl, hRw, _, hcw⟩ := bool_cells HW.out (by omega)
            have qw := hcw ends hw
            rw [← hbr.cell (p := ⟨wb, woff + ends, none⟩) hRw] at qw
            clear hcw
            go_wp2_with fail
            go_meet
            exact ⟨_, rfl, rfl⟩
          · go_wp2_with fail
            go_meet
            exact ⟨_, rfl, rfl⟩
        case rest =>
        obtain ⟨wh, rfl, rfl⟩ := hcut
        clear q0 q2
        go_upto_region 21 with fail
        go_cut [118] (fun s wx => s = .bool false ∧ Below w.heap.size w wx ∧
          Hid (wx.heap[w.heap.size]? = some (.cells (entCs E (.slice pa E.points.length pc) (.slice ga E.gaps.length gc) (.slice ea E.edges.length ec) (.slice fa E.first.length fc) (.slice la E.last.length lc)) 30)) ∧
          Hid (wx.heap[b]? = some (aliveC (alivePt E.count E.points.length) E.mn E.mx 0)))
        case first =>
          go_wp2_with fail
          refine (aliveEnd_any b _ _ _ _ _ _ hbb.out).mono ?_
          rintro e w5 ⟨rfl, h5, k5⟩
          have hbr5 := hbr.trans (k5.below hbr.size (by intro j hj; omega))
          have hx5 := k5.get hxr.out (by omega)
          have c4 := (ten_cells hx5).2.2.2.2.1
          have c5 := (ten_cells hx5).2.2.2.2.2.1
          have HX5 := Lib.hid hx5
          have HB5 := Lib.hid h5
          clear hx5 hxr hbb h5 k5
          rw [alivePt_cnt, HCB.out]
          cases c
          · rw [show aliveOk (if false = true then E.count else -1) E.mn E.mx n wh = true from by simp [aliveOk]]
            go_wp2_with fail
            refine (aliveCount_any b _ _ _ _ _ HB5.out).mono ?_
            rintro e w' ⟨rfl, rfl⟩
            go_wp2_with fail
            go_meet
            exact ⟨rfl, hbr5, HX5, HB5⟩
          · have hcc := cntB_true HCB.out
            cases wh
            · rw [show aliveOk (if true = true then E.count else -1) E.mn E.mx n false = true from by simp [aliveOk]]
              go_wp2_with fail
              refine (aliveCount_any b _ _ _ _ _ HB5.out).mono ?_
              rintro e w' ⟨rfl, rfl⟩
              go_wp2_with fail
              go_meet
              exact ⟨rfl, hbr5, HX5, HB5⟩
            · by_cases hm : E.mn ≤ n
              · by_cases hm2 : n ≤ E.mx
                · rw [show aliveOk (if true = true then E.count else -1) E.mn E.mx n true = true from by simp [aliveOk, hm, hm2]]
                  go_wp2_with fail
                  refine (aliveCount_any b _ _ _ _ _ HB5.out).mono ?_
                  rintro e w' ⟨rfl, rfl⟩
                  go_wp2_with fail
                  go_meet
                  exact ⟨rfl, hbr5, HX5, HB5⟩
                · rw [show aliveOk (if true = true then E.count else -1) E.mn E.mx n true = false from by simp [aliveOk]; omega]
                  go_wp2_with fail
                  refine (aliveCount_any b _ _ _ _ _ HB5.out).mono ?_
                  rintro e w' ⟨rfl, rfl⟩
                  go_wp2_with fail
                  go_meet
                  exact ⟨val_bool (decide_eq_false (by omega)), hbr5, HX5, HB5⟩
              · rw [show aliveOk (if true = true then E.count else -1) E.mn E.mx n true = false from by simp [aliveOk]; omega]
                go_wp2_with fail
                refine (aliveCount_any b _ _ _ _ _ HB5.out).mono ?_
                rintro e w' ⟨rfl, rfl⟩
                go_wp2_with fail
                go_meet
                exact ⟨rfl, hbr5, HX5, HB5⟩
        case rest =>
        obtain ⟨rfl, hbr5, HX5, HB5⟩ := hcut
        clear hxr hbb hbr
        go_wp2_with fail
        go_roundw
        case rel => exact ⟨k + 1, 0, ends + 1, by omega, by omega, by omega, rfl, by go_num, by go_num, hbr5, HX5, HB5⟩
        case measure => simp [intOf]; omega
    · go_wp2_with fail
      go_ret
      exact ⟨rfl, hbr⟩
end Go.Proofs.Ytpodijlhlgbbdaa
