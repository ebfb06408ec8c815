/- LocalTolerance: so many cycles that are not well are borne; one more is not. -/
import Derived.Test.YtpodijlhlgbbdaaDoorLives
namespace Go.Proofs.YtpodijlhlgbbdaaDoor
open Go.RowKit
set_option linter.unusedVariables false

theorem status_exp {m : LocM} (h : m.exp = true) : locStatus m = ⟨#[101, 120, 112, 105, 114, 101, 100]⟩ := by simp [locStatus, h]
theorem status_failed {m : LocM} (h : m.exp = false) (h2 : 0 < m.run) : locStatus m = ⟨#[102, 97, 105, 108, 101, 100]⟩ := by simp [locStatus, h, h2]
theorem status_ok {m : LocM} (h : m.exp = false) (h2 : m.run = 0) : locStatus m = ⟨#[111, 107]⟩ := by simp [locStatus, h, h2]

theorem oneEnd_any (tol : Int) {pts : List ByteArray} (hp : 0 < pts.length) (l s t : Nat) (vp vg ve vf vl : Value) (m : LocM) (wh ex : Bool) (run cnt r K : Int) (nw : Bool) (w : World) (h : LocAt l s t (oneE tol pts) vp vg ve vf vl m w) (ho : OneM m wh ex run cnt)
    (h0 : 0 ≤ run) (h1 : run ≤ 1000000) (hK : K = if wh = true ∧ cnt ≠ 1 then 1 else 0) (hr : r = if wh = true ∧ cnt ≠ 1 then run + 1 else 0) (hn : nw = (decide (tol < r) && !ex)) :
    Calls Tryd.prog 25 #[.pointer (some ⟨l, 0, none⟩)] w fun e w' => e = .returned (.tuple #[.int .i64 K, .bool nw]) ∧ ∃ m', LocAt l s t (oneE tol pts) vp vg ve vf vl m' w' ∧ OneM m' true (ex || decide (tol < r)) r 0 ∧ Keep (fun b => s ≤ b ∧ b < t) w w' := by
  refine (localEnd_any l s t _ _ _ _ _ _ m w h (by rw [ho.run]; exact h0) (by rw [ho.run]; exact h1)).mono ?_
  rintro e w' ⟨rfl, q1, q2⟩
  obtain ⟨o1, o2⟩ := one_end hp ho hr
  refine ⟨?_, _, q1, o1, q2⟩
  rw [one_kind hp ho, o2, hK, hn]

theorem oneReport_any (tol : Int) {pts : List ByteArray} (hp : 0 < pts.length) (l s t : Nat) (pa : Option Addr) (pc : Nat) (vg ve vf vl : Value) (m : LocM) (wh ex : Bool) (run tick : Int) (w : World) (h : LocAt l s t (oneE tol pts) (.slice pa pts.length pc) vg ve vf vl m w) (ho : OneM m wh ex run 0)
    (h0 : 0 ≤ tick) (h1 : tick ≤ 1099511627776) :
    Calls Tryd.prog 24 #[.pointer (some ⟨l, 0, none⟩), .int .i64 0, .int .i64 tick] w fun e w' => e = .returned .nilIface ∧ ∃ m', LocAt l s t (oneE tol pts) (.slice pa pts.length pc) vg ve vf vl m' w' ∧ OneM m' wh ex run 1 ∧ Keep (fun b => s ≤ b ∧ b < t) w w' := by
  refine (localReport_in l s t (oneE tol pts) pa pc _ _ _ _ m 0 tick w h (Int.le_refl _) (by show (0 : Int) < pts.length; omega) h0 h1).mono ?_
  rintro e w' ⟨rfl, q1, q2⟩
  exact ⟨rfl, _, q1, one_report hp ho tick, q2⟩

set_option maxRecDepth 100000 in
set_option maxHeartbeats 4000000 in
theorem localTolerance_any (tol before after : Int) (w : World) :
    Calls Tryd.prog 7 #[.int .i64 tol, .int .i64 before, .int .i64 after] w fun e w' => e = .returned (.bool true) ∧ Below w.heap.size w w' := by
  go_enter Tryd.func7, Tryd.ntmps7
  go_wp2_with fail
  refine (lives_any w).mono ?_
  rintro e w0 ⟨rfl, b0⟩
  by_cases h1 : tol < 0
  · go_wp2_with fail
    go_ret
    exact ⟨rfl, b0⟩
  by_cases h2 : 20 < tol
  · go_wp2_with fail
    go_ret
    exact ⟨rfl, b0⟩
  by_cases h3 : before < 0
  · go_wp2_with fail
    go_ret
    exact ⟨rfl, b0⟩
  by_cases h4 : tol < before
  · go_wp2_with fail
    go_ret
    exact ⟨rfl, b0⟩
  by_cases h5 : after < 0
  · go_wp2_with fail
    go_ret
    exact ⟨rfl, b0⟩
  by_cases h6 : 60 < after
  · go_wp2_with fail
    go_ret
    exact ⟨rfl, b0⟩
  go_wp2_with fail
  have sl := slOf_alloc w0 (strCells1 [⟨#[112]⟩]) 9 1 1 rfl (by decide)
  refine (oneNew_x tol [⟨#[112]⟩] 1 1 w0 _ sl).mono ?_
  rintro e w1 ⟨l, rfl, hl, hh1, S1, b1⟩
  have H1 := Lib.hid hh1
  have SS := Lib.hid S1
  have B1 := Lib.hid (b0.trans (b1.mono b0.size))
  have hll := lt_of_get hh1
  have hs1 : ∀ b, b = w0.heap.size → b < w1.heap.size := fun b hb => by omega
  have hw0 := b0.size
  clear hh1 S1 sl b1 b0
  go_wp2_with fail
  refine (localBegin_any _ _ _ _ _ _ _ _ w1 H1.out SS.out hs1 (one_light tol _ (by decide))).mono ?_
  rintro e w2 ⟨rfl, t, q2, k2⟩
  have H2 := Lib.hid q2
  have O2 := Lib.hid (one_begin tol [⟨#[112]⟩])
  have B2 := Lib.hid (B1.out.trans (k2.below B1.out.size (fun b hb => by omega)))
  clear q2 k2
  go_wp2_with fail
  refine (oneEnd_any tol (by decide) _ _ _ _ _ _ _ _ _ _ _ _ _ 0 0 false w2 H2.out O2.out (by decide) (by decide) rfl rfl (by simp; omega)).mono ?_
  rintro e w3 ⟨rfl, m3, q3, o3, k3⟩
  have H3 := Lib.hid q3
  have O3 : Hid (OneM m3 true false 0 0) := by
    have : (false || decide (tol < 0)) = false := by simp; omega
    rw [this] at o3; exact o3
  have B3 := Lib.hid (B2.out.trans (own_low k3 B2.out.size B1.out.size))
  clear q3 o3 k3
  go_wp2_with fail
  go_loopw [11] (fun s wr => ∃ (i : Nat) (m : LocM), (i : Int) ≤ before ∧ s = .int .i64 i ∧ Below w.heap.size w wr ∧ Hid (LocAt l w1.heap.size t (oneE tol [⟨#[112]⟩]) (.slice (some ⟨w0.heap.size, 0, none⟩) 1 1) nilS nilS nilS nilS m wr) ∧ Hid (OneM m true false i 0)) (fun s _ => (before - intOf s).toNat)
  case atStart => exact ⟨0, m3, by omega, rfl, B3.out, H3, O3⟩
  case round =>
    obtain ⟨i, m, hi, rfl, hb, hL, hO⟩ := hrel
    by_cases hlt : (i : Int) < before
    · go_wp2_with fail
      refine (oneEnd_any tol (by decide) _ _ _ _ _ _ _ _ m true false i 0 (i + 1) 1 false wr hL.out hO.out (by omega) (by omega) rfl rfl (by simp; omega)).mono ?_
      rintro e w4 ⟨rfl, m4, q4, o4, k4⟩
      have O4 : OneM m4 true false (i + 1) 0 := by
        have : (false || decide (tol < (i : Int) + 1)) = false := by simp; omega
        rw [this] at o4; exact o4
      have H4 := Lib.hid q4
      have hb4 := hb.trans (own_low k4 hb.size B1.out.size)
      have OO := Lib.hid O4
      have st := Lib.hid (status_failed O4.ex (by rw [O4.run]; omega))
      have rn := Lib.hid O4.run
      clear q4 o4 k4 O4 hL hO
      go_wp2_with fail
      refine (localStatus_any _ _ _ _ _ _ _ _ _ _ w4 H4.out).mono ?_
      rintro e w' ⟨rfl, rfl⟩
      rw [st.out]
      go_wp2_with fail
      refine (localRun_any _ _ _ _ _ _ _ _ _ _ w4 H4.out).mono ?_
      rintro e w' ⟨rfl, rfl⟩
      rw [rn.out]
      go_wp2_with fail
      go_roundw
      case rel => exact ⟨i + 1, m4, by omega, by go_num, hb4, H4, by have := OO.out; rw [show ((i + 1 : Nat) : Int) = (i : Int) + 1 from by omega]; exact OO⟩
      case measure => simp [intOf]; omega
    · go_wp2_with fail
      refine (oneReport_any tol (by decide) _ _ _ _ _ _ _ _ _ m _ _ _ 5 wr hL.out hO.out (by decide) (by decide)).mono ?_
      rintro e w4 ⟨rfl, m4, q4, o4, k4⟩
      have H4 := Lib.hid q4
      have O4 := Lib.hid o4
      have B4 := Lib.hid (hb.trans (own_low k4 hb.size B1.out.size))
      clear q4 o4 k4 hL hO
      go_wp2_with fail
      refine (oneEnd_any tol (by decide) _ _ _ _ _ _ _ _ m4 true false i 1 0 0 false w4 H4.out O4.out (by omega) (by omega) rfl rfl (by simp; omega)).mono ?_
      rintro e w5 ⟨rfl, m5, q5, o5, k5⟩
      have O5 : OneM m5 true false 0 0 := by
        have : (false || decide (tol < 0)) = false := by simp; omega
        rw [this] at o5; exact o5
      have H5 := Lib.hid q5
      have B5 := Lib.hid (B4.out.trans (own_low k5 B4.out.size B1.out.size))
      have OO := Lib.hid O5
      have st := Lib.hid (status_ok O5.ex O5.run)
      have rn := Lib.hid O5.run
      clear q5 o5 k5 O5 H4 O4
      go_wp2_with fail
      refine (localStatus_any _ _ _ _ _ _ _ _ _ _ w5 H5.out).mono ?_
      rintro e w' ⟨rfl, rfl⟩
      rw [st.out]
      go_wp2_with fail
      refine (localRun_any _ _ _ _ _ _ _ _ _ _ w5 H5.out).mono ?_
      rintro e w' ⟨rfl, rfl⟩
      rw [rn.out]
      go_wp2_with fail
      have OE : Hid (OneM m5 true (decide (tol < ((0 : Nat) : Int))) ((0 : Nat) : Int) 0) := by
        have : decide (tol < ((0 : Nat) : Int)) = false := by simp; omega
        rw [this]; exact OO.out
      go_loopw [14] (fun s wx => ∃ (k : Nat) (mk : LocM), (k : Int) ≤ after ∧ s = .int .i64 k ∧ Below w.heap.size w wx ∧ Hid (LocAt l w1.heap.size t (oneE tol [⟨#[112]⟩]) (.slice (some ⟨w0.heap.size, 0, none⟩) 1 1) nilS nilS nilS nilS mk wx) ∧ Hid (OneM mk true (decide (tol < (k : Int))) k 0)) (fun s _ => (after - intOf s).toNat)
      case atStart => exact ⟨0, m5, by omega, rfl, B5.out, H5, OE⟩
      case round =>
        obtain ⟨k, mk, hk, rfl, hb, hL, hO⟩ := hrel
        clear H5 B5 OE OO st rn
        by_cases hkt : (k : Int) < after
        · have hnw : Hid ((decide (tol < (k : Int) + 1) && !decide (tol < (k : Int))) = decide ((k : Int) = tol)) := by
            show _ = _
            by_cases e : (k : Int) = tol
            · simp [e]; omega
            · by_cases e2 : tol < (k : Int)
              · simp [e, e2]
              · have : ¬ tol < (k : Int) + 1 := by omega
                simp [e, this]
          have hex : Hid ((decide (tol < (k : Int)) || decide (tol < (k : Int) + 1)) = decide (tol < (k : Int) + 1)) := by
            show _ = _
            by_cases e2 : tol < (k : Int)
            · have : tol < (k : Int) + 1 := by omega
              simp [this]
            · simp [e2]
          go_wp2_with fail
          refine (oneEnd_any tol (by decide) _ _ _ _ _ _ _ _ mk true _ k 0 (k + 1) 1 (decide ((k : Int) = tol)) _ hL.out hO.out (by omega) (by omega) rfl rfl hnw.out.symm).mono ?_
          rintro e w6 ⟨rfl, m6, q6, o6, k6⟩
          rw [hex.out] at o6
          have O6 := Lib.hid o6
          have H6 := Lib.hid q6
          have hb6 := hb.trans (own_low k6 hb.size B1.out.size)
          clear q6 k6 hL hO hnw hex
          by_cases e1 : (k : Int) < tol
          · have d1 : decide ((k : Int) = tol) = false := by simp; omega
            have d2 : ((k : Int) == tol) = false := by simp; omega
            have ex6 : m6.exp = false := by rw [o6.ex]; simp; omega
            have st := Lib.hid (status_failed ex6 (by rw [o6.run]; omega))
            clear o6 ex6
            rw [d1]
            go_wp2_with fail
            refine (localStatus_any _ _ _ _ _ _ _ _ _ _ w6 H6.out).mono ?_
            rintro e w' ⟨rfl, rfl⟩
            rw [st.out]
            go_wp2_with fail
            go_roundw
            case rel => exact ⟨k + 1, m6, by omega, by go_num, hb6, H6, by rw [show ((k + 1 : Nat) : Int) = (k : Int) + 1 from by omega]; exact O6⟩
            case measure => simp [intOf]; omega
          · have ex6 : m6.exp = true := by rw [o6.ex]; simp; omega
            have st := Lib.hid (status_exp ex6)
            clear o6 ex6
            by_cases e2 : (k : Int) = tol
            · have d1 : decide ((k : Int) = tol) = true := by simp; omega
              have d2 : ((k : Int) == tol) = true := by simp; omega
              rw [d1]
              have e3 : tol ≤ (k : Int) := by omega
              clear e2
              go_wp2_with fail
              refine (localStatus_any _ _ _ _ _ _ _ _ _ _ w6 H6.out).mono ?_
              rintro e w' ⟨rfl, rfl⟩
              rw [st.out]
              go_wp2_with fail
              go_roundw
              case rel => exact ⟨k + 1, m6, by omega, by go_num, hb6, H6, by rw [show ((k + 1 : Nat) : Int) = (k : Int) + 1 from by omega]; exact O6⟩
              case measure => simp [intOf]; omega
            · have d1 : decide ((k : Int) = tol) = false := by simp; omega
              have d2 : ((k : Int) == tol) = false := by simp; omega
              rw [d1]
              have e3 : tol ≤ (k : Int) := by omega
              clear e2
              go_wp2_with fail
              refine (localStatus_any _ _ _ _ _ _ _ _ _ _ w6 H6.out).mono ?_
              rintro e w' ⟨rfl, rfl⟩
              rw [st.out]
              go_wp2_with fail
              go_roundw
              case rel => exact ⟨k + 1, m6, by omega, by go_num, hb6, H6, by rw [show ((k + 1 : Nat) : Int) = (k : Int) + 1 from by omega]; exact O6⟩
              case measure => simp [intOf]; omega
        · go_wp2_with fail
          go_ret
          exact ⟨rfl, hb⟩
end Go.Proofs.YtpodijlhlgbbdaaDoor
