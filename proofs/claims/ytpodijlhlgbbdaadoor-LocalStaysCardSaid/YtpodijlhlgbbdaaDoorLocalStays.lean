/- LocalStays: who is expired stays so until it is stopped. -/
import Derived.Test.YtpodijlhlgbbdaaDoorLocalTolerance
namespace Go.Proofs.YtpodijlhlgbbdaaDoor
open Go.RowKit
set_option linter.unusedVariables false

def pts4 : List ByteArray := [⟨#[112]⟩, ⟨#[113]⟩, ⟨#[114]⟩, ⟨#[115]⟩]
theorem SlOf.cut {R : Nat → Prop} {w : World} {ao : Option Addr} {n cap : Nat} {l : List ByteArray} (h : SlOf R w (.slice ao n cap) 1 (strCells1 l) l.length) (k : Nat) (hk : k ≤ n) : SlOf R w (.slice ao k cap) 1 (strCells1 (l.take k)) (l.take k).length := by
  obtain ⟨hl, ao', cap', hv, h1, h2, h3, h4⟩ := h
  simp at hv
  obtain ⟨rfl, rfl, rfl⟩ := hv
  have e : (l.take k).length = k := by rw [List.length_take]; omega
  refine ⟨by simp [strCells1], ao, cap, by rw [e], by omega, h2, h3, fun hp => ?_⟩
  obtain ⟨b, off, ha, hR, hb, hc⟩ := h4 (by simp [strCells1] at hp ⊢; omega)
  refine ⟨b, off, ha, hR, hb, fun j u hj => hc j u ?_⟩
  unfold strCells1 at hj ⊢
  rw [List.map_take, List.getElem?_take] at hj
  split at hj
  · exact hj
  · cases hj

theorem oneRep_any {n : Nat} {pts : List ByteArray} (hn : pts.length = n) (tol : Int) (l s t : Nat) (pa : Option Addr) (pc : Nat) (m : LocM) (p tick : Int) (w : World) (h : LocAt l s t (oneE tol pts) (.slice pa n pc) nilS nilS nilS nilS m w)
    (hp0 : 0 ≤ p) (hp1 : p < n) (ht0 : 0 ≤ tick) (ht1 : tick ≤ 1099511627776) :
    Calls Tryd.prog 24 #[.pointer (some ⟨l, 0, none⟩), .int .i64 p, .int .i64 tick] w fun e w' => e = .returned .nilIface ∧ LocAt l s t (oneE tol pts) (.slice pa n pc) nilS nilS nilS nilS (locReport (oneE tol pts) m p tick) w' ∧ Keep (fun b => s ≤ b ∧ b < t) w w' := by
  subst hn
  exact localReport_in l s t (oneE tol pts) pa pc nilS nilS nilS nilS m p tick w h hp0 hp1 ht0 ht1

set_option maxRecDepth 100000 in
set_option maxHeartbeats 4000000 in
theorem localStays_any (points : Int) (L : List Int) (v : Value) (w : World) (h : SlOf (· < w.heap.size) w v 1 (intCells L) L.length) :
    Calls Tryd.prog 6 #[.int .i64 points, v] w fun e w' => e = .returned (.bool true) ∧ Below w.heap.size w w' := by
  obtain ⟨ao, cap, rfl⟩ := h.val
  have HL := Lib.hid h
  clear h
  go_enter Tryd.func6, Tryd.ntmps6
  go_wp2_with fail
  refine (lives_any w).mono ?_
  rintro e w0 ⟨rfl, b0⟩
  by_cases h1 : points < 1
  · go_wp2_with fail
    go_ret
    exact ⟨rfl, b0⟩
  by_cases h2 : 4 < points
  · go_wp2_with fail
    go_ret
    exact ⟨rfl, b0⟩
  by_cases h3 : 60 < L.length
  · go_wp2_with fail
    go_ret
    exact ⟨rfl, b0⟩
  obtain ⟨n, rfl⟩ : ∃ n : Nat, points = n := ⟨points.toNat, by omega⟩
  have hL60 : L.length ≤ 60 := by omega
  go_wp2_with fail
  have sl := (slOf_alloc w0 (strCells1 pts4) 9 1 4 rfl (by decide)).cut n (by omega)
  have hpn : 0 < (pts4.take n).length := by rw [List.length_take]; show 0 < min n 4; omega
  have hpn2 : (pts4.take n).length = n := by rw [List.length_take]; show min n 4 = n; omega
  refine (oneNew_x 0 (pts4.take n) n 4 w0 _ sl).mono ?_
  rintro e w1 ⟨l, rfl, hl, hh1, S1, b1⟩
  have H1 := Lib.hid hh1
  have SS := Lib.hid S1
  have B1 := Lib.hid (b0.trans (b1.mono b0.size))
  have hll := lt_of_get hh1
  have hs1 : ∀ b, b = w0.heap.size → b < w1.heap.size := fun b hb => by omega
  have hw0 := b0.size
  clear hh1 S1 sl b1 b0
  go_wp2_with fail
  refine (localBegin_any _ _ _ _ _ _ _ _ w1 H1.out SS.out hs1 (one_light 0 _ (by rw [hpn2]; omega))).mono ?_
  rintro e w2 ⟨rfl, t, q2, k2⟩
  have H2 := Lib.hid q2
  have O2 := Lib.hid (one_begin 0 (pts4.take n))
  have B2 := Lib.hid (B1.out.trans (k2.below B1.out.size (fun b hb => by omega)))
  have K2 : Hid (Keep (fun b => l ≤ b) w1 w2) := k2.mono (fun b _ hb => by omega)
  clear q2 k2
  go_wp2_with fail
  refine (oneEnd_any 0 hpn _ _ _ _ _ _ _ _ _ _ _ _ _ 0 0 false w2 H2.out O2.out (by decide) (by decide) rfl rfl rfl).mono ?_
  rintro e w3 ⟨rfl, m3, q3, o3, k3⟩
  have H3 := Lib.hid q3
  have O3 := Lib.hid o3
  have B3 := Lib.hid (B2.out.trans (own_low k3 B2.out.size B1.out.size))
  have K3 := Lib.hid (K2.out.trans (k3.mono (fun b _ hb => by omega)))
  clear q3 o3 k3
  go_wp2_with fail
  refine (oneEnd_any 0 hpn _ _ _ _ _ _ _ _ _ _ _ _ _ 1 1 true w3 H3.out O3.out (by decide) (by decide) rfl rfl rfl).mono ?_
  rintro e w4 ⟨rfl, m4, q4, o4, k4⟩
  have H4 := Lib.hid q4
  have X4 := Lib.hid (show m4.exp = true from o4.ex)
  have R4 : 0 ≤ m4.run ∧ m4.run ≤ ((0 : Nat) : Int) + 1 := by rw [o4.run]; omega
  have B4 := Lib.hid (B3.out.trans (own_low k4 B3.out.size B1.out.size))
  have K4 := Lib.hid (K3.out.trans (k4.mono (fun b _ hb => by omega)))
  clear q4 o4 k4 H3 O3 H2 O2
  go_wp2_with fail
  go_loopw [9] (fun s wr => ∃ (i : Nat) (m : LocM), i ≤ L.length ∧ s = .int .i64 i ∧ Below w.heap.size w wr ∧ Hid (LocAt l w1.heap.size t (oneE 0 (pts4.take n)) (.slice (some ⟨w0.heap.size, 0, none⟩) n 4) nilS nilS nilS nilS m wr) ∧ Hid (m.exp = true) ∧ 0 ≤ m.run ∧ m.run ≤ (i : Int) + 1 ∧ Hid (Keep (fun b => l ≤ b) w1 wr)) (fun s _ => L.length - (intOf s).toNat)
  case atStart => exact ⟨0, m4, Nat.zero_le _, rfl, B4.out, H4, X4, R4.1, R4.2, K4⟩
  case round =>
    obtain ⟨i, m, hi, rfl, hb, hL, hX, hr0, hr1, hK⟩ := hrel
    clear H4 B4 X4 R4
    by_cases hlt : i < L.length
    · obtain ⟨b, off, rfl, hRb, _, hc⟩ := int_cells HL.out (by omega)
      have q := hc i hlt
      rw [← hb.cell (p := ⟨b, off + i, none⟩) hRb] at q
      clear hc
      by_cases hz : 0 ≤ L[i]
      · obtain ⟨z, hzz⟩ : ∃ z : Nat, L[i] = z := ⟨L[i].toNat, by omega⟩
        rw [hzz] at q
        clear hz hzz
        have hmod : ((z : Int) % n) < n := Int.emod_lt_of_pos _ (by omega)
        have hmod0 : 0 ≤ ((z : Int) % n) := Int.emod_nonneg _ (by omega)
        go_wp2_with fail
        refine (oneRep_any hpn2 0 l _ _ _ _ m _ i wr hL.out hmod0 hmod (by omega) (by omega)).mono ?_
        rintro e w5 ⟨rfl, q5, k5⟩
        have H5 := Lib.hid q5
        have hb5 := hb.trans (own_low k5 hb.size B1.out.size)
        have hK5 := Lib.hid (hK.out.trans (k5.mono (fun b _ hb => by omega)))
        have X5 := Lib.hid (exp_report (E := oneE 0 (pts4.take n)) hX.out ((z : Int) % n) i)
        clear q5 k5 hL hmod hmod0
        go_wp2_with fail
        go_roundw
        case rel => exact ⟨i + 1, _, by omega, by go_num, hb5, H5, X5, hr0, by show m.run ≤ _; omega, hK5⟩
        case measure => simp [intOf]; omega
      · have hz' : L[i] < 0 := by omega
        clear hz
        go_wp2_with fail
        refine (localEnd_any l _ _ _ _ _ _ _ _ m wr hL.out hr0 (by omega)).mono ?_
        rintro e w5 ⟨rfl, q5, k5⟩
        obtain ⟨x1, x2⟩ := exp_end (E := oneE 0 (pts4.take n)) hX.out
        rw [x2]
        have X5 := Lib.hid x1
        have H5 := Lib.hid q5
        have hb5 := hb.trans (own_low k5 hb.size B1.out.size)
        have hK5 := Lib.hid (hK.out.trans (k5.mono (fun b _ hb => by omega)))
        have st := Lib.hid (status_exp x1)
        have hrr : 0 ≤ (locEnd (oneE 0 (pts4.take n)) m).run ∧ (locEnd (oneE 0 (pts4.take n)) m).run ≤ (i : Int) + 1 + 1 := by
          show 0 ≤ locRun _ m ∧ locRun _ m ≤ _
          unfold locRun
          split <;> omega
        clear q5 k5 x1 x2 hL
        generalize locEnd (oneE 0 (pts4.take n)) m = m5 at H5 X5 st hrr
        generalize locKind (oneE 0 (pts4.take n)) m = K5
        go_wp2_with fail
        refine (localStatus_any _ _ _ _ _ _ _ _ _ _ w5 H5.out).mono ?_
        rintro e w' ⟨rfl, rfl⟩
        rw [st.out]
        go_wp2_with fail
        go_roundw
        case rel => exact ⟨i + 1, _, by omega, by go_num, hb5, H5, X5, hrr.1, by omega, hK5⟩
        case measure => simp [intOf]; omega
    · have st := Lib.hid (status_exp hX.out)
      go_wp2_with fail
      refine (localStatus_any _ _ _ _ _ _ _ _ _ _ wr hL.out).mono ?_
      rintro e w' ⟨rfl, rfl⟩
      rw [st.out]
      go_wp2_with fail
      refine (localStop_any _ _ _ _ _ _ _ _ _ _ wr hL.out).mono ?_
      rintro e w5 ⟨rfl, q5, k5⟩
      have H5 := Lib.hid q5
      have hwr := Lib.hid (hb.size)
      have hb5 := Lib.hid (hb.trans (k5.below hb.size (fun b hb' => by omega)))
      have S5 : Hid (EntSl (· = w0.heap.size) w5 (oneE 0 (pts4.take n)) (.slice (some ⟨w0.heap.size, 0, none⟩) n 4) nilS nilS nilS nilS) := (SS.out.keep hK.out (fun b hb h => by omega)).keep k5 (fun b hb h => by omega)
      clear q5 k5 hL
      go_wp2_with fail
      refine (localStatus_idle _ _ _ _ _ _ _ w5 H5.out).mono ?_
      rintro e w' ⟨rfl, rfl⟩
      go_wp2_with fail
      refine (localBegin_any _ _ _ _ _ _ _ _ w5 H5.out S5.out (fun b hb => by have := lt_of_get H5.out; omega) (one_light 0 _ (by rw [hpn2]; omega))).mono ?_
      rintro e w6 ⟨rfl, t6, q6, k6⟩
      have H6 := Lib.hid q6
      have hb6 := hb5.out.trans (k6.below hb5.out.size (fun b hb => by omega))
      have st6 := Lib.hid (status_ok (m := locBegin (oneE 0 (pts4.take n))) rfl rfl)
      clear q6 k6
      go_wp2_with fail
      refine (localStatus_any _ _ _ _ _ _ _ _ _ _ w6 H6.out).mono ?_
      rintro e w' ⟨rfl, rfl⟩
      rw [st6.out]
      go_wp2_with fail
      go_ret
      exact ⟨rfl, hb6⟩
end Go.Proofs.YtpodijlhlgbbdaaDoor
