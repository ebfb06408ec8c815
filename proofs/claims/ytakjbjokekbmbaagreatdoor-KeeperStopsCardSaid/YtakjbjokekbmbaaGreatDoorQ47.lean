/- KeeperStops walked: for all numbers the call returns true. -/
import Derived.Test.YtakjbjokekbmbaaGreatDoorQ46
import Derived.Deep.CutBlock
namespace Go.Proofs.YtakjbjokekbmbaaGreatDoor
open Go.RowKit
set_option linter.unusedVariables false

theorem stop_ok {cl op cy de tol : Int} (hC : confF (stopC cl op cy de tol) = (0, -1)) : ∃ cl' op' cy' de' tol' : Nat, cl = cl' ∧ op = op' ∧ cy = cy' ∧ de = de' ∧ tol = tol' ∧ ZOk cl' op' cy' de' tol' := by
  have hb := boundC_parts (confF_parts hC).1
  have h2 := (confF_parts hC).2.1
  have hg := (conf_good hC (stopE tol) (by simp [stopC])).tol
  have b1 : 0 ≤ cl ∧ cl ≤ 1000 ∧ 1 ≤ op ∧ op ≤ 1000 ∧ 1 ≤ cy ∧ cy ≤ 100 ∧ 0 ≤ de ∧ de ≤ 20 := ⟨hb.1, hb.2.1, hb.2.2.1, hb.2.2.2.1, hb.2.2.2.2.1, hb.2.2.2.2.2.1, hb.2.2.2.2.2.2.1, hb.2.2.2.2.2.2.2.1⟩
  have b2 : ¬ op < cy := h2
  have b3 : 0 ≤ tol ∧ tol ≤ 20 := hg
  exact ⟨cl.toNat, op.toNat, cy.toNat, de.toNat, tol.toNat, by omega, by omega, by omega, by omega, by omega, by omega, by omega, by omega, by omega, by omega, by omega, by omega, by omega⟩

theorem stop_begin (cl op cy de tol : Int) : kpBegin (kp0 (stopC cl op cy de tol)) 0 = (0, kpSet (kp0 (stopC cl op cy de tol)) 0 (some (locBegin (stopE tol)))) := by
  have h1 : kpOn (kp0 (stopC cl op cy de tol)) = 0 := rfl
  have hl : (kp0 (stopC cl op cy de tol)).A.length = 1 := rfl
  have h2 : kpAsk (kp0 (stopC cl op cy de tol)) 0 = 0 := by
    unfold kpAsk
    rw [h1, if_neg (by decide), hl, if_neg (by decide)]
  have h3 : kpGet (kp0 (stopC cl op cy de tol)) (0 : Int).toNat = none := rfl
  have h4 : kpEnt (kp0 (stopC cl op cy de tol)) (0 : Int).toNat = stopE tol := rfl
  unfold kpBegin
  rw [if_neg (by rw [h2]; decide), h3, h4]
  rfl
set_option maxRecDepth 100000 in
set_option maxHeartbeats 8000000 in
theorem keeperStops_any (B : Nat) (sa : Nat → Addr) (cl op cy de tol : Int) (w : World) (hS : Sents B sa w) (hN : NumB B w) (hT : TabB w.heap.size w) :
    Calls Tryz.prog 4 #[.int .i64 cl, .int .i64 op, .int .i64 cy, .int .i64 de, .int .i64 tol] w fun e w' => e = .returned (.bool true) ∧ Below w.heap.size w w' := by
  have hfc := fun (a b : Int) (W : World) => Tryz.fieldCode a b W
  have heq : ∀ (E : Nat) w, (Op.equalIn 10000 63 (.agg #[.int .i64 1, .int .i64 0, .int .i64 1, .int .i64 (E : Int)]) (.agg #[.int .i64 1, .int .i64 0, .int .i64 1, .int .i64 (E : Int)])).run Tryz.prog w = .ok true w := fun E w => by
    have := Tryz.recEq4 1 0 1 E 1 0 1 E w
    rw [show decide ((1 : Int) = 1 ∧ (0 : Int) = 0 ∧ (1 : Int) = 1 ∧ (E : Int) = E) = true by simp] at this
    exact this
  have hgd := Tryz.recGuard
  have HWa := Lib.hid (watched_any B sa w hS.k hN hT)
  have HSN := Lib.hid (And.intro hS (And.intro hN hT))
  clear hS hN hT
  go_enter Tryz.func4, Tryz.ntmps4
  go_wp2_with fail
  refine HWa.out.mono ?_
  rintro e w2 ⟨rfl, b2⟩
  have HB2 := Lib.hid b2
  clear b2 HWa
  go_upto_region 4 with fail
  obtain ⟨m1, m2, m3⟩ := stop_mem w2 cl op cy de tol _ rfl
  generalize ((w2.alloc _).alloc _).alloc _ = w3 at m1 m2 m3 ⊢
  have HM1 := Lib.hid (HB2.out.trans (m1.mono HB2.out.size))
  have HM2 := Lib.hid m2
  have HM3 := Lib.hid m3
  obtain ⟨c0, c1, c2, c3, c4⟩ := conf_cells m2
  obtain ⟨C, hCe⟩ : ∃ C, C = stopC cl op cy de tol := ⟨_, rfl⟩
  have HCf := Lib.hid (rConfigFault_any _ _ _ _ w3 m3 (fun b hb => hb.2))
  rw [← hCe] at HCf
  obtain ⟨fc, fi, hcf⟩ : ∃ fc fi, confF C = (fc, fi) := ⟨_, _, rfl⟩
  rw [hcf, show faultV (fc, fi) = .agg #[.int .i64 (fc : Int), .int .i64 fi] from rfl, hCe] at HCf
  unfold confCs at HCf
  have HCF := Lib.hid hcf
  have HCE := Lib.hid hCe
  simp only [stopC] at HCf c0 c1 c2 c3
  clear m1 m2 m3 hcf hCe
  go_wp2_with fail
  refine HCf.out.mono ?_
  rintro e w4 ⟨rfl, b4⟩
  have HB4 := Lib.hid (HM1.out.trans (b4.mono HM1.out.size))
  by_cases hz : 0 < fc
  · have hzI : (0 : Int) < fc := by omega
    clear hz b4
    go_wp2_with fail
    go_ret
    exact ⟨rfl, HB4.out⟩
  have hf0 : fc = 0 := by omega
  have hC0 : confF (stopC cl op cy de tol) = (0, -1) := by rw [← HCE.out]; exact kconfF_zero (by rw [HCF.out]; exact hf0)
  obtain ⟨clN, opN, cyN, deN, tolN, rfl, rfl, rfl, rfl, rfl, hq⟩ := stop_ok hC0
  have HQ := Lib.hid hq
  have HC0 := Lib.hid hC0
  have HX4 := Lib.hid (below_get b4 HM2.out (lt_of_get HM2.out))
  have HM4 := Lib.hid ((HM3.out.below b4 (fun b hb => hb.2)).mono (S := fun b => b < w4.heap.size) (fun b hb => Nat.lt_of_lt_of_le hb.2 b4.size))
  rw [hf0]
  clear hz hf0 hC0 hq HCF HCE HCf b4 HM2 HM3 c0 c1 c2 c3 c4
  by_cases hcl : 60 < clN
  · have hclI : (60 : Int) < clN := by omega
    go_wp2_with fail
    go_ret
    exact ⟨rfl, HB4.out⟩
  have hclI : ¬ (60 : Int) < clN := by omega
  by_cases hop : 60 < opN
  · have hopI : (60 : Int) < opN := by omega
    go_wp2_with fail
    go_ret
    exact ⟨rfl, HB4.out⟩
  have hopI : ¬ (60 : Int) < opN := by omega
  by_cases hto : 10 < tolN
  · have htoI : (10 : Int) < tolN := by omega
    go_wp2_with fail
    go_ret
    exact ⟨rfl, HB4.out⟩
  have htoI : ¬ (10 : Int) < tolN := by omega
  obtain ⟨c0, c1, c2, c3, c4⟩ := conf_cells HX4.out
  have HFr : Hid (Calls Tryz.prog 10 #[.agg #[.int .i64 (clN : Int), .int .i64 (opN : Int), .int .i64 (cyN : Int), .int .i64 (deN : Int), .slice (some ⟨w2.heap.size + 1 + 1, 0, none⟩) 1 1]] w4 (FreshPost B sa (stopC clN opN cyN deN tolN) w4)) :=
    fresh_any B sa _ _ _ _ w4 (HSN.out.1.k.low HB4.out HSN.out.1.top) (HSN.out.2.1.below HB4.out HSN.out.1.top) (fun W' hW' => HSN.out.2.2 W' (HB4.out.trans (hW'.mono HB4.out.size))) HM4.out (fun b hb => hb) (stop_heavy _ _) HC0.out (stop_text HC0.out)
  unfold FreshPost at HFr
  simp only [stopC] at c0 c1 c2 c3
  clear HX4 HM4
  go_wp2_with fail
  refine HFr.out.mono ?_
  rintro e w5 ⟨kb, c, x, o, rfl, hk⟩
  have HBg := Lib.hid (kpBegin_any hk (kp0_ok HC0.out) 0)
  rw [stop_begin] at HBg
  unfold KpPost at HBg
  have HOk := Lib.hid (kpBegin_ok (kp0_ok HC0.out) 0)
  rw [stop_begin] at HOk
  simp only [errv_zero] at HBg
  clear hk HFr c0 c1 c2 c3 c4
  have hq := HQ.out
  obtain ⟨E, hE⟩ : ∃ E, E = (tolN + 2) * cyN := ⟨_, rfl⟩
  obtain ⟨F, hF⟩ : ∃ F, F = deN * cyN := ⟨_, rfl⟩
  have hEb : E ≤ 12 * 60 := by rw [hE]; exact Nat.mul_le_mul (by omega) (by have := hq.c1; omega)
  have hFb : F ≤ 20 * 60 := by rw [hF]; exact Nat.mul_le_mul hq.de (by have := hq.c1; omega)
  have hSt : zStops cyN deN tolN = E + F := by unfold zStops; rw [hE, hF, Nat.add_mul]
  have hEI : ((tolN : Int) + 2) * (cyN : Int) = (E : Int) := by rw [hE]; simp
  have hFI : (deN : Int) * (cyN : Int) = (F : Int) := by rw [hF]; simp
  have hEbI : (E : Int) ≤ 720 := by omega
  have hFbI : (F : Int) ≤ 1200 := by omega
  have HEe := Lib.hid hE
  have HST := Lib.hid hSt
  clear hq hE hF hEb hFb hSt
  go_wp2_with fail
  refine HBg.out.mono ?_
  rintro e w6 ⟨rfl, x1, o1, hk1, hf1⟩
  have hs1 : SSt B sa w4 kb c clN opN cyN deN tolN 0 x1 _ o1 w6 := ⟨hk1, zAt_new HQ.out, HOk.out⟩
  have HS1 := Lib.hid hs1
  clear hk1 hf1 hs1 HBg HOk
  go_wp2_with fail
  go_loopw [] (fun wr => ∃ (n : Nat) (x' : KpX) (M' : KpM) (o' : Nat → Nat), n ≤ E ∧ Hid (SSt B sa w4 kb c clN opN cyN deN tolN n x' M' o' wr)) (fun wr => E - nowOf kb wr)
  case atStart => exact ⟨0, x1, _, o1, Nat.zero_le _, HS1⟩
  case round =>
    obtain ⟨n, xa, Ma, oa, hn, hst⟩ := hrel
    clear HS1
    have HNw := Lib.hid (dogNow_any xa.d Ma.D wr hst.out.k.b.dog)
    rw [hst.out.now.2] at HNw
    obtain ⟨k0, k1, k2, k3, k4, k5, k6, k7, k8, k9, k10, kf⟩ := kp_cells hst.out.k.box
    clear k1 k2 k3 k4 k5 k6 k7 k8 k9 k10 kf
    have HLg := Lib.hid (kpLog_any hst.out.k hst.out.ok)
    rw [hst.out.z.log.2] at HLg
    by_cases hlt : n < E
    · have hltI : (n : Int) < E := by omega
      rw [zLog_early HQ.out.c0 (by rw [← HEe.out]; exact hlt)] at HLg
      have hnr : ¬ clN + opN < n + 1 - (zDog clN cyN (zStops cyN deN tolN) n).1 := by
        have := zDog_safe HQ.out n (by rw [HST.out]; omega)
        omega
      have hn4 : n ≤ 40000 := by omega
      have HTk := Lib.hid (fun W (hW : Below wr.heap.size wr W) => (hst.out.below hW).tick HQ.out hn4 hnr)
      have HNO := Lib.hid hst.out.now.1
      clear hst hnr hn4
      go_wp2_with fail
      refine HNw.out.mono ?_
      rintro e w7 ⟨rfl, rfl⟩
      go_wp2_with fail
      refine HLg.out.mono ?_
      rintro e w7 ⟨vl, rfl, hv1, hv2⟩
      obtain ⟨la, lc, rfl⟩ := hv1.val
      have HT7 := Lib.hid (HTk.out w7 hv2)
      clear hv1 hv2 k0 HNw HLg HTk
      go_wp2_with fail
      refine HT7.out.mono ?_
      rintro e w8 ⟨rfl, x2, M2, o2, hs2, -⟩
      have HS2 := Lib.hid hs2
      have HN2 := Lib.hid hs2.now.1
      clear hs2 HT7
      go_wp2_with fail
      go_roundw
      case rel => exact ⟨n + 1, x2, M2, o2, by omega, HS2⟩
      case measure => rw [HN2.out, HNO.out]; omega
    · have hnE : n = E := by omega
      rw [hnE, zLog_late HQ.out.c0 (by rw [← HEe.out]; exact Nat.le_refl _)] at HLg
      rw [← HEe.out] at HLg
      rw [hnE] at hst HNw
      have HSE := Lib.hid hst.out
      clear hst hlt hn hnE
      go_wp2_with fail
      refine HNw.out.mono ?_
      rintro e w7 ⟨rfl, rfl⟩
      go_wp2_with fail
      refine HLg.out.mono ?_
      rintro e w7 ⟨vl, rfl, hv1, hv2⟩
      obtain ⟨lb, loff, lcap, rfl, hla⟩ := la_of HSE.out.k hv1
      have HLA := Lib.hid hla
      have HS7 := Lib.hid (HSE.out.below hv2)
      obtain ⟨q0, q1, q2, q3, _, _⟩ := hla
      clear hv1 hv2 HLg HNw k0 HSE
      go_wp2_with fail
      clear q0 q1 q2 q3
      go_loopw [] (fun wr => ∃ (n : Nat) (x' : KpX) (M' : KpM) (o' : Nat → Nat), E ≤ n ∧ n ≤ E + F ∧ Hid (SSt B sa w4 kb c clN opN cyN deN tolN n x' M' o' wr) ∧ Hid (LA lb loff E o' wr)) (fun wr => E + F - nowOf kb wr)
      case atStart => exact ⟨E, xa, Ma, oa, Nat.le_refl _, Nat.le_add_right _ _, HS7, HLA⟩
      case round =>
        obtain ⟨n, xb, Mb, ob, hn1, hn2, hst, hla⟩ := hrel
        clear HS7 HLA
        have HNw := Lib.hid (dogNow_any xb.d Mb.D wr hst.out.k.b.dog)
        rw [hst.out.now.2] at HNw
        obtain ⟨k0, k1, k2, k3, k4, k5, k6, k7, k8, k9, k10, kf⟩ := kp_cells hst.out.k.box
        clear k1 k2 k3 k4 k5 k6 k7 k8 k9 k10 kf
        have HTo := Lib.hid (kpTotal_any hst.out.k)
        by_cases hlt : n < E + F
        · have hltI : (n : Int) < (E : Int) + F := by omega
          have hms : Mb.st = .expired := by
            have h1 := congrArg Prod.snd hst.out.z.tot
            have h2 := zSt_mid (tol := tolN) (cy := cyN) (de := deN) (n := n) HQ.out.c0 (by rw [← HEe.out]; exact hn1) (by have := HST.out; unfold zStops at this; omega)
            exact h1.trans h2
          rw [hms, show St.expired.str = ⟨#[101, 120, 112, 105, 114, 101, 100]⟩ from rfl] at HTo
          have hnr : ¬ clN + opN < n + 1 - (zDog clN cyN (zStops cyN deN tolN) n).1 := by
            have := zDog_safe HQ.out n (by rw [HST.out]; omega)
            omega
          have HTk := Lib.hid (hst.out.tick HQ.out (by omega) hnr)
          have HNO := Lib.hid hst.out.now.1
          clear hnr hms hst
          go_wp2_with fail
          refine HNw.out.mono ?_
          rintro e w7 ⟨rfl, rfl⟩
          go_wp2_with fail
          refine HTo.out.mono ?_
          rintro e w7 ⟨rfl, rfl⟩
          go_wp2_with fail
          refine HTk.out.mono ?_
          rintro e w8 ⟨rfl, x2, M2, o2, hs2, hf2⟩
          have HS2 := Lib.hid hs2
          have HN2 := Lib.hid hs2.now.1
          have HL2 := Lib.hid (hla.out.fr hf2)
          clear hs2 hf2 HTk hla
          go_wp2_with fail
          go_roundw
          case rel => exact ⟨n + 1, x2, M2, o2, by omega, by omega, HS2, HL2⟩
          case measure => rw [HN2.out, HNO.out]; omega
        · have hnE : n = zStops cyN deN tolN := by rw [HST.out]; omega
          have hltI : ¬ (n : Int) < (E : Int) + F := by omega
          rw [hnE] at hst
          have hms : Mb.st = .stopped := by
            have h1 := congrArg Prod.snd hst.out.z.tot
            have h2 := zSt_late (tol := tolN) (cy := cyN) (de := deN) (n := zStops cyN deN tolN) HQ.out.c0 (Nat.le_refl _)
            exact h1.trans h2
          rw [hms, show St.stopped.str = ⟨#[115, 116, 111, 112, 112, 101, 100]⟩ from rfl] at HTo
          have HKs := Lib.hid (dogKicks_any xb.d Mb.D wr hst.out.k.b.dog)
          rw [hst.out.z.D] at HKs
          obtain ⟨kN, hkN⟩ : ∃ kN, kN = (zDog clN cyN (zStops cyN deN tolN) (zStops cyN deN tolN)).2 := ⟨_, rfl⟩
          simp only [← hkN] at HKs
          have hs2 : 2 ≤ zStops cyN deN tolN := by
            unfold zStops
            have := HQ.out.c0
            exact Nat.le_trans (by omega) (Nat.mul_le_mul (show 2 ≤ tolN + 2 + deN by omega) this)
          have hsf : zStops cyN deN tolN + 0 - (zDog clN cyN (zStops cyN deN tolN) (zStops cyN deN tolN)).1 ≤ clN + opN := by
            have h1 := zDog_safe HQ.out (zStops cyN deN tolN - 1) (by omega)
            rw [zDog_const (zStops cyN deN tolN - 1) (zStops cyN deN tolN) (by omega) (by omega)] at h1
            omega
          have HL3 : Hid (L3 B sa w4 kb c clN opN cyN deN tolN lb loff E 0 wr) := (show L3 B sa w4 kb c clN opN cyN deN tolN lb loff E 0 wr from .inl ⟨xb, Mb, ob, hst.out, hla.out, hsf⟩)
          have HKN := Lib.hid hkN
          clear hst hla hms hs2 hsf hkN hnE hlt hn1 hn2
          go_wp2_with fail
          refine HNw.out.mono ?_
          rintro e w7 ⟨rfl, rfl⟩
          go_wp2_with fail
          refine HKs.out.mono ?_
          rintro e w7 ⟨rfl, rfl⟩
          go_wp2_with fail
          refine HTo.out.mono ?_
          rintro e w7 ⟨rfl, rfl⟩
          clear HNw HKs HTo k0 hltI
          go_wp2_with fail
          go_loopw [20] (fun s wr => ∃ (i : Nat), i ≤ clN + opN ∧ s = .int .i64 i ∧ Hid (L3 B sa w4 kb c clN opN cyN deN tolN lb loff E i wr)) (fun s _ => clN + opN + 2 - (intOf s).toNat)
          case atStart => exact ⟨0, Nat.zero_le _, rfl, HL3⟩
          case round =>
            obtain ⟨i, hi, rfl, h3⟩ := hrel
            clear HL3
            have hiI : (i : Int) ≤ (clN : Int) + opN := by omega
            have hs3 := HST.out
            have hs4 : E ≤ 720 ∧ F ≤ 1200 := by omega
            rcases h3.out with ⟨xc, Mc, oc, hst, hla, hsf⟩ | ⟨nr, xc, Mc, oc, hre, hla, hnr, hnr2⟩
            · have HSt := Lib.hid (kpState_any hst.k)
              rw [kpState_on hst.z.on] at HSt
              have hzc := zDog_const (cl := clN) (cy := cyN) (de := deN) (tol := tolN) (zStops cyN deN tolN + i) (zStops cyN deN tolN) (by omega) (by omega)
              have hs2 : 2 ≤ zStops cyN deN tolN := by
                unfold zStops
                have := HQ.out.c0
                exact Nat.le_trans (by omega) (Nat.mul_le_mul (show 2 ≤ tolN + 2 + deN by omega) this)
              have hlast : (zDog clN cyN (zStops cyN deN tolN) (zStops cyN deN tolN)).1 ≤ zStops cyN deN tolN - 1 := by
                rw [zDog_const (zStops cyN deN tolN) (zStops cyN deN tolN - 1) (by omega) (by omega)]
                exact zDog_le HQ.out _
              have hi1 : i + 1 ≤ clN + opN := by omega
              have HLA := Lib.hid hla
              by_cases hr : clN + opN < zStops cyN deN tolN + i + 1 - (zDog clN cyN (zStops cyN deN tolN) (zStops cyN deN tolN + i)).1
              · have HTk := Lib.hid (hst.reset (by omega) hr)
                have hb1 : zStops cyN deN tolN ≤ zStops cyN deN tolN + i := Nat.le_add_right _ _
                have hb2 : zStops cyN deN tolN + i ≤ 10000 := by omega
                have HBB := Lib.hid (And.intro hb1 hb2)
                clear hst hla h3 hzc hs2 hlast hr hsf hb1 hb2 hs3 hs4
                go_wp2_with fail
                refine HSt.out.mono ?_
                rintro e w8 ⟨rfl, rfl⟩
                go_wp2_with fail
                refine HTk.out.mono ?_
                rintro e w8 ⟨rfl, x2, M2, o2, hs2, hf2⟩
                have HL4 : Hid (L3 B sa w4 kb c clN opN cyN deN tolN lb loff E (i + 1) w8) := (show L3 B sa w4 kb c clN opN cyN deN tolN lb loff E (i + 1) w8 from .inr ⟨_, x2, M2, o2, hs2, HLA.out.fr hf2, HBB.out.1, HBB.out.2⟩)
                clear hs2 hf2 HTk HSt
                go_wp2_with fail
                go_roundw
                case rel => exact ⟨i + 1, hi1, by go_num, HL4⟩
                case measure => simp [intOf]; omega
              · have HTk := Lib.hid (hst.tick HQ.out (by omega) hr)
                have hsf2 : zStops cyN deN tolN + (i + 1) - (zDog clN cyN (zStops cyN deN tolN) (zStops cyN deN tolN)).1 ≤ clN + opN := by
                  rw [hzc] at hr; omega
                have HSF := Lib.hid hsf2
                clear hst hla h3 hzc hs2 hlast hr hsf hsf2 hs3 hs4
                go_wp2_with fail
                refine HSt.out.mono ?_
                rintro e w8 ⟨rfl, rfl⟩
                go_wp2_with fail
                refine HTk.out.mono ?_
                rintro e w8 ⟨rfl, x2, M2, o2, hs2, hf2⟩
                have HL4 : Hid (L3 B sa w4 kb c clN opN cyN deN tolN lb loff E (i + 1) w8) := (show L3 B sa w4 kb c clN opN cyN deN tolN lb loff E (i + 1) w8 from .inl ⟨x2, M2, o2, hs2, HLA.out.fr hf2, HSF.out⟩)
                clear hs2 hf2 HTk HSt
                go_wp2_with fail
                go_roundw
                case rel => exact ⟨i + 1, hi1, by go_num, HL4⟩
                case measure => simp [intOf]; omega
            · have HSt := Lib.hid (kpState_any hre.k)
              rw [hre.state] at HSt
              have HKs := Lib.hid (dogKicks_any xc.d Mc.D wr hre.k.b.dog)
              rw [hre.kicks, zDog_const nr (zStops cyN deN tolN) (by omega) (by omega), ← HKN.out] at HKs
              have HTk := Lib.hid (hre.tick (by omega))
              obtain ⟨k0, k1, k2, k3, k4, k5, k6, k7, k8, k9, k10, kf⟩ := kp_cells hre.k.box
              have HLA := Lib.hid hla
              have HNR := Lib.hid (And.intro hnr hnr2)
              clear k1 k2 k3 k4 k5 k6 k7 k8 k9 k10 kf hre hla h3 hnr hnr2 hs3 hs4
              go_wp2_with fail
              refine HSt.out.mono ?_
              rintro e w8 ⟨rfl, rfl⟩
              go_wp2_with fail
              refine HSt.out.mono ?_
              rintro e w8 ⟨rfl, rfl⟩
              go_wp2_with fail
              refine HKs.out.mono ?_
              rintro e w8 ⟨rfl, rfl⟩
              go_wp2_with fail
              refine HTk.out.mono ?_
              rintro e w8 ⟨rfl, x2, o2, hs2, hf2⟩
              have HS8 := Lib.hid hs2
              have HL8 := Lib.hid (HLA.out.fr hf2)
              have HB8 := Lib.hid (HB4.out.trans (hs2.k.b.bel.mono HB4.out.size))
              have HCo := Lib.hid (coded3_any B sa 11 (by decide) 11 w8 (HSN.out.1.low HB8.out HSN.out.1.top))
              rw [show decide (((11 : Nat) : Int) = 11) = true from rfl] at HCo
              clear hs2 hf2 HTk HSt HKs k0 HLA
              go_wp2_with fail
              refine HCo.out.mono ?_
              rintro e w9 ⟨rfl, b9⟩
              have HBg := Lib.hid ((HS8.out.below b9).begin)
              have HL9 := Lib.hid (HL8.out.below b9)
              clear b9 HCo HB8 HL8 HS8
              go_wp2_with fail
              refine HBg.out.mono ?_
              rintro e w10 ⟨rfl, x3, o3, hs3, hf3⟩
              have HS10 := Lib.hid hs3
              have HL10 := Lib.hid (HL9.out.fr hf3)
              have HB10 := Lib.hid (HB4.out.trans (hs3.k.b.bel.mono HB4.out.size))
              have HCo := Lib.hid (coded3_any B sa 11 (by decide) 11 w10 (HSN.out.1.low HB10.out HSN.out.1.top))
              rw [show decide (((11 : Nat) : Int) = 11) = true from rfl] at HCo
              clear hs3 hf3 HBg HL9
              go_wp2_with fail
              refine HCo.out.mono ?_
              rintro e w11 ⟨rfl, b11⟩
              have HBo := Lib.hid ((HS10.out.below b11).boot HQ.out HNR.out.1 HNR.out.2)
              have HL11 := Lib.hid (HL10.out.below b11)
              clear b11 HCo HB10 HL10 HS10
              go_wp2_with fail
              refine HBo.out.mono ?_
              rintro e w12 ⟨rfl, x4, N, o4, hs4, hf4⟩
              have HS12 := Lib.hid hs4
              have HL12 := Lib.hid (HL11.out.fr hf4)
              have HSt := Lib.hid (kpState_any hs4.k)
              rw [kpState_on hs4.on] at HSt
              have HTo := Lib.hid (kpTotal_any hs4.k)
              rw [hs4.st, show St.ok.str = ⟨#[111, 107]⟩ from rfl] at HTo
              have HPw := Lib.hid (cellsPower_any c x4.rb _ x4.cap N.m w12 hs4.k.b.mem)
              rw [hs4.off, show (!false) = true from rfl] at HPw
              have HCa := Lib.hid (kpCause_any hs4.k hs4.ok)
              rw [hs4.L, ← HEe.out, show recAgg (lastZ [(⟨1, 0, 1, E⟩ : RecV)]) = .agg #[.int .i64 1, .int .i64 0, .int .i64 1, .int .i64 (E : Int)] from rfl, show (!([(⟨1, 0, 1, E⟩ : RecV)].isEmpty)) = true from rfl] at HCa
              clear hs4 hf4 HBo HL11
              go_wp2_with fail
              refine HSt.out.mono ?_
              rintro e w13 ⟨rfl, rfl⟩
              go_wp2_with fail
              refine HTo.out.mono ?_
              rintro e w13 ⟨rfl, rfl⟩
              go_wp2_with fail
              refine HPw.out.mono ?_
              rintro e w13 ⟨rfl, rfl⟩
              go_wp2_with fail
              refine HCa.out.mono ?_
              rintro e w13 ⟨rfl, b13⟩
              have HL13 := Lib.hid (HL12.out.below b13)
              have HB13 := Lib.hid ((HB4.out.trans (HS12.out.k.b.bel.mono HB4.out.size)).trans (b13.mono (HB4.out.trans (HS12.out.k.b.bel.mono HB4.out.size)).size))
              clear b13 HSt HTo HPw HCa HS12 HL12
              go_upto_region 32 with fail
              have na := get_alloc_new w13 (.cells #[.int .i64 1, .int .i64 0, .int .i64 1, .int .i64 (E : Int)] 63)
              have hba : Below w13.heap.size w13 (w13.alloc (.cells #[.int .i64 1, .int .i64 0, .int .i64 1, .int .i64 (E : Int)] 63)) := (Below.refl _ _).alloc (Nat.le_refl _) _
              have HB14 := Lib.hid (HB13.out.trans (hba.mono HB13.out.size))
              obtain ⟨q0, q1, q2, q3, _, _⟩ := HL13.out.below hba
              clear hba HB13 HL13
              generalize w13.alloc _ = w14 at na HB14 q0 q1 q2 q3 ⊢
              obtain ⟨x0, x1, x2, x3⟩ := four_cells na
              clear na
              go_quiet (fail)
              go_wp2_with fail
              go_ret
              exact ⟨rfl, below_drewN' _ HB14.out⟩
end Go.Proofs.YtakjbjokekbmbaaGreatDoor
