import Derived.Test.YtikehilbmldadaaGreatDoorQ25
import Derived.Deep.RegionLaw
import Derived.Deep.DeepMust
set_option maxHeartbeats 4000000
set_option maxRecDepth 100000
namespace Go.Proofs.YtikehilbmldadaaGreatDoor
open Go.RowKit
set_option linter.unusedVariables false
section
variable {B : Nat} {sa : Nat → Addr} {w0 : World} {kb c : Nat} {txt : ByteArray} {x : KpX} {M : KpM} {o : Nat → Nat} {w : World} {T : Nat}
theorem kpEnd_any (h : KpIn B sa w0 kb c txt x M o w) (hO : KpOk M T) (ho : M.m.off = false) :
    Calls Tryz.prog 85 #[.pointer (some ⟨kb, 0, none⟩)] w (KpPost B sa w0 kb c txt (kpEnd M) o w) := by
  unfold KpPost
  obtain ⟨i0, hi0, hz0, hz1, hz2⟩ := info_parts Tryz.infoStr
  obtain ⟨k0, k1, k2, k3, k4, k5, k6, k7, k8, k9, k10, kf⟩ := kp_cells h.box
  obtain ⟨ao, cap, hv, hc1, hc2, _⟩ := h.row
  rw [hv] at k8
  have h8 := hO.an8
  have H := Lib.hid h
  have HOk := Lib.hid hO
  have HW0 := Lib.hid h.b.bel.size
  have HST0 := Lib.hid (endSt_start h hO ho)
  have HKP := Lib.hid hv
  clear h hO ho k0 k1 k2 k3 k4 k5 k6 k7 k9 k10 kf hv
  go_enter Tryz.func85, Tryz.ntmps85
  go_wp2_with fail
  go_loopw [3, 15] (fun s3 s15 wr => ∃ (i : Nat) (a1 : Option Addr) (j1 : Nat) (M' : KpM) (lv : Value) (o' : Nat → Nat), i ≤ M.A.length ∧ s3 = .slice a1 i j1 ∧ s15 = .int .i64 i ∧ Hid (EndSt B sa w0 kb c txt x M T o w 0 i i (.slice a1 i j1) M' lv o' wr)) (fun _ s15 _ => M.A.length - (intOf s15).toNat)
  case atStart => exact ⟨0, none, 0, M, x.lv, o, Nat.zero_le _, rfl, rfl, HST0⟩
  case round =>
    obtain ⟨i, a1, j1, M', lv, o', hi, rfl, rfl, hst⟩ := hrel
    clear HST0 k8
    by_cases hlt : i < M.A.length
    · have hltI : (i : Int) < M.A.length := by omega
      obtain ⟨ao', cap', hv', hc1', hc2', hrow⟩ := hst.out.st.row
      have hAe := hst.out.mid.eA
      obtain ⟨b, off, l, y, hao, q1, q2, q3, q4⟩ := hrow i (by omega)
      have hvv := HKP.out
      rw [show x.vl = (xLv x lv).vl from rfl, hv', hao, hAe] at hvv
      injection hvv with e1 e2 e3
      subst e1
      obtain ⟨p1, p, t, p2, p3⟩ := hst.out.st.loc i l y q2 q3
      have Q := Lib.hid (And.intro q2 (And.intro q3 (And.intro q4 (And.intro p1 p2))))
      clear hv' hc1' hc2' hrow hAe hao e2 e3 q2 q3 q4 p1 p2
      cases ha : kpGet M' i with
      | none =>
        rw [ha] at p3
        have HEn := Lib.hid (localEnd_idle l y.E y.p y.g y.e y.f y.l wr p3)
        have HE := Lib.hid (hst.out.idle HOk.out hlt ha)
        clear p3 ha hst
        go_wp2_with fail
        refine HEn.out.mono ?_
        rintro e w1 ⟨rfl, rfl⟩
        clear HEn
        have HStat := Lib.hid (HE.out.stat i Q.out.1 Q.out.2.1)
        have HLay := Lib.hid (HE.out.lay hlt HW0.out)
        obtain ⟨S, hS⟩ : ∃ S, S = kpStat (kpGet M' i) := ⟨_, rfl⟩
        rw [← hS] at HStat HLay
        have h63 : Hid (i + 1 ≤ maxLen) := (show i + 1 ≤ maxLen from by unfold maxLen; omega)
        have hby : Hid ((i + 1) * 16 ≤ 140737488355328) := (show (i + 1) * 16 ≤ 140737488355328 from by omega)
        clear hS
        go_wp2_with fail
        refine HStat.out.mono ?_
        rintro e wz ⟨rfl, rfl⟩
        go_wp2_with (at_builtin; go_must (refine wpList_append_off rfl (.tmp 44) (.tmp 47) 22 rfl w.heap.size 9 i0 _ 1 16 Tryz.underlying22 hi0 hz0 hz1 hz2 rfl (by decide) _ i _ rfl (HLay.out.1 _).1 ⟨World.heap wr |>.size, 0, none⟩ 1 1 [.string S] rfl rfl (new_cells _ [.string S] _) (by intro u hu; simp at hu; subst hu; rfl) h63.out hby.out (HLay.out.1 _).2 ?_; intro a2 k2 w4 ho hg hn; have nx := Lib.hid (HLay.out.2 _ w4 a2 k2 ho hg hn); clear ho hg hn))
        go_roundw
        case rel => exact ⟨i + 1, a2, k2, M', lv, o', by omega, rfl, by go_num, nx⟩
        case measure => simp [intOf]; omega
      | some a =>
        rw [ha] at p3
        have hr := hst.out.mid.run i a ha
        rw [if_neg (by omega)] at hr
        have hT := HOk.out.t
        have HEn := Lib.hid (localEnd_any l p t y.E y.p y.g y.e y.f y.l a wr p3 hr.1 (by omega))
        obtain ⟨kd, hkd⟩ : ∃ kd, kd = locKind y.E a := ⟨_, rfl⟩
        rw [← hkd] at HEn
        cases hn : locNow y.E a with
        | false =>
          rw [hn] at HEn
          have HE1 := Lib.hid (fun w1 (kk : Keep (fun b => p ≤ b ∧ b < t) wr w1) (hl : LocAt l p t y.E y.p y.g y.e y.f y.l (locEnd y.E a) w1) => hst.out.ended HOk.out hlt ha Q.out.1 Q.out.2.1 Q.out.2.2.1 Q.out.2.2.2.2 kk hl (by rw [Q.out.2.2.1]; exact hn))
          obtain ⟨MM, hMM⟩ : ∃ MM, MM = kpSet M' i (some (locEnd (kpEnt M' i) a)) := ⟨_, rfl⟩
          rw [← hMM] at HE1
          clear p3 ha hst hr hT hn hkd hMM
          go_wp2_with fail
          refine HEn.out.mono ?_
          rintro e w1 ⟨rfl, l1, k1⟩
          have HE := Lib.hid (HE1.out w1 k1 l1)
          clear HEn l1 k1 HE1 q1
          have HStat := Lib.hid (HE.out.stat i Q.out.1 Q.out.2.1)
          have HLay := Lib.hid (HE.out.lay hlt HW0.out)
          obtain ⟨S, hS⟩ : ∃ S, S = kpStat (kpGet MM i) := ⟨_, rfl⟩
          rw [← hS] at HStat HLay
          have h63 : Hid (i + 1 ≤ maxLen) := (show i + 1 ≤ maxLen from by unfold maxLen; omega)
          have hby : Hid ((i + 1) * 16 ≤ 140737488355328) := (show (i + 1) * 16 ≤ 140737488355328 from by omega)
          clear hS
          go_wp2_with fail
          refine HStat.out.mono ?_
          rintro e wz ⟨rfl, rfl⟩
          go_wp2_with (at_builtin; go_must (refine wpList_append_off rfl (.tmp 44) (.tmp 47) 22 rfl w.heap.size 9 i0 _ 1 16 Tryz.underlying22 hi0 hz0 hz1 hz2 rfl (by decide) _ i _ rfl (HLay.out.1 _).1 ⟨World.heap w1 |>.size, 0, none⟩ 1 1 [.string S] rfl rfl (new_cells _ [.string S] _) (by intro u hu; simp at hu; subst hu; rfl) h63.out hby.out (HLay.out.1 _).2 ?_; intro a2 k2 w4 ho hg hn; have nx := Lib.hid (HLay.out.2 _ w4 a2 k2 ho hg hn); clear ho hg hn))
          go_roundw
          case rel => exact ⟨i + 1, a2, k2, MM, lv, o', by omega, rfl, by go_num, nx⟩
          case measure => simp [intOf]; omega
        | true =>
          rw [hn] at HEn
          obtain ⟨r, hR⟩ : ∃ r, r = ringApp M'.m M'.L M'.dead i kd M'.D.now := ⟨_, rfl⟩
          have hR2 : ringApp M'.m M'.L M'.dead i (locKind (kpEnt M' i) a) M'.D.now = r := by rw [Q.out.2.2.1, ← hkd]; exact hR.symm
          have HE1 := Lib.hid (fun (w1 W w2 : World) (lv' : Value) (kk : Keep (fun b => p ≤ b ∧ b < t) wr w1) (hl : LocAt l p t y.E y.p y.g y.e y.f y.l (locEnd y.E a) w1) (hb : Below w1.heap.size w1 W) h3 k2 hv => hst.out.logged (w2 := w2) (lv' := lv') HOk.out hlt ha Q.out.1 Q.out.2.1 Q.out.2.2.1 Q.out.2.2.2.2 kk hl (by rw [Q.out.2.2.1]; exact hn) hb hR2 h3 k2 hv)
          have HB := Lib.hid (hst.out.bds hT (by omega))
          have HLT := Lib.hid hst.out.lts
          have HVB := Lib.hid (And.intro hst.out.fr.kp.size (fun b hb => (hst.out.row.lt b hb).2))
          have HAp := Lib.hid (fun (w1 W : World) (kk : Keep (fun b => p ≤ b ∧ b < t) wr w1) (hl : LocAt l p t y.E y.p y.g y.e y.f y.l (locEnd y.E a) w1) (hb : Below w1.heap.size w1 W) => (ringAppend_any B sa w0 x.rg c x.rb x.cap M'.m M'.dead M'.L lv i kd M'.D.now _ W (hst.out.rst Q.out.1 Q.out.2.1 Q.out.2.2.2.2 kk hl hb) HB.out.1 HB.out.2.1 HB.out.2.2.1 HB.out.2.2.2.1 HB.out.2.2.2.2).mono
            (R' := fun e w2 => e = .returned (.tuple #[recAgg r.2.1, errv sa r.1]) ∧ (r.1 = 0 ∨ r.1 = 8) ∧ ∃ lv' o2, EndSt B sa w0 kb c txt x M T o w r.1 (i + 1) i (.slice a1 i j1) { kpSet M' i (some (locEnd (kpEnt M' i) a)) with m := r.2.2.1, L := r.2.2.2.1, dead := r.2.2.2.2 } lv' o2 w2 ∧ ∀ b, w1.heap.size ≤ b → b < W.heap.size → w2.heap[b]? = W.heap[b]? ∧ o2 b = 0)
            (fun e w2 hh => by
              rw [← hR] at hh
              obtain ⟨g1, lv', g2, g3, g4⟩ := hh
              obtain ⟨g5, o2, g6, g7⟩ := HE1.out w1 W w2 lv' kk hl hb g2 g3 g4
              exact ⟨g1, g5, lv', o2, g6, fun b h1 h2 => ⟨g3.block b h2 (fun hh => by have := HLT.out; have := kk.size; omega), g7 b h1 h2⟩⟩))
          have HHf := Lib.hid (fun w1 (kk : Keep (fun b => p ≤ b ∧ b < t) wr w1) (hl : LocAt l p t y.E y.p y.g y.e y.f y.l (locEnd y.E a) w1) => hst.out.half Q.out.1 Q.out.2.1 Q.out.2.2.2.2 kk hl)
          obtain ⟨MM, hMM⟩ : ∃ MM : KpM, MM = { kpSet M' i (some (locEnd (kpEnt M' i) a)) with m := r.2.2.1, L := r.2.2.2.1, dead := r.2.2.2.2 } := ⟨_, rfl⟩
          rw [← hMM] at HAp
          obtain ⟨rr, rq⟩ := r
          obtain ⟨rx, rs⟩ := rq
          unfold recAgg at HAp
          simp only at HAp
          clear p3 ha hst hr hn hkd hMM hR hR2 HE1 HB HLT
          go_wp2_with fail
          refine HEn.out.mono ?_
          rintro e w1 ⟨rfl, l1, k1⟩
          obtain ⟨c0, c7, dg⟩ := HHf.out w1 k1 l1
          have hkb : kb < w1.heap.size := World.block_lt_of_cell? w1 ⟨kb, 0, none⟩ c0
          have HNow := Lib.hid (fun W (hW : Below w1.heap.size w1 W) => dogNow_any x.d M'.D W (DogAt.keep dg (below_keep hW) (fun h => h)))
          have HAp1 := Lib.hid (fun W (hW : Below w1.heap.size w1 W) => HAp.out w1 W k1 l1 hW)
          obtain ⟨nw, hnw⟩ : ∃ nw, nw = M'.D.now := ⟨_, rfl⟩
          rw [← hnw] at HNow HAp1
          have hw1 := k1.size
          clear HEn HAp HHf l1 k1 dg hnw q1
          go_upto_region 7 with fail
          go_region_law (first | (go_simp; go_at_call 26; refine (HNow.out _ ?_).mono ?_; (repeat (first | exact Below.refl _ _ | refine Below.drew ?_ | refine Below.alloc ?_ (Nat.le_refl _) _)); rintro e wN ⟨rfl, rfl⟩) | (go_simp; go_at_call 152; refine (HAp1.out _ ?_).mono ?_; (repeat (first | exact Below.refl _ _ | refine Below.drew ?_ | refine Below.alloc ?_ (Nat.le_refl _) _)); rintro e w2 ⟨rfl, hq, lv2, o2, hE2, hk2⟩; (try (have hx9 := hk2 w1.heap.size (Nat.le_refl _) (by simp); have hx2 := hx9.1.trans (get_alloc_new w1 (.cells #[.int .i64 0, .int .i64 0, .int .i64 0, .int .i64 0] 147)); obtain ⟨x0, x1, x2, x3⟩ := four_cells hx2; have xf : ∀ o, w2.frozen? ⟨w1.heap.size, o, none⟩ = false := (fun o => frozen_of hx2)))))
          all_goals
            first
              | (have HE2 := Lib.hid (hE2.boxB hx9.2 HW0.out (Nat.le_trans HVB.out.1 hw1) (fun b hb => by have := HVB.out.2 b hb; omega) (.int .i64 rx.seq) (.int .i64 rx.ent) (.int .i64 rx.kind) (.int .i64 rx.tick)); clear hx9 hx2 x0 x1 x2 x3 xf hE2 hk2 c0 c7 hkb; go_upto_region 8 with fail; generalize World.setCell _ _ _ = w3 at HE2 ⊢)
              | (have HE2 := Lib.hid (hE2.below ((Below.refl _ _).alloc (Nat.le_refl _) (.cells #[.int .i64 rx.seq, .int .i64 rx.ent, .int .i64 rx.kind, .int .i64 rx.tick] 147))); clear hE2 hk2 c0 c7 hkb; go_upto_region 8 with fail; generalize World.alloc _ _ = w3 at HE2 ⊢)
            rcases hq with rfl | rfl
            · rw [errv_zero]
              have HStat := Lib.hid (HE2.out.stat i Q.out.1 Q.out.2.1)
              have HLay := Lib.hid (HE2.out.lay hlt HW0.out)
              obtain ⟨S, hS⟩ : ∃ S, S = kpStat (kpGet MM i) := ⟨_, rfl⟩
              rw [← hS] at HStat HLay
              have h63 : Hid (i + 1 ≤ maxLen) := (show i + 1 ≤ maxLen from by unfold maxLen; omega)
              have hby : Hid ((i + 1) * 16 ≤ 140737488355328) := (show (i + 1) * 16 ≤ 140737488355328 from by omega)
              clear hS
              go_wp2_with fail
              refine HStat.out.mono ?_
              rintro e wz ⟨rfl, rfl⟩
              go_wp2_with (at_builtin; go_must (refine wpList_append_off rfl (.tmp 44) (.tmp 47) 22 rfl w.heap.size 9 i0 _ 1 16 Tryz.underlying22 hi0 hz0 hz1 hz2 rfl (by decide) _ i _ rfl (HLay.out.1 _).1 ⟨World.heap w3 |>.size, 0, none⟩ 1 1 [.string S] rfl rfl (new_cells _ [.string S] _) (by intro u hu; simp at hu; subst hu; rfl) h63.out hby.out (HLay.out.1 _).2 ?_; intro a2 k2 w4 ho hg hn; have nx := Lib.hid (HLay.out.2 _ w4 a2 k2 ho hg hn); clear ho hg hn))
              go_roundw
              case rel => exact ⟨i + 1, a2, k2, MM, lv2, o2, by omega, rfl, by go_num, nx⟩
              case measure => simp [intOf]; omega
            · rw [show errv sa 8 = .iface 372 (.pointer (some (sa 7))) from rfl]
              go_wp2_with fail
              go_ret
              rw [kpEnd_bad HE2.out.e hlt]
              exact ⟨rfl, _, o2, HE2.out.st, HE2.out.fr⟩
    · have hin : i = M.A.length := by omega
      subst hin
      have HEg := Lib.hid (kpEnd_good hst.out.e)
      obtain ⟨k0, k1, k2, k3, k4, k5, k6, k7, k8, k9, k10, kf⟩ := kp_cells hst.out.st.box
      clear k0 k1 k2 k3 k4 k5 k6 k7 k8 k10 kf
      have htn : TInv M'.C.delay M'.sn M'.st := by rw [hst.out.mid.eC, hst.out.mid.es, hst.out.mid.et]; exact HOk.out.tin
      have hdl := boundC_parts HOk.out.bound
      rw [← hst.out.mid.eC] at hdl
      have HTe := Lib.hid (totalEnd_any _ x.tb M'.C.delay M'.sn M'.st (M'.A.map kpStat) (.slice a1 M.A.length j1) wr hst.out.st.tot htn.s0 (by have := htn.s1; omega) hst.out.fin)
      have HTt := Lib.hid (fun w1 (k : Keep (· = x.tb) wr w1) (t : TotalAt w1 x.tb M'.C.delay (St.next M'.C.delay M'.sn M'.st (M'.A.map kpStat)).1 (St.next M'.C.delay M'.sn M'.st (M'.A.map kpStat)).2) => (show KpIn B sa w0 kb c txt (xLv x lv) (kpTot M') o' w1 ∧ Fr o o' w w1 from ⟨hst.out.st.tot' k t, hst.out.fr.trans (Fr.of k (fun b hb => by rw [hb]; have : o' x.tb = 7 := hst.out.st.ot; omega))⟩))
      have HDk := Lib.hid (show DogOk (kpTot M').D from by show DogOk M'.D; rw [hst.out.mid.eD]; exact HOk.out.dog)
      obtain ⟨N, hN⟩ : ∃ N, N = kpTot M' := ⟨_, rfl⟩
      rw [← hN] at HEg HTt HDk
      clear htn hdl hst hN
      go_wp2_with fail
      refine HTe.out.mono ?_
      rintro e w1 ⟨rfl, t1, q1⟩
      obtain ⟨z1, z2⟩ := HTt.out w1 q1 t1
      have HZ := Lib.hid z1
      have HF := Lib.hid z2
      obtain ⟨k0, k1, k2, k3, k4, k5, k6, k7, k8, k9, k10, kf⟩ := kp_cells z1.box
      have HMy := Lib.hid (totalMay_any x.tb _ _ _ w1 z1.tot)
      have HOp := Lib.hid (dogOpen_any x.d N.D w1 z1.b.dog HDk.out)
      clear k1 k2 k3 k4 k5 k6 k7 k8 k10 kf t1 q1 z1 z2 HTe HTt
      by_cases hs : N.st = .stopped
      · rw [show decide (N.st ≠ .stopped) = false by rw [hs]; rfl] at HMy
        have hkk : kpKick N = N := by unfold kpKick; rw [if_neg (fun hh => hh.1 hs)]
        have HKK := Lib.hid hkk
        clear hkk hs
        go_wp2_with fail
        refine HMy.out.mono ?_
        rintro e w2 ⟨rfl, rfl⟩
        go_wp2_with fail
        go_ret
        rw [HEg.out, HKK.out]
        exact ⟨rfl, _, o', HZ.out, HF.out⟩
      · rw [show decide (N.st ≠ .stopped) = true by rw [decide_eq_true_eq]; exact hs] at HMy
        cases hop : dogOpen N.D with
        | false =>
          rw [hop] at HOp
          have hkk : kpKick N = N := by unfold kpKick; rw [if_neg (fun hh => by rw [hop] at hh; exact absurd hh.2 (by decide))]
          have HKK := Lib.hid hkk
          clear hkk hs hop
          go_wp2_with fail
          refine HMy.out.mono ?_
          rintro e w2 ⟨rfl, rfl⟩
          go_wp2_with fail
          refine HOp.out.mono ?_
          rintro e w2 ⟨rfl, kq⟩
          have HZ2 := Lib.hid (HZ.out.below kq.new)
          have HF2 := Lib.hid (HF.out.trans (Fr.below o' kq.new))
          clear kq
          go_wp2_with fail
          go_ret
          rw [HEg.out, HKK.out]
          exact ⟨rfl, _, o', HZ2.out, HF2.out⟩
        | true =>
          rw [hop] at HOp
          have hkk : kpKick N = { N with D := dogKick N.D } := by unfold kpKick; rw [if_pos ⟨hs, hop⟩]
          have HKK := Lib.hid hkk
          have HKe := Lib.hid (dogKickE_yes hop)
          clear hkk hs hop
          go_wp2_with fail
          refine HMy.out.mono ?_
          rintro e w2 ⟨rfl, rfl⟩
          go_wp2_with fail
          refine HOp.out.mono ?_
          rintro e w2 ⟨rfl, kq⟩
          have HZ2 := Lib.hid (HZ.out.below kq.new)
          have HF2 := Lib.hid (HF.out.trans (Fr.below o' kq.new))
          have hbd : B ≤ x.d := by
            have h1 : o' x.d = 2 := HZ.out.b.od
            exact Nat.le_trans HZ.out.b.bl (HZ.out.b.low x.d (by omega)).1
          have HKi := Lib.hid (dogKick_any B sa x.d N.D w2 HZ2.out.b.dog HDk.out HZ2.out.b.se hbd)
          rw [HKe.out, errv_zero] at HKi
          obtain ⟨k0', v1, v2, v3, v4, v5, v6, v7, v8, v9, v10, vf⟩ := kp_cells HZ2.out.box
          clear kq hbd v1 v2 v3 v4 v5 v6 v7 v8 v9 v10 vf k0 k9
          go_wp2_with fail
          refine HKi.out.mono ?_
          rintro e w3 ⟨rfl, g1, g2⟩
          have HZ3 := Lib.hid (HZ2.out.dog' g2 g1)
          have HF3 := Lib.hid (HF2.out.trans (Fr.of g2 (fun b hb => by rw [hb]; have : o' x.d = 2 := HZ2.out.b.od; omega)))
          clear g1 g2
          go_wp2_with fail
          go_ret
          rw [HEg.out, HKK.out]
          exact ⟨rfl, _, o', HZ3.out, HF3.out⟩
end
end Go.Proofs.YtikehilbmldadaaGreatDoor
