/- Package keeper: what it tells: State, Total, Status, Text, Log, Cause. -/
import Derived.Test.YtakjbjokekbmbaaGreatDoorR27
import Derived.Test.YtakjbjokekbmbaaGreatDoorR28
import Derived.Test.YtakjbjokekbmbaaGreatDoorR30
import Derived.Test.YtakjbjokekbmbaaGreatDoorR03
import Derived.Lib.Strings
import Derived.Lib.Slices
import Derived.Lib.Walk
import Derived.Lib.Builder
import Derived.Lib.AppendStr
import Derived.Lib.UnsafeStr
import Derived.Laws.Externs
import Derived.Laws.IdiomCopy
namespace Go.Proofs.YtakjbjokekbmbaaGreatDoor
open Go.RowKit
set_option linter.unusedVariables false

section
variable {B : Nat} {sa : Nat → Addr} {w0 : World} {kb c : Nat} {txt : ByteArray} {x : KpX} {M : KpM} {o : Nat → Nat} {w : World} {T : Nat}
set_option maxHeartbeats 1000000 in
theorem kpState_any (h : KpIn B sa w0 kb c txt x M o w) : Calls Tryz.prog 15 #[.pointer (some ⟨kb, 0, none⟩)] w fun e w' => e = .returned (.string (kpState M)) ∧ w = w' := by
  obtain ⟨k0, k1, k2, k3, k4, k5, k6, k7, k8, k9, k10, kf⟩ := kp_cells h.box
  have HP := Lib.hid (cellsPower_any c x.rb _ x.cap M.m w h.b.mem)
  have HR := Lib.hid (dogReset_any x.d M.D w h.b.dog)
  clear h k1 k2 k3 k4 k5 k7 k8 k9 k10 kf
  unfold kpState
  cases hx : M.m.off
  · rw [hx] at HP
    cases hr : M.D.reset
    · rw [hr] at HR
      go_enter Tryz.func15, Tryz.ntmps15
      go_wp2_with fail
      refine HP.out.mono ?_
      rintro e w1 ⟨rfl, rfl⟩
      go_wp2_with fail
      refine HR.out.mono ?_
      rintro e w1 ⟨rfl, rfl⟩
      go_wp2_with fail
      go_ret
      exact ⟨rfl, rfl⟩
    · rw [hr] at HR
      go_enter Tryz.func15, Tryz.ntmps15
      go_wp2_with fail
      refine HP.out.mono ?_
      rintro e w1 ⟨rfl, rfl⟩
      go_wp2_with fail
      refine HR.out.mono ?_
      rintro e w1 ⟨rfl, rfl⟩
      go_wp2_with fail
      go_ret
      exact ⟨rfl, rfl⟩
  · rw [hx] at HP
    go_enter Tryz.func15, Tryz.ntmps15
    go_wp2_with fail
    refine HP.out.mono ?_
    rintro e w1 ⟨rfl, rfl⟩
    go_wp2_with fail
    go_ret
    exact ⟨rfl, rfl⟩
set_option maxHeartbeats 1000000 in
theorem kpTotal_any (h : KpIn B sa w0 kb c txt x M o w) : Calls Tryz.prog 16 #[.pointer (some ⟨kb, 0, none⟩)] w fun e w' => e = .returned (.string M.st.str) ∧ w = w' := by
  obtain ⟨k0, k1, k2, k3, k4, k5, k6, k7, k8, k9, k10, kf⟩ := kp_cells h.box
  have HP := Lib.hid (totalStatus_any x.tb _ _ _ w h.tot)
  clear h k0 k1 k2 k3 k4 k5 k6 k7 k8 k10 kf
  go_enter Tryz.func16, Tryz.ntmps16
  go_wp2_with fail
  refine HP.out.mono ?_
  rintro e w1 ⟨rfl, rfl⟩
  go_wp2_with fail
  go_ret
  exact ⟨rfl, rfl⟩
set_option maxHeartbeats 1000000 in
theorem kpLog_any (h : KpIn B sa w0 kb c txt x M o w) (hO : KpOk M T) : Calls Tryz.prog 19 #[.pointer (some ⟨kb, 0, none⟩)] w fun e w' => ∃ v, e = .returned v ∧ SlOf (fun b => w.heap.size ≤ b) w' v 4 (M.L.flatMap recCells) M.L.length ∧ Below w.heap.size w w' := by
  obtain ⟨k0, k1, k2, k3, k4, k5, k6, k7, k8, k9, k10, kf⟩ := kp_cells h.box
  have HP := Lib.hid (ringRecords_any w x.rg c x.lv M.dead M.L _ ⟨h.rbox, h.rrow⟩ (by have := hO.l8; omega))
  clear h k0 k1 k2 k3 k4 k5 k6 k8 k9 k10 kf
  go_enter Tryz.func19, Tryz.ntmps19
  go_wp2_with fail
  refine HP.out.mono ?_
  rintro e w1 ⟨v, rfl, h1, h2⟩
  have H1 := Lib.hid h1
  have H2 := Lib.hid h2
  obtain ⟨ao, cap, rfl⟩ := h1.val
  clear h1 h2
  go_wp2_with fail
  go_ret
  exact ⟨_, rfl, H1.out, H2.out⟩
set_option maxHeartbeats 1000000 in
theorem kpCause_any (h : KpIn B sa w0 kb c txt x M o w) (hO : KpOk M T) : Calls Tryz.prog 24 #[.pointer (some ⟨kb, 0, none⟩)] w fun e w' => e = .returned (.tuple #[recAgg (lastZ M.L), .bool (!M.L.isEmpty)]) ∧ Below w.heap.size w w' := by
  have hba : Below w.heap.size w (w.alloc (recC ⟨0, 0, 0, 0⟩)) := (Below.refl _ _).alloc (Nat.le_refl _) _
  have hna := get_alloc_new w (recC ⟨0, 0, 0, 0⟩)
  have HBA := Lib.hid hba
  have HNA := Lib.hid hna
  have H := Lib.hid (h.below hba)
  have HL8 := Lib.hid hO.l8.1
  clear h hba hna
  unfold recC at HBA HNA H
  go_enter Tryz.func24, Tryz.ntmps24
  go_upto_region 1 with fail
  generalize w.alloc _ = w1 at HBA HNA H ⊢
  obtain ⟨k0, k1, k2, k3, k4, k5, k6, k7, k8, k9, k10, kf⟩ := kp_cells H.out.box
  have HP := Lib.hid (ringLast_any w1 x.rg c x.lv M.dead M.L _ ⟨H.out.rbox, H.out.rrow.here⟩ (fun b h => h) (by have := HL8.out; omega))
  clear k0 k1 k2 k3 k4 k5 k6 k8 k9 k10 kf
  unfold recAgg at HP
  go_wp2_with fail
  refine HP.out.mono ?_
  rintro e w2 ⟨rfl, b2⟩
  have hn2 := below_get b2 HNA.out (lt_of_get HNA.out)
  obtain ⟨z0, z1, z2, z3⟩ := four_cells hn2
  have zf : ∀ o, w2.frozen? ⟨w.heap.size, o, none⟩ = false := fun o => frozen_of hn2
  have HB2 := Lib.hid (HBA.out.trans (b2.mono HBA.out.size))
  clear k7 hn2 b2
  go_wp2_with fail
  refine bodyPost_ret (v := .tuple #[recAgg (lastZ M.L), .bool (!M.L.isEmpty)]) (by simp [recAgg, results, Tryz.results24, go_sem, z0, z1, z2, z3, World.cell?_setCell_same, World.cell?_setCell_other]) rfl ?_
  exact ⟨rfl, below_set4 HB2.out⟩
end
end Go.Proofs.YtakjbjokekbmbaaGreatDoor

/- Package keeper: Tick, Boot. -/
namespace Go.Proofs.YtakjbjokekbmbaaGreatDoor
open Go.RowKit
set_option linter.unusedVariables false

section
variable {B : Nat} {sa : Nat → Addr} {w0 : World} {kb c : Nat} {txt : ByteArray} {x : KpX} {M : KpM} {o : Nat → Nat} {w : World} {T : Nat}
theorem kpOn_off (h : kpOn M = 0) : M.m.off = false ∧ M.D.reset = false := by
  unfold kpOn at h
  cases h1 : M.m.off
  · rw [h1, if_neg (by decide)] at h
    cases h2 : M.D.reset
    · exact ⟨rfl, rfl⟩
    · rw [h2, if_pos rfl] at h; cases h
  · rw [h1, if_pos rfl] at h; cases h
set_option maxRecDepth 100000 in
set_option maxHeartbeats 4000000 in
theorem kpTick_any (h : KpIn B sa w0 kb c txt x M o w) (hO : KpOk M T) (hT : T + 2 ≤ 100000) :
    Calls Tryz.prog 20 #[.pointer (some ⟨kb, 0, none⟩)] w (KpPost B sa w0 kb c txt (kpTick M) o w) := by
  unfold KpPost
  have HOn := Lib.hid (kpOn_any h)
  have H := Lib.hid h
  have HOk := Lib.hid hO
  unfold kpTick
  by_cases h0 : kpOn M = 0
  · rw [h0] at HOn ⊢
    rw [if_neg (by decide)]
    obtain ⟨hoff, hres⟩ := kpOn_off h0
    obtain ⟨k0, k1, k2, k3, k4, k5, k6, k7, k8, k9, k10, kf⟩ := kp_cells h.box
    clear k1 k2 k3 k4 k5 k6 k7 k8 k9 k10 kf
    have hd := hO.dog
    have he : dogTickE M.D = 0 := by
      have hn := hO.now
      unfold dogTickE
      rw [hres, if_neg (by decide), if_neg (by omega)]
    rw [he, if_neg (by decide)]
    have HTi := Lib.hid (dogTick_any B sa x.d M.D w h.b.dog hd h.b.se)
    rw [he, errv_zero] at HTi
    obtain ⟨hk1, hk2, _⟩ := kpDog_ok hO (by omega) he
    have HK1 := Lib.hid hk1
    have HDg := Lib.hid (fun w1 (k : Keep (· = x.d) w w1) (g : DogAt w1 x.d (dogTick M.D)) => (show KpIn B sa w0 kb c txt x (kpDog M) o w1 ∧ Fr o o w w1 from ⟨h.dog' k g, Fr.of k (fun b hb => by rw [hb]; have := h.b.od; omega)⟩))
    have HOf := Lib.hid hoff
    have hn0 : 0 ≤ (dogTick M.D).now := by have := hk1.dog.l0; have := hk1.dog.ln; exact Int.le_trans ‹_› ‹_›
    obtain ⟨N, hN⟩ : ∃ N, N = kpDog M := ⟨_, rfl⟩
    have hND : dogTick M.D = N.D := by rw [hN]; rfl
    have hNC : M.C = N.C := by rw [hN]; rfl
    have hNm : M.m = N.m := by rw [hN]; rfl
    rw [hND, hNC, ← hN]
    rw [hND] at hn0 HTi HDg
    rw [← hN] at HDg HK1
    rw [hNm] at HOf
    have hcy := boundC_parts HK1.out.bound
    obtain ⟨cy, hcyE⟩ : ∃ cy, cy = N.C.cycle := ⟨_, rfl⟩
    obtain ⟨nw, hnwE⟩ : ∃ nw, nw = N.D.now := ⟨_, rfl⟩
    rw [← hcyE, ← hnwE]
    rw [← hcyE] at hcy
    rw [← hnwE] at hn0
    have hcy1 : 1 ≤ cy := hcy.2.2.2.2.1
    have hcyH := Lib.hid hcyE
    have hnwH := Lib.hid hnwE
    clear h hO h0 hoff hres hd he hk1 hk2 hN hND hNC hNm hcy hcyE hnwE
    cases hr : N.D.reset with
    | true =>
      rw [if_pos rfl]
      have HRe := Lib.hid (fun w1 (g : DogAt w1 x.d N.D) => (by have := dogReset_any x.d N.D w1 g; rw [hr] at this; exact this : Calls Tryz.prog 36 #[.pointer (some ⟨x.d, 0, none⟩)] w1 fun e w' => e = .returned (.bool true) ∧ w1 = w'))
      clear hr
      go_enter Tryz.func20, Tryz.ntmps20
      go_wp2_with fail
      refine HOn.out.mono ?_
      rintro e w1 ⟨rfl, rfl⟩
      rw [errv_zero]
      go_wp2_with fail
      refine HTi.out.mono ?_
      rintro e w1 ⟨rfl, g1, g2⟩
      have HR1 := Lib.hid (HRe.out w1 g1)
      obtain ⟨z1, z2⟩ := HDg.out w1 g2 g1
      have Z := Lib.hid (And.intro z1 z2)
      obtain ⟨j0, k1, k2, k3, k4, k5, k6, k7, k8, k9, k10, kf⟩ := kp_cells z1.box
      obtain ⟨_, _, _, _, _, _, _, _, _, _, s10⟩ := z1.b.se.all
      clear g1 g2 z1 z2 k0 k1 k2 k3 k4 k5 k6 k7 k8 k9 k10 kf
      go_wp2_with fail
      refine HR1.out.mono ?_
      rintro e w2 ⟨rfl, rfl⟩
      go_wp2_with fail
      go_ret
      exact ⟨rfl, x, o, Z.out.1, Z.out.2⟩
    | false =>
      rw [if_neg (by decide)]
      have HRe := Lib.hid (fun w1 (g : DogAt w1 x.d N.D) => (by have := dogReset_any x.d N.D w1 g; rw [hr] at this; exact this : Calls Tryz.prog 36 #[.pointer (some ⟨x.d, 0, none⟩)] w1 fun e w' => e = .returned (.bool false) ∧ w1 = w'))
      have HNw := Lib.hid (fun w1 q (g : DogAt w1 x.d N.D) => (by have := dogNow_any x.d N.D (w1.drewN q) (get_drewN q g); rw [← hnwH.out] at this; exact this : Calls Tryz.prog 17 #[.pointer (some ⟨x.d, 0, none⟩)] (w1.drewN q) fun e w' => e = .returned (.int .i64 nw) ∧ w1.drewN q = w'))
      have htm : nw.tmod cy = nw % cy := Int.tmod_eq_emod_of_nonneg hn0
      by_cases hc : nw % cy = 0
      · rw [if_pos hc]
        have hte : (nw % cy == 0) = true := by rw [hc]; rfl
        have HEnd := Lib.hid (fun w1 (g : KpIn B sa w0 kb c txt x N o w1) => kpEnd_any g HK1.out HOf.out)
        unfold KpPost at HEnd
        obtain ⟨r, hre⟩ : ∃ r, r = kpEnd N := ⟨_, rfl⟩
        rw [← hre] at HEnd ⊢
        obtain ⟨re, rM⟩ := r
        clear hr htm hc hre
        go_enter Tryz.func20, Tryz.ntmps20
        go_wp2_with fail
        refine HOn.out.mono ?_
        rintro e w1 ⟨rfl, rfl⟩
        rw [errv_zero]
        go_wp2_with fail
        refine HTi.out.mono ?_
        rintro e w1 ⟨rfl, g1, g2⟩
        have HR1 := Lib.hid (HRe.out w1 g1)
        have HN1 := Lib.hid (fun q => HNw.out w1 q g1)
        obtain ⟨z1, z2⟩ := HDg.out w1 g2 g1
        have Z := Lib.hid (And.intro z1 z2)
        obtain ⟨j0, k1, k2, j3, k4, k5, k6, k7, k8, k9, k10, kf⟩ := kp_cells z1.box
        rw [← hcyH.out] at j3
        clear g1 g2 z1 z2 k0 k1 k2 k4 k5 k6 k7 k8 k9 k10 kf HNw HRe HTi HDg
        go_wp2_with fail
        refine HR1.out.mono ?_
        rintro e w2 ⟨rfl, rfl⟩
        go_wp2_with fail
        go_quiet (first | (go_at_call 17; exact quiet_of_eqE (HN1.out _)))
        generalize hq : World.drewN w1 _ = wq
        have hb : Below w1.heap.size w1 wq := by rw [← hq]; exact below_drewN' _ (Below.refl _ _)
        have HZq := Lib.hid (And.intro (Z.out.1.below hb) (Z.out.2.trans (Fr.below o hb)))
        have HEq := Lib.hid (HEnd.out wq HZq.out.1)
        clear hq hb j0 j3 HN1 HR1 Z HEnd
        go_wp2_with fail
        refine HEq.out.mono ?_
        rintro e w2 ⟨rfl, x', o', z1, z2⟩
        have Z2 := Lib.hid (And.intro z1 (HZq.out.2.trans z2))
        clear z1 z2
        go_wp2_with fail
        go_ret
        exact ⟨rfl, x', o', Z2.out.1, Z2.out.2⟩
      · rw [if_neg hc]
        have hte : (nw % cy == 0) = false := beq_eq_false_iff_ne.2 hc
        clear hr htm hc
        go_enter Tryz.func20, Tryz.ntmps20
        go_wp2_with fail
        refine HOn.out.mono ?_
        rintro e w1 ⟨rfl, rfl⟩
        rw [errv_zero]
        go_wp2_with fail
        refine HTi.out.mono ?_
        rintro e w1 ⟨rfl, g1, g2⟩
        have HR1 := Lib.hid (HRe.out w1 g1)
        have HN1 := Lib.hid (fun q => HNw.out w1 q g1)
        obtain ⟨z1, z2⟩ := HDg.out w1 g2 g1
        have Z := Lib.hid (And.intro z1 z2)
        obtain ⟨j0, k1, k2, j3, k4, k5, k6, k7, k8, k9, k10, kf⟩ := kp_cells z1.box
        rw [← hcyH.out] at j3
        clear g1 g2 z1 z2 k0 k1 k2 k4 k5 k6 k7 k8 k9 k10 kf HNw HRe HTi HDg
        go_wp2_with fail
        refine HR1.out.mono ?_
        rintro e w2 ⟨rfl, rfl⟩
        go_wp2_with fail
        go_quiet (first | (go_at_call 17; exact quiet_of_eqE (HN1.out _)))
        generalize hq : World.drewN w1 _ = wq
        have hb : Below w1.heap.size w1 wq := by rw [← hq]; exact below_drewN' _ (Below.refl _ _)
        have HZq := Lib.hid (And.intro (Z.out.1.below hb) (Z.out.2.trans (Fr.below o hb)))
        clear hq hb j0 j3 HN1 HR1 Z
        go_wp2_with fail
        go_ret
        exact ⟨rfl, x, o, HZq.out.1, HZq.out.2⟩
  · rw [if_pos h0]
    obtain ⟨q, hq⟩ : ∃ q, kpOn M = q + 1 := ⟨kpOn M - 1, by omega⟩
    rw [hq] at HOn ⊢
    clear h hO h0 hq
    go_enter Tryz.func20, Tryz.ntmps20
    go_wp2_with fail
    refine HOn.out.mono ?_
    rintro e w1 ⟨rfl, rfl⟩
    rw [errv_succ]
    go_wp2_with fail
    go_ret
    exact ⟨rfl, x, o, H.out, Fr.refl _ _⟩

end
end Go.Proofs.YtakjbjokekbmbaaGreatDoor

/- Package keeper: Boot. -/
namespace Go.Proofs.YtakjbjokekbmbaaGreatDoor
open Go.RowKit
set_option linter.unusedVariables false

section
variable {B : Nat} {sa : Nat → Addr} {w0 : World} {kb c : Nat} {txt : ByteArray} {x : KpX} {M : KpM} {o : Nat → Nat} {w : World} {T : Nat}
theorem kpOpen_D (C : ConfV) (D D' : DogM) (m : CM) : ({ kpOpen C D m with D := D' } : KpM) = kpOpen C D' m := by simp only [kpOpen]
set_option maxHeartbeats 4000000 in
theorem kpBoot_any (h : KpIn B sa w0 kb c txt x M o w) (hO : KpOk M T) :
    Calls Tryz.prog 22 #[.pointer (some ⟨kb, 0, none⟩)] w (KpPost B sa w0 kb c txt (kpBoot M) o w) := by
  unfold KpPost
  have HOn := Lib.hid (kpOn_any h)
  have H := Lib.hid h
  have HOk := Lib.hid hO
  obtain ⟨k0, k1, k2, k3, k4, k5, k6, k7, k8, k9, k10, kf⟩ := kp_cells h.box
  unfold kpBoot
  by_cases h0 : kpOn M = 0
  · rw [h0] at HOn
    rw [if_pos h0]
    obtain ⟨_, _, _, _, _, _, _, _, _, s9, _⟩ := h.b.se.all
    clear h hO h0 k0 k1 k2 k3 k4 k5 k6 k7 k8 k9 k10 kf
    go_enter Tryz.func22, Tryz.ntmps22
    go_wp2_with fail
    refine HOn.out.mono ?_
    rintro e w1 ⟨rfl, rfl⟩
    rw [errv_zero]
    go_wp2_with fail
    go_ret
    exact ⟨rfl, x, o, H.out, Fr.refl _ _⟩
  · rw [if_neg h0]
    obtain ⟨q, hq⟩ : ∃ q, kpOn M = q + 1 := ⟨kpOn M - 1, by omega⟩
    rw [hq] at HOn
    have HCo := Lib.hid (cellsOn_any c x.rb _ x.cap M.m w h.b.mem)
    have HK := Lib.hid (fun w1 (k : Keep (· = c) w w1) (g : CellsAt w1 c x.rb (some ⟨x.rb, 0, none⟩) x.cap ⟨M.m.bs, false, -1, M.m.wr⟩) => (show KpIn B sa w0 kb c txt x { M with m := ⟨M.m.bs, false, -1, M.m.wr⟩ } o w1 ∧ Fr o o w w1 from ⟨h.cell' k g, Fr.of k (fun b hb => by rw [hb]; have := h.b.oc; omega)⟩))
    have HBl := Lib.hid hO.len
    clear h hO h0 hq k0 k1 k2 k3 k4 k5 k7 k8 k9 k10 kf
    go_enter Tryz.func22, Tryz.ntmps22
    go_wp2_with fail
    refine HOn.out.mono ?_
    rintro e w1 ⟨rfl, rfl⟩
    rw [errv_succ]
    go_wp2_with fail
    refine HCo.out.mono ?_
    rintro e w1 ⟨rfl, g1, g2⟩
    obtain ⟨z1, z2⟩ := HK.out w1 g2 g1
    have HOp := Lib.hid (kpOpen_any z1.b z1.box HOk.out.bound (by show 153 ≤ M.m.bs.length; rw [HBl.out]; decide) rfl)
    have HF := Lib.hid z2
    clear g1 g2 z1 z2 k6 HK HCo
    go_wp2_with fail
    refine HOp.out.mono ?_
    rintro e w2 ⟨rfl, x', o', z1, z2⟩
    have HZ := Lib.hid z1
    have HF2 := Lib.hid (HF.out.trans z2)
    obtain ⟨j0, k1, k2, k3, k4, k5, k6, k7, k8, k9, k10, kf⟩ := kp_cells z1.box
    have HSt := Lib.hid (dogStart_any x'.d M.D w2 z1.b.dog)
    clear z1 z2 k1 k2 k3 k4 k5 k6 k7 k8 k9 k10 kf HOp HF
    go_wp2_with fail
    refine HSt.out.mono ?_
    rintro e w3 ⟨rfl, g1, g2⟩
    have z3 := HZ.out.dog' g2 g1
    rw [kpOpen_D] at z3
    have HZ3 := Lib.hid z3
    have HF3 := Lib.hid (HF2.out.trans (Fr.of g2 (fun b hb => by rw [hb]; have := HZ.out.b.od; omega)))
    clear g1 g2 j0 HSt z3
    go_wp2_with fail
    go_ret
    exact ⟨rfl, x', o', HZ3.out, HF3.out⟩
end
end Go.Proofs.YtakjbjokekbmbaaGreatDoor

/- Laws of a watch: ticks, actsFit, quiet. -/
namespace Go.Proofs.YtakjbjokekbmbaaGreatDoor
open Go.RowKit
set_option linter.unusedVariables false

theorem kpTicks_stuck {M : KpM} {k : Nat} (h : (kpTicks M k).1 ≠ 0) : ∀ j, kpTicks M (k + j) = kpTicks M k
  | 0 => rfl
  | j + 1 => by
    have ih := kpTicks_stuck h j
    show (if (kpTicks M (k + j)).1 ≠ 0 then kpTicks M (k + j) else kpTick (kpTicks M (k + j)).2) = _
    rw [ih, if_pos h]
theorem kpTicks_next {M M' : KpM} {k : Nat} (h : kpTicks M k = (0, M')) : kpTicks M (k + 1) = kpTick M' := by
  show (if (kpTicks M k).1 ≠ 0 then kpTicks M k else kpTick (kpTicks M k).2) = _
  rw [h, if_neg (fun h => h rfl)]
section
variable {B : Nat} {sa : Nat → Addr} {w0 : World} {kb c : Nat} {txt : ByteArray} {x : KpX} {M : KpM} {o : Nat → Nat} {w : World} {T : Nat}
set_option maxHeartbeats 4000000 in
theorem ticks_any (h : KpIn B sa w0 kb c txt x M o w) (hO : KpOk M T) (n : Int) (hT : T + 2 * n.toNat ≤ 100000) :
    Calls Tryz.prog 14 #[.pointer (some ⟨kb, 0, none⟩), .int .i64 n] w (KpPost B sa w0 kb c txt (kpTicks M n.toNat) o w) := by
  unfold KpPost
  have H := Lib.hid h
  have HOk := Lib.hid (fun k (hk : k ≤ n.toNat) => kpTicks_ok hO k (by omega))
  have HT := Lib.hid hT
  clear h hO hT
  go_enter Tryz.func14, Tryz.ntmps14
  go_wp2_with fail
  go_loopw [5] (fun s wr => ∃ (i : Nat) (x' : KpX) (o' : Nat → Nat) (M' : KpM), i ≤ n.toNat ∧ s = .int .i64 i ∧ Hid (kpTicks M i = (0, M')) ∧ Hid (KpIn B sa w0 kb c txt x' M' o' wr) ∧ Hid (Fr o o' w wr)) (fun s _ => n.toNat - (intOf s).toNat)
  case atStart => exact ⟨0, x, o, M, Nat.zero_le _, rfl, rfl, H, Lib.hid (Fr.refl _ _)⟩
  case round =>
    obtain ⟨i, x', o', M', hi, rfl, he, hk, hf⟩ := hrel
    by_cases hlt : (i : Int) < n
    · have hO1 := HOk.out i hi
      rw [he.out] at hO1
      have HTk := Lib.hid (kpTick_any hk.out hO1 (by have := HT.out; omega))
      unfold KpPost at HTk
      have HN := Lib.hid (kpTicks_next he.out)
      obtain ⟨r, hr⟩ : ∃ r, r = kpTick M' := ⟨_, rfl⟩
      rw [← hr] at HTk HN
      obtain ⟨re, rM⟩ := r
      have hi64 : (i : Int) ≤ 100000 := by have := HT.out; omega
      clear hr hO1
      go_wp2_with fail
      refine HTk.out.mono ?_
      rintro e w1 ⟨rfl, x2, o2, z1, z2⟩
      have HZ := Lib.hid z1
      have HF := Lib.hid (hf.out.trans z2)
      clear z1 z2 HTk hk hf
      cases re with
      | zero =>
        rw [errv_zero]
        go_wp2_with fail
        go_roundw
        case rel => exact ⟨i + 1, x2, o2, rM, by omega, by go_num, HN, HZ, HF⟩
        case measure => simp [intOf]; omega
      | succ q =>
        rw [errv_succ]
        have HE := Lib.hid (show kpTicks M n.toNat = (q + 1, rM) from by
          have h1 := kpTicks_stuck (M := M) (k := i + 1) (by rw [HN.out]; exact Nat.succ_ne_zero q) (n.toNat - (i + 1))
          rw [show i + 1 + (n.toNat - (i + 1)) = n.toNat by omega, HN.out] at h1
          exact h1)
        go_wp2_with fail
        go_ret
        rw [HE.out]
        exact ⟨rfl, x2, o2, HZ.out, HF.out⟩
    · have HE := Lib.hid (show kpTicks M n.toNat = (0, M') from by rw [show n.toNat = i by omega]; exact he.out)
      go_wp2_with fail
      go_ret
      rw [HE.out]
      exact ⟨rfl, x', o', hk.out, hf.out⟩
end

/-- An act of a watch. -/
structure KAct where
  kind : ByteArray
  e : Int
  p : Int
  n : Int
def kactCs (a : KAct) : List Value := [.string a.kind, .int .i64 a.e, .int .i64 a.p, .int .i64 a.n]
theorem kactCs_len (a : KAct) : (kactCs a).length = 4 := rfl
def tickS : List UInt8 := [116, 105, 99, 107]
def actT (a : KAct) : Nat := if a.kind.toList = tickS then a.n.toNat else 0
def sumT (L : List KAct) : Nat := (L.map actT).sum
theorem sumT_succ {L : List KAct} {i : Nat} (h : i < L.length) : sumT (L.take (i + 1)) = sumT (L.take i) + actT L[i] := by
  unfold sumT
  rw [List.take_succ_eq_append_getElem h, List.map_append, List.sum_append]
  simp
theorem sumT_take (L : List KAct) (i : Nat) : sumT (L.take i) ≤ sumT L := by
  have h : sumT L = sumT (L.take i) + sumT (L.drop i) := by
    unfold sumT
    rw [← List.sum_append, ← List.map_append, List.take_append_drop]
  omega
/-- Where act k lies. -/
theorem kact_elem {R : Nat → Prop} {w : World} {ao : Option Addr} {n cap : Nat} {L : List KAct} (h : SlOf R w (.slice ao n cap) 4 (L.flatMap kactCs) L.length) (h0 : 0 < L.length) :
    ∃ b off, ao = some ⟨b, off, none⟩ ∧ R b ∧ b < w.heap.size ∧ ∀ k (hk : k < L.length), w.cell? ⟨b, off + k * 4, none⟩ = some (.string L[k].kind) ∧ w.cell? ⟨b, off + k * 4 + 1, none⟩ = some (.int .i64 L[k].e) ∧ w.cell? ⟨b, off + k * 4 + 2, none⟩ = some (.int .i64 L[k].p) ∧ w.cell? ⟨b, off + k * 4 + 3, none⟩ = some (.int .i64 L[k].n) := by
  obtain ⟨b, off, h1, h2, h3, h4⟩ := SlOf.elem h kactCs_len (by decide) h0
  exact ⟨b, off, h1, h2, h3, fun k hk => ⟨h4 k hk 0 _ rfl, h4 k hk 1 _ rfl, h4 k hk 2 _ rfl, h4 k hk 3 _ rfl⟩⟩
structure FitL (L : List KAct) (most : Int) : Prop where
  len : (L.length : Int) ≤ most
  sum : sumT L ≤ 1500
def FitPost (L : List KAct) (most : Int) (w : World) (e : Ending) (w' : World) : Prop := ∃ fb : Bool, e = .returned (.bool fb) ∧ (fb = true → FitL L most) ∧ Below w.heap.size w w'
set_option maxHeartbeats 4000000 in
theorem actsFit_any (R : Nat → Prop) (L : List KAct) (v : Value) (most : Int) (w : World) (h : SlOf R w v 4 (L.flatMap kactCs) L.length) :
    Calls Tryz.prog 8 #[v, .int .i64 most] w (FitPost L most w) := by
  obtain ⟨ao, cap, rfl⟩ := h.val
  obtain ⟨hc1, hc2⟩ := h.capB
  have H := Lib.hid h
  clear h
  go_enter Tryz.func8, Tryz.ntmps8
  go_wp2_with fail
  go_loopw [5, 6] (fun s5 s6 wr => ∃ (i : Nat), i ≤ L.length ∧ s5 = .int .i64 (sumT (L.take i) : Int) ∧ s6 = .int .i64 i ∧ sumT (L.take i) ≤ 1500 ∧ Hid (Below w.heap.size w wr)) (fun _ s6 _ => L.length - (intOf s6).toNat)
  case atStart => exact ⟨0, Nat.zero_le _, rfl, rfl, Nat.zero_le _, Lib.hid (Below.refl _ _)⟩
  case round =>
    obtain ⟨i, hi, rfl, rfl, hs, hb⟩ := hrel
    by_cases hlt : i < L.length
    · obtain ⟨b, off, rfl, _, hbl, hc⟩ := kact_elem H.out (by omega)
      obtain ⟨q0, q1, q2, q3⟩ := hc i hlt
      rw [← hb.out.cell (p := ⟨b, off + i * 4, none⟩) hbl] at q0
      rw [← hb.out.cell (p := ⟨b, off + i * 4 + 3, none⟩) hbl] at q3
      obtain ⟨S, hS⟩ : ∃ S, S = sumT (L.take i) := ⟨_, rfl⟩
      obtain ⟨a, ha⟩ : ∃ a, a = L[i] := ⟨_, rfl⟩
      have hst := sumT_succ hlt
      rw [← hS, ← ha] at hst
      rw [← ha] at q0 q3
      rw [← hS] at hs ⊢
      have HST := Lib.hid hst
      clear hc q1 q2 hst hS ha
      have hli : (i : Int) < L.length := by omega
      have HB2 := Lib.hid hb.out
      have HAT1 := Lib.hid (fun (hk : a.kind.toList = tickS) => (show actT a = a.n.toNat from if_pos hk))
      have HAT0 := Lib.hid (fun (hk : ¬ a.kind.toList = tickS) => (show actT a = 0 from if_neg hk))
      clear hb H
      by_cases h10 : 10000 < a.n
      · by_cases hk : a.kind.toList = tickS
        · have hkt : (a.kind.toList == [116, 105, 99, 107]) = true := by rw [hk]; rfl
          have hn : 0 < a.n := by omega
          clear hk
          go_wp2_with fail
          go_ret
          exact ⟨false, rfl, (fun h => by cases h), HB2.out⟩
        · have hkt : (a.kind.toList == [116, 105, 99, 107]) = false := beq_eq_false_iff_ne.2 hk
          clear hk
          go_wp2_with fail
          go_ret
          exact ⟨false, rfl, (fun h => by cases h), HB2.out⟩
      · by_cases hk : a.kind.toList = tickS
        · have hkt : (a.kind.toList == [116, 105, 99, 107]) = true := by rw [hk]; rfl
          have hA := HAT1.out hk
          clear hk
          by_cases hn : 0 < a.n
          · obtain ⟨m, hm⟩ : ∃ m : Nat, a.n = m := ⟨a.n.toNat, by omega⟩
            have hm2 : a.n.toNat = m := by omega
            rw [hm2] at hA
            have hS1 : Hid (sumT (List.take (i + 1) L) = S + m) := (show sumT (List.take (i + 1) L) = S + m from by rw [HST.out, hA])
            rw [hm] at q3 h10 hn
            clear hA hm hm2 HST HAT1 HAT0
            by_cases h15 : 1500 < S + m
            · have h15I : 1500 < (S : Int) + m := by omega
              go_wp2_with fail
              go_ret
              exact ⟨false, rfl, (fun h => by cases h), HB2.out⟩
            · have h15I : ¬ 1500 < (S : Int) + m := by omega
              go_wp2_with fail
              go_roundw
              case rel => exact ⟨i + 1, by omega, by rw [hS1.out]; go_num, by go_num, by rw [hS1.out]; omega, HB2⟩
              case measure => simp [intOf]; omega
          · have hS1 : Hid (sumT (List.take (i + 1) L) = S) := (show sumT (List.take (i + 1) L) = S from by rw [HST.out, hA]; omega)
            clear hA HST HAT1 HAT0
            go_wp2_with fail
            go_roundw
            case rel => exact ⟨i + 1, by omega, by rw [hS1.out], by go_num, by rw [hS1.out]; omega, HB2⟩
            case measure => simp [intOf]; omega
        · have hkt : (a.kind.toList == [116, 105, 99, 107]) = false := beq_eq_false_iff_ne.2 hk
          have hA := HAT0.out hk
          have hS1 : Hid (sumT (List.take (i + 1) L) = S) := (show sumT (List.take (i + 1) L) = S from by rw [HST.out, hA]; omega)
          clear hA HST HAT1 HAT0 hk
          go_wp2_with fail
          go_roundw
          case rel => exact ⟨i + 1, by omega, by rw [hS1.out], by go_num, by rw [hS1.out]; omega, HB2⟩
          case measure => simp [intOf]; omega
    · have hli : ¬ (i : Int) < L.length := by omega
      have HS2 : Hid (sumT L ≤ 1500) := (show sumT L ≤ 1500 from by rw [show i = L.length by omega, List.take_length] at hs; exact hs)
      have HB2 := Lib.hid hb.out
      go_wp2_with fail
      go_ret
      exact ⟨_, rfl, fun h => ⟨of_decide_eq_true h, HS2.out⟩, HB2.out⟩

def quietB (E : EntV) : Bool := decide (E.count = -1) && decide (E.gaps.length = 0) && decide (E.edges.length = 0)
set_option maxHeartbeats 4000000 in
theorem quiet_any (R : Nat → Prop) (E : EntV) (vp vg ve vf vl : Value) (w : World) (h : EntSl R w E vp vg ve vf vl) :
    Calls Tryz.prog 9 #[.agg (entCs E vp vg ve vf vl)] w fun e w' => e = .returned (.bool (quietB E)) ∧ Below w.heap.size w w' := by
  obtain ⟨pa, pc, rfl⟩ := h.p.val
  obtain ⟨ga, gc, rfl⟩ := h.g.val
  obtain ⟨ea, ec, rfl⟩ := h.e.val
  obtain ⟨fa, fc, rfl⟩ := h.f.val
  obtain ⟨la, lc, rfl⟩ := h.l.val
  clear h
  have hba : Below w.heap.size w (w.alloc (.cells (entCs E (.slice pa E.points.length pc) (.slice ga E.gaps.length gc) (.slice ea E.edges.length ec) (.slice fa E.first.length fc) (.slice la E.last.length lc)) 38)) := (Below.refl _ _).alloc (Nat.le_refl _) _
  have HB := Lib.hid hba
  clear hba
  unfold quietB
  unfold entCs at HB ⊢
  by_cases h1 : E.count = -1
  · have h1t : (E.count == -1) = true := by rw [h1]; rfl
    have d1 : decide (E.count = -1) = true := decide_eq_true h1
    rw [d1]
    have HD := Lib.hid d1
    clear h1 d1
    by_cases h2 : E.gaps.length = 0
    · have d2 : decide (E.gaps.length = 0) = true := decide_eq_true h2
      rw [d2]
      by_cases h3 : E.edges.length = 0
      · have d3 : decide (E.edges.length = 0) = true := decide_eq_true h3
        rw [d3]
        have h2t : ((E.gaps.length : Int) == 0) = true := by rw [h2]; rfl
        have h3t : ((E.edges.length : Int) == 0) = true := by rw [h3]; rfl
        clear h2 h3 d2 d3
        go_enter Tryz.func9, Tryz.ntmps9
        go_wp2_with fail
        go_ret
        exact ⟨rfl, HB.out⟩
      · have d3 : decide (E.edges.length = 0) = false := decide_eq_false h3
        rw [d3]
        have h2t : ((E.gaps.length : Int) == 0) = true := by rw [h2]; rfl
        have h3t : ((E.edges.length : Int) == 0) = false := beq_eq_false_iff_ne.2 (by omega)
        clear h2 h3 d2 d3
        go_enter Tryz.func9, Tryz.ntmps9
        go_wp2_with fail
        go_ret
        exact ⟨rfl, HB.out⟩
    · have d2 : decide (E.gaps.length = 0) = false := decide_eq_false h2
      rw [d2]
      have h2t : ((E.gaps.length : Int) == 0) = false := beq_eq_false_iff_ne.2 (by omega)
      clear h2 d2
      go_enter Tryz.func9, Tryz.ntmps9
      go_wp2_with fail
      go_ret
      exact ⟨by simp, HB.out⟩
  · have h1t : (E.count == -1) = false := beq_eq_false_iff_ne.2 h1
    have d1 : decide (E.count = -1) = false := decide_eq_false h1
    rw [d1]
    clear h1 d1
    go_enter Tryz.func9, Tryz.ntmps9
    go_wp2_with fail
    go_ret
    exact ⟨by simp, HB.out⟩
end Go.Proofs.YtakjbjokekbmbaaGreatDoor

/- The page of package conf: a strings.Builder as its first field: what its methods leave. -/
namespace Go.Proofs.YtakjbjokekbmbaaGreatDoor
open Go.RowKit
set_option linter.unusedVariables false

theorem Tryz.sizePage : (Tryz.prog.info? 139).map (·.size) = some 2 := by kernel_rfl
theorem Tryz.liesPage : liesAt Tryz.prog Tryz.prog.depth 141 (2 / Tryz.prog.cellsOf 141) 0 139 1 = true := by kernel_rfl
theorem Tryz.infoByteP : (Tryz.prog.info? 5).map (fun i => (i.zero, i.size, i.bytes)) = some (some (.int .u8 0), 1, 1) := by kernel_rfl
theorem Tryz.cellsByteP : Tryz.prog.cellsOf 5 = 1 := by kernel_rfl

/-- A row of bytes. -/
def ByteObj : Obj → Prop
  | .cells _ t _ => t = 5
  | _ => False
/-- All but the page's block, and rows of bytes, stands. -/
structure Oth (b : Nat) (w w' : World) : Prop where
  os : w'.os = w.os
  tape : w'.tape = w.tape
  output : w'.output = w.output
  size : w.heap.size ≤ w'.heap.size
  block : ∀ k o, w.heap[k]? = some o → k ≠ b → ¬ ByteObj o → w'.heap[k]? = some o
theorem Oth.refl (b : Nat) (w : World) : Oth b w w := ⟨rfl, rfl, rfl, Nat.le_refl _, fun _ _ h _ _ => h⟩
theorem Oth.trans {b : Nat} {u v w : World} (h : Oth b u v) (k : Oth b v w) : Oth b u w :=
  ⟨k.os.trans h.os, k.tape.trans h.tape, k.output.trans h.output, Nat.le_trans h.size k.size, fun i o hi hb ho => k.block i o (h.block i o hi hb ho) hb ho⟩
theorem Oth.set {b : Nat} {w : World} (o : Nat) (u : Value) : Oth b w (w.setCell ⟨b, o, none⟩ u) := by
  have k := keep_set w b o u
  exact ⟨k.os, k.tape, k.output, k.size, fun i x hi hb _ => k.get hi hb⟩
theorem Oth.below {b : Nat} {w w' : World} (h : Below w.heap.size w w') : Oth b w w' := ⟨h.os, h.tape, h.output, h.size, fun i o hi _ _ => below_get h hi (lt_of_get hi)⟩
theorem Oth.grown {b : Nat} {w w' : World} {B n : Nat} {v : Value} {xs : List Value} (hown : w.ownsRow B 5 1 v n xs) (g : w.grownBy w' v.ownBlock) : Oth b w w' := by
  have k := Keep.of_grown g
  refine ⟨k.os, k.tape, k.output, k.size, fun i x hi _ hx => k.get hi (fun e => ?_)⟩
  rcases hown.2 with ⟨rfl, _⟩ | ⟨q, cap, cur, rfl, _, hq, _⟩
  · cases e
  · have : i = q := Option.some.inj e
    subst this
    rw [hq] at hi
    obtain rfl := Option.some.inj hi
    exact hx rfl

/-- A page: the bytes written so far. -/
def PgU (B b : Nat) (l : List UInt8) (w : World) : Prop := Lib.BuilderAt 141 5 B b (.pointer (some ⟨b, 0, none⟩)) (Lib.byteCells l) w
def Pg (B b : Nat) (l : List UInt8) (w : World) : Prop := Lib.IsBuilder 141 5 B b (Lib.byteCells l) w
theorem PgU.pg {B b : Nat} {l : List UInt8} {w : World} (h : PgU B b l w) : Pg B b l w := .inr h
theorem Pg.at_ {B b : Nat} {l : List UInt8} {w : World} (h : Pg B b l w) : ∃ p, Lib.BuilderAt 141 5 B b p (Lib.byteCells l) w := by
  rcases h with h | h
  · exact ⟨_, h⟩
  · exact ⟨_, h⟩
theorem builderAt_below {T e : TypeId} {B b : Nat} {p : Value} {bs : List Value} {w w' : World} (h : Lib.BuilderAt T e B b p bs w) (k : Below w.heap.size w w') : Lib.BuilderAt T e B b p bs w' := by
  obtain ⟨hB, v, hb, hown, hne⟩ := h
  exact ⟨hB, v, below_get k hb (lt_of_get hb), ownsRow_keep' hown (below_keep k) (fun _ _ _ h => h), hne⟩
theorem Pg.below {B b : Nat} {l : List UInt8} {w w' : World} (h : Pg B b l w) (k : Below w.heap.size w w') : Pg B b l w' := by
  rcases h with h | h
  · exact .inl (builderAt_below h k)
  · exact .inr (builderAt_below h k)
theorem Pg.lt {B b : Nat} {l : List UInt8} {w : World} (h : Pg B b l w) : B ≤ b ∧ b < w.heap.size := by
  obtain ⟨p, h⟩ := h.at_
  exact ⟨h.1, h.lt⟩

set_option maxHeartbeats 1000000 in
set_option maxRecDepth 100000 in
theorem copyCheck_used (b : Nat) (w : World) (h0 : w.cell? ⟨b, 0, none⟩ = some (.pointer (some ⟨b, 0, none⟩))) :
    Calls Tryz.prog 126 #[.pointer (some ⟨b, 0, none⟩)] w fun e w' => e = .returned (.tuple #[]) ∧ w = w' := by
  obtain ⟨j, hj, _⟩ := Option.map_eq_some_iff.1 Tryz.sizePage
  go_enter Tryz.func126, Tryz.ntmps126
  go_wp2
  rw [Lib.run_neq_ptr_same w _ Tryz.underlying137 hj]
  go_wp2
  go_end0
  exact ⟨rfl, rfl⟩
set_option maxHeartbeats 1000000 in
set_option maxRecDepth 100000 in
theorem copyCheck_fresh (b : Nat) (w : World) (h0 : w.cell? ⟨b, 0, none⟩ = some (.pointer none)) (hsh : w.shape? b = some (141, 2)) (hfz : w.frozen? ⟨b, 0, none⟩ = false) :
    Calls Tryz.prog 126 #[.pointer (some ⟨b, 0, none⟩)] w fun e w' => e = .returned (.tuple #[]) ∧ w.setCell ⟨b, 0, none⟩ (.pointer (some ⟨b, 0, none⟩)) = w' := by
  obtain ⟨j, hj, hjs⟩ := Option.map_eq_some_iff.1 Tryz.sizePage
  go_enter Tryz.func126, Tryz.ntmps126
  go_wp2
  rw [Lib.run_to_unsafe w ⟨b, 0, none⟩ Tryz.underlying137 Tryz.underlying166 hj (by rw [hjs]; decide) hsh (Nat.zero_lt_succ 1)]
  simp only [Result.andThen]
  rw [Oper.upon_value]
  go_wp2
  rw [run_callFunc_extern Tryz.func160 (by kernel_rfl) (by kernel_rfl) (by kernel_rfl) (e := Extern.AbiNoEscape.same) (by kernel_rfl)]
  rw [Lib.run_noEscape]
  simp only [Result.andThen]
  rw [Oper.upon_value]
  go_wp2
  rw [Lib.run_from_unsafe w ⟨b, 0, none⟩ Tryz.underlying166 Tryz.underlying137 hj hsh Tryz.liesPage]
  simp only [Result.andThen]
  rw [Oper.upon_value]
  go_wp2
  go_end0
  exact ⟨rfl, rfl⟩
theorem copyCheck_any (B b : Nat) (l : List UInt8) (w : World) (h : Pg B b l w) :
    Calls Tryz.prog 126 #[.pointer (some ⟨b, 0, none⟩)] w fun e w' => e = .returned (.tuple #[]) ∧ PgU B b l w' ∧ Below B w w' ∧ Oth b w w' := by
  rcases h with h | h
  · refine (copyCheck_fresh b w h.cell0 h.shape h.frozen0).mono ?_
    rintro e w' ⟨rfl, rfl⟩
    exact ⟨rfl, h.used _, (Below.refl B w).setCell (p := ⟨b, 0, none⟩) h.1 _, Oth.set _ _⟩
  · refine (copyCheck_used b w h.cell0).mono ?_
    rintro e w' ⟨rfl, rfl⟩
    exact ⟨rfl, h, Below.refl B _, Oth.refl _ _⟩
set_option maxHeartbeats 2000000 in
set_option maxRecDepth 100000 in
theorem writeByte_any (B b : Nat) (l : List UInt8) (c : UInt8) (w : World) (h : Pg B b l w) (hlen : l.length + 1 ≤ 1000000000) (hBw : B ≤ w.heap.size) :
    Calls Tryz.prog 99 #[.pointer (some ⟨b, 0, none⟩), .int .u8 (c.toNat : Int)] w fun e w' => e = .returned .nilIface ∧ Pg B b (l ++ [c]) w' ∧ Below B w w' ∧ Oth b w w' := by
  obtain ⟨i0, hi, hz0, hz1, hz2⟩ := info_parts Tryz.infoByteP
  have HCk := Lib.hid (copyCheck_any B b l w h)
  clear h
  go_enter Tryz.func99, Tryz.ntmps99
  go_wp2_with fail
  refine HCk.out.mono ?_
  rintro e w1 ⟨rfl, h1, hb1, ho1⟩
  obtain ⟨hB, v, hbk, hown, hne⟩ := h1
  have hnl : (Lib.byteCells l).length = l.length := Lib.byteCells_length l
  rw [hnl] at hown
  have c0 : w1.cell? ⟨b, 0, none⟩ = some (.pointer (some ⟨b, 0, none⟩)) := by rw [Lib.cell_of_heap hbk]; rfl
  have c1 : w1.cell? ⟨b, 1, none⟩ = some v := by rw [Lib.cell_of_heap hbk]; rfl
  have hs1 := hb1.size
  have HO1 := Lib.hid hown
  have HH1 := Lib.hid ho1
  have HB1 := Lib.hid hb1
  have HBK := Lib.hid hbk
  have HNE := Lib.hid hne
  clear hown ho1 hb1 hbk hne HCk hnl
  go_wp2_with (at_builtin; refine wpList_append_own _ rfl (.tmp 11) (.tmp 13) 84 rfl B 5 i0 (.int .u8 0) 1 1 Tryz.underlying84 hi hz0 hz1 hz2 rfl (by decide) _ l.length _ rfl (HO1.out.alloc _) ⟨w1.heap.size, 0, none⟩ 1 1 [.int .u8 (c.toNat : Int)] rfl rfl (by exact new_cells _ [.int .u8 (c.toNat : Int)] _) (by intro u hu; simp at hu; subst hu; rfl) (by unfold maxLen; omega) (by omega) (by simp; omega) ?_)
  intro v' w2 hown' hgrow hnil
  have hlt := lt_of_get HBK.out
  have hb2 : w2.heap[b]? = some (.cells #[.pointer (some ⟨b, 0, none⟩), v] 141 (0, 0)) := by
    rw [hgrow.block b (by simp; omega) (fun e => HNE.out e.symm), Lib.alloc_old w1 _ b hlt]
    exact HBK.out
  have d0 : w2.cell? ⟨b, 0, none⟩ = some (.pointer (some ⟨b, 0, none⟩)) := by rw [Lib.cell_of_heap hb2]; rfl
  have d1 : w2.cell? ⟨b, 1, none⟩ = some v := by rw [Lib.cell_of_heap hb2]; rfl
  have f1 : w2.frozen? ⟨b, 1, none⟩ = false := Lib.frozen_of_heap hb2 1
  obtain ⟨g, cap, rfl⟩ : ∃ g cap, v' = .slice (some ⟨g, 0, none⟩) (l.length + 1) cap := by
    rcases hown'.2 with ⟨_, h0⟩ | ⟨g, cap, cur, hv, _⟩
    · omega
    · exact ⟨g, cap, hv⟩
  have hbc : Lib.byteCells (l ++ [c]) = Lib.byteCells l ++ [.int .u8 (c.toNat : Int)] := by rw [Lib.byteCells_append]; rfl
  have fin1 : Pg B b (l ++ [c]) (w2.setCell ⟨b, 1, none⟩ (.slice (some ⟨g, 0, none⟩) (l.length + 1) cap)) := by
    refine .inr (Lib.BuilderAt.put (T := 141) (e := 5) hB hb2 (bs' := Lib.byteCells (l ++ [c])) ?_ (by decide))
    rw [Lib.byteCells_length, hbc, List.length_append]
    exact hown'
  have hal : Below w1.heap.size w1 (w1.alloc (.cells #[.int .u8 (c.toNat : Int)] 5)) := (Below.refl _ _).alloc (Nat.le_refl _) _
  have fin2 : Below B w (w2.setCell ⟨b, 1, none⟩ (.slice (some ⟨g, 0, none⟩) (l.length + 1) cap)) :=
    ((HB1.out.alloc (by omega) _).grown hgrow (by simp; omega) (fun k hk => (HO1.out.lt k hk).1)).setCell (p := ⟨b, 1, none⟩) hB _
  have fin3 : Oth b w (w2.setCell ⟨b, 1, none⟩ (.slice (some ⟨g, 0, none⟩) (l.length + 1) cap)) :=
    ((HH1.out.trans (Oth.below hal)).trans (Oth.grown (HO1.out.alloc _) hgrow)).trans (Oth.set _ _)
  have F1 := Lib.hid fin1
  have F2 := Lib.hid fin2
  have F3 := Lib.hid fin3
  clear fin1 fin2 fin3 hal hbc hown' hgrow hnil hb2 HBK
  go_wp2_with fail
  go_ret
  exact ⟨rfl, F1.out, F2.out, F3.out⟩
set_option maxHeartbeats 2000000 in
set_option maxRecDepth 100000 in
theorem writeString_any (B b : Nat) (l : List UInt8) (s : ByteArray) (w : World) (h : Pg B b l w) (hlen : l.length + s.size ≤ 1000000000) (hBw : B ≤ w.heap.size) :
    Calls Tryz.prog 100 #[.pointer (some ⟨b, 0, none⟩), .string s] w fun e w' => e = .returned (.tuple #[.int .i64 s.size, .nilIface]) ∧ Pg B b (l ++ s.data.toList) w' ∧ Below B w w' ∧ Oth b w w' := by
  obtain ⟨i0, hi, hz0, hz1, hz2⟩ := info_parts Tryz.infoByteP
  have HCk := Lib.hid (copyCheck_any B b l w h)
  clear h
  go_enter Tryz.func100, Tryz.ntmps100
  go_wp2_with fail
  refine HCk.out.mono ?_
  rintro e w1 ⟨rfl, h1, hb1, ho1⟩
  obtain ⟨hB, v, hbk, hown, hne⟩ := h1
  have hnl : (Lib.byteCells l).length = l.length := Lib.byteCells_length l
  rw [hnl] at hown
  have c0 : w1.cell? ⟨b, 0, none⟩ = some (.pointer (some ⟨b, 0, none⟩)) := by rw [Lib.cell_of_heap hbk]; rfl
  have c1 : w1.cell? ⟨b, 1, none⟩ = some v := by rw [Lib.cell_of_heap hbk]; rfl
  have hs1 := hb1.size
  have HO1 := Lib.hid hown
  have HH1 := Lib.hid ho1
  have HB1 := Lib.hid hb1
  have HBK := Lib.hid hbk
  have HNE := Lib.hid hne
  clear hown ho1 hb1 hbk hne HCk hnl
  go_wp2_with (at_builtin; refine Lib.wpList_append_own_string _ rfl (.tmp 12) (.tmp 13) 84 9 rfl B 5 i0 Tryz.underlying84 Tryz.underlying9 hi hz0 hz1 hz2 _ l.length _ rfl HO1.out s rfl (by unfold maxLen; omega) (by omega) (by omega) ?_)
  intro v' w2 hown' hgrow hnil
  have hlt := lt_of_get HBK.out
  have hb2 : w2.heap[b]? = some (.cells #[.pointer (some ⟨b, 0, none⟩), v] 141 (0, 0)) := by
    rw [hgrow.block b hlt (fun e => HNE.out e.symm)]
    exact HBK.out
  have d0 : w2.cell? ⟨b, 0, none⟩ = some (.pointer (some ⟨b, 0, none⟩)) := by rw [Lib.cell_of_heap hb2]; rfl
  have d1 : w2.cell? ⟨b, 1, none⟩ = some v := by rw [Lib.cell_of_heap hb2]; rfl
  have f1 : w2.frozen? ⟨b, 1, none⟩ = false := Lib.frozen_of_heap hb2 1
  obtain ⟨ao, n', cap, rfl⟩ : ∃ ao n' cap, v' = .slice ao n' cap := by
    rcases hown'.2 with ⟨hv, _⟩ | ⟨g, cap, cur, hv, _⟩
    · exact ⟨_, _, _, hv⟩
    · exact ⟨_, _, _, hv⟩
  have hbc : Lib.byteCells (l ++ s.data.toList) = Lib.byteCells l ++ Lib.strCells s := by rw [Lib.byteCells_append]; rfl
  have F1 : Hid (Pg B b (l ++ s.data.toList) (w2.setCell ⟨b, 1, none⟩ (.slice ao n' cap))) := by
    refine .inr (Lib.BuilderAt.put (T := 141) (e := 5) hB hb2 (bs' := Lib.byteCells (l ++ s.data.toList)) ?_ (by decide))
    rw [Lib.byteCells_length, hbc, List.length_append]
    have e : s.data.toList.length = s.size := by rw [Array.length_toList]; rfl
    rw [e]
    exact hown'
  have F2 : Hid (Below B w (w2.setCell ⟨b, 1, none⟩ (.slice ao n' cap))) :=
    (HB1.out.grown hgrow (by omega) (fun k hk => (HO1.out.lt k hk).1)).setCell (p := ⟨b, 1, none⟩) hB _
  have F3 : Hid (Oth b w (w2.setCell ⟨b, 1, none⟩ (.slice ao n' cap))) := (HH1.out.trans (Oth.grown HO1.out hgrow)).trans (Oth.set _ _)
  clear hbc hown' hgrow hnil hb2 HBK
  go_wp2_with fail
  go_ret2
  exact ⟨rfl, F1.out, F2.out, F3.out⟩
end Go.Proofs.YtakjbjokekbmbaaGreatDoor
