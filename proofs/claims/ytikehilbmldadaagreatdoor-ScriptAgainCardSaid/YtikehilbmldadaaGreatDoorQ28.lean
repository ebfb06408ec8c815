import Derived.Test.YtikehilbmldadaaGreatDoorQ27
import Derived.Deep.RegionLaw
import Derived.Deep.DeepMust
import Derived.Test.YtikehilbmldadaaGreatDoorQ26
import Derived.Test.YtikehilbmldadaaGreatDoorQ24
set_option maxHeartbeats 4000000
set_option maxRecDepth 100000
namespace Go.Proofs.YtikehilbmldadaaGreatDoor
open Go.RowKit
set_option linter.unusedVariables false
theorem Tryz.infoPtrL : (Tryz.prog.info? 112).map (fun i => (i.zero, i.size, i.bytes)) = some (some (.pointer none), 1, 8) := by kernel_rfl
section
variable {B : Nat} {sa : Nat → Addr} {w0 : World} {kb c : Nat} {txt : ByteArray} {x : KpX} {C : ConfV} {D : DogM} {m : CM} {o : Nat → Nat} {w : World}
theorem kpOpen_any {vlog vl vt : Value} (h : KpB B sa w0 kb c x C D m o w) (hbox : w.heap[kb]? = some (kpC x.d C x.ve c vlog vl vt txt)) (hb : boundC C = false) (hl : 153 ≤ m.bs.length) (ho : m.off = false) :
    Calls Tryz.prog 75 #[.pointer (some ⟨kb, 0, none⟩)] w fun e w' => e = .returned .nilIface ∧ ∃ x' o', KpIn B sa w0 kb c txt x' (kpOpen C D m) o' w' ∧ Fr o o' w w' := by
  obtain ⟨i0, hi0, hz0, hz1, hz2⟩ := info_parts Tryz.infoPtrL
  obtain ⟨k0, k1, k2, k3, k4, k5, k6, k7, k8, k9, k10, kf⟩ := kp_cells hbox
  obtain ⟨ao, cap, hve⟩ := h.ents.row.val
  have hcp := h.ents.row
  rw [hve] at hcp
  obtain ⟨hc1, hc2⟩ := hcp.capB
  have hbp := boundC_parts hb
  have hx8 : x.X.length ≤ 8 := by have := congrArg List.length h.xe; rw [List.length_map] at this; omega
  have HOp := Lib.hid (openGood_any B sa c x.rb x.cap m w0 w h.mem h.se hl ho h.bel ⟨(h.low c (by rw [h.oc]; decide)).1, (h.low x.rb (by rw [h.orb]; decide)).1, h.bl⟩)
  have H := Lib.hid h
  have HBX := Lib.hid hbox
  have HD0 := Lib.hid (show 0 ≤ C.delay ∧ C.delay ≤ 20 by omega)
  clear h hbox hb hl ho hbp hcp k0 k1 k2 k3 k4 k5 k9 k10
  go_enter Tryz.func75, Tryz.ntmps75
  go_wp2_with fail
  refine HOp.out.mono ?_
  rintro e w1 ⟨rg, lv, rfl, hr, hn⟩
  obtain ⟨o1, st1⟩ := opSt_start H.out HBX.out hr hn
  have ST1 := Lib.hid st1
  have k1 := (below_keep hn.bel).get HBX.out (fun h => h)
  obtain ⟨q0, q1, q2, q3, q4, q5, q6, q7, q8, q9, q10, qf⟩ := kp_cells k1
  clear q0 q1 q2 q3 q4 q5 q6 q9 q10
  clear hr hn st1 k1 HOp HBX k6 k7 k8 kf
  go_upto_region 5 with fail
  generalize World.setCell _ _ _ = w2 at ST1 ⊢
  obtain ⟨k0, k1, k2, k3, k4, k5, k6, k7, k8, k9, k10, kf⟩ := kp_cells ST1.out.box
  rw [hve] at k5
  clear q7 q8 qf k0 k1 k2 k3 k4 k6 k7 k8 k9 k10 kf
  go_wp2_with fail
  go_loopw [31] (fun s wr => ∃ (i : Nat) (a1 : Option Addr) (k1 : Nat) (ls : List Nat) (o1 : Nat → Nat), i ≤ x.X.length ∧ s = .int .i64 i ∧ Hid (OpSt B sa w0 kb c txt x C D m rg lv (recsOf m.bs) vt o w (.slice a1 i k1) i ls o1 wr)) (fun s _ => x.X.length - (intOf s).toNat)
  case atStart => exact ⟨0, none, 0, [], o1, Nat.zero_le _, rfl, ST1⟩
  case round =>
    obtain ⟨i, a1, j1, ls, o2, hi, rfl, hst⟩ := hrel
    clear ST1 k5
    by_cases hlt : i < x.X.length
    · have hrow := hst.out.b.ents.row
      rw [hve] at hrow
      obtain ⟨b, off, rfl, hRb, hbl, hc⟩ := ent_elem hrow (by omega)
      obtain ⟨q0, q1, q2, q3, q4, q5, q6, q7, q8, q9⟩ := hc i hlt
      obtain ⟨y, hy⟩ : ∃ y, y = x.X[i] := ⟨_, rfl⟩
      rw [← hy] at q0 q1 q2 q3 q4 q5 q6 q7 q8 q9
      have hyi : x.X[i]? = some y := by rw [List.getElem?_eq_getElem hlt, hy]
      have hEs := hst.out.b.ents.each y (by rw [hy]; exact List.getElem_mem hlt)
      obtain ⟨pa, pc, hvp⟩ := hEs.p.val
      obtain ⟨ga, gc, hvg⟩ := hEs.g.val
      obtain ⟨ea, ec, hve2⟩ := hEs.e.val
      obtain ⟨fa, fc, hvf⟩ := hEs.f.val
      obtain ⟨la, lc, hvl⟩ := hEs.l.val
      rw [hvp] at q2
      rw [hvg] at q6
      rw [hve2] at q7
      rw [hvf] at q8
      rw [hvl] at q9
      obtain ⟨xe, hxe⟩ : ∃ xe, xe = y.E := ⟨_, rfl⟩
      have HNW : Hid (∀ W, Below wr.heap.size wr W → Calls Tryz.prog 116 #[.agg #[.string xe.name, .int .i64 xe.tol, .slice pa xe.points.length pc, .int .i64 xe.count, .int .i64 xe.mn, .int .i64 xe.mx, .slice ga xe.gaps.length gc, .slice ea xe.edges.length ec, .slice fa xe.first.length fc, .slice la xe.last.length lc]] W
          fun e w' => ∃ l, e = .returned (.pointer (some ⟨l, 0, none⟩)) ∧ wr.heap.size ≤ l ∧ w'.heap[l]? = some (locC none y.E y.p y.g y.e y.f y.l) ∧ Below wr.heap.size wr w') := (show _ from by
        intro W hW
        rw [hxe, ← hvp, ← hvg, ← hve2, ← hvf, ← hvl]
        refine (localNew_any y.E y.p y.g y.e y.f y.l W).mono ?_
        rintro e w1 ⟨rfl, h1, h2⟩
        exact ⟨_, rfl, Nat.le_trans hW.size (by omega), h1, hW.trans (h2.mono hW.size)⟩)
      rw [← hxe] at q0 q1 q2 q3 q4 q5 q6 q7 q8 q9
      have HA : Hid (∀ (l : Nat) (W W4 : World) (a2 : Option Addr) (k2 : Nat), Below wr.heap.size wr W → W.heap[l]? = some (locC none y.E y.p y.g y.e y.f y.l) → wr.heap.size ≤ l → OwnAt W4 w0.heap.size 112 1 (.slice a2 (i + 1) k2) (i + 1) (ptrCs ls ++ [.pointer (some ⟨l, 0, none⟩)]) → W.grownBy W4 (Value.slice a1 i j1).ownBlock →
          ((Value.slice a2 (i + 1) k2).ownBlock = (Value.slice a1 i j1).ownBlock ∨ ∀ b, (Value.slice a2 (i + 1) k2).ownBlock = some b → W.heap.size ≤ b) →
          (∃ o', Hid (OpSt B sa w0 kb c txt x C D m rg lv (recsOf m.bs) vt o w (.slice a2 (i + 1) k2) (i + 1) (ls ++ [l]) o' (W4.setCell ⟨kb, 8, none⟩ (.slice a2 (i + 1) k2)))) ∧ (∃ u, W4.cell? ⟨kb, 8, none⟩ = some u) ∧ ∀ f, W4.frozen? ⟨kb, f, none⟩ = false) := (show _ from by
        intro l W W4 a2 k2 h1 h2 h3 h4 h5 h6
        exact hst.out.next h1 h2 h3 hyi h4 h5 h6)
      have HOW : Hid (∀ W, Below wr.heap.size wr W → OwnAt W w0.heap.size 112 1 (.slice a1 i j1) i (ptrCs ls) ∧ w0.heap.size ≤ W.heap.size) := (show _ from fun W hW => ⟨hst.out.row.later hW, by have := hW.size; have := hst.out.b.bel.size; omega⟩)
      obtain ⟨v0, v1, v2, v3, v4, v5, v6, v7, k8, v9, v10, kf⟩ := kp_cells hst.out.box
      clear v0 v1 v2 v3 v4 v5 v6 v7 v9 v10 hrow hc hy hEs hvp hvg hve2 hvf hvl hyi
      have hkb : kb < wr.heap.size := lt_of_get hst.out.box
      have HST := Lib.hid hst.out
      have HXE := Lib.hid hxe
      clear hst hxe
      have HK8 : Hid (∀ W, Below wr.heap.size wr W → W.cell? ⟨kb, 8, none⟩ = some (.slice a1 i j1) ∧ kb < W.heap.size) := (show _ from fun W hW => ⟨by rw [hW.cell (p := ⟨kb, 8, none⟩) hkb]; exact k8, by have := hW.size; omega⟩)
      go_upto_region 8 with fail
      have hxb := get_alloc_new wr (.cells (entCs xe (.slice pa xe.points.length pc) (.slice ga xe.gaps.length gc) (.slice ea xe.edges.length ec) (.slice fa xe.first.length fc) (.slice la xe.last.length lc)) 50)
      have hbb : Below wr.heap.size wr (wr.alloc (.cells (entCs xe (.slice pa xe.points.length pc) (.slice ga xe.gaps.length gc) (.slice ea xe.edges.length ec) (.slice fa xe.first.length fc) (.slice la xe.last.length lc)) 50)) := (Below.refl _ _).alloc (Nat.le_refl _) _
      unfold entCs at hxb hbb
      rw [← hbb.cell (p := ⟨kb, 8, none⟩) hkb] at k8
      have kf' : ∀ f, (wr.alloc (.cells #[.string xe.name, .int .i64 xe.tol, .slice pa xe.points.length pc, .int .i64 xe.count, .int .i64 xe.mn, .int .i64 xe.mx, .slice ga xe.gaps.length gc, .slice ea xe.edges.length ec, .slice fa xe.first.length fc, .slice la xe.last.length lc] 50)).frozen? ⟨kb, f, none⟩ = false := by
        obtain ⟨_, _, _, _, _, _, _, _, _, _, _, kf2⟩ := kp_cells ((below_keep hbb).get HST.out.box (fun h => h))
        exact kf2
      clear kf q0 q1 q2 q3 q4 q5 q6 q7 q8 q9
      generalize wr.alloc _ = w3 at hxb hbb k8 kf' ⊢
      obtain ⟨z0, z1, z2, z3, z4, z5, z6, z7, z8, z9, zf⟩ := ten_cells hxb
      obtain ⟨eb, heb⟩ : ∃ eb, eb = wr.heap.size := ⟨_, rfl⟩
      have heb2 : eb < w3.heap.size := by rw [heb]; exact lt_of_get hxb
      rw [← heb] at z0 z1 z2 z3 z4 z5 z6 z7 z8 z9 ⊢
      clear heb hxb zf
      go_region_law (first | (go_simp; go_at_call 116; refine (HNW.out _ ?_).mono ?_; (repeat (first | exact hbb | refine Below.drew ?_)); rintro e w5 ⟨l, rfl, l1, l2, b5⟩; obtain ⟨k85, hk5⟩ := HK8.out w5 b5) | (refine step_append_off rfl (.tmp 39) (.tmp 42) 64 rfl w0.heap.size 112 i0 _ 1 8 Tryz.underlying64 hi0 hz0 hz1 hz2 rfl (by decide) (.slice a1 i j1) i (ptrCs ls) rfl ?_ ⟨w5.heap.size, 0, none⟩ 1 1 [.pointer (some ⟨l, 0, none⟩)] rfl rfl ?_ (by intro u hu; simp at hu; subst hu; rfl) (by unfold maxLen; omega) (by omega) ?_ ?_; exact (HOW.out _ (by repeat (first | exact b5 | refine Below.drew ?_ | refine Below.alloc ?_ (Below.size b5) _))).1; exact new_cells _ [.pointer (some ⟨l, 0, none⟩)] _; exact (HOW.out _ (by repeat (first | exact b5 | refine Below.drew ?_ | refine Below.alloc ?_ (Below.size b5) _))).2; intro a2 k2 w6 ho6 hg6 hn6; obtain ⟨⟨o3, F1⟩, ⟨u8, d8⟩, df⟩ := HA.out l _ w6 _ _ (by repeat (first | exact b5 | refine Below.drew ?_ | refine Below.alloc ?_ (Below.size b5) _)) (get_alloc_old _ l2) l1 ho6 hg6 hn6; clear ho6 hg6 hn6))
      all_goals
        go_wp2_with fail
        go_roundw
        case rel => exact ⟨i + 1, a2, k2, ls ++ [l], o3, by omega, by go_num, F1⟩
        case measure => simp [intOf]; omega
    · have hie : i = x.X.length := by omega
      obtain ⟨v0, v1, v2, v3, k4, v5, v6, v7, v8, v9, v10, v11⟩ := kp_cells hst.out.box
      have HT := Lib.hid (totalNew_any C.delay wr HD0.out.1 HD0.out.2)
      have HIE := Lib.hid hie
      clear v0 v1 v2 v3 v5 v6 v7 v8 v9 v10 v11 hie
      go_wp2_with fail
      refine HT.out.mono ?_
      rintro e w3 ⟨rfl, t1, b3⟩
      obtain ⟨o', z1, z2⟩ := hst.out.done HIE.out b3 t1 (Nat.le_refl _)
      have Z := Lib.hid (And.intro z1 z2)
      obtain ⟨v0, v1, v2, v3, v4, v5, v6, v7, v8, k9, v10, kf⟩ := kp_cells ((below_keep b3).get hst.out.box (fun h => h))
      clear v0 v1 v2 v3 v4 v5 v6 v7 v8 v10 t1 b3 z1 z2 k4 hst
      go_wp2_with fail
      go_ret
      exact ⟨rfl, _, o', Z.out.1, Z.out.2⟩
end
end Go.Proofs.YtikehilbmldadaaGreatDoor
namespace Go.Proofs.YtikehilbmldadaaGreatDoor
open Go.RowKit
set_option linter.unusedVariables false
section
variable {B : Nat} {sa : Nat → Addr} {w0 : World} {kb c : Nat} {txt : ByteArray} {x : KpX} {M : KpM} {o : Nat → Nat} {w : World} {T : Nat}
theorem kpOn_off (h : kpOn M = 0) : M.m.off = false ∧ M.D.reset = false := by
  unfold kpOn at h
  cases h1 : M.m.off
  · rw [h1, if_neg (by decide)] at h
    cases h2 : M.D.reset
    · exact ⟨rfl, rfl⟩
    · rw [h2, if_pos rfl] at h; cases h
  · rw [h1, if_pos rfl] at h; cases h
theorem kpTick_any (h : KpIn B sa w0 kb c txt x M o w) (hO : KpOk M T) (hT : T + 2 ≤ 400000) :
    Calls Tryz.prog 44 #[.pointer (some ⟨kb, 0, none⟩)] w (KpPost B sa w0 kb c txt (kpTick M) o w) := by
  unfold KpPost
  have HOn := Lib.hid (kpOn_any h)
  have H := Lib.hid h
  have HOk := Lib.hid hO
  unfold kpTick
  by_cases h0 : kpOn M = 0
  · rw [h0] at HOn ⊢
    rw [if_neg (by decide)]
    obtain ⟨hoff, hres⟩ := kpOn_off h0
    obtain ⟨k0, k1, k2, k3, k4, k5, k6, k7, k8, k9, k10, kf⟩ := kp_cells h.box
    clear k1 k2 k3 k4 k5 k6 k7 k8 k9 k10 kf
    have hd := hO.dog
    have he : dogTickE M.D = 0 := by
      have hn := hO.now
      unfold dogTickE
      rw [hres, if_neg (by decide), if_neg (by omega)]
    rw [he, if_neg (by decide)]
    have HTi := Lib.hid (dogTick_any B sa x.d M.D w h.b.dog hd h.b.se)
    rw [he, errv_zero] at HTi
    obtain ⟨hk1, hk2, _⟩ := kpDog_ok hO (by omega) he
    have HK1 := Lib.hid hk1
    have HDg := Lib.hid (fun w1 (k : Keep (· = x.d) w w1) (g : DogAt w1 x.d (dogTick M.D)) => (show KpIn B sa w0 kb c txt x (kpDog M) o w1 ∧ Fr o o w w1 from ⟨h.dog' k g, Fr.of k (fun b hb => by rw [hb]; have := h.b.od; omega)⟩))
    have HOf := Lib.hid hoff
    have hn0 : 0 ≤ (dogTick M.D).now := by have := hk1.dog.l0; have := hk1.dog.ln; exact Int.le_trans ‹_› ‹_›
    obtain ⟨N, hN⟩ : ∃ N, N = kpDog M := ⟨_, rfl⟩
    have hND : dogTick M.D = N.D := by rw [hN]; rfl
    have hNC : M.C = N.C := by rw [hN]; rfl
    have hNm : M.m = N.m := by rw [hN]; rfl
    rw [hND, hNC, ← hN]
    rw [hND] at hn0 HTi HDg
    rw [← hN] at HDg HK1
    rw [hNm] at HOf
    have hcy := boundC_parts HK1.out.bound
    obtain ⟨cy, hcyE⟩ : ∃ cy, cy = N.C.cycle := ⟨_, rfl⟩
    obtain ⟨nw, hnwE⟩ : ∃ nw, nw = N.D.now := ⟨_, rfl⟩
    rw [← hcyE, ← hnwE]
    rw [← hcyE] at hcy
    rw [← hnwE] at hn0
    have hcy1 : 1 ≤ cy := hcy.2.2.2.2.1
    have hcyH := Lib.hid hcyE
    have hnwH := Lib.hid hnwE
    clear h hO h0 hoff hres hd he hk1 hk2 hN hND hNC hNm hcy hcyE hnwE
    cases hr : N.D.reset with
    | true =>
      rw [if_pos rfl]
      have HRe := Lib.hid (fun w1 (g : DogAt w1 x.d N.D) => (by have := dogReset_any x.d N.D w1 g; rw [hr] at this; exact this : Calls Tryz.prog 53 #[.pointer (some ⟨x.d, 0, none⟩)] w1 fun e w' => e = .returned (.bool true) ∧ w1 = w'))
      clear hr
      go_enter Tryz.func44, Tryz.ntmps44
      go_wp2_with fail
      refine HOn.out.mono ?_
      rintro e w1 ⟨rfl, rfl⟩
      rw [errv_zero]
      go_wp2_with fail
      refine HTi.out.mono ?_
      rintro e w1 ⟨rfl, g1, g2⟩
      have HR1 := Lib.hid (HRe.out w1 g1)
      obtain ⟨z1, z2⟩ := HDg.out w1 g2 g1
      have Z := Lib.hid (And.intro z1 z2)
      obtain ⟨j0, k1, k2, k3, k4, k5, k6, k7, k8, k9, k10, kf⟩ := kp_cells z1.box
      obtain ⟨_, _, _, _, _, _, _, _, _, _, s10⟩ := z1.b.se.all
      clear g1 g2 z1 z2 k0 k1 k2 k3 k4 k5 k6 k7 k8 k9 k10 kf
      go_wp2_with fail
      refine HR1.out.mono ?_
      rintro e w2 ⟨rfl, rfl⟩
      go_wp2_with fail
      go_ret
      exact ⟨rfl, x, o, Z.out.1, Z.out.2⟩
    | false =>
      rw [if_neg (by decide)]
      have HRe := Lib.hid (fun w1 (g : DogAt w1 x.d N.D) => (by have := dogReset_any x.d N.D w1 g; rw [hr] at this; exact this : Calls Tryz.prog 53 #[.pointer (some ⟨x.d, 0, none⟩)] w1 fun e w' => e = .returned (.bool false) ∧ w1 = w'))
      have HNw := Lib.hid (fun w1 q (g : DogAt w1 x.d N.D) => (by have := dogNow_any x.d N.D (w1.drewN q) (get_drewN q g); rw [← hnwH.out] at this; exact this : Calls Tryz.prog 26 #[.pointer (some ⟨x.d, 0, none⟩)] (w1.drewN q) fun e w' => e = .returned (.int .i64 nw) ∧ w1.drewN q = w'))
      have htm : nw.tmod cy = nw % cy := Int.tmod_eq_emod_of_nonneg hn0
      by_cases hc : nw % cy = 0
      · rw [if_pos hc]
        have hte : (nw % cy == 0) = true := by rw [hc]; rfl
        have HEnd := Lib.hid (fun w1 (g : KpIn B sa w0 kb c txt x N o w1) => kpEnd_any g HK1.out HOf.out)
        unfold KpPost at HEnd
        obtain ⟨r, hre⟩ : ∃ r, r = kpEnd N := ⟨_, rfl⟩
        rw [← hre] at HEnd ⊢
        obtain ⟨re, rM⟩ := r
        clear hr htm hc hre
        go_enter Tryz.func44, Tryz.ntmps44
        go_wp2_with fail
        refine HOn.out.mono ?_
        rintro e w1 ⟨rfl, rfl⟩
        rw [errv_zero]
        go_wp2_with fail
        refine HTi.out.mono ?_
        rintro e w1 ⟨rfl, g1, g2⟩
        have HR1 := Lib.hid (HRe.out w1 g1)
        have HN1 := Lib.hid (fun q => HNw.out w1 q g1)
        obtain ⟨z1, z2⟩ := HDg.out w1 g2 g1
        have Z := Lib.hid (And.intro z1 z2)
        obtain ⟨j0, k1, k2, j3, k4, k5, k6, k7, k8, k9, k10, kf⟩ := kp_cells z1.box
        rw [← hcyH.out] at j3
        clear g1 g2 z1 z2 k0 k1 k2 k4 k5 k6 k7 k8 k9 k10 kf HNw HRe HTi HDg
        go_wp2_with fail
        refine HR1.out.mono ?_
        rintro e w2 ⟨rfl, rfl⟩
        go_wp2_with fail
        go_quiet (first | (go_at_call 26; exact quiet_of_eqE (HN1.out _)))
        generalize hq : World.drewN w1 _ = wq
        have hb : Below w1.heap.size w1 wq := by rw [← hq]; exact below_drewN' _ (Below.refl _ _)
        have HZq := Lib.hid (And.intro (Z.out.1.below hb) (Z.out.2.trans (Fr.below o hb)))
        have HEq := Lib.hid (HEnd.out wq HZq.out.1)
        clear hq hb j0 j3 HN1 HR1 Z HEnd
        go_wp2_with fail
        refine HEq.out.mono ?_
        rintro e w2 ⟨rfl, x', o', z1, z2⟩
        have Z2 := Lib.hid (And.intro z1 (HZq.out.2.trans z2))
        clear z1 z2
        go_wp2_with fail
        go_ret
        exact ⟨rfl, x', o', Z2.out.1, Z2.out.2⟩
      · rw [if_neg hc]
        have hte : (nw % cy == 0) = false := beq_eq_false_iff_ne.2 hc
        clear hr htm hc
        go_enter Tryz.func44, Tryz.ntmps44
        go_wp2_with fail
        refine HOn.out.mono ?_
        rintro e w1 ⟨rfl, rfl⟩
        rw [errv_zero]
        go_wp2_with fail
        refine HTi.out.mono ?_
        rintro e w1 ⟨rfl, g1, g2⟩
        have HR1 := Lib.hid (HRe.out w1 g1)
        have HN1 := Lib.hid (fun q => HNw.out w1 q g1)
        obtain ⟨z1, z2⟩ := HDg.out w1 g2 g1
        have Z := Lib.hid (And.intro z1 z2)
        obtain ⟨j0, k1, k2, j3, k4, k5, k6, k7, k8, k9, k10, kf⟩ := kp_cells z1.box
        rw [← hcyH.out] at j3
        clear g1 g2 z1 z2 k0 k1 k2 k4 k5 k6 k7 k8 k9 k10 kf HNw HRe HTi HDg
        go_wp2_with fail
        refine HR1.out.mono ?_
        rintro e w2 ⟨rfl, rfl⟩
        go_wp2_with fail
        go_quiet (first | (go_at_call 26; exact quiet_of_eqE (HN1.out _)))
        generalize hq : World.drewN w1 _ = wq
        have hb : Below w1.heap.size w1 wq := by rw [← hq]; exact below_drewN' _ (Below.refl _ _)
        have HZq := Lib.hid (And.intro (Z.out.1.below hb) (Z.out.2.trans (Fr.below o hb)))
        clear hq hb j0 j3 HN1 HR1 Z
        go_wp2_with fail
        go_ret
        exact ⟨rfl, x, o, HZq.out.1, HZq.out.2⟩
  · rw [if_pos h0]
    obtain ⟨q, hq⟩ : ∃ q, kpOn M = q + 1 := ⟨kpOn M - 1, by omega⟩
    rw [hq] at HOn ⊢
    clear h hO h0 hq
    go_enter Tryz.func44, Tryz.ntmps44
    go_wp2_with fail
    refine HOn.out.mono ?_
    rintro e w1 ⟨rfl, rfl⟩
    rw [errv_succ]
    go_wp2_with fail
    go_ret
    exact ⟨rfl, x, o, H.out, Fr.refl _ _⟩
end
end Go.Proofs.YtikehilbmldadaaGreatDoor
