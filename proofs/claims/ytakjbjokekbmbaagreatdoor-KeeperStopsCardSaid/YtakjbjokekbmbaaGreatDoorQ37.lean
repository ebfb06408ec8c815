/- Package keeper: Tick, Boot. -/
import Derived.Test.YtakjbjokekbmbaaGreatDoorQ34
import Derived.Test.YtakjbjokekbmbaaGreatDoorQ36
import Derived.Test.YtakjbjokekbmbaaGreatDoorQ27
import Derived.Test.YtakjbjokekbmbaaGreatDoorQ32
namespace Go.Proofs.YtakjbjokekbmbaaGreatDoor
open Go.RowKit
set_option linter.unusedVariables false

section
variable {B : Nat} {sa : Nat → Addr} {w0 : World} {kb c : Nat} {txt : ByteArray} {x : KpX} {M : KpM} {o : Nat → Nat} {w : World} {T : Nat}
theorem kpOn_off (h : kpOn M = 0) : M.m.off = false ∧ M.D.reset = false := by
  unfold kpOn at h
  cases h1 : M.m.off
  · rw [h1, if_neg (by decide)] at h
    cases h2 : M.D.reset
    · exact ⟨rfl, rfl⟩
    · rw [h2, if_pos rfl] at h; cases h
  · rw [h1, if_pos rfl] at h; cases h
set_option maxRecDepth 100000 in
set_option maxHeartbeats 4000000 in
theorem kpTick_any (h : KpIn B sa w0 kb c txt x M o w) (hO : KpOk M T) (hT : T + 2 ≤ 100000) :
    Calls Tryz.prog 20 #[.pointer (some ⟨kb, 0, none⟩)] w (KpPost B sa w0 kb c txt (kpTick M) o w) := by
  unfold KpPost
  have HOn := Lib.hid (kpOn_any h)
  have H := Lib.hid h
  have HOk := Lib.hid hO
  unfold kpTick
  by_cases h0 : kpOn M = 0
  · rw [h0] at HOn ⊢
    rw [if_neg (by decide)]
    obtain ⟨hoff, hres⟩ := kpOn_off h0
    obtain ⟨k0, k1, k2, k3, k4, k5, k6, k7, k8, k9, k10, kf⟩ := kp_cells h.box
    clear k1 k2 k3 k4 k5 k6 k7 k8 k9 k10 kf
    have hd := hO.dog
    have he : dogTickE M.D = 0 := by
      have hn := hO.now
      unfold dogTickE
      rw [hres, if_neg (by decide), if_neg (by omega)]
    rw [he, if_neg (by decide)]
    have HTi := Lib.hid (dogTick_any B sa x.d M.D w h.b.dog hd h.b.se)
    rw [he, errv_zero] at HTi
    obtain ⟨hk1, hk2, _⟩ := kpDog_ok hO (by omega) he
    have HK1 := Lib.hid hk1
    have HDg := Lib.hid (fun w1 (k : Keep (· = x.d) w w1) (g : DogAt w1 x.d (dogTick M.D)) => (show KpIn B sa w0 kb c txt x (kpDog M) o w1 ∧ Fr o o w w1 from ⟨h.dog' k g, Fr.of k (fun b hb => by rw [hb]; have := h.b.od; omega)⟩))
    have HOf := Lib.hid hoff
    have hn0 : 0 ≤ (dogTick M.D).now := by have := hk1.dog.l0; have := hk1.dog.ln; exact Int.le_trans ‹_› ‹_›
    obtain ⟨N, hN⟩ : ∃ N, N = kpDog M := ⟨_, rfl⟩
    have hND : dogTick M.D = N.D := by rw [hN]; rfl
    have hNC : M.C = N.C := by rw [hN]; rfl
    have hNm : M.m = N.m := by rw [hN]; rfl
    rw [hND, hNC, ← hN]
    rw [hND] at hn0 HTi HDg
    rw [← hN] at HDg HK1
    rw [hNm] at HOf
    have hcy := boundC_parts HK1.out.bound
    obtain ⟨cy, hcyE⟩ : ∃ cy, cy = N.C.cycle := ⟨_, rfl⟩
    obtain ⟨nw, hnwE⟩ : ∃ nw, nw = N.D.now := ⟨_, rfl⟩
    rw [← hcyE, ← hnwE]
    rw [← hcyE] at hcy
    rw [← hnwE] at hn0
    have hcy1 : 1 ≤ cy := hcy.2.2.2.2.1
    have hcyH := Lib.hid hcyE
    have hnwH := Lib.hid hnwE
    clear h hO h0 hoff hres hd he hk1 hk2 hN hND hNC hNm hcy hcyE hnwE
    cases hr : N.D.reset with
    | true =>
      rw [if_pos rfl]
      have HRe := Lib.hid (fun w1 (g : DogAt w1 x.d N.D) => (by have := dogReset_any x.d N.D w1 g; rw [hr] at this; exact this : Calls Tryz.prog 36 #[.pointer (some ⟨x.d, 0, none⟩)] w1 fun e w' => e = .returned (.bool true) ∧ w1 = w'))
      clear hr
      go_enter Tryz.func20, Tryz.ntmps20
      go_wp2_with fail
      refine HOn.out.mono ?_
      rintro e w1 ⟨rfl, rfl⟩
      rw [errv_zero]
      go_wp2_with fail
      refine HTi.out.mono ?_
      rintro e w1 ⟨rfl, g1, g2⟩
      have HR1 := Lib.hid (HRe.out w1 g1)
      obtain ⟨z1, z2⟩ := HDg.out w1 g2 g1
      have Z := Lib.hid (And.intro z1 z2)
      obtain ⟨j0, k1, k2, k3, k4, k5, k6, k7, k8, k9, k10, kf⟩ := kp_cells z1.box
      obtain ⟨_, _, _, _, _, _, _, _, _, _, s10⟩ := z1.b.se.all
      clear g1 g2 z1 z2 k0 k1 k2 k3 k4 k5 k6 k7 k8 k9 k10 kf
      go_wp2_with fail
      refine HR1.out.mono ?_
      rintro e w2 ⟨rfl, rfl⟩
      go_wp2_with fail
      go_ret
      exact ⟨rfl, x, o, Z.out.1, Z.out.2⟩
    | false =>
      rw [if_neg (by decide)]
      have HRe := Lib.hid (fun w1 (g : DogAt w1 x.d N.D) => (by have := dogReset_any x.d N.D w1 g; rw [hr] at this; exact this : Calls Tryz.prog 36 #[.pointer (some ⟨x.d, 0, none⟩)] w1 fun e w' => e = .returned (.bool false) ∧ w1 = w'))
      have HNw := Lib.hid (fun w1 q (g : DogAt w1 x.d N.D) => (by have := dogNow_any x.d N.D (w1.drewN q) (get_drewN q g); rw [← hnwH.out] at this; exact this : Calls Tryz.prog 17 #[.pointer (some ⟨x.d, 0, none⟩)] (w1.drewN q) fun e w' => e = .returned (.int .i64 nw) ∧ w1.drewN q = w'))
      have htm : nw.tmod cy = nw % cy := Int.tmod_eq_emod_of_nonneg hn0
      by_cases hc : nw % cy = 0
      · rw [if_pos hc]
        have hte : (nw % cy == 0) = true := by rw [hc]; rfl
        have HEnd := Lib.hid (fun w1 (g : KpIn B sa w0 kb c txt x N o w1) => kpEnd_any g HK1.out HOf.out)
        unfold KpPost at HEnd
        obtain ⟨r, hre⟩ : ∃ r, r = kpEnd N := ⟨_, rfl⟩
        rw [← hre] at HEnd ⊢
        obtain ⟨re, rM⟩ := r
        clear hr htm hc hre
        go_enter Tryz.func20, Tryz.ntmps20
        go_wp2_with fail
        refine HOn.out.mono ?_
        rintro e w1 ⟨rfl, rfl⟩
        rw [errv_zero]
        go_wp2_with fail
        refine HTi.out.mono ?_
        rintro e w1 ⟨rfl, g1, g2⟩
        have HR1 := Lib.hid (HRe.out w1 g1)
        have HN1 := Lib.hid (fun q => HNw.out w1 q g1)
        obtain ⟨z1, z2⟩ := HDg.out w1 g2 g1
        have Z := Lib.hid (And.intro z1 z2)
        obtain ⟨j0, k1, k2, j3, k4, k5, k6, k7, k8, k9, k10, kf⟩ := kp_cells z1.box
        rw [← hcyH.out] at j3
        clear g1 g2 z1 z2 k0 k1 k2 k4 k5 k6 k7 k8 k9 k10 kf HNw HRe HTi HDg
        go_wp2_with fail
        refine HR1.out.mono ?_
        rintro e w2 ⟨rfl, rfl⟩
        go_wp2_with fail
        go_quiet (first | (go_at_call 17; exact quiet_of_eqE (HN1.out _)))
        generalize hq : World.drewN w1 _ = wq
        have hb : Below w1.heap.size w1 wq := by rw [← hq]; exact below_drewN' _ (Below.refl _ _)
        have HZq := Lib.hid (And.intro (Z.out.1.below hb) (Z.out.2.trans (Fr.below o hb)))
        have HEq := Lib.hid (HEnd.out wq HZq.out.1)
        clear hq hb j0 j3 HN1 HR1 Z HEnd
        go_wp2_with fail
        refine HEq.out.mono ?_
        rintro e w2 ⟨rfl, x', o', z1, z2⟩
        have Z2 := Lib.hid (And.intro z1 (HZq.out.2.trans z2))
        clear z1 z2
        go_wp2_with fail
        go_ret
        exact ⟨rfl, x', o', Z2.out.1, Z2.out.2⟩
      · rw [if_neg hc]
        have hte : (nw % cy == 0) = false := beq_eq_false_iff_ne.2 hc
        clear hr htm hc
        go_enter Tryz.func20, Tryz.ntmps20
        go_wp2_with fail
        refine HOn.out.mono ?_
        rintro e w1 ⟨rfl, rfl⟩
        rw [errv_zero]
        go_wp2_with fail
        refine HTi.out.mono ?_
        rintro e w1 ⟨rfl, g1, g2⟩
        have HR1 := Lib.hid (HRe.out w1 g1)
        have HN1 := Lib.hid (fun q => HNw.out w1 q g1)
        obtain ⟨z1, z2⟩ := HDg.out w1 g2 g1
        have Z := Lib.hid (And.intro z1 z2)
        obtain ⟨j0, k1, k2, j3, k4, k5, k6, k7, k8, k9, k10, kf⟩ := kp_cells z1.box
        rw [← hcyH.out] at j3
        clear g1 g2 z1 z2 k0 k1 k2 k4 k5 k6 k7 k8 k9 k10 kf HNw HRe HTi HDg
        go_wp2_with fail
        refine HR1.out.mono ?_
        rintro e w2 ⟨rfl, rfl⟩
        go_wp2_with fail
        go_quiet (first | (go_at_call 17; exact quiet_of_eqE (HN1.out _)))
        generalize hq : World.drewN w1 _ = wq
        have hb : Below w1.heap.size w1 wq := by rw [← hq]; exact below_drewN' _ (Below.refl _ _)
        have HZq := Lib.hid (And.intro (Z.out.1.below hb) (Z.out.2.trans (Fr.below o hb)))
        clear hq hb j0 j3 HN1 HR1 Z
        go_wp2_with fail
        go_ret
        exact ⟨rfl, x, o, HZq.out.1, HZq.out.2⟩
  · rw [if_pos h0]
    obtain ⟨q, hq⟩ : ∃ q, kpOn M = q + 1 := ⟨kpOn M - 1, by omega⟩
    rw [hq] at HOn ⊢
    clear h hO h0 hq
    go_enter Tryz.func20, Tryz.ntmps20
    go_wp2_with fail
    refine HOn.out.mono ?_
    rintro e w1 ⟨rfl, rfl⟩
    rw [errv_succ]
    go_wp2_with fail
    go_ret
    exact ⟨rfl, x, o, H.out, Fr.refl _ _⟩

end
end Go.Proofs.YtakjbjokekbmbaaGreatDoor

/- Package keeper: Boot. -/
namespace Go.Proofs.YtakjbjokekbmbaaGreatDoor
open Go.RowKit
set_option linter.unusedVariables false

section
variable {B : Nat} {sa : Nat → Addr} {w0 : World} {kb c : Nat} {txt : ByteArray} {x : KpX} {M : KpM} {o : Nat → Nat} {w : World} {T : Nat}
theorem kpOpen_D (C : ConfV) (D D' : DogM) (m : CM) : ({ kpOpen C D m with D := D' } : KpM) = kpOpen C D' m := by simp only [kpOpen]
set_option maxHeartbeats 4000000 in
theorem kpBoot_any (h : KpIn B sa w0 kb c txt x M o w) (hO : KpOk M T) :
    Calls Tryz.prog 22 #[.pointer (some ⟨kb, 0, none⟩)] w (KpPost B sa w0 kb c txt (kpBoot M) o w) := by
  unfold KpPost
  have HOn := Lib.hid (kpOn_any h)
  have H := Lib.hid h
  have HOk := Lib.hid hO
  obtain ⟨k0, k1, k2, k3, k4, k5, k6, k7, k8, k9, k10, kf⟩ := kp_cells h.box
  unfold kpBoot
  by_cases h0 : kpOn M = 0
  · rw [h0] at HOn
    rw [if_pos h0]
    obtain ⟨_, _, _, _, _, _, _, _, _, s9, _⟩ := h.b.se.all
    clear h hO h0 k0 k1 k2 k3 k4 k5 k6 k7 k8 k9 k10 kf
    go_enter Tryz.func22, Tryz.ntmps22
    go_wp2_with fail
    refine HOn.out.mono ?_
    rintro e w1 ⟨rfl, rfl⟩
    rw [errv_zero]
    go_wp2_with fail
    go_ret
    exact ⟨rfl, x, o, H.out, Fr.refl _ _⟩
  · rw [if_neg h0]
    obtain ⟨q, hq⟩ : ∃ q, kpOn M = q + 1 := ⟨kpOn M - 1, by omega⟩
    rw [hq] at HOn
    have HCo := Lib.hid (cellsOn_any c x.rb _ x.cap M.m w h.b.mem)
    have HK := Lib.hid (fun w1 (k : Keep (· = c) w w1) (g : CellsAt w1 c x.rb (some ⟨x.rb, 0, none⟩) x.cap ⟨M.m.bs, false, -1, M.m.wr⟩) => (show KpIn B sa w0 kb c txt x { M with m := ⟨M.m.bs, false, -1, M.m.wr⟩ } o w1 ∧ Fr o o w w1 from ⟨h.cell' k g, Fr.of k (fun b hb => by rw [hb]; have := h.b.oc; omega)⟩))
    have HBl := Lib.hid hO.len
    clear h hO h0 hq k0 k1 k2 k3 k4 k5 k7 k8 k9 k10 kf
    go_enter Tryz.func22, Tryz.ntmps22
    go_wp2_with fail
    refine HOn.out.mono ?_
    rintro e w1 ⟨rfl, rfl⟩
    rw [errv_succ]
    go_wp2_with fail
    refine HCo.out.mono ?_
    rintro e w1 ⟨rfl, g1, g2⟩
    obtain ⟨z1, z2⟩ := HK.out w1 g2 g1
    have HOp := Lib.hid (kpOpen_any z1.b z1.box HOk.out.bound (by show 153 ≤ M.m.bs.length; rw [HBl.out]; decide) rfl)
    have HF := Lib.hid z2
    clear g1 g2 z1 z2 k6 HK HCo
    go_wp2_with fail
    refine HOp.out.mono ?_
    rintro e w2 ⟨rfl, x', o', z1, z2⟩
    have HZ := Lib.hid z1
    have HF2 := Lib.hid (HF.out.trans z2)
    obtain ⟨j0, k1, k2, k3, k4, k5, k6, k7, k8, k9, k10, kf⟩ := kp_cells z1.box
    have HSt := Lib.hid (dogStart_any x'.d M.D w2 z1.b.dog)
    clear z1 z2 k1 k2 k3 k4 k5 k6 k7 k8 k9 k10 kf HOp HF
    go_wp2_with fail
    refine HSt.out.mono ?_
    rintro e w3 ⟨rfl, g1, g2⟩
    have z3 := HZ.out.dog' g2 g1
    rw [kpOpen_D] at z3
    have HZ3 := Lib.hid z3
    have HF3 := Lib.hid (HF2.out.trans (Fr.of g2 (fun b hb => by rw [hb]; have := HZ.out.b.od; omega)))
    clear g1 g2 j0 HSt z3
    go_wp2_with fail
    go_ret
    exact ⟨rfl, x', o', HZ3.out, HF3.out⟩
end
end Go.Proofs.YtakjbjokekbmbaaGreatDoor

/- Laws of a watch: ticks, actsFit, quiet. -/
namespace Go.Proofs.YtakjbjokekbmbaaGreatDoor
open Go.RowKit
set_option linter.unusedVariables false

section
variable {B : Nat} {sa : Nat → Addr} {w0 : World} {kb c : Nat} {txt : ByteArray} {x : KpX} {M : KpM} {o : Nat → Nat} {w : World} {T : Nat}
end

end Go.Proofs.YtakjbjokekbmbaaGreatDoor

/- Package conf: a reader in memory. -/
namespace Go.Proofs.YtakjbjokekbmbaaGreatDoor
open Go.RowKit
set_option linter.unusedVariables false

def fT (j : Nat) : TypeId := [9, 96, 97, 3, 3].getD j 3
def fS (j : Nat) : Nat := [1, 4, 2, 1, 1].getD j 1
def fO (j : Nat) : Nat := [2, 6, 7, 8, 9].getD j 2
def fV (y : EntX) (j : Nat) : Value := [y.p, y.g, y.e, y.f, y.l].getD j y.p
def fN (E : EntV) (j : Nat) : Nat := [E.points.length, E.gaps.length, E.edges.length, E.first.length, E.last.length].getD j 0
def fC (E : EntV) (j : Nat) : List Value := [strCells1 E.points, E.gaps.flatMap gapCells, E.edges.flatMap edgeCells, intCells E.first, intCells E.last].getD j []
/-- An entity whose five rows are one's own; o tells to whom a block belongs. -/
def EntOwn (base : Nat) (o : Nat → Option Nat) (t : Nat) (y : EntX) (w : World) : Prop :=
  ∀ j, j < 5 → OwnAt w base (fT j) (fS j) (fV y j) (fN y.E j) (fC y.E j) ∧ ∀ b, (fV y j).ownBlock = some b → o b = some (t + j)
theorem EntOwn.keep {base : Nat} {o o' : Nat → Option Nat} {t : Nat} {y : EntX} {S : Nat → Prop} {w w' : World} (h : EntOwn base o t y w) (k : Keep S w w') (hS : ∀ b, b < w.heap.size → S b → ∀ j, j < 5 → o b ≠ some (t + j)) (ho : ∀ b, b < w.heap.size → o' b = o b) : EntOwn base o' t y w' := by
  intro j hj
  obtain ⟨h1, h2⟩ := h j hj
  refine ⟨h1.keep k (fun b hb hs => hS b (h1.lt b hb).2 hs j hj (h2 b hb)), fun b hb => ?_⟩
  rw [ho b (h1.lt b hb).2]
  exact h2 b hb
theorem EntOwn.slOf {base : Nat} {o : Nat → Option Nat} {t : Nat} {y : EntX} {w : World} (h : EntOwn base o t y w) : EntSl (fun b => base ≤ b ∧ b < w.heap.size) w y.E y.p y.g y.e y.f y.l := by
  have k : ∀ {v : Value} {e : TypeId} {sz : Nat} {cs : List Value} {n : Nat}, OwnAt w base e sz v n cs → SlOf (fun b => base ≤ b ∧ b < w.heap.size) w v sz cs n := by
    intro v e sz cs n h
    obtain ⟨hl, ao, cap, hv, h1, h2, h3, h4⟩ := h.slOf
    refine ⟨hl, ao, cap, hv, h1, h2, h3, fun hp => ?_⟩
    obtain ⟨b, off, ha, hR, hb, hc⟩ := h4 hp
    exact ⟨b, off, ha, ⟨hR.1, hb⟩, hb, hc⟩
  exact ⟨k (h 0 (by decide)).1, k (h 1 (by decide)).1, k (h 2 (by decide)).1, k (h 3 (by decide)).1, k (h 4 (by decide)).1⟩

def rdCs (C : ConfV) (v : Value) (st : Int) : Array Value := #[.int .i64 C.closed, .int .i64 C.opn, .int .i64 C.cycle, .int .i64 C.delay, v, .int .i64 st]
structure RdAt (base rb : Nat) (o : Nat → Option Nat) (C : ConfV) (st : Int) (v : Value) (Y : List EntX) (w : World) : Prop where
  blk : w.heap[rb]? = some (.cells (rdCs C v st) 145)
  lo : rb < base
  top : base ≤ w.heap.size
  fr : ∀ b, w.heap.size ≤ b → o b = none
  ob : ∀ b, b < base → o b = none
  row : OwnAt w base 38 10 v Y.length (Y.flatMap entXCells)
  rt : ∀ b, v.ownBlock = some b → o b = some 0
  own : ∀ i (hi : i < Y.length), EntOwn base o (1 + 5 * i) Y[i] w
  eq : C.ents = Y.map EntX.E
theorem RdAt.keep {base rb : Nat} {o : Nat → Option Nat} {C : ConfV} {st : Int} {v : Value} {Y : List EntX} {S : Nat → Prop} {w w' : World} (h : RdAt base rb o C st v Y w) (k : Keep S w w') (hS : ∀ b, b < w.heap.size → S b → b ≠ rb ∧ o b = none) : RdAt base rb o C st v Y w' := by
  have hl := lt_of_get h.blk
  refine ⟨k.get h.blk (fun hs => (hS rb hl hs).1 rfl), h.lo, Nat.le_trans h.top k.size, fun b hb => h.fr b (Nat.le_trans k.size hb), h.ob, ?_, h.rt, fun i hi => ?_, h.eq⟩
  · exact h.row.keep k (fun b hb hs => by have := (hS b (h.row.lt b hb).2 hs).2; rw [h.rt b hb] at this; cases this)
  · exact (h.own i hi).keep k (fun b hb hs j hj => by rw [(hS b hb hs).2]; simp) (fun _ _ => rfl)
theorem RdAt.later {base rb : Nat} {o : Nat → Option Nat} {C : ConfV} {st : Int} {v : Value} {Y : List EntX} {w w' : World} (h : RdAt base rb o C st v Y w) (b : Below w.heap.size w w') : RdAt base rb o C st v Y w' :=
  h.keep (below_keep b) (fun _ _ h => h.elim)
theorem rd_cells {w : World} {rb : Nat} {C : ConfV} {v : Value} {st : Int} (h : w.heap[rb]? = some (.cells (rdCs C v st) 145)) :
    w.cell? ⟨rb, 0, none⟩ = some (.int .i64 C.closed) ∧ w.cell? ⟨rb, 1, none⟩ = some (.int .i64 C.opn) ∧ w.cell? ⟨rb, 2, none⟩ = some (.int .i64 C.cycle) ∧ w.cell? ⟨rb, 3, none⟩ = some (.int .i64 C.delay) ∧ w.cell? ⟨rb, 4, none⟩ = some v ∧ w.cell? ⟨rb, 5, none⟩ = some (.int .i64 st) ∧ ∀ o, w.frozen? ⟨rb, o, none⟩ = false := by
  unfold rdCs at h
  simp [World.cell?, World.frozen?, h]
/-- A store into the reader's own cells. -/
theorem RdAt.set {base rb : Nat} {o : Nat → Option Nat} {C C' : ConfV} {st st' : Int} {v : Value} {Y : List EntX} {w : World} (h : RdAt base rb o C st v Y w) (k : Nat) (u : Value) (he : (rdCs C v st).setIfInBounds k u = rdCs C' v st') (hC : C'.ents = C.ents) : RdAt base rb o C' st' v Y (w.setCell ⟨rb, k, none⟩ u) := by
  have kk := keep_set w rb k u
  have hor : o rb = none := h.ob rb h.lo
  refine ⟨?_, h.lo, Nat.le_trans h.top kk.size, fun b hb => h.fr b (Nat.le_trans kk.size hb), h.ob, ?_, h.rt, fun i hi => ?_, by rw [hC]; exact h.eq⟩
  · rw [get_setCell _ h.blk, he]
  · exact h.row.keep kk (fun b hb hs => by have := h.rt b hb; rw [show b = rb from hs, hor] at this; cases this)
  · exact (h.own i hi).keep kk (fun b hb hs j hj => by rw [show b = rb from hs, hor]; simp) (fun _ _ => rfl)

/-- A store into a row of one's own. -/
theorem OwnAt.stored {w : World} {base : Nat} {e : TypeId} {size g off n cap : Nat} {xs : List Value} (h : OwnAt w base e size (.slice (some ⟨g, off, none⟩) n cap) n xs) (j : Nat) (hj : j < n * size) (u : Value) :
    OwnAt (w.setCell ⟨g, off + j, none⟩ u) base e size (.slice (some ⟨g, off, none⟩) n cap) n (xs.set j u) ∧ w.frozen? ⟨g, off + j, none⟩ = false := by
  rcases h.2 with ⟨h', _⟩ | ⟨g', off', cap', cur, hv, h2, h3, h4, h5, h6, h7⟩
  · cases h'
  · obtain ⟨e1, _, e3⟩ := Value.slice.inj hv
    obtain ⟨rfl, rfl, _⟩ := Addr.mk.inj (Option.some.inj e1)
    subst e3
    refine ⟨⟨by rw [List.length_set]; exact h.1, .inr ⟨g, off, cap, cur.setIfInBounds (off + j) u, rfl, h2, get_setCell u h3, h4, h5, by simpa using h6, ?_⟩⟩, by simp [World.frozen?, h3]⟩
    rw [Array.toList_setIfInBounds, ← h7]
    apply List.ext_getElem?
    intro i
    simp only [List.getElem?_take, List.getElem?_drop, List.getElem?_set, List.length_take, List.length_drop, Array.length_toList]
    have hm : n * size ≤ cap * size := Nat.mul_le_mul_right _ h4
    by_cases hi : i < n * size
    · simp only [hi, if_true]
      by_cases hij : j = i
      · subst hij
        rw [if_pos rfl, if_pos rfl, if_pos (by omega), if_pos (by omega)]
      · rw [if_neg (by omega), if_neg hij]
    · simp only [hi, if_false]
      rw [if_neg (by omega)]
/-- The last entity's place. -/
theorem RdAt.form {base rb : Nat} {o : Nat → Option Nat} {C : ConfV} {st : Int} {v : Value} {Z : List EntX} {y : EntX} {w : World} (h : RdAt base rb o C st v (Z ++ [y]) w) :
    ∃ g off cap, v = .slice (some ⟨g, off, none⟩) (Z.length + 1) cap ∧ (Z.length + 1 ≤ cap ∧ cap ≤ maxLen) ∧ o g = some 0 ∧ base ≤ g ∧ g < w.heap.size ∧ g ≠ rb ∧ ∀ k u, (entXCells y)[k]? = some u → w.cell? ⟨g, off + (Z.length * 10 + k), none⟩ = some u := by
  have hr := h.row
  rw [List.length_append, List.length_singleton] at hr
  rcases hr.2 with ⟨_, h0⟩ | ⟨g, off, cap, cur, rfl, h2, h3, h4, h5, h6, h7⟩
  · omega
  · refine ⟨g, off, cap, rfl, ⟨h4, h5⟩, h.rt g rfl, h2, lt_of_get h3, by have := h.lo; omega, fun k u hu => ?_⟩
    have := hr.cells (g := g) (off := off) (cap := cap) (Z.length * 10 + k) u (by
      rw [List.flatMap_append, List.getElem?_append_right (by rw [flat_len entXCells 10 (fun _ => rfl)]; omega), flat_len entXCells 10 (fun _ => rfl)]
      simpa using hu)
    rw [addr_add] at this
    exact this
theorem flat_setR (Z : List EntX) (y y' : EntX) (k : Nat) (hk : k < 10) (u : Value) (he : entXCells y' = (entXCells y).set k u) : ((Z ++ [y]).flatMap entXCells).set (Z.length * 10 + k) u = (Z ++ [y']).flatMap entXCells := by
  have hl : (Z.flatMap entXCells).length = Z.length * 10 := flat_len entXCells 10 (fun _ => rfl) Z
  rw [List.flatMap_append, List.flatMap_append, List.flatMap_singleton, List.flatMap_singleton, he, List.set_append_right _ _ (by omega), hl, Nat.add_sub_cancel_left]

theorem own_of {o : Nat → Option Nat} {T : Nat} {v v2 : Value} {w1 : World} (hn : v2.ownBlock = v.ownBlock ∨ ∀ b, v2.ownBlock = some b → w1.heap.size ≤ b) (hv : ∀ b, v.ownBlock = some b → o b = some T) {b : Nat} (hb : b < w1.heap.size) (h2 : v2.ownBlock = some b) : o b = some T := by
  rcases hn with hn | hn
  · exact hv b (by rw [← hn]; exact h2)
  · have := hn b h2; omega
/-- An append onto a row of the last entity's, stored back. -/
theorem RdAt.appF {base rb : Nat} {o : Nat → Option Nat} {C C' : ConfV} {st : Int} {Z : List EntX} {y y' : EntX} {w w1 w2 : World} {g off cap : Nat} (h : RdAt base rb o C st (.slice (some ⟨g, off, none⟩) (Z.length + 1) cap) (Z ++ [y]) w) (j : Nat) (hj : j < 5) (b1 : Below w.heap.size w w1) {v2 : Value} {n : Nat} {cs : List Value}
    (ho : OwnAt w2 base (fT j) (fS j) v2 n cs) (hg : w1.grownBy w2 (fV y j).ownBlock) (hn : v2.ownBlock = (fV y j).ownBlock ∨ ∀ b, v2.ownBlock = some b → w1.heap.size ≤ b)
    (hX : entXCells y' = (entXCells y).set (fO j) v2) (hO : (entXCells y)[fO j]? = some (fV y j)) (hs : ∀ i, i < 5 → i ≠ j → fV y' i = fV y i ∧ fN y'.E i = fN y.E i ∧ fC y'.E i = fC y.E i) (hj2 : fV y' j = v2 ∧ fN y'.E j = n ∧ fC y'.E j = cs)
    (hC : rdCs C' (.slice (some ⟨g, off, none⟩) (Z.length + 1) cap) st = rdCs C (.slice (some ⟨g, off, none⟩) (Z.length + 1) cap) st) (hE : C'.ents = (Z ++ [y']).map EntX.E) :
    (∃ o', RdAt base rb o' C' st (.slice (some ⟨g, off, none⟩) (Z.length + 1) cap) (Z ++ [y']) (w2.setCell ⟨g, off + (Z.length * 10 + fO j), none⟩ v2)) ∧ Keep (fun b => ∃ t, o b = some t) w (w2.setCell ⟨g, off + (Z.length * 10 + fO j), none⟩ v2) ∧
      w2.cell? ⟨g, off + (Z.length * 10 + fO j), none⟩ = some (fV y j) ∧ w2.frozen? ⟨g, off + (Z.length * 10 + fO j), none⟩ = false := by
  have hfo : fO j < 10 := by
    match j, hj with
    | 0, _ => decide
    | 1, _ => decide
    | 2, _ => decide
    | 3, _ => decide
    | 4, _ => decide
  have hzl : (Z ++ [y]).length = Z.length + 1 := by rw [List.length_append, List.length_singleton]
  have hym := h.own Z.length (by omega)
  rw [List.getElem_concat_length rfl] at hym
  obtain ⟨hyj, hyt⟩ := hym j hj
  have hgw : g < w.heap.size := (h.row.lt g rfl).2
  have hgo : o g = some 0 := h.rt g rfl
  have hsz1 := b1.size
  have k1 : Keep (fun b => o b = some (1 + 5 * Z.length + j)) w w2 := (Keep.refl _ w).step (Keep.of_below b1) (fun b hb hl => by omega) |>.step (Keep.of_grown hg) (fun b hb hl => hyt b (Eq.symm hb))
  have k2 := keep_set w2 g (off + (Z.length * 10 + fO j)) v2
  have k3 : Keep (fun b => o b = some (1 + 5 * Z.length + j) ∨ b = g) w (w2.setCell ⟨g, off + (Z.length * 10 + fO j), none⟩ v2) := (k1.mono (fun b _ hb => .inl hb)).step k2 (fun b hb _ => .inr hb)
  have hsz := k3.size
  have hrow2 := h.row.keep k1 (fun b hb hs => by rw [h.rt b hb] at hs; injection hs with hs; omega)
  rw [hzl] at hrow2
  have hpos : Z.length * 10 + fO j < (Z.length + 1) * 10 := by omega
  have hst := hrow2.stored (Z.length * 10 + fO j) hpos v2
  have hcell := hrow2.cells (Z.length * 10 + fO j) (fV y j) (by
    rw [List.flatMap_append, List.getElem?_append_right (by rw [flat_len entXCells 10 (fun _ => rfl)]; omega), flat_len entXCells 10 (fun _ => rfl)]
    simpa using hO)
  rw [addr_add] at hcell
  have hng : v2.ownBlock ≠ some g := fun e => by
    have := own_of hn hyt (by omega) e
    rw [hgo] at this
    injection this with this
    omega
  refine ⟨⟨fun b => if v2.ownBlock = some b then some (1 + 5 * Z.length + j) else o b, ?_⟩, k3.mono (fun b _ hb => by rcases hb with hb | rfl; exact ⟨_, hb⟩; exact ⟨_, hgo⟩), hcell, hst.2⟩
  have hob : ∀ b, b < w.heap.size → (if v2.ownBlock = some b then some (1 + 5 * Z.length + j) else o b) = o b := by
    intro b hb
    split
    · next e => exact (own_of hn hyt (by omega) e).symm
    · rfl
  have hrb : o rb = none := h.ob rb h.lo
  have hrl := lt_of_get h.blk
  refine ⟨?_, h.lo, Nat.le_trans h.top hsz, fun b hb => ?_, fun b hb => ?_, ?_, fun b hb => ?_, fun i hi => ?_, hE⟩
  · rw [hC]
    exact k3.get h.blk (fun hs => by rcases hs with hs | hs; rw [hrb] at hs; cases hs; rw [hs, hgo] at hrb; cases hrb)
  · rw [if_neg (fun e => by have := (ho.lt b e).2; have := k2.size; omega)]
    exact h.fr b (by omega)
  · rw [if_neg (fun e => by have := (ho.lt b e).1; omega)]
    exact h.ob b hb
  · have := hst.1
    rw [flat_setR Z y y' (fO j) hfo v2 hX] at this
    rw [List.length_append, List.length_singleton]
    exact this
  · obtain rfl : g = b := Option.some.inj hb
    rw [if_neg hng]
    exact hgo
  · rw [List.length_append, List.length_singleton] at hi
    by_cases him : i < Z.length
    · have hy := h.own i (by omega)
      rw [List.getElem_append_left him] at hy ⊢
      refine hy.keep k3 (fun b hb hs i' hi' hh => ?_) hob
      rcases hs with hs | rfl
      · rw [hs] at hh; injection hh with hh; omega
      · rw [hgo] at hh; injection hh with hh; omega
    · obtain rfl : i = Z.length := by omega
      rw [List.getElem_concat_length rfl]
      intro i' hi'
      by_cases hij : i' = j
      · subst hij
        obtain ⟨q1, q2, q3⟩ := hj2
        rw [q1, q2, q3]
        refine ⟨ho.keep k2 (fun b hb hs => hng (by rw [← show b = g from hs]; exact hb)), fun b hb => if_pos hb⟩
      · obtain ⟨q1, q2, q3⟩ := hs i' hi' hij
        rw [q1, q2, q3]
        obtain ⟨p1, p2⟩ := hym i' hi'
        refine ⟨p1.keep k3 (fun b hb hs => ?_), fun b hb => ?_⟩
        · rcases hs with hs | rfl
          · rw [p2 b hb] at hs; injection hs with hs; omega
          · rw [p2 b hb] at hgo; injection hgo with hgo; omega
        · show (if v2.ownBlock = some b then some (1 + 5 * Z.length + j) else o b) = _
          rw [hob b (p1.lt b hb).2]
          exact p2 b hb
/-- Behind an append onto a row of the reader's own: whatever is not the reader's stands. -/
theorem RdAt.far {base rb : Nat} {o : Nat → Option Nat} {C : ConfV} {st : Int} {v : Value} {Y : List EntX} {w w1 w2 : World} (h : RdAt base rb o C st v Y w) (b1 : Below w.heap.size w w1) {u : Value} {T : Nat} (hu : ∀ b, u.ownBlock = some b → o b = some T) (hg : w1.grownBy w2 u.ownBlock) :
    ∀ b k, b < w.heap.size → o b = none → w2.cell? ⟨b, k, none⟩ = w.cell? ⟨b, k, none⟩ ∧ w2.frozen? ⟨b, k, none⟩ = w.frozen? ⟨b, k, none⟩ := by
  intro b k hb hn
  have k1 : Keep (fun b => o b = some T) w w2 := (Keep.refl _ w).step (Keep.of_below b1) (fun b hb hl => by have := b1.size; omega) |>.step (Keep.of_grown hg) (fun b hb hl => hu b (Eq.symm hb))
  have e := k1.block b hb (fun hs => by rw [hn] at hs; cases hs)
  exact ⟨World.cell?_of_block (a := ⟨b, k, none⟩) e, World.frozen?_of_block (a := ⟨b, k, none⟩) e⟩
/-- One entity more, stored. -/
theorem RdAt.appE {base rb : Nat} {o : Nat → Option Nat} {C : ConfV} {st : Int} {v v2 : Value} {Y : List EntX} {w w1 w2 : World} (h : RdAt base rb o C st v Y w) (b1 : Below w.heap.size w w1) (name : ByteArray) (tol : Int)
    (ho : OwnAt w2 base 38 10 v2 (Y.length + 1) (Y.flatMap entXCells ++ entXCells ⟨newE name tol, .slice none 0 0, .slice none 0 0, .slice none 0 0, .slice none 0 0, .slice none 0 0⟩)) (hg : w1.grownBy w2 v.ownBlock) (hn : v2.ownBlock = v.ownBlock ∨ ∀ b, v2.ownBlock = some b → w1.heap.size ≤ b) :
    (∃ o', RdAt base rb o' { C with ents := C.ents ++ [newE name tol] } st v2 (Y ++ [⟨newE name tol, .slice none 0 0, .slice none 0 0, .slice none 0 0, .slice none 0 0, .slice none 0 0⟩]) (w2.setCell ⟨rb, 4, none⟩ v2)) ∧ Keep (fun b => b = rb ∨ ∃ t, o b = some t) w (w2.setCell ⟨rb, 4, none⟩ v2) ∧ w2.cell? ⟨rb, 4, none⟩ = some v ∧ w2.frozen? ⟨rb, 4, none⟩ = false := by
  have hsz1 := b1.size
  have hrb : o rb = none := h.ob rb h.lo
  have hrl := lt_of_get h.blk
  have k1 : Keep (fun b => o b = some 0) w w2 := (Keep.refl _ w).step (Keep.of_below b1) (fun b hb hl => by omega) |>.step (Keep.of_grown hg) (fun b hb hl => h.rt b (Eq.symm hb))
  have k2 := keep_set w2 rb 4 v2
  have k3 : Keep (fun b => o b = some 0 ∨ b = rb) w (w2.setCell ⟨rb, 4, none⟩ v2) := (k1.mono (fun b _ hb => .inl hb)).step k2 (fun b hb _ => .inr hb)
  have hsz := k3.size
  have hblk2 := k1.get h.blk (fun hs => by rw [hrb] at hs; cases hs)
  have hob : ∀ b, b < w.heap.size → (if v2.ownBlock = some b then some 0 else o b) = o b := by
    intro b hb
    split
    · next e => exact (own_of hn h.rt (by omega) e).symm
    · rfl
  refine ⟨⟨fun b => if v2.ownBlock = some b then some 0 else o b, ?_⟩, k3.mono (fun b _ hb => by rcases hb with hb | rfl; exact .inr ⟨_, hb⟩; exact .inl rfl), by simp [World.cell?, hblk2, rdCs], by simp [World.frozen?, hblk2]⟩
  refine ⟨?_, h.lo, Nat.le_trans h.top hsz, fun b hb => ?_, fun b hb => ?_, ?_, fun b hb => by rw [if_pos hb], fun i hi => ?_, ?_⟩
  · rw [get_setCell _ hblk2]
    rfl
  · rw [if_neg (fun e => by have := (ho.lt b e).2; have := k2.size; omega)]
    exact h.fr b (by omega)
  · rw [if_neg (fun e => by have := (ho.lt b e).1; omega)]
    exact h.ob b hb
  · rw [List.length_append, List.length_singleton, List.flatMap_append, List.flatMap_singleton]
    exact ho.keep k2 (fun b hb hs => by have := (ho.lt b hb).1; have := h.lo; have : b = rb := hs; omega)
  · rw [List.length_append, List.length_singleton] at hi
    by_cases him : i < Y.length
    · rw [List.getElem_append_left him]
      refine (h.own i him).keep k3 (fun b hb hs i' hi' hh => ?_) hob
      rcases hs with hs | rfl
      · rw [hs] at hh; injection hh with hh; omega
      · rw [hrb] at hh; cases hh
    · obtain rfl : i = Y.length := by omega
      rw [List.getElem_concat_length rfl]
      intro j hj
      match j, hj with
      | 0, _ => exact ⟨⟨rfl, .inl ⟨rfl, rfl⟩⟩, fun b hb => by cases hb⟩
      | 1, _ => exact ⟨⟨rfl, .inl ⟨rfl, rfl⟩⟩, fun b hb => by cases hb⟩
      | 2, _ => exact ⟨⟨rfl, .inl ⟨rfl, rfl⟩⟩, fun b hb => by cases hb⟩
      | 3, _ => exact ⟨⟨rfl, .inl ⟨rfl, rfl⟩⟩, fun b hb => by cases hb⟩
      | 4, _ => exact ⟨⟨rfl, .inl ⟨rfl, rfl⟩⟩, fun b hb => by cases hb⟩
  · show C.ents ++ [newE name tol] = (Y ++ [_]).map EntX.E
    rw [List.map_append, h.eq]
    rfl
end Go.Proofs.YtakjbjokekbmbaaGreatDoor
