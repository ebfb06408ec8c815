import Derived.Test.YtikehilbmldadaaGreatDoorQ03
import Derived.Deep.RegionHeld3
import Derived.Test.YtikehilbmldadaaGreatDoorQ08
import Derived.Test.YtikehilbmldadaaGreatDoorQ09
set_option maxHeartbeats 2000000
set_option maxRecDepth 100000
namespace Go.Proofs.YtikehilbmldadaaGreatDoor
open Go.RowKit
set_option linter.unusedVariables false
theorem fn_keep {B : Nat} {w1 w' : World} (hs : B < w1.heap.size) (h : Below w1.heap.size w1 w') : (∀ o, w'.cell? ⟨B, o, none⟩ = w1.cell? ⟨B, o, none⟩) ∧ Below w1.heap.size w1 w' := ⟨fun o => h.cell (p := ⟨B, o, none⟩) hs, h⟩
theorem below_alloc1 {w1 w' : World} (h : Below w1.heap.size w1 w') (o : Obj) : Below w1.heap.size w1 (w'.alloc o) := h.alloc h.size o
theorem below_step {w1 w' w'' : World} (h : Below w1.heap.size w1 w') (k : Below w'.heap.size w' w'') : Below w1.heap.size w1 w'' := h.trans (k.mono h.size)
structure FlowAt (lo hi : Nat) (E : EntV) (es : List (Int × Int)) (w : World) (f : Nat) (at' : Int) (bad : Bool) : Prop where
  ex : ∃ (mb : Nat) (a1 : Option Addr) (k1 : Nat) (a2 : Option Addr) (k2 : Nat) (K : List (Int × Int)),
    w.heap[f]? = some (.cells #[.map (some mb), .int .i64 E.points.length, .slice a1 E.first.length k1, .slice a2 E.last.length k2, .int .i64 at', .bool bad] 255) ∧
    PairsAt w mb K ∧ (∀ q, q ∈ K ↔ q ∈ es) ∧ SlOf (fun b => lo ≤ b ∧ b < hi ∧ b ≠ f ∧ b ≠ mb) w (.slice a1 E.first.length k1) 1 (intCells E.first) E.first.length ∧
    SlOf (fun b => lo ≤ b ∧ b < hi ∧ b ≠ f ∧ b ≠ mb) w (.slice a2 E.last.length k2) 1 (intCells E.last) E.last.length ∧ lo ≤ mb ∧ mb < hi ∧ mb ≠ f
  flo : lo ≤ f
  fhi : f < hi
  ftop : hi ≤ w.heap.size
theorem FlowAt.keep {S : Nat → Prop} {lo hi : Nat} {E : EntV} {es : List (Int × Int)} {w w' : World} {f : Nat} {at' : Int} {bad : Bool} (h : FlowAt lo hi E es w f at' bad) (hk : Keep S w w') (hS : ∀ b, lo ≤ b → b < hi → ¬ S b) : FlowAt lo hi E es w' f at' bad := by
  obtain ⟨⟨mb, a1, k1, a2, k2, K, h1, h2, h3, h4, h5, h6, h7, h8⟩, hl, hh, ht⟩ := h
  exact ⟨⟨mb, a1, k1, a2, k2, K, hk.get h1 (hS f hl hh), h2.keep hk (hS mb h6 h7), h3, h4.keep hk (fun b hb => hS b hb.1 hb.2.1), h5.keep hk (fun b hb => hS b hb.1 hb.2.1), h6, h7, h8⟩, hl, hh, Nat.le_trans ht hk.size⟩
theorem SlOf.imp {R S : Nat → Prop} {w : World} {v : Value} {sz : Nat} {cs : List Value} {n : Nat} (h : SlOf R w v sz cs n) (hd : ∀ b, R b → b < w.heap.size → S b) : SlOf S w v sz cs n := by
  obtain ⟨hl, ao, cap, hv, h1, h2, h3, h4⟩ := h
  refine ⟨hl, ao, cap, hv, h1, h2, h3, fun hp => ?_⟩
  obtain ⟨b, off, ha, hR, hb, hc⟩ := h4 hp
  exact ⟨b, off, ha, hd b hR hb, hb, hc⟩
theorem pairsAt_new (w : World) : PairsAt (w.alloc (.map #[] 0)) w.heap.size [] := ⟨#[], 0, heap_alloc_new w _, rfl⟩
theorem flowNew_made {w w1 wl W : World} {E : EntV} {a1 a2 : Option Addr} {k1 k2 mb : Nat} (hb : Below w.heap.size w w1) (hb1 : Below w1.heap.size w1 wl) (hm : PairsAt wl mb []) (hlt : w.heap.size ≤ mb ∧ mb < wl.heap.size)
    (h1 : SlOf (fun b => w.heap.size ≤ b ∧ b ≠ mb) wl (.slice a1 E.first.length k1) 1 (intCells E.first) E.first.length) (h2 : SlOf (fun b => w.heap.size ≤ b ∧ b ≠ mb) wl (.slice a2 E.last.length k2) 1 (intCells E.last) E.last.length)
    (hW : W = wl.alloc (.cells #[.map (some mb), .int .i64 E.points.length, .slice a1 E.first.length k1, .slice a2 E.last.length k2, .int .i64 (-1), .bool false] 255)) :
    FlowAt w.heap.size (wl.heap.size + 1) E [] W wl.heap.size (-1) false ∧ Below w1.heap.size w1 W := by
  subst hW
  have kk : Keep (fun _ => False) wl (wl.alloc (.cells #[.map (some mb), .int .i64 E.points.length, .slice a1 E.first.length k1, .slice a2 E.last.length k2, .int .i64 (-1), .bool false] 255)) := (Keep.refl _ _).alloc _
  have hsz := hb1.size
  have hsz0 := hb.size
  refine ⟨⟨⟨mb, a1, k1, a2, k2, [], get_alloc_new _ _, hm.keep kk (fun h => h), fun q => by simp, ?_, ?_, hlt.1, by omega, by omega⟩, by omega, by omega, by simp⟩, hb1.alloc hsz _⟩
  · exact (h1.imp (fun b hR hbb => ⟨hR.1, by omega, by omega, hR.2⟩)).keep kk (fun _ _ h => h)
  · exact (h2.imp (fun b hR hbb => ⟨hR.1, by omega, by omega, hR.2⟩)).keep kk (fun _ _ h => h)
theorem flowNew_A {w w1 wf wl : World} {E : EntV} {a1 a2 : Option Addr} {k1 k2 : Nat} (hb : Below w.heap.size w w1) (bf : Below (w1.alloc (.map #[] 0)).drew.heap.size (w1.alloc (.map #[] 0)).drew wf) (bl : Below wf.heap.size wf wl)
    (sf : SlOf (fun b => (w1.alloc (.map #[] 0)).drew.heap.size ≤ b) wf (.slice a1 E.first.length k1) 1 (intCells E.first) E.first.length) (sl : SlOf (fun b => wf.heap.size ≤ b) wl (.slice a2 E.last.length k2) 1 (intCells E.last) E.last.length) :
    FlowAt w.heap.size (wl.heap.size + 1) E [] (wl.alloc (.cells #[.map (some w1.heap.size), .int .i64 E.points.length, .slice a1 E.first.length k1, .slice a2 E.last.length k2, .int .i64 (-1), .bool false] 255)) wl.heap.size (-1) false ∧ Below w1.heap.size w1 (wl.alloc (.cells #[.map (some w1.heap.size), .int .i64 E.points.length, .slice a1 E.first.length k1, .slice a2 E.last.length k2, .int .i64 (-1), .bool false] 255)) := by
  have hs0 := hb.size
  have e1 : (w1.alloc (.map #[] 0)).drew.heap.size = w1.heap.size + 1 := World.size_alloc w1 _
  have s1 := bf.size
  rw [e1] at s1
  have s2 := bl.size
  refine flowNew_made hb ((below_step (((Below.refl _ w1).alloc (Nat.le_refl _) _).drew) bf).trans (bl.mono (by omega))) (((show PairsAt (w1.alloc (.map #[] 0)).drew w1.heap.size [] from pairsAt_new w1).keep (below_keep bf) (fun h => h)).keep (below_keep bl) (fun h => h)) ⟨hs0, by omega⟩ ?_ ?_ rfl
  · exact (sf.imp (S := fun b => w.heap.size ≤ b ∧ b ≠ w1.heap.size) (fun b hR _ => by rw [e1] at hR; omega)).keep (below_keep bl) (fun _ _ h => h)
  · exact sl.imp (fun b hR _ => by omega)
theorem flowNew_B {w w1 wf wl : World} {E : EntV} {a1 a2 : Option Addr} {k1 k2 : Nat} (hb : Below w.heap.size w w1) (bf : Below w1.drew.heap.size w1.drew wf) (bl : Below (wf.alloc (.map #[] 0)).heap.size (wf.alloc (.map #[] 0)) wl)
    (sf : SlOf (fun b => w1.drew.heap.size ≤ b) wf (.slice a1 E.first.length k1) 1 (intCells E.first) E.first.length) (sl : SlOf (fun b => (wf.alloc (.map #[] 0)).heap.size ≤ b) wl (.slice a2 E.last.length k2) 1 (intCells E.last) E.last.length) :
    FlowAt w.heap.size (wl.heap.size + 1) E [] (wl.alloc (.cells #[.map (some wf.heap.size), .int .i64 E.points.length, .slice a1 E.first.length k1, .slice a2 E.last.length k2, .int .i64 (-1), .bool false] 255)) wl.heap.size (-1) false ∧ Below w1.heap.size w1 (wl.alloc (.cells #[.map (some wf.heap.size), .int .i64 E.points.length, .slice a1 E.first.length k1, .slice a2 E.last.length k2, .int .i64 (-1), .bool false] 255)) := by
  have hs0 := hb.size
  have s1 : w1.heap.size ≤ wf.heap.size := bf.size
  have e1 : (wf.alloc (.map #[] 0)).heap.size = wf.heap.size + 1 := World.size_alloc wf _
  have s2 := bl.size
  rw [e1] at s2
  refine flowNew_made hb ((below_alloc1 (below_step ((Below.refl _ w1).drew) bf) (.map #[] 0)).trans (bl.mono (by omega))) ((pairsAt_new wf).keep (below_keep bl) (fun h => h)) ⟨by omega, by omega⟩ ?_ ?_ rfl
  · exact ((sf.imp (S := fun b => w.heap.size ≤ b ∧ b ≠ wf.heap.size) (fun b hR hb' => ⟨Nat.le_trans hs0 hR, by omega⟩)).keep ((Keep.refl (fun _ => False) wf).alloc (.map #[] 0)) (fun _ _ h => h)).keep (below_keep bl) (fun _ _ h => h)
  · exact sl.imp (fun b hR _ => by rw [e1] at hR; omega)
theorem flowNew_C {w w1 wf wl : World} {E : EntV} {a1 a2 : Option Addr} {k1 k2 : Nat} (hb : Below w.heap.size w w1) (bf : Below w1.drew.heap.size w1.drew wf) (bl : Below wf.heap.size wf wl)
    (sf : SlOf (fun b => w1.drew.heap.size ≤ b) wf (.slice a1 E.first.length k1) 1 (intCells E.first) E.first.length) (sl : SlOf (fun b => wf.heap.size ≤ b) wl (.slice a2 E.last.length k2) 1 (intCells E.last) E.last.length) :
    FlowAt w.heap.size (wl.heap.size + 1 + 1) E [] ((wl.alloc (.map #[] 0)).alloc (.cells #[.map (some wl.heap.size), .int .i64 E.points.length, .slice a1 E.first.length k1, .slice a2 E.last.length k2, .int .i64 (-1), .bool false] 255)) (wl.heap.size + 1) (-1) false ∧ Below w1.heap.size w1 ((wl.alloc (.map #[] 0)).alloc (.cells #[.map (some wl.heap.size), .int .i64 E.points.length, .slice a1 E.first.length k1, .slice a2 E.last.length k2, .int .i64 (-1), .bool false] 255)) := by
  have hs0 := hb.size
  have s1 : w1.heap.size ≤ wf.heap.size := bf.size
  have s2 := bl.size
  have e1 : (wl.alloc (.map #[] 0)).heap.size = wl.heap.size + 1 := World.size_alloc wl _
  have := flowNew_made (W := (wl.alloc (.map #[] 0)).alloc (.cells #[.map (some wl.heap.size), .int .i64 E.points.length, .slice a1 E.first.length k1, .slice a2 E.last.length k2, .int .i64 (-1), .bool false] 255)) (E := E) (a1 := a1) (a2 := a2) (k1 := k1) (k2 := k2) hb (below_alloc1 ((below_step ((Below.refl _ w1).drew) bf).trans (bl.mono (by omega))) (.map #[] 0)) (pairsAt_new wl) ⟨by omega, by rw [e1]; omega⟩ ?_ ?_ rfl
  · rw [e1] at this; exact this
  · exact ((sf.keep (below_keep bl) (fun _ _ h => h)).imp (S := fun b => w.heap.size ≤ b ∧ b ≠ wl.heap.size) (fun b hR hb' => ⟨Nat.le_trans hs0 hR, by omega⟩)).keep ((Keep.refl (fun _ => False) wl).alloc (.map #[] 0)) (fun _ _ h => h)
  · exact (sl.imp (S := fun b => w.heap.size ≤ b ∧ b ≠ wl.heap.size) (fun b hR hb' => by omega)).keep ((Keep.refl (fun _ => False) wl).alloc (.map #[] 0)) (fun _ _ h => h)
theorem six_cells {w : World} {b : Nat} {c0 c1 c2 c3 c4 c5 : Value} {t : TypeId} (h : w.heap[b]? = some (.cells #[c0, c1, c2, c3, c4, c5] t)) :
    w.cell? ⟨b, 0, none⟩ = some c0 ∧ w.cell? ⟨b, 1, none⟩ = some c1 ∧ w.cell? ⟨b, 2, none⟩ = some c2 ∧ w.cell? ⟨b, 3, none⟩ = some c3 ∧ w.cell? ⟨b, 4, none⟩ = some c4 ∧ w.cell? ⟨b, 5, none⟩ = some c5 ∧ ∀ o, w.frozen? ⟨b, o, none⟩ = false := by
  simp [World.cell?, World.frozen?, h]
theorem Tryz.pairInfo : (Tryz.prog.info? 3).map (·.size) = some 1 := by kernel_rfl
theorem Tryz.pairZero : (Tryz.prog.info? 4).map (·.zero) = some (some (.bool false)) := by kernel_rfl
theorem Tryz.pairMap : PairMap Tryz.prog 252 127 3 4 where
  um := by kernel_rfl
  ut := by kernel_rfl
  ue := by kernel_rfl
  us := by
    have := Tryz.pairInfo
    cases h : Tryz.prog.info? 3 with
    | none => rw [h] at this; cases this
    | some i => rw [h] at this; exact ⟨i, rfl, by simpa using this⟩
  uz := by
    intro w
    have := Tryz.pairZero
    cases h : Tryz.prog.info? 4 with
    | none => rw [h] at this; cases this
    | some i => rw [h] at this; simp at this; simp [zeroValue, typeInfo, h, this]
theorem flowNew_any (R : Nat → Prop) (E : EntV) (vp vg ve vf vl : Value) (w : World) (h : EntSl R w E vp vg ve vf vl) (hR : ∀ b, R b → b < w.heap.size) (hL : Light E) :
    Calls Tryz.prog 91 #[.agg (entCs E vp vg ve vf vl)] w fun e w' => ∃ f hi, e = .returned (.pointer (some ⟨f, 0, none⟩)) ∧ FlowAt w.heap.size hi E E.edges w' f (-1) false ∧ Below w.heap.size w w' := by
  obtain ⟨pa, pc, rfl⟩ := h.p.val
  obtain ⟨ga, gc, rfl⟩ := h.g.val
  obtain ⟨ea, ec, rfl⟩ := h.e.val
  obtain ⟨fa, fc, rfl⟩ := h.f.val
  obtain ⟨la, lc, rfl⟩ := h.l.val
  have hmm := @run_makeMap Tryz.prog
  have H := Lib.hid h
  have lf := hL.f
  have ll := hL.l
  have le := hL.e
  clear h
  unfold entCs
  go_enter Tryz.func91, Tryz.ntmps91
  go_upto_region 1 with fail
  have hbx : (w.alloc (.cells (entCs E (.slice pa E.points.length pc) (.slice ga E.gaps.length gc) (.slice ea E.edges.length ec) (.slice fa E.first.length fc) (.slice la E.last.length lc)) 50)).heap[w.heap.size]? = some (.cells (entCs E (.slice pa E.points.length pc) (.slice ga E.gaps.length gc) (.slice ea E.edges.length ec) (.slice fa E.first.length fc) (.slice la E.last.length lc)) 50) := get_alloc_new _ _
  have hb1 : Below w.heap.size w (w.alloc (.cells (entCs E (.slice pa E.points.length pc) (.slice ga E.gaps.length gc) (.slice ea E.edges.length ec) (.slice fa E.first.length fc) (.slice la E.last.length lc)) 50)) := (Below.refl _ _).alloc (Nat.le_refl _) _
  have hs1 : (w.alloc (.cells (entCs E (.slice pa E.points.length pc) (.slice ga E.gaps.length gc) (.slice ea E.edges.length ec) (.slice fa E.first.length fc) (.slice la E.last.length lc)) 50)).heap.size = w.heap.size + 1 := by simp
  simp only [entCs] at hbx hb1 hs1
  generalize w.alloc _ = w1 at hbx hb1 hs1 ⊢
  have hs : w.heap.size < w1.heap.size := by omega
  obtain ⟨c0, c1, c2, c3, c4, c5, c6, c7, c8, c9, cf⟩ := ten_cells hbx
  have HS1 := Lib.hid hs1
  have HBX := Lib.hid hbx
  clear hs1 hbx c0 c1 c3 c4 c5 c6 cf
  go_cut [3] (fun s3 wx => ∃ f hi, s3 = .pointer (some ⟨f, 0, none⟩) ∧ FlowAt w.heap.size hi E [] wx f (-1) false ∧ Below w1.heap.size w1 wx)
  case first =>
   go_region_held3 (fun w' => (∀ o, w'.cell? ⟨w.heap.size, o, none⟩ = w1.cell? ⟨w.heap.size, o, none⟩) ∧ Below w1.heap.size w1 w')
    (first | (refine fn_keep hs ?_; repeat (first | exact Below.refl _ _ | assumption | refine Below.drew ?_ | refine below_alloc1 ?_ _ | refine below_step ?_ (by assumption))))
    (first | (go_at_call_of 159 (Value.slice fa E.first.length fc); refine (cloneInts_any R E.first _ _ ?_ (by omega)).mono ?_; (exact H.out.f.below (hb1.trans (Below.mono (by repeat (first | exact Below.refl _ _ | assumption | refine Below.drew ?_ | refine below_alloc1 ?_ _ | refine below_step ?_ (by assumption))) (Nat.le_of_lt hs))) hR); rintro e wf ⟨a1, k1, rfl, sf, bf⟩) | (go_at_call_of 159 (Value.slice la E.last.length lc); refine (cloneInts_any R E.last _ _ ?_ (by omega)).mono ?_; (exact H.out.l.below (hb1.trans (Below.mono (by repeat (first | exact Below.refl _ _ | assumption | refine Below.drew ?_ | refine below_alloc1 ?_ _ | refine below_step ?_ (by assumption))) (Nat.le_of_lt hs))) hR); rintro e wl ⟨a2, k2, rfl, sl, bl⟩))
   all_goals (go_wp2_with fail; go_meet)
   · exact ⟨_, _, rfl, flowNew_A hb1 bf bl sf sl⟩
   · exact ⟨_, _, rfl, flowNew_B hb1 bf bl sf sl⟩
   · exact ⟨_, _, rfl, flowNew_C hb1 bf bl sf sl⟩
  case rest =>
  obtain ⟨f, hi, rfl, hF, hB⟩ := hcut
  have HF := Lib.hid hF
  clear hF
  have hB0 := hb1.trans (hB.mono (Nat.le_of_lt hs))
  have d7 := fn_keep hs hB
  rw [← d7.1 7] at c7
  clear c2 c8 c9 d7
  go_wp2_with fail
  go_loopw [21] (fun s wr => ∃ k : Nat, k ≤ E.edges.length ∧ s = .int .i64 k ∧ Below w.heap.size w wr ∧ Hid (FlowAt w.heap.size hi E (E.edges.take k) wr f (-1) false)) (fun s _ => E.edges.length - (intOf s).toNat)
  case atStart => exact ⟨0, Nat.zero_le _, rfl, hB0, HF⟩
  case round =>
    obtain ⟨k, hk, rfl, hb, hg⟩ := hrel
    by_cases hlt : k < E.edges.length
    · obtain ⟨eb, eoff, rfl, hRb, _, hc⟩ := H.out.e.elem (f := edgeCells) (fun _ => rfl) (by decide) (by omega)
      have q0 := hc k hlt 0 _ rfl
      have q1 := hc k hlt 1 _ rfl
      rw [← hb.cell (hR eb hRb)] at q0 q1
      rw [Nat.add_zero] at q0
      clear hc
      go_upto_region 5 with fail
      have kx : Keep (fun _ => False) wr (wr.alloc (.cells #[.int .i64 E.edges[k].1, .int .i64 E.edges[k].2] 127)) := (Keep.refl _ _).alloc _
      have gx := get_alloc_new wr (.cells #[.int .i64 E.edges[k].1, .int .i64 E.edges[k].2] 127)
      have hbx : Below w.heap.size w (wr.alloc (.cells #[.int .i64 E.edges[k].1, .int .i64 E.edges[k].2] 127)) := hb.alloc hb.size _
      have hFx := hg.out.keep kx (fun _ _ _ h => h)
      have hxs := kx.size
      have hfi := hg.out.ftop
      generalize wr.alloc _ = wx at kx gx hbx hFx hxs ⊢
      obtain ⟨x0, x1, xf⟩ := two_cells gx
      obtain ⟨⟨mb, a1, k1, a2, k2, K, f1, f2, f3, f4, f5, f6, f7, f8⟩, f9, f10, f11⟩ := hFx
      obtain ⟨m0, m1, m2, m3, m4, m5, mf⟩ := six_cells f1
      obtain ⟨W, hup, ⟨K', hK', hq⟩, kp⟩ := Tryz.pairMap.update wx.drew mb K E.edges[k] (show PairsAt wx.drew mb K from f2)
      unfold pairV at hup
      have st : FlowAt w.heap.size hi E (E.edges.take (k + 1)) W f (-1) false ∧ Below w.heap.size w W := by
        refine ⟨⟨⟨mb, a1, k1, a2, k2, K', kp.get (w := wx.drew) f1 (fun h => f8 h.symm), hK', fun q => ?_, SlOf.keep (w := wx.drew) f4 kp (fun b hb h => hb.2.2.2 h), SlOf.keep (w := wx.drew) f5 kp (fun b hb h => hb.2.2.2 h), f6, f7, f8⟩, f9, f10, Nat.le_trans f11 kp.size⟩, hbx.drew.trans (kp.below (show w.heap.size ≤ wx.drew.heap.size from hbx.size) (fun b hb' => by omega))⟩
        rw [hq, f3, List.take_succ_eq_append_getElem hlt, List.mem_append, List.mem_singleton]
        exact or_comm
      have ST := Lib.hid st
      clear st kp hq hK' f1 f2 f3 f4 f5 q0 q1 hg hb kx
      go_region
      all_goals
        go_wp2_with fail
        go_roundw
        case rel => exact ⟨k + 1, by omega, by go_num, ST.out.2, ST.out.1⟩
        case measure => simp [intOf]; omega
    · go_wp2_with fail
      go_ret
      have hkk : k = E.edges.length := by omega
      have := hg.out
      rw [hkk, List.take_length] at this
      exact ⟨f, hi, rfl, this, hb⟩
end Go.Proofs.YtikehilbmldadaaGreatDoor
namespace Go.Proofs.YtikehilbmldadaaGreatDoor
open Go.RowKit
set_option linter.unusedVariables false
theorem EntSl.below {B : Nat} {R : Nat → Prop} {w w' : World} {E : EntV} {vp vg ve vf vl : Value} (h : EntSl R w E vp vg ve vf vl) (hk : Below B w w') (hd : ∀ b, R b → b < B) : EntSl R w' E vp vg ve vf vl :=
  h.keep (Keep.of_below hk) (fun b hb => by have := hd b hb; omega)
theorem below_lt {B : Nat} {R : Nat → Prop} {w w' : World} (hR : ∀ b, R b → b < w.heap.size) (h : Below B w w') : ∀ b, R b → b < w'.heap.size := fun b hb => Nat.lt_of_lt_of_le (hR b hb) h.size
def flowMay (E : EntV) (at' p : Int) : Bool :=
  if E.edges = [] then true else if p < 0 ∨ (E.points.length : Int) ≤ p then false else if at' = -1 then decide (p ∈ E.first) else decide ((at', p) ∈ E.edges)
def flowThen (E : EntV) (p : Int) : Int := if p < 0 ∨ (E.points.length : Int) ≤ p ∨ p ∈ E.last then -1 else p
theorem flowThen_low (E : EntV) (p : Int) (h : p < 0) : flowThen E p = -1 := by simp [flowThen, h]
theorem flowThen_high (E : EntV) (p : Int) (h : (E.points.length : Int) ≤ p) : flowThen E p = -1 := by simp [flowThen, h]
theorem flowThen_last (E : EntV) (p : Int) (h : p ∈ E.last) : flowThen E p = -1 := by simp [flowThen, h]
theorem flowThen_in (E : EntV) (p : Int) (h1 : ¬ p < 0) (h2 : ¬ (E.points.length : Int) ≤ p) (h : p ∉ E.last) : flowThen E p = p := by simp [flowThen, h, h1, h2]
theorem flowMay_none (E : EntV) (a p : Int) (h : E.edges = []) : flowMay E a p = true := by simp [flowMay, h]
theorem flowMay_out (E : EntV) (a p : Int) (h : E.edges ≠ []) (h2 : p < 0 ∨ (E.points.length : Int) ≤ p) : flowMay E a p = false := by simp [flowMay, h, h2]
theorem flowMay_first (E : EntV) (p : Int) (h : E.edges ≠ []) (h2 : ¬ (p < 0 ∨ (E.points.length : Int) ≤ p)) : flowMay E (-1) p = decide (p ∈ E.first) := by simp [flowMay, h, h2]
theorem flowMay_edge (E : EntV) (a p : Int) (h : E.edges ≠ []) (h2 : ¬ (p < 0 ∨ (E.points.length : Int) ≤ p)) (h3 : a ≠ -1) : flowMay E a p = decide ((a, p) ∈ E.edges) := by simp [flowMay, h, h2, h3]
theorem run_len_pairs {P : Program} {t k e ty : TypeId} (ht : P.underlying t = some (.map k e)) {b : Nat} {K : List (Int × Int)} {w : World} (hb : PairsAt w b K) :
    (Builtin.len_ #[t] ty #[.map (some b)]).run P w = .ok (.int .i64 K.length) w := by
  obtain ⟨es, clock, hb, he⟩ := hb
  have hlen : es.size = K.length := by have := congrArg List.length he; simpa using this
  rw [← hlen]
  exact run_len_map (P := P) (w := w) t ty b es clock (by simp [Program.mapKeyOf, Program.mapElemOf, ht]) hb
theorem flowThen_any (lo hi : Nat) (E : EntV) (es : List (Int × Int)) (w : World) (f : Nat) (at' : Int) (bad : Bool) (p : Int) (h : FlowAt lo hi E es w f at' bad) :
    Calls Tryz.prog 161 #[.pointer (some ⟨f, 0, none⟩), .int .i64 p] w fun e w' => e = .returned (.int .i64 (flowThen E p)) ∧ Below w.heap.size w w' := by
  obtain ⟨⟨mb, a1, k1, a2, k2, K, f1, f2, f3, f4, f5, f6, f7, f8⟩, f9, f10, f11⟩ := h
  obtain ⟨m0, m1, m2, m3, m4, m5, mf⟩ := six_cells f1
  have H5 := Lib.hid f5
  clear f1 f2 f3 f4 f5 mf
  go_enter Tryz.func161, Tryz.ntmps161
  by_cases h1 : p < 0
  · have hF := Lib.hid (flowThen_low E p h1)
    go_wp2_with fail
    go_ret
    exact ⟨ret_int hF.out.symm, Below.refl _ _⟩
  by_cases h2 : (E.points.length : Int) ≤ p
  · have hF := Lib.hid (flowThen_high E p h2)
    go_wp2_with fail
    go_ret
    exact ⟨ret_int hF.out.symm, Below.refl _ _⟩
  go_wp2_with fail
  refine (containsInts_any _ E.last _ p _ H5.out).mono ?_
  rintro e w' ⟨rfl, rfl⟩
  by_cases h3 : p ∈ E.last
  · have hF := Lib.hid (flowThen_last E p h3)
    rw [decide_eq_true h3]
    go_wp2_with fail
    go_ret
    exact ⟨ret_int hF.out.symm, Below.refl _ _⟩
  · have hF := Lib.hid (flowThen_in E p (by omega) (by omega) h3)
    rw [decide_eq_false h3]
    go_wp2_with fail
    go_ret
    exact ⟨ret_int hF.out.symm, Below.refl _ _⟩
theorem flowMay_any (lo hi : Nat) (E : EntV) (w : World) (f : Nat) (a0 : Int) (bad : Bool) (at' p : Int) (h : FlowAt lo hi E E.edges w f a0 bad) :
    Calls Tryz.prog 160 #[.pointer (some ⟨f, 0, none⟩), .int .i64 at', .int .i64 p] w fun e w' => e = .returned (.bool (flowMay E at' p)) ∧ Below w.heap.size w w' := by
  obtain ⟨⟨mb, a1, k1, a2, k2, K, f1, f2, f3, f4, f5, f6, f7, f8⟩, f9, f10, f11⟩ := h
  obtain ⟨m0, m1, m2, m3, m4, m5, mf⟩ := six_cells f1
  have hln := fun ty => run_len_pairs (P := Tryz.prog) (ty := ty) Tryz.pairMap.um f2
  have hlk := Tryz.pairMap.lookup w mb K (at', p) f2
  unfold pairV at hlk
  simp only at hlk
  have hKE : K = [] ↔ E.edges = [] := by
    constructor <;> intro h <;> apply List.eq_nil_iff_forall_not_mem.2 <;> intro q hq
    · rw [← f3, h] at hq; cases hq
    · rw [f3, h] at hq; cases hq
  have h3 : decide ((at', p) ∈ K) = decide ((at', p) ∈ E.edges) := decide_eq_decide.2 (f3 (at', p))
  have H3 := Lib.hid h3
  have H4 := Lib.hid f4
  clear f1 f2 f3 f4 f5 mf h3
  go_enter Tryz.func160, Tryz.ntmps160
  by_cases h0 : E.edges = []
  · have hF := Lib.hid (flowMay_none E at' p h0)
    have hK := hKE.2 h0
    subst hK
    clear hKE
    go_wp2_with fail
    go_ret
    exact ⟨ret_bool hF.out.symm, Below.refl _ _⟩
  have hKn : 0 < K.length := by
    cases K with
    | nil => exact absurd (hKE.1 rfl) h0
    | cons x K => simp
  by_cases h1 : p < 0
  · have hF := Lib.hid (flowMay_out E at' p h0 (.inl h1))
    clear h0 hKE
    go_wp2_with fail
    go_ret
    exact ⟨ret_bool hF.out.symm, Below.refl _ _⟩
  by_cases h2 : (E.points.length : Int) ≤ p
  · have hF := Lib.hid (flowMay_out E at' p h0 (.inr h2))
    clear h0 hKE
    go_wp2_with fail
    go_ret
    exact ⟨ret_bool hF.out.symm, Below.refl _ _⟩
  by_cases h4 : at' = -1
  · subst h4
    have hF := Lib.hid (flowMay_first E p h0 (by omega))
    clear h0 hKE
    go_wp2_with fail
    refine (containsInts_any _ E.first _ p _ H4.out).mono ?_
    rintro e w' ⟨rfl, rfl⟩
    go_wp2_with fail
    go_ret
    exact ⟨ret_bool hF.out.symm, Below.refl _ _⟩
  · have hF := Lib.hid (flowMay_edge E at' p h0 (by omega) h4)
    have hab : (at' == -1) = false := by simp [h4]
    clear h0 hKE
    go_wp2_with fail
    go_ret
    exact ⟨ret_bool (H3.out.trans hF.out.symm), Below.refl _ _⟩
theorem FlowAt.setBad {lo hi : Nat} {E : EntV} {es : List (Int × Int)} {w : World} {f : Nat} {at' : Int} {bad : Bool} (b : Bool) (h : FlowAt lo hi E es w f at' bad) : FlowAt lo hi E es (w.setCell ⟨f, 5, none⟩ (.bool b)) f at' b := by
  obtain ⟨⟨mb, a1, k1, a2, k2, K, f1, f2, f3, f4, f5, f6, f7, f8⟩, f9, f10, f11⟩ := h
  have kk := keep_set w f 5 (.bool b)
  exact ⟨⟨mb, a1, k1, a2, k2, K, by rw [get_setCell _ f1]; simp, f2.keep kk f8, f3, f4.keep kk (fun b hb => hb.2.2.1), f5.keep kk (fun b hb => hb.2.2.1), f6, f7, f8⟩, f9, f10, Nat.le_trans f11 kk.size⟩
theorem FlowAt.setAt {lo hi : Nat} {E : EntV} {es : List (Int × Int)} {w : World} {f : Nat} {at' : Int} {bad : Bool} (a : Int) (h : FlowAt lo hi E es w f at' bad) : FlowAt lo hi E es (w.setCell ⟨f, 4, none⟩ (.int .i64 a)) f a bad := by
  obtain ⟨⟨mb, a1, k1, a2, k2, K, f1, f2, f3, f4, f5, f6, f7, f8⟩, f9, f10, f11⟩ := h
  have kk := keep_set w f 4 (.int .i64 a)
  exact ⟨⟨mb, a1, k1, a2, k2, K, by rw [get_setCell _ f1]; simp, f2.keep kk f8, f3, f4.keep kk (fun b hb => hb.2.2.1), f5.keep kk (fun b hb => hb.2.2.1), f6, f7, f8⟩, f9, f10, Nat.le_trans f11 kk.size⟩
theorem flowAt_cells {lo hi : Nat} {E : EntV} {es : List (Int × Int)} {w : World} {f : Nat} {at' : Int} {bad : Bool} (h : FlowAt lo hi E es w f at' bad) :
    w.cell? ⟨f, 4, none⟩ = some (.int .i64 at') ∧ w.cell? ⟨f, 5, none⟩ = some (.bool bad) ∧ ∀ o, w.frozen? ⟨f, o, none⟩ = false := by
  obtain ⟨⟨mb, a1, k1, a2, k2, K, f1, _⟩, _⟩ := h
  obtain ⟨m0, m1, m2, m3, m4, m5, mf⟩ := six_cells f1
  exact ⟨m4, m5, mf⟩
theorem flowReport_any (lo hi : Nat) (E : EntV) (w : World) (f : Nat) (at' : Int) (bad : Bool) (p : Int) (h : FlowAt lo hi E E.edges w f at' bad) :
    Calls Tryz.prog 94 #[.pointer (some ⟨f, 0, none⟩), .int .i64 p] w fun e w' => e = .returned (.tuple #[]) ∧ FlowAt lo hi E E.edges w' f (flowThen E p) (bad || !flowMay E at' p) ∧ Keep (· = f) w w' := by
  obtain ⟨m4, m5, mf⟩ := flowAt_cells h
  have H := Lib.hid h
  clear h
  go_enter Tryz.func94, Tryz.ntmps94
  cases bad
  · go_wp2_with fail
    refine (flowMay_any lo hi E w f at' false at' p H.out).mono ?_
    rintro e w1 ⟨rfl, b1⟩
    have h1 := H.out.keep (below_keep b1) (fun _ _ _ h => h)
    obtain ⟨q4, q5, qf⟩ := flowAt_cells h1
    have h2 := h1.setBad (!flowMay E at' p)
    have k2 : Keep (· = f) w (w1.setCell ⟨f, 5, none⟩ (.bool (!flowMay E at' p))) := ((below_keep b1).mono (fun _ _ h => h.elim)).trans (keep_set w1 f 5 _)
    have H1 := Lib.hid h2
    have K1 := Lib.hid k2
    clear h1 h2 k2 m4 m5 mf b1 H
    generalize hm : flowMay E at' p = m at H1 K1 ⊢
    have HM := Lib.hid hm
    clear hm
    go_wp2_with fail
    generalize World.setCell _ _ _ = w2 at H1 K1 ⊢
    refine (flowThen_any lo hi E E.edges w2 f at' _ p H1.out).mono ?_
    rintro e w3 ⟨rfl, b3⟩
    have h3 := H1.out.keep (below_keep b3) (fun _ _ _ h => h)
    obtain ⟨r4, r5, rf⟩ := flowAt_cells h3
    have h4 := h3.setAt (flowThen E p)
    have k4 : Keep (· = f) w (w3.setCell ⟨f, 4, none⟩ (.int .i64 (flowThen E p))) := (K1.out.trans ((below_keep b3).mono (fun _ _ h => h.elim))).trans (keep_set w3 f 4 _)
    have H4 := Lib.hid h4
    have K4 := Lib.hid k4
    clear h3 h4 k4 q4 q5 qf H1 K1 b3
    go_wp2_with fail
    go_end0
    exact ⟨rfl, by rw [Bool.false_or, HM.out]; exact H4.out, K4.out⟩
  · have h2 := H.out.setBad true
    have k2 := keep_set w f 5 (.bool true)
    have H1 := Lib.hid h2
    have K1 := Lib.hid k2
    clear h2 k2
    go_wp2_with fail
    generalize World.setCell _ _ _ = w2 at H1 K1 ⊢
    refine (flowThen_any lo hi E E.edges w2 f at' _ p H1.out).mono ?_
    rintro e w3 ⟨rfl, b3⟩
    have h3 := H1.out.keep (below_keep b3) (fun _ _ _ h => h)
    obtain ⟨r4, r5, rf⟩ := flowAt_cells h3
    have h4 := h3.setAt (flowThen E p)
    have k4 : Keep (· = f) w (w3.setCell ⟨f, 4, none⟩ (.int .i64 (flowThen E p))) := (K1.out.trans ((below_keep b3).mono (fun _ _ h => h.elim))).trans (keep_set w3 f 4 _)
    have H4 := Lib.hid h4
    have K4 := Lib.hid k4
    clear h3 h4 k4 m4 m5 mf H1 K1 b3
    go_wp2_with fail
    go_end0
    exact ⟨rfl, H4.out, K4.out⟩
theorem flowEnd_any (lo hi : Nat) (E : EntV) (w : World) (f : Nat) (at' : Int) (bad : Bool) (h : FlowAt lo hi E E.edges w f at' bad) :
    Calls Tryz.prog 238 #[.pointer (some ⟨f, 0, none⟩)] w fun e w' => e = .returned (.bool (!bad)) ∧ FlowAt lo hi E E.edges w' f at' false ∧ Keep (· = f) w w' := by
  obtain ⟨m4, m5, mf⟩ := flowAt_cells h
  have H := Lib.hid (h.setBad false)
  have K := Lib.hid (keep_set w f 5 (.bool false))
  clear h
  go_enter Tryz.func238, Tryz.ntmps238
  go_wp2_with fail
  go_ret
  exact ⟨rfl, H.out, K.out⟩
end Go.Proofs.YtikehilbmldadaaGreatDoor
namespace Go.Proofs.YtikehilbmldadaaGreatDoor
open Go.RowKit
set_option linter.unusedVariables false
structure LocM where
  whole : Bool
  exp : Bool
  run : Int
  cnt : Int
  gs : List GapS
  gbad : Bool
  pos : Int
  fbad : Bool
def locBegin (E : EntV) : LocM := ⟨false, false, 0, 0, E.gaps.map gs0, false, -1, false⟩
def locPt (E : EntV) : Int := alivePt E.count E.points.length
def locReport (E : EntV) (m : LocM) (p t : Int) : LocM :=
  ⟨m.whole, m.exp, m.run, aliveStep (locPt E) m.cnt p, m.gs.map (gsStep · p t), m.gbad || m.gs.any (gsBad · p t), flowThen E p, m.fbad || !flowMay E m.pos p⟩
def locKind (E : EntV) (m : LocM) : Int :=
  if aliveOk (locPt E) E.mn E.mx m.cnt m.whole = false then 1 else if m.gbad = true then 2 else if m.fbad = true then 3 else 0
def locMid (m : LocM) : LocM := ⟨true, m.exp, m.run, 0, m.gs, false, m.pos, false⟩
def locRun (E : EntV) (m : LocM) : Int := if locKind E m = 0 then 0 else m.run + 1
def locNow (E : EntV) (m : LocM) : Bool := decide (E.tol < locRun E m) && !m.exp
def locEnd (E : EntV) (m : LocM) : LocM := ⟨true, m.exp || decide (E.tol < locRun E m), locRun E m, 0, m.gs, false, m.pos, false⟩
structure LocOk (m : LocM) : Prop where
  g : GsOk m.gs
  n : m.gs.length ≤ 100
  c0 : 0 ≤ m.cnt
  c1 : m.cnt ≤ 1000
theorem aliveStep_bd (p c q : Int) (h0 : 0 ≤ c) (h1 : c ≤ 1000) : 0 ≤ aliveStep p c q ∧ aliveStep p c q ≤ 1000 := by unfold aliveStep; split <;> omega
theorem locOk_begin (E : EntV) (h : E.gaps.length ≤ 100) : LocOk (locBegin E) := by
  refine ⟨?_, by simpa [locBegin] using h, by simp [locBegin], by simp [locBegin]⟩
  intro x hx
  simp only [locBegin, List.mem_map] at hx
  obtain ⟨g, _, rfl⟩ := hx
  simp [gs0]
structure Apart (s t wb a g : Nat) (ro : Option Nat) (lo hi : Nat) : Prop where
  pw : s ≤ wb ∧ wb < t
  pa : s ≤ a ∧ a < t
  pg : s ≤ g ∧ g < t
  pr : ∀ b, ro = some b → s ≤ b ∧ b < t
  pf : s ≤ lo ∧ hi ≤ t
  wa : wb ≠ a
  wg : wb ≠ g
  wr : ro ≠ some wb
  wf : ¬ (lo ≤ wb ∧ wb < hi)
  ag : a ≠ g
  ar : ro ≠ some a
  af : ¬ (lo ≤ a ∧ a < hi)
  gf : ¬ (lo ≤ g ∧ g < hi)
  rf : ∀ b, ro = some b → ¬ (lo ≤ b ∧ b < hi)
def watchC (a g f : Nat) (wh ex : Bool) (run : Int) : Obj := .cells #[.pointer (some ⟨a, 0, none⟩), .pointer (some ⟨g, 0, none⟩), .pointer (some ⟨f, 0, none⟩), .bool wh, .bool ex, .int .i64 run] 186
structure WatchIn (s t wb a g f : Nat) (ro : Option Nat) (base lo hi : Nat) (E : EntV) (m : LocM) (w : World) : Prop where
  ap : Apart s t wb a g ro lo hi
  box : w.heap[wb]? = some (watchC a g f m.whole m.exp m.run)
  al : w.heap[a]? = some (aliveC (locPt E) E.mn E.mx m.cnt)
  ga : GapsAt base ro w g m.gs m.gbad
  fl : FlowAt lo hi E E.edges w f m.pos m.fbad
  ok : LocOk m
  top : t ≤ w.heap.size
theorem WatchIn.keep {S : Nat → Prop} {s t wb a g f : Nat} {ro : Option Nat} {base lo hi : Nat} {E : EntV} {m : LocM} {w w' : World} (h : WatchIn s t wb a g f ro base lo hi E m w) (hk : Keep S w w') (hS : ∀ b, s ≤ b → b < t → ¬ S b) :
    WatchIn s t wb a g f ro base lo hi E m w' :=
  ⟨h.ap, hk.get h.box (hS _ h.ap.pw.1 h.ap.pw.2), hk.get h.al (hS _ h.ap.pa.1 h.ap.pa.2),
    h.ga.keep hk (fun b hb => by rcases hb with rfl | hb; exact hS _ h.ap.pg.1 h.ap.pg.2; exact hS _ (h.ap.pr b hb).1 (h.ap.pr b hb).2),
    h.fl.keep hk (fun b h1 h2 => hS b (Nat.le_trans h.ap.pf.1 h1) (Nat.lt_of_lt_of_le h2 h.ap.pf.2)), h.ok, Nat.le_trans h.top hk.size⟩
def locC (p : Option Addr) (E : EntV) (vp vg ve vf vl : Value) : Obj :=
  .cells #[.pointer p, .string E.name, .int .i64 E.tol, vp, .int .i64 E.count, .int .i64 E.mn, .int .i64 E.mx, vg, ve, vf, vl] 178
theorem loc_cells {w : World} {l : Nat} {p : Option Addr} {E : EntV} {vp vg ve vf vl : Value} (h : w.heap[l]? = some (locC p E vp vg ve vf vl)) :
    w.cell? ⟨l, 0, none⟩ = some (.pointer p) ∧ w.cell? ⟨l, 1, none⟩ = some (.string E.name) ∧ w.cell? ⟨l, 2, none⟩ = some (.int .i64 E.tol) ∧ w.cell? ⟨l, 3, none⟩ = some vp ∧ w.cell? ⟨l, 4, none⟩ = some (.int .i64 E.count) ∧
    w.cell? ⟨l, 5, none⟩ = some (.int .i64 E.mn) ∧ w.cell? ⟨l, 6, none⟩ = some (.int .i64 E.mx) ∧ w.cell? ⟨l, 7, none⟩ = some vg ∧ w.cell? ⟨l, 8, none⟩ = some ve ∧ w.cell? ⟨l, 9, none⟩ = some vf ∧ w.cell? ⟨l, 10, none⟩ = some vl ∧ ∀ o, w.frozen? ⟨l, o, none⟩ = false := by
  unfold locC at h
  simp [World.cell?, World.frozen?, h]
theorem watch_cells {w : World} {b a g f : Nat} {wh ex : Bool} {run : Int} (h : w.heap[b]? = some (watchC a g f wh ex run)) :
    w.cell? ⟨b, 0, none⟩ = some (.pointer (some ⟨a, 0, none⟩)) ∧ w.cell? ⟨b, 1, none⟩ = some (.pointer (some ⟨g, 0, none⟩)) ∧ w.cell? ⟨b, 2, none⟩ = some (.pointer (some ⟨f, 0, none⟩)) ∧
    w.cell? ⟨b, 3, none⟩ = some (.bool wh) ∧ w.cell? ⟨b, 4, none⟩ = some (.bool ex) ∧ w.cell? ⟨b, 5, none⟩ = some (.int .i64 run) ∧ ∀ o, w.frozen? ⟨b, o, none⟩ = false := by
  unfold watchC at h
  simp [World.cell?, World.frozen?, h]
section
variable {s t wb a g f : Nat} {ro : Option Nat} {base lo hi : Nat} {E : EntV} {m : LocM} {w w' : World}
theorem WatchIn.alive (h : WatchIn s t wb a g f ro base lo hi E m w) (k : Keep (· = a) w w') {c : Int} (ha : w'.heap[a]? = some (aliveC (locPt E) E.mn E.mx c)) (h0 : 0 ≤ c) (h1 : c ≤ 1000) :
    WatchIn s t wb a g f ro base lo hi E ⟨m.whole, m.exp, m.run, c, m.gs, m.gbad, m.pos, m.fbad⟩ w' :=
  ⟨h.ap, k.get h.box h.ap.wa, ha, h.ga.keep k (fun b hb e => by subst e; rcases hb with e | e; exact h.ap.ag e; exact h.ap.ar e), h.fl.keep k (fun b h1 h2 e => by subst e; exact h.ap.af ⟨h1, h2⟩), ⟨h.ok.g, h.ok.n, h0, h1⟩, Nat.le_trans h.top k.size⟩
theorem WatchIn.gaps (h : WatchIn s t wb a g f ro base lo hi E m w) (k : Keep (fun b => b = g ∨ ro = some b) w w') {L : List GapS} {bad : Bool} (hg : GapsAt base ro w' g L bad) (h0 : GsOk L) (h1 : L.length ≤ 100) :
    WatchIn s t wb a g f ro base lo hi E ⟨m.whole, m.exp, m.run, m.cnt, L, bad, m.pos, m.fbad⟩ w' :=
  ⟨h.ap, k.get h.box (fun e => by rcases e with e | e; exact h.ap.wg e; exact h.ap.wr e), k.get h.al (fun e => by rcases e with e | e; exact h.ap.ag e; exact h.ap.ar e), hg,
    h.fl.keep k (fun b h1 h2 e => by rcases e with e | e; subst e; exact h.ap.gf ⟨h1, h2⟩; exact h.ap.rf b e ⟨h1, h2⟩), ⟨h0, h1, h.ok.c0, h.ok.c1⟩, Nat.le_trans h.top k.size⟩
theorem WatchIn.flow (h : WatchIn s t wb a g f ro base lo hi E m w) (k : Keep (· = f) w w') {p : Int} {bad : Bool} (hf : FlowAt lo hi E E.edges w' f p bad) :
    WatchIn s t wb a g f ro base lo hi E ⟨m.whole, m.exp, m.run, m.cnt, m.gs, m.gbad, p, bad⟩ w' :=
  ⟨h.ap, k.get h.box (fun e => h.ap.wf (e ▸ ⟨h.fl.flo, h.fl.fhi⟩)), k.get h.al (fun e => h.ap.af (e ▸ ⟨h.fl.flo, h.fl.fhi⟩)),
    h.ga.keep k (fun b hb e => by subst e; rcases hb with e | e; exact h.ap.gf (e ▸ ⟨h.fl.flo, h.fl.fhi⟩); exact h.ap.rf _ e ⟨h.fl.flo, h.fl.fhi⟩), hf, ⟨h.ok.g, h.ok.n, h.ok.c0, h.ok.c1⟩, Nat.le_trans h.top k.size⟩
theorem WatchIn.box' (h : WatchIn s t wb a g f ro base lo hi E m w) (k : Keep (· = wb) w w') {wh ex : Bool} {run : Int} (hbx : w'.heap[wb]? = some (watchC a g f wh ex run)) :
    WatchIn s t wb a g f ro base lo hi E ⟨wh, ex, run, m.cnt, m.gs, m.gbad, m.pos, m.fbad⟩ w' :=
  ⟨h.ap, hbx, k.get h.al (fun e => h.ap.wa e.symm), h.ga.keep k (fun b hb e => by subst e; rcases hb with e | e; exact h.ap.wg e; exact h.ap.wr e),
    h.fl.keep k (fun b h1 h2 e => by subst e; exact h.ap.wf ⟨h1, h2⟩), ⟨h.ok.g, h.ok.n, h.ok.c0, h.ok.c1⟩, Nat.le_trans h.top k.size⟩
theorem WatchIn.own_a (h : WatchIn s t wb a g f ro base lo hi E m w) (k : Keep (· = a) w w') : Keep (fun b => s ≤ b ∧ b < t) w w' := k.mono (fun b _ e => by subst e; exact h.ap.pa)
theorem WatchIn.own_g (h : WatchIn s t wb a g f ro base lo hi E m w) (k : Keep (fun b => b = g ∨ ro = some b) w w') : Keep (fun b => s ≤ b ∧ b < t) w w' := k.mono (fun b _ e => by rcases e with e | e; subst e; exact h.ap.pg; exact h.ap.pr b e)
theorem WatchIn.own_f (h : WatchIn s t wb a g f ro base lo hi E m w) (k : Keep (· = f) w w') : Keep (fun b => s ≤ b ∧ b < t) w w' := k.mono (fun b _ e => by subst e; exact ⟨Nat.le_trans h.ap.pf.1 h.fl.flo, Nat.lt_of_lt_of_le h.fl.fhi h.ap.pf.2⟩)
theorem WatchIn.own_w (h : WatchIn s t wb a g f ro base lo hi E m w) (k : Keep (· = wb) w w') : Keep (fun b => s ≤ b ∧ b < t) w w' := k.mono (fun b _ e => by subst e; exact h.ap.pw)
end
structure LocAt (l s t : Nat) (E : EntV) (vp vg ve vf vl : Value) (m : LocM) (w : World) : Prop where
  ex : ∃ wb a g f ro base lo hi, w.heap[l]? = some (locC (some ⟨wb, 0, none⟩) E vp vg ve vf vl) ∧ WatchIn s t wb a g f ro base lo hi E m w
  out : ¬ (s ≤ l ∧ l < t)
theorem LocAt.keep {S : Nat → Prop} {l s t : Nat} {E : EntV} {vp vg ve vf vl : Value} {m : LocM} {w w' : World} (h : LocAt l s t E vp vg ve vf vl m w) (hk : Keep S w w') (hl : ¬ S l) (hS : ∀ b, s ≤ b → b < t → ¬ S b) : LocAt l s t E vp vg ve vf vl m w' := by
  obtain ⟨⟨wb, a, g, f, ro, base, lo, hi, h1, h2⟩, ho⟩ := h
  exact ⟨⟨wb, a, g, f, ro, base, lo, hi, hk.get h1 hl, h2.keep hk hS⟩, ho⟩
end Go.Proofs.YtikehilbmldadaaGreatDoor
