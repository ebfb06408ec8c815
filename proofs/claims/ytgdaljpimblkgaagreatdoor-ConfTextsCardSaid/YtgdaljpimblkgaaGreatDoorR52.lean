/- OwnConfig: a config of one's own memory. -/
import Derived.Test.YtgdaljpimblkgaaGreatDoorR42
import Derived.Test.YtgdaljpimblkgaaGreatDoorR20
import Derived.Test.YtgdaljpimblkgaaGreatDoorR17
import Derived.Test.YtgdaljpimblkgaaGreatDoorR38
import Derived.Test.YtgdaljpimblkgaaGreatDoorR49
import Derived.Test.YtgdaljpimblkgaaGreatDoorR41
import Derived.Test.YtgdaljpimblkgaaGreatDoorR48
import Derived.Test.YtgdaljpimblkgaaGreatDoorR37
import Derived.Test.YtgdaljpimblkgaaGreatDoorR54
import Derived.Deep.RegionHeld3
namespace Go.Proofs.YtgdaljpimblkgaaGreatDoor
open Go.RowKit
set_option linter.unusedVariables false

theorem Tryz.infoEnt : (Tryz.prog.info? 52).map (fun i => (i.zero, i.size, i.bytes)) = some (some (.agg (entCs ⟨ByteArray.empty, 0, [], 0, 0, 0, [], [], [], []⟩ (.slice none 0 0) (.slice none 0 0) (.slice none 0 0) (.slice none 0 0) (.slice none 0 0))), 10, 168) := by kernel_rfl

theorem EntSl.imp {R S : Nat → Prop} {w : World} {E : EntV} {vp vg ve vf vl : Value} (h : EntSl R w E vp vg ve vf vl) (hd : ∀ b, R b → b < w.heap.size → S b) : EntSl S w E vp vg ve vf vl := by
  have k : ∀ {v : Value} {sz : Nat} {cs : List Value} {n : Nat}, SlOf R w v sz cs n → SlOf S w v sz cs n := by
    intro v sz cs n h
    obtain ⟨hl, ao, cap, hv, h1, h2, h3, h4⟩ := h
    refine ⟨hl, ao, cap, hv, h1, h2, h3, fun hp => ?_⟩
    obtain ⟨b, off, ha, hR, hb, hc⟩ := h4 hp
    exact ⟨b, off, ha, hd b hR hb, hb, hc⟩
  exact ⟨k h.p, k h.g, k h.e, k h.f, k h.l⟩
theorem OwnAt.mono {w : World} {base base' : Nat} {e : TypeId} {size : Nat} {v : Value} {n : Nat} {xs : List Value} (h : OwnAt w base e size v n xs) (hb : base' ≤ base) : OwnAt w base' e size v n xs := by
  refine ⟨h.1, ?_⟩
  rcases h.2 with hn | ⟨g, off, cap, cur, h1, h2, h3⟩
  · exact .inl hn
  · exact .inr ⟨g, off, cap, cur, h1, Nat.le_trans hb h2, h3⟩

/-- v is a row of entities of one's own, as is what each of them holds. -/
structure OwnX (base : Nat) (w : World) (v : Value) (Y : List EntX) : Prop where
  row : OwnAt w base 52 10 v Y.length (Y.flatMap entXCells)
  each : ∀ y ∈ Y, EntSl (fun b => base ≤ b ∧ v.ownBlock ≠ some b) w y.E y.p y.g y.e y.f y.l
theorem OwnX.nil (base : Nat) (w : World) : OwnX base w (.slice none 0 0) [] := ⟨⟨rfl, .inl ⟨rfl, rfl⟩⟩, fun y hy => (by cases hy)⟩
theorem OwnX.keep {base : Nat} {S : Nat → Prop} {w w' : World} {v : Value} {Y : List EntX} (h : OwnX base w v Y) (k : Keep S w w') (hS : ∀ b, base ≤ b → b < w.heap.size → ¬ S b) : OwnX base w' v Y := by
  refine ⟨h.row.keep k (fun b hb => hS b (h.row.lt b hb).1 (h.row.lt b hb).2), fun y hy => ?_⟩
  exact (((h.each y hy).imp (S := fun b => (base ≤ b ∧ v.ownBlock ≠ some b) ∧ b < w.heap.size) (fun b hb hl => ⟨hb, hl⟩)).keep k (fun b hb => hS b hb.1.1 hb.2)).imp (fun b hb _ => hb.1)
theorem OwnX.later {base : Nat} {w w' : World} {v : Value} {Y : List EntX} (h : OwnX base w v Y) (b : Below w.heap.size w w') : OwnX base w' v Y :=
  h.keep (below_keep b) (fun _ _ _ h => h)
theorem OwnX.mono {base base' : Nat} {w : World} {v : Value} {Y : List EntX} (h : OwnX base w v Y) (hb : base' ≤ base) : OwnX base' w v Y :=
  ⟨h.row.mono hb, fun y hy => (h.each y hy).imp (fun b h _ => ⟨Nat.le_trans hb h.1, h.2⟩)⟩
theorem OwnX.ents {base : Nat} {w : World} {v : Value} {Y : List EntX} (h : OwnX base w v Y) : EntsSl (fun b => base ≤ b ∧ b < w.heap.size) w v Y := by
  refine ⟨?_, fun y hy => (h.each y hy).imp (fun b h hl => ⟨h.1, hl⟩)⟩
  obtain ⟨hl, ao, cap, hv, h1, h2, h3, h4⟩ := h.row.slOf
  refine ⟨hl, ao, cap, hv, h1, h2, h3, fun hp => ?_⟩
  obtain ⟨b, off, ha, hR, hb, hc⟩ := h4 hp
  exact ⟨b, off, ha, ⟨hR.1, hb⟩, hb, hc⟩
theorem OwnX.app {base : Nat} {w w1 : World} {v : Value} {Y : List EntX} (h : OwnX base w v Y) {y : EntX} (hy : EntSl (fun b => base ≤ b ∧ v.ownBlock ≠ some b) w y.E y.p y.g y.e y.f y.l) {v1 : Value}
    (ho : OwnAt w1 base 52 10 v1 (Y.length + 1) (Y.flatMap entXCells ++ entXCells y)) (hg : w.grownBy w1 v.ownBlock) (hn : v1.ownBlock = v.ownBlock ∨ ∀ b, v1.ownBlock = some b → w.heap.size ≤ b) : OwnX base w1 v1 (Y ++ [y]) := by
  refine ⟨by rw [List.length_append, List.flatMap_append]; simpa using ho, fun z hz => ?_⟩
  have hz' : EntSl (fun b => base ≤ b ∧ v.ownBlock ≠ some b) w z.E z.p z.g z.e z.f z.l := by
    rcases List.mem_append.1 hz with hz | hz
    · exact h.each z hz
    · obtain rfl := List.mem_singleton.1 hz
      exact hy
  refine ((hz'.imp (S := fun b => (base ≤ b ∧ v.ownBlock ≠ some b) ∧ b < w.heap.size) (fun b hb hl => ⟨hb, hl⟩)).keep (Keep.of_grown hg) (fun b hb (h : some b = v.ownBlock) => hb.1.2 h.symm)).imp (fun b hb _ => ⟨hb.1.1, fun hh => ?_⟩)
  rcases hn with hn | hn
  · exact hb.1.2 (by rw [← hn]; exact hh)
  · have := hn b hh
    have := hb.2
    omega

/-- In the middle of OwnConfig. -/
structure OwnCs (w0 : World) (C : ConfV) (vX v : Value) (Y : List EntX) (w : World) : Prop where
  below : Below w0.heap.size w0 w
  h0 : w.heap[w0.heap.size]? = some (.cells (confCs C vX) 24)
  h1 : w.heap[w0.heap.size + 1]? = some (.cells (confCs ⟨0, 0, 0, 0, []⟩ (.slice none 0 0)) 24)
  h2 : w.heap[w0.heap.size + 1 + 1]? = some (.cells (confCs C v) 24)
  own : OwnX (w0.heap.size + 3) w v Y
theorem OwnCs.later {w0 w w' : World} {C : ConfV} {vX v : Value} {Y : List EntX} (h : OwnCs w0 C vX v Y w) (b : Below w.heap.size w w') : OwnCs w0 C vX v Y w' :=
  ⟨h.below.trans (b.mono h.below.size), below_get b h.h0 (lt_of_get h.h0), below_get b h.h1 (lt_of_get h.h1), below_get b h.h2 (lt_of_get h.h2), h.own.later b⟩
theorem ownCs_start (w : World) (C : ConfV) (vX : Value) : OwnCs w C vX (.slice none 0 0) [] (((w.alloc (.cells (confCs C vX) 24)).alloc (.cells (confCs ⟨0, 0, 0, 0, []⟩ (.slice none 0 0)) 24)).alloc (.cells (confCs C (.slice none 0 0)) 24)) := by
  have n1 := get_alloc_new w (.cells (confCs C vX) 24)
  have n2 := get_alloc_new (w.alloc (.cells (confCs C vX) 24)) (.cells (confCs ⟨0, 0, 0, 0, []⟩ (.slice none 0 0)) 24)
  have n3 := get_alloc_new ((w.alloc (.cells (confCs C vX) 24)).alloc (.cells (confCs ⟨0, 0, 0, 0, []⟩ (.slice none 0 0)) 24)) (.cells (confCs C (.slice none 0 0)) 24)
  rw [World.size_alloc] at n2
  rw [World.size_alloc, World.size_alloc] at n3
  have bb : Below w.heap.size w (((w.alloc (.cells (confCs C vX) 24)).alloc (.cells (confCs ⟨0, 0, 0, 0, []⟩ (.slice none 0 0)) 24)).alloc (.cells (confCs C (.slice none 0 0)) 24)) := (((Below.refl _ _).alloc (Nat.le_refl _) _).alloc (by simp) _).alloc (by simp; omega) _
  exact ⟨bb, get_alloc_old _ (get_alloc_old _ n1), get_alloc_old _ n2, n3, OwnX.nil _ _⟩
theorem OwnCs.next {w0 wA w1 : World} {C : ConfV} {vX v : Value} {Y : List EntX} (h : OwnCs w0 C vX v Y wA) {y : EntX} (hy : EntSl (fun b => w0.heap.size + 3 ≤ b ∧ v.ownBlock ≠ some b) wA y.E y.p y.g y.e y.f y.l) {v1 : Value}
    (ho : OwnAt w1 (w0.heap.size + 3) 52 10 v1 (Y.length + 1) (Y.flatMap entXCells ++ entXCells y)) (hg : wA.grownBy w1 v.ownBlock) (hn : v1.ownBlock = v.ownBlock ∨ ∀ b, v1.ownBlock = some b → wA.heap.size ≤ b) :
    OwnCs w0 C vX v1 (Y ++ [y]) (w1.setCell ⟨w0.heap.size + 1 + 1, 4, none⟩ v1) ∧ (∃ c, w1.cell? ⟨w0.heap.size + 1 + 1, 4, none⟩ = some c) ∧ ∀ o, w1.frozen? ⟨w0.heap.size + 1 + 1, o, none⟩ = false := by
  have kg := Keep.of_grown hg
  have hnb : ∀ b, b < w0.heap.size + 3 → ¬ some b = v.ownBlock := fun b hb hh => by have := (h.own.row.lt b hh.symm).1; omega
  have g2 := kg.get h.h2 (hnb _ (by omega))
  have kv := keep_set w1 (w0.heap.size + 1 + 1) 4 v1
  have hsz := h.below.size
  refine ⟨⟨?_, kv.get (kg.get h.h0 (hnb _ (by omega))) (by omega), kv.get (kg.get h.h1 (hnb _ (by omega))) (by omega), ?_, (h.own.app hy ho hg hn).keep kv (fun b hb _ => by omega)⟩, ⟨v, by simp [World.cell?, g2, confCs]⟩, fun o => by simp [World.frozen?, g2]⟩
  · exact h.below.trans ((kg.below hsz (fun b hb => by have := (h.own.row.lt b (Eq.symm hb)).1; omega)).trans (kv.below (Nat.le_trans hsz kg.size) (by intro j hj; omega)))
  · rw [get_setCell _ g2]
    rfl

set_option maxRecDepth 100000 in
set_option maxHeartbeats 8000000 in
theorem ownConfig_any (R : Nat → Prop) (C : ConfV) (v : Value) (X : List EntX) (w : World) (h : EntsSl R w v X) (hR : ∀ b, R b → b < w.heap.size) (hH : ¬ HeavyC X) :
    Calls Tryz.prog 9 #[.agg (confCs C v)] w fun e w' => ∃ ao cap Y, e = .returned (.agg (confCs C (.slice ao Y.length cap))) ∧ Y.map EntX.E = X.map EntX.E ∧ OwnX w.heap.size w' (.slice ao Y.length cap) Y ∧ Below w.heap.size w w' := by
  obtain ⟨i0, hi0, hz0, hz1, hz2⟩ := info_parts Tryz.infoEnt
  obtain ⟨ao, cap, rfl⟩ := h.row.val
  obtain ⟨hc1, hc2⟩ := h.row.capB
  have H := Lib.hid h
  have HRw := Lib.hid hR
  have hL12 : X.length ≤ 12 := Nat.le_of_not_lt (fun hh => hH (.inl hh))
  have HNH : Hid (∀ x ∈ X, ¬ Heavy x.E) := fun x hx hh => hH (.inr ⟨x, hx, hh⟩)
  have HS := Lib.hid (ownCs_start w C (.slice ao X.length cap))
  clear h hR hH
  unfold confCs at HS ⊢
  go_enter Tryz.func9, Tryz.ntmps9
  go_upto_region 3 with fail
  generalize World.alloc _ _ = w3 at HS ⊢
  have HS : Hid (OwnCs w C (.slice ao X.length cap) (.slice none 0 0) [] w3) := HS
  go_wp2_with fail
  go_loopw [4] (fun s wr => ∃ (i : Nat) (a1 : Option Addr) (k1 : Nat) (Y : List EntX), i ≤ X.length ∧ s = .int .i64 i ∧ Hid (Y.length = i) ∧ Hid (Y.map EntX.E = (X.take i).map EntX.E) ∧ Hid (OwnCs w C (.slice ao X.length cap) (.slice a1 i k1) Y wr)) (fun s _ => X.length - (intOf s).toNat)
  case atStart => exact ⟨0, none, 0, [], Nat.zero_le _, rfl, rfl, rfl, HS⟩
  case round =>
    obtain ⟨i, a1, k1, Y, hi, rfl, hYl, hYe, hst⟩ := hrel
    clear HS
    obtain ⟨c0, c1, c2, c3, c4⟩ := conf_cells hst.out.h0
    obtain ⟨d0, d1, d2, d3, d4⟩ := conf_cells hst.out.h2
    by_cases hlt : i < X.length
    · obtain ⟨b, off, rfl, hRb, hb, hc⟩ := ent_elem H.out.row (by omega)
      obtain ⟨q0, q1, q2, q3, q4, q5, q6, q7, q8, q9⟩ := hc i hlt
      have hRb' := HRw.out b hRb
      have hbl := hst.out.below
      rw [← hbl.cell hRb'] at q0 q1 q2 q3 q4 q5 q6 q7 q8 q9
      have HCe := Lib.hid (ownEntity_any R X[i].E X[i].p X[i].g X[i].e X[i].f X[i].l wr ((H.out.each X[i] (List.getElem_mem hlt)).keep (Keep.of_below hbl) (fun b hb hS => by have := HRw.out b hb; omega)) (below_lt2 HRw.out hbl) (light_of (HNH.out _ (List.getElem_mem hlt))))
      unfold entCs at HCe
      have hEs := H.out.each X[i] (List.getElem_mem hlt)
      obtain ⟨pa, pc, hvp⟩ := hEs.p.val
      obtain ⟨ga, gc, hvg⟩ := hEs.g.val
      obtain ⟨ea, ec, hve⟩ := hEs.e.val
      obtain ⟨fa, fc, hvf⟩ := hEs.f.val
      obtain ⟨la, lc, hvl⟩ := hEs.l.val
      rw [hvp, hvg, hve, hvf, hvl] at HCe
      rw [hvp] at q2
      rw [hvg] at q6
      rw [hve] at q7
      rw [hvf] at q8
      rw [hvl] at q9
      obtain ⟨xe, hxe⟩ : ∃ xe, xe = X[i].E := ⟨_, rfl⟩
      rw [← hxe] at HCe q0 q1 q2 q3 q4 q5 q6 q7 q8 q9
      have HXE := Lib.hid hxe
      have HSZ := Lib.hid hbl.size
      clear hc hvp hvg hve hvf hvl hEs hxe hbl
      go_wp2_with fail
      refine HCe.out.mono ?_
      rintro e w2 ⟨_, rfl, ⟨vp, vg, ve, vf, vl, rfl, hs⟩, b2⟩
      obtain ⟨pa, pc, rfl⟩ := hs.p.val
      obtain ⟨ga, gc, rfl⟩ := hs.g.val
      obtain ⟨ea, ec, rfl⟩ := hs.e.val
      obtain ⟨fa, fc, rfl⟩ := hs.f.val
      obtain ⟨la, lc, rfl⟩ := hs.l.val
      have HN2 := Lib.hid (hst.out.later b2)
      have HE2 := Lib.hid hs
      have HSTW := Lib.hid hst.out
      clear hst c0 c1 c2 c3 c4 d0 d1 d2 d3 d4 b2 hs q0 q1 q2 q3 q4 q5 q6 q7 q8 q9
      unfold entCs
      go_upto_region 7 with fail
      obtain ⟨y, hyq⟩ : ∃ y : EntX, y = ⟨xe, .slice pa xe.points.length pc, .slice ga xe.gaps.length gc, .slice ea xe.edges.length ec, .slice fa xe.first.length fc, .slice la xe.last.length lc⟩ := ⟨_, rfl⟩
      have HYQ := Lib.hid hyq
      have hxb := get_alloc_new w2 (.cells (entCs xe (.slice pa xe.points.length pc) (.slice ga xe.gaps.length gc) (.slice ea xe.edges.length ec) (.slice fa xe.first.length fc) (.slice la xe.last.length lc)) 52)
      have hbb : Below w2.heap.size w2 (w2.alloc (.cells (entCs xe (.slice pa xe.points.length pc) (.slice ga xe.gaps.length gc) (.slice ea xe.edges.length ec) (.slice fa xe.first.length fc) (.slice la xe.last.length lc)) 52)) := (Below.refl _ _).alloc (Nat.le_refl _) _
      have HEy : Hid (EntSl (fun b => w.heap.size + 3 ≤ b ∧ (Value.slice a1 i k1).ownBlock ≠ some b) w2 y.E y.p y.g y.e y.f y.l) := (show EntSl (fun b => w.heap.size + 3 ≤ b ∧ (Value.slice a1 i k1).ownBlock ≠ some b) w2 y.E y.p y.g y.e y.f y.l from by
        rw [HYQ.out]
        refine HE2.out.imp (fun b hb _ => ?_)
        have h3 := lt_of_get HSTW.out.h2
        refine ⟨by omega, fun hh => ?_⟩
        have := (HSTW.out.own.row.lt b hh).2
        omega)
      unfold entCs at hxb hbb
      clear hyq HE2 HSTW
      generalize w2.alloc _ = w3 at hxb hbb ⊢
      have HN3 := Lib.hid (HN2.out.later hbb)
      have HEy3 := Lib.hid ((HEy.out.imp (S := fun b => (w.heap.size + 3 ≤ b ∧ (Value.slice a1 i k1).ownBlock ≠ some b) ∧ b < w2.heap.size) (fun b hb hl => ⟨hb, hl⟩)).keep (Keep.of_below hbb) (fun b hb => by omega))
      have hx3 := lt_of_get hxb
      obtain ⟨eb, heb⟩ : ∃ eb, eb = w2.heap.size := ⟨_, rfl⟩
      rw [← heb] at hxb hx3 ⊢
      clear heb hbb HN2 HEy
      obtain ⟨z0, z1, z2, z3, z4, z5, z6, z7, z8, z9, zf⟩ := ten_cells hxb
      obtain ⟨d0, d1, d2, d3, d4⟩ := conf_cells HN3.out.h2
      have hd3 := lt_of_get HN3.out.h2
      have HOW : Hid (∀ o, OwnAt (w3.alloc o) (w.heap.size + 3) 52 10 (.slice a1 i k1) i (Y.flatMap entXCells) ∧ w.heap.size + 3 ≤ (w3.alloc o).heap.size) := (show _ from fun o => ⟨by have := HN3.out.own.row.later ((Below.refl _ _).alloc (Nat.le_refl _) o); rw [hYl.out] at this; exact this, by rw [World.size_alloc]; omega⟩)
      have h63 : Hid (i + 1 ≤ maxLen) := (show i + 1 ≤ maxLen from by unfold maxLen; omega)
      have hby : Hid ((i + 1) * 168 ≤ 140737488355328) := (show (i + 1) * 168 ≤ 140737488355328 from by omega)
      have HNX : Hid (∀ (o : Obj) (w4 : World) (a2 : Option Addr) (k2 : Nat), OwnAt w4 (w.heap.size + 3) 52 10 (.slice a2 (i + 1) k2) (i + 1) (Y.flatMap entXCells ++ entXCells ⟨xe, .slice pa xe.points.length pc, .slice ga xe.gaps.length gc, .slice ea xe.edges.length ec, .slice fa xe.first.length fc, .slice la xe.last.length lc⟩) → (w3.alloc o).grownBy w4 (Value.slice a1 i k1).ownBlock → ((Value.slice a2 (i + 1) k2).ownBlock = (Value.slice a1 i k1).ownBlock ∨ ∀ b, (Value.slice a2 (i + 1) k2).ownBlock = some b → (w3.alloc o).heap.size ≤ b) → OwnCs w C (.slice (some ⟨b, off, none⟩) X.length cap) (.slice a2 (i + 1) k2) (Y ++ [y]) (w4.setCell ⟨w.heap.size + 1 + 1, 4, none⟩ (.slice a2 (i + 1) k2)) ∧ (∃ c, w4.cell? ⟨w.heap.size + 1 + 1, 4, none⟩ = some c) ∧ ∀ o, w4.frozen? ⟨w.heap.size + 1 + 1, o, none⟩ = false) := (show _ from by
        intro o w4 a2 k2 ho hg hn
        have hbo : Below w3.heap.size w3 (w3.alloc o) := (Below.refl _ _).alloc (Nat.le_refl _) _
        rw [← HYQ.out] at ho
        refine (HN3.out.later hbo).next ((HEy3.out.imp (S := fun b => (w.heap.size + 3 ≤ b ∧ (Value.slice a1 i k1).ownBlock ≠ some b) ∧ b < w3.heap.size) (fun b hb hl => ⟨hb.1, hl⟩)).keep (below_keep hbo) (fun b hb h => h) |>.imp (fun b hb _ => hb.1)) ?_ hg hn
        rw [hYl.out]
        exact ho)
      go_wp2_with (at_builtin; go_must (refine wpList_append_off rfl (.tmp 22) (.tmp 24) 22 rfl (w.heap.size + 3) 52 i0 _ 10 168 Tryz.underlying22 hi0 hz0 hz1 hz2 rfl (by decide) _ i _ rfl (HOW.out _).1 ⟨w3.heap.size, 0, none⟩ 1 1 (entXCells ⟨xe, .slice pa xe.points.length pc, .slice ga xe.gaps.length gc, .slice ea xe.edges.length ec, .slice fa xe.first.length fc, .slice la xe.last.length lc⟩) rfl rfl (new_cells _ (entXCells ⟨xe, .slice pa xe.points.length pc, .slice ga xe.gaps.length gc, .slice ea xe.edges.length ec, .slice fa xe.first.length fc, .slice la xe.last.length lc⟩) _) (by intro u hu; simp [entXCells, entCs] at hu; rcases hu with rfl | rfl | rfl | rfl | rfl | rfl | rfl | rfl | rfl | rfl <;> rfl) h63.out hby.out (HOW.out _).2 ?_; intro a2 k2 w4 ho hg hn; obtain ⟨nx, ⟨c9, hc9⟩, hf9⟩ := HNX.out _ w4 a2 k2 ho hg hn; clear ho hg hn; have NX := Lib.hid nx; clear nx))
      go_roundw
      case rel =>
        refine ⟨i + 1, a2, k2, Y ++ [y], by omega, by go_num, (show (Y ++ [y]).length = i + 1 from by rw [List.length_append, hYl.out]; rfl), ?_, NX⟩
        show (Y ++ [y]).map EntX.E = (X.take (i + 1)).map EntX.E
        rw [List.take_succ_eq_append_getElem hlt, List.map_append, List.map_append, hYe.out, HYQ.out, HXE.out]
        rfl
      case measure => simp [intOf]; omega
    · have HEQ : Hid (Y.map EntX.E = X.map EntX.E) := (show Y.map EntX.E = X.map EntX.E from by rw [hYe.out, (show i = X.length by omega), List.take_length])
      obtain ⟨z0, z1, z2, z3, z4⟩ := conf_cells hst.out.h1
      have zf : ∀ o, wr.frozen? ⟨w.heap.size + 1, o, none⟩ = false := by have hh1 := hst.out.h1; intro o; simp [World.frozen?, hh1]
      have HEND : Hid (∀ w', Keep (· = w.heap.size + 1) wr w' → OwnX w.heap.size w' (.slice a1 i k1) Y ∧ Below w.heap.size w w') := (show _ from by
        intro w' k
        exact ⟨(hst.out.own.keep k (fun b hb _ => by omega)).mono (by omega), hst.out.below.trans (k.below hst.out.below.size (fun b hb => by omega))⟩)
      rw [← hYl.out] at HEND hst
      obtain ⟨ny, hny⟩ : ∃ ny, ny = Y.length := ⟨_, rfl⟩
      clear hst
      go_wp2_with fail
      have HK := Lib.hid (((((keep_set wr (w.heap.size + 1) 0 (.int .i64 C.closed)).setCell (p := ⟨w.heap.size + 1, 1, none⟩) (fun _ => rfl) (.int .i64 C.opn)).setCell (p := ⟨w.heap.size + 1, 2, none⟩) (fun _ => rfl) (.int .i64 C.cycle)).setCell (p := ⟨w.heap.size + 1, 3, none⟩) (fun _ => rfl) (.int .i64 C.delay)).setCell (p := ⟨w.heap.size + 1, 4, none⟩) (fun _ => rfl) (.slice a1 i k1))
      refine bodyPost_ret (v := .agg #[.int .i64 C.closed, .int .i64 C.opn, .int .i64 C.cycle, .int .i64 C.delay, .slice a1 i k1]) (by simp [z0, z1, z2, z3, z4, results, Tryz.results9, go_sem, World.cell?_setCell_same, World.cell?_setCell_other]) rfl ?_
      obtain ⟨h1, h2⟩ := HEND.out _ HK.out
      refine ⟨a1, k1, Y, by rw [hYl.out], HEQ.out, ?_, h2⟩
      exact h1
end Go.Proofs.YtgdaljpimblkgaaGreatDoor

/- Package conf: Text of a wrong config; Read of a large text. -/
namespace Go.Proofs.YtgdaljpimblkgaaGreatDoor
open Go.RowKit
set_option linter.unusedVariables false

set_option maxRecDepth 100000 in
set_option maxHeartbeats 2000000 in
theorem textBad_any (B : Nat) (sa : Nat → Addr) (R : Nat → Prop) (C : ConfV) (v : Value) (X : List EntX) (w : World) (hS : SentsC B sa w) (h : ConfSl R w C v X) (hR : ∀ b, R b → b < w.heap.size) (hC : (confF C).1 ≠ 0) :
    Calls Tryz.prog 8 #[.agg (confCs C v)] w fun e w' => ∃ u, e = .returned (.tuple #[.string ByteArray.empty, u]) ∧ ErrIs sa w' u (confF C) ∧ Below w.heap.size w w' := by
  obtain ⟨ao, cap, rfl⟩ := h.sl.row.val
  have hxa := get_alloc_new w (.cells (confCs C (.slice ao X.length cap)) 24)
  have hba : Below w.heap.size w (w.alloc (.cells (confCs C (.slice ao X.length cap)) 24)) := (Below.refl _ _).alloc (Nat.le_refl _) _
  have HCk := Lib.hid (check_any B sa R C _ X _ (hS.on hba) (h.below hba hR) (below_lt2 hR hba))
  have HC := Lib.hid hC
  clear hC h hS hR
  unfold confCs at hxa hba HCk ⊢
  go_enter Tryz.func8, Tryz.ntmps8
  go_upto_region 1 with fail
  generalize w.alloc _ = w1 at hxa hba HCk ⊢
  have HXA : Hid (w1.heap[w.heap.size]? = some (.cells (confCs C (.slice ao X.length cap)) 24)) := hxa
  obtain ⟨c0, c1, c2, c3, c4⟩ := conf_cells HXA.out
  clear hxa
  go_wp2_with fail
  refine HCk.out.mono ?_
  rintro e w2 ⟨u, rfl, hu, b2⟩
  have hu2 : (∃ k, u = .iface 209 (.pointer (some (sa k)))) ∨ ∃ fb, u = .iface 72 (.pointer (some ⟨fb, 0, none⟩)) := by
    rcases hu with ⟨_, hu⟩ | ⟨_, _, fb, hu, _⟩
    · left
      obtain ⟨k, hk⟩ := Nat.exists_eq_succ_of_ne_zero HC.out
      exact ⟨k, by rw [hu, hk]; rfl⟩
    · exact .inr ⟨fb, hu⟩
  have HU := Lib.hid hu
  have HB2 := Lib.hid (hba.trans (b2.mono hba.size))
  clear hu b2 hba
  rcases hu2 with ⟨k, rfl⟩ | ⟨fb, rfl⟩
  all_goals
    go_wp2_with fail
    go_ret2
    exact ⟨_, rfl, HU.out, HB2.out⟩

set_option maxRecDepth 100000 in
set_option maxHeartbeats 2000000 in
theorem readBig_any (B : Nat) (sa : Nat → Addr) (s : ByteArray) (w : World) (hS : SentsC B sa w) (h8 : 8000 < s.size) :
    Calls Tryz.prog 13 #[.string s] w (ReadPost sa w.heap.size (zeroC, (2, -1)) w) := by
  have h8 : (8000 : Int) < (s.size : Int) := by omega
  have HS := Lib.hid hS
  have hba : Below w.heap.size w (w.alloc (.cells (confCs zeroC (.slice none 0 0)) 24)) := (Below.refl _ _).alloc (Nat.le_refl _) _
  have hxa := get_alloc_new w (.cells (confCs zeroC (.slice none 0 0)) 24)
  unfold confCs zeroC at hxa hba
  clear hS
  go_enter Tryz.func13, Tryz.ntmps13
  go_upto_region 1 with fail
  generalize w.alloc _ = w1 at hxa hba ⊢
  have e2 := (HS.out.on hba).all.2.1
  have HBA := Lib.hid hba
  obtain ⟨c0, c1, c2, c3, c4⟩ := conf_cells (C := zeroC) hxa
  have cf : ∀ o, w1.frozen? ⟨w.heap.size, o, none⟩ = false := fun o => by simp [World.frozen?, hxa]
  have hg : 0 < B := HS.out.nb 1 (by decide)
  have hB := HS.out.top
  have hg1 : ¬ 0 = w.heap.size := by omega
  have hg2 : ¬ w.heap.size = 0 := by omega
  clear hba hg hB
  go_wp2_with fail
  go_region
  all_goals
    go_wp2_with fail
    refine bodyPost_ret (v := .tuple #[.agg #[.int .i64 0, .int .i64 0, .int .i64 0, .int .i64 0, .slice none 0 0], .iface 209 (.pointer (some (sa 1)))]) (by simp [c0, c1, c2, c3, c4, results, Tryz.results13, go_sem, World.cell?_setCell_same, World.cell?_setCell_other]) rfl ?_
    unfold ReadPost
    exact ⟨none, 0, 0, errv sa 2, [], rfl, .inl ⟨rfl, rfl⟩, fun h => absurd h (by decide), fun _ => rfl, by first | exact below_five HBA.out _ _ _ _ _ | exact (below_five HBA.out _ _ _ _ _).drew⟩
end Go.Proofs.YtgdaljpimblkgaaGreatDoor

/- The plain law of ConfMore: a right config with one more entity. -/
namespace Go.Proofs.YtgdaljpimblkgaaGreatDoor
open Go.RowKit
set_option linter.unusedVariables false

theorem bytes_inj {a b : ByteArray} (h : a.toList = b.toList) : a = b := by
  rw [ByteArray.toList_eq, ByteArray.toList_eq] at h
  cases a; cases b
  exact congrArg ByteArray.mk (Array.toList_inj.1 h)
def moreE (nm : ByteArray) (t : Int) : EntV := ⟨nm, t, [], -1, 0, 0, [], [], [], []⟩
theorem more_err (ah : List ByteArray) (nm : ByteArray) (t : Int) : entErr ah (moreE nm t) = if isNameB nm = false then 4 else if hasStr ah nm = true then 6 else if t < 0 ∨ 20 < t then 2 else 0 := by
  unfold entErr
  simp [moreE, topW, fstW, cntW, cmmW, rngW, s1W, s2W, ptsE, strangeB, strL, edgesTwice, twiceB]
theorem entAt_left {L : List EntV} (E : EntV) {j : Nat} (hj : j < L.length) : entAt (L ++ [E]) j = entAt L j := by
  rw [entAt_at hj, entAt_at (show j < (L ++ [E]).length by rw [List.length_append]; omega), List.take_append_of_le_length (by omega), List.getElem_append_left hj]
theorem entAt_last (L : List EntV) (E : EntV) : entAt (L ++ [E]) L.length = entErr (L.map EntV.name) E := by
  rw [entAt_at (show L.length < (L ++ [E]).length by simp)]
  simp
def addE (C : ConfV) (E : EntV) : ConfV := ⟨C.closed, C.opn, C.cycle, C.delay, C.ents ++ [E]⟩
theorem confF_full {C : ConfV} (E : EntV) (h : C.ents.length = 8) : confF (addE C E) = (2, -1) := by
  unfold confF
  rw [if_pos]
  unfold boundC
  refine decide_eq_true ?_
  simp only [addE, List.length_append, List.length_singleton]
  omega
theorem confF_add {C : ConfV} (E : EntV) (hC : confF C = (0, -1)) (h : C.ents.length ≠ 8) :
    confF (addE C E) = if entErr (C.ents.map EntV.name) E = 0 then (0, -1) else (entErr (C.ents.map EntV.name) E, (C.ents.length : Int)) := by
  obtain ⟨h1, h2, h3⟩ := confF_parts hC
  have hb : boundC (addE C E) = false := by
    unfold boundC at h1 ⊢
    simp only [decide_eq_false_iff_not] at h1 ⊢
    simp only [addE, List.length_append, List.length_singleton]
    omega
  have hlast := entAt_last C.ents E
  unfold confF
  rw [hb, if_neg (by decide), if_neg (show ¬ (addE C E).opn < (addE C E).cycle from h2)]
  show entsF (C.ents ++ [E]) = _
  split
  · next hz =>
    refine entsF_miss (fun j hj => ?_)
    rw [List.length_append, List.length_singleton] at hj
    by_cases hj' : j < C.ents.length
    · rw [entAt_left E hj']; exact h3 j hj'
    · obtain rfl : j = C.ents.length := by omega
      rw [hlast]; exact hz
  · next hz =>
    rw [entsF_hit (k := C.ents.length) (by simp) (by rw [hlast]; exact hz) (fun j hj => by rw [entAt_left E hj]; exact h3 j hj), hlast]
/-- Whose name is there already: it is a name. -/
theorem name_there {C : ConfV} (hC : confF C = (0, -1)) {i : Nat} (hi : i < C.ents.length) {nm : ByteArray} (h : C.ents[i].name.toList = nm.toList) : isNameB nm = true ∧ hasStr (C.ents.map EntV.name) nm = true := by
  obtain ⟨h1, h2, h3⟩ := confF_parts hC
  refine ⟨?_, hasStr_hit i (by simpa using hi) (by simpa using h)⟩
  have := h3 i hi
  rw [entAt_at hi] at this
  rw [← bytes_inj h]
  cases hn : isNameB C.ents[i].name
  · rw [entErr_name hn] at this
    cases this
  · rfl
theorem more_there {C : ConfV} (hC : confF C = (0, -1)) (h8 : C.ents.length ≠ 8) {i : Nat} (hi : i < C.ents.length) {nm : ByteArray} (t : Int) (h : C.ents[i].name.toList = nm.toList) : confF (addE C (moreE nm t)) = (6, (C.ents.length : Int)) := by
  obtain ⟨h1, h2⟩ := name_there hC hi h
  rw [confF_add _ hC h8, more_err, h1, h2]
  rfl
theorem more_name {C : ConfV} (hC : confF C = (0, -1)) (h8 : C.ents.length ≠ 8) {nm : ByteArray} (t : Int) (h : isNameB nm = false) : confF (addE C (moreE nm t)) = (4, (C.ents.length : Int)) := by
  rw [confF_add _ hC h8, more_err, h]
  rfl
theorem miss_there {C : ConfV} {nm : ByteArray} (hn : ∀ j (hj : j < C.ents.length), C.ents[j].name.toList ≠ nm.toList) : hasStr (C.ents.map EntV.name) nm = false :=
  hasStr_miss (fun j hj => by simpa using hn j (by simpa using hj))
theorem more_tol {C : ConfV} (hC : confF C = (0, -1)) (h8 : C.ents.length ≠ 8) {nm : ByteArray} {t : Int} (h : isNameB nm = true) (hn : ∀ j (hj : j < C.ents.length), C.ents[j].name.toList ≠ nm.toList) (ht : t < 0 ∨ 20 < t) : confF (addE C (moreE nm t)) = (2, (C.ents.length : Int)) := by
  have e : entErr (C.ents.map EntV.name) (moreE nm t) = 2 := by rw [more_err, h, miss_there hn]; simp [ht]
  rw [confF_add _ hC h8, e]
  rfl
theorem more_fine {C : ConfV} (hC : confF C = (0, -1)) (h8 : C.ents.length ≠ 8) {nm : ByteArray} {t : Int} (h : isNameB nm = true) (hn : ∀ j (hj : j < C.ents.length), C.ents[j].name.toList ≠ nm.toList) (ht : ¬ (t < 0 ∨ 20 < t)) : confF (addE C (moreE nm t)) = (0, -1) := by
  have e : entErr (C.ents.map EntV.name) (moreE nm t) = 0 := by rw [more_err, h, miss_there hn]; simp [ht]
  rw [confF_add _ hC h8, e]
  rfl
end Go.Proofs.YtgdaljpimblkgaaGreatDoor

/- ConfMore walked. -/
namespace Go.Proofs.YtgdaljpimblkgaaGreatDoor
open Go.RowKit
set_option linter.unusedVariables false

theorem EntSl.none (R : Nat → Prop) (w : World) (nm : ByteArray) (t : Int) : EntSl R w (moreE nm t) (.slice none 0 0) (.slice none 0 0) (.slice none 0 0) (.slice none 0 0) (.slice none 0 0) :=
  ⟨SlOf.nil _ _ _, SlOf.nil _ _ _, SlOf.nil _ _ _, SlOf.nil _ _ _, SlOf.nil _ _ _⟩
def moreX (nm : ByteArray) (t : Int) : EntX := ⟨moreE nm t, .slice none 0 0, .slice none 0 0, .slice none 0 0, .slice none 0 0, .slice none 0 0⟩
/-- Behind the append onto the row of the config 'more', which lies at mb. -/
theorem more_ents {base : Nat} {w5 w6 w7 : World} {v v1 : Value} {Y : List EntX} (h : OwnX base w5 v Y) (nm : ByteArray) (t : Int) (hb : Below w5.heap.size w5 w6) (hsz : w5.heap.size < w6.heap.size)
    (ho : OwnAt w7 base 52 10 v1 (Y.length + 1) (Y.flatMap entXCells ++ entXCells (moreX nm t))) (hg : w6.grownBy w7 v.ownBlock) (hn : v1.ownBlock = v.ownBlock ∨ ∀ b, v1.ownBlock = some b → w6.heap.size ≤ b) :
    EntsSl (fun b => b ≠ w5.heap.size) w7 v1 (Y ++ [moreX nm t]) := by
  refine ⟨?_, fun z hz => ?_⟩
  · have e1 : (Y ++ [moreX nm t]).length = Y.length + 1 := by simp
    rw [e1, List.flatMap_append, List.flatMap_singleton]
    refine ho.slOf.mono (fun b hb => ?_)
    rcases hn with hn | hn
    · have := (h.row.lt b (by rw [← hn]; exact hb.2)).2
      omega
    · have := hn b hb.2
      omega
  · rcases List.mem_append.1 hz with hz | hz
    · have hz1 := (h.each z hz).imp (S := fun b => (base ≤ b ∧ v.ownBlock ≠ some b) ∧ b < w5.heap.size) (fun b hb hl => ⟨hb, hl⟩)
      have hz2 := hz1.keep (Keep.of_below hb) (fun b hb => by omega)
      have hz3 := hz2.keep (Keep.of_grown hg) (fun b hb (h : some b = v.ownBlock) => hb.1.2 h.symm)
      exact hz3.imp (fun b hb _ => by have := hb.2; omega)
    · obtain rfl := List.mem_singleton.1 hz
      exact EntSl.none _ _ _ _
/-- Behind the store of the longer row into 'more'. -/
structure MoreSt (w : World) (C : ConfV) (vX : Value) (mb : Nat) (v1 : Value) (Z : List EntX) (nm : ByteArray) (t : Int) (w9 : World) : Prop where
  ents : EntsSl (fun b => b ≠ mb ∧ b < w9.heap.size) w9 v1 (Z ++ [moreX nm t])
  box : w9.heap[w.heap.size]? = some (.cells (confCs C vX) 24)
  more : w9.heap[mb]? = some (.cells (confCs C v1) 24)
  below : Below w.heap.size w w9
theorem more_st {base : Nat} {w w6 wA w8 : World} {C : ConfV} {vX v v1 : Value} {Z : List EntX} (nm : ByteArray) (t : Int) (hB6 : Below w.heap.size w w6) (hX6 : w6.heap[w.heap.size]? = some (.cells (confCs C vX) 24)) (hZ : OwnX base w6 v Z) (hbase : w.heap.size < base)
    (hAm : wA.heap[w6.heap.size]? = some (.cells (confCs C v) 24)) (hA : Below w6.heap.size w6 wA)
    (ho : OwnAt w8 base 52 10 v1 (Z.length + 1) (Z.flatMap entXCells ++ entXCells (moreX nm t))) (hg : wA.grownBy w8 v.ownBlock) (hn : v1.ownBlock = v.ownBlock ∨ ∀ b, v1.ownBlock = some b → wA.heap.size ≤ b) :
    MoreSt w C vX w6.heap.size v1 Z nm t (w8.setCell ⟨w6.heap.size, 4, none⟩ v1) ∧ (∃ c, w8.cell? ⟨w6.heap.size, 4, none⟩ = some c) ∧ ∀ o, w8.frozen? ⟨w6.heap.size, o, none⟩ = false := by
  have hl := lt_of_get hAm
  have he := more_ents hZ nm t hA hl ho hg hn
  have kg := Keep.of_grown hg
  have hm8 := kg.get hAm (fun hh => by have := (hZ.row.lt _ hh.symm).2; omega)
  have hx8 := kg.get (below_get hA hX6 (lt_of_get hX6)) (fun hh => by have := (hZ.row.lt _ hh.symm).1; omega)
  have kv := keep_set w8 w6.heap.size 4 v1
  have hs6 := lt_of_get hX6
  have hb8 : Below w.heap.size w w8 := (hB6.trans (hA.mono (Nat.le_of_lt hs6))).trans (kg.below (Nat.le_trans (Nat.le_of_lt hs6) hA.size) (fun b hb => by have := (hZ.row.lt b (Eq.symm hb)).1; omega))
  refine ⟨⟨⟨?_, ?_⟩, kv.get hx8 (by omega), ?_, hb8.trans (kv.below hb8.size (by intro j hj; omega))⟩, ⟨v, by simp [World.cell?, hm8, confCs]⟩, fun o => by simp [World.frozen?, hm8]⟩
  · obtain ⟨hl, ao, cap, hv, h1, h2, h3, h4⟩ := he.row.keep kv (fun b hb => hb)
    refine ⟨hl, ao, cap, hv, h1, h2, h3, fun hp => ?_⟩
    obtain ⟨b, off, ha, hR, hb, hc⟩ := h4 hp
    exact ⟨b, off, ha, ⟨hR, hb⟩, hb, hc⟩
  · intro z hz
    exact ((he.each z hz).keep kv (fun b hb => hb)).imp (fun b hb hl => ⟨hb, hl⟩)
  · rw [get_setCell _ hm8]
    rfl
theorem small_of {X Y : List EntX} (he : Y.map EntX.E = X.map EntX.E) (hH : ¬ HeavyC X) : ∀ y ∈ Y, EntSmall y.E := by
  intro y hy
  have : y.E ∈ X.map EntX.E := by rw [← he]; exact List.mem_map_of_mem hy
  obtain ⟨x, hx, hxe⟩ := List.mem_map.1 this
  have hl := light_of (fun hh => hH (.inr ⟨x, hx, hh⟩))
  rw [hxe] at hl
  obtain ⟨l1, l2, l3, l4, l5⟩ := hl
  exact ⟨by omega, by omega, by omega, by omega, by omega⟩
theorem len_of {X Y : List EntX} (he : Y.map EntX.E = X.map EntX.E) : Y.length = X.length := by
  have := congrArg List.length he
  simpa using this

end Go.Proofs.YtgdaljpimblkgaaGreatDoor

/- ConfTexts walked (made by mktexts.py). -/
namespace Go.Proofs.YtgdaljpimblkgaaGreatDoor
open Go.RowKit
set_option linter.unusedVariables false

theorem flat_mul {α β : Type} (f : α → List β) (n : Nat) : ∀ L : List α, (∀ x ∈ L, (f x).length ≤ n) → (L.flatMap f).length ≤ n * L.length
  | [], _ => by simp
  | a :: L, h => by
    have h1 := flat_mul f n L (fun x hx => h x (List.mem_cons_of_mem _ hx))
    have h2 := h a (List.mem_cons_self ..)
    rw [List.flatMap_cons, List.length_append, List.length_cons, Nat.mul_succ]
    omega
theorem entLn_len {E : EntV} (h : EntGood E) : (entLn E).length ≤ 122 := by
  have K1 : (cntLn E).length ≤ 1 := by
    unfold cntLn
    split <;> simp
  have h1 := h.pl
  have h2 := h.gl
  have h3 := h.el
  have h4 := h.fl
  have h5 := h.ll
  unfold entLn
  simp only [List.length_cons, List.length_append, List.length_map]
  omega
theorem txt_len {C : ConfV} (hC : confF C = (0, -1)) : (txtLs C).length ≤ 1000 := by
  have hb := (confF_parts hC).1
  unfold boundC at hb
  rw [decide_eq_false_iff_not] at hb
  have h1 := flat_mul entLn 122 C.ents (fun x hx => by
    obtain ⟨i, hi, rfl⟩ := List.getElem_of_mem hx
    have := (confF_parts hC).2.2 i hi
    rw [entAt_at hi] at this
    exact entLn_len (good_of this))
  have h2 : C.ents.length ≤ 8 := by omega
  have h3 := Nat.mul_le_mul_left 122 h2
  unfold txtLs
  rw [List.length_append]
  have h4 : (headL C).length = 3 := rfl
  omega
theorem txt_k {C : ConfV} {tt : ByteArray} (hC : confF C = (0, -1)) (ht : tt.data.toList = textB C) (k : Nat) (hk : k ≤ (textLines tt).length) : k ≤ 1000 := by
  have e : tt = ⟨(textB C).toArray⟩ := bytes_ext (by rw [ht])
  rw [e, text_lines hC, List.length_map] at hk
  have := txt_len hC
  omega
theorem txt_back {C : ConfV} {tt : ByteArray} (hC : confF C = (0, -1)) (ht : tt.data.toList = textB C) (h8 : ¬ 8000 < tt.size) : readF tt = (C, (0, -1)) := by
  have e : tt = ⟨(textB C).toArray⟩ := bytes_ext (by rw [ht])
  have hs : tt.size = (textB C).length := by rw [← ht, dsize]
  rw [hs] at h8
  rw [e]
  exact back_law hC h8

set_option maxRecDepth 100000 in
set_option maxHeartbeats 8000000 in
theorem confTexts_any (B : Nat) (sa : Nat → Addr) (R : Nat → Prop) (C : ConfV) (v : Value) (X : List EntX) (w : World) (hS : Sents B sa w) (hN : NumB B w) (hT : TabB w.heap.size w) (h : EntsSl R w v X) (hE : C.ents = X.map EntX.E) (hR : ∀ b, R b → b < w.heap.size) :
    Calls Tryz.prog 3 #[.agg (confCs C v)] w fun e w' => e = .returned (.bool true) ∧ Below w.heap.size w w' := by
  obtain ⟨ao, cap, rfl⟩ := h.row.val
  obtain ⟨hc1, hc2⟩ := h.row.capB
  have H := Lib.hid h
  have HRw := Lib.hid hR
  have HS := Lib.hid hS
  have HN := Lib.hid hN
  have HT := Lib.hid hT
  have HCE := Lib.hid hE
  have hxa := get_alloc_new w (.cells (confCs C (.slice ao X.length cap)) 24)
  have hba : Below w.heap.size w (w.alloc (.cells (confCs C (.slice ao X.length cap)) 24)) := (Below.refl _ _).alloc (Nat.le_refl _) _
  have HTo := Lib.hid (fun W (hB : Below w.heap.size w W) => told_any B sa W (hS.low hB hS.top).c (fun W' hW' => hT W' (hB.trans (hW'.mono hB.size))))
  clear h hR hS hE hT hN
  unfold confCs at hxa hba ⊢
  go_enter Tryz.func3, Tryz.ntmps3
  go_upto_region 1 with fail
  generalize w.alloc _ = w1 at hxa hba ⊢
  have HXA : Hid (w1.heap[w.heap.size]? = some (.cells (confCs C (.slice ao X.length cap)) 24)) := hxa
  clear hxa
  go_wp2_with fail
  refine (HTo.out w1 hba).mono ?_
  rintro e w2 ⟨rfl, b2⟩
  have HX2 := Lib.hid (below_get b2 HXA.out (lt_of_get HXA.out))
  have HB2 := Lib.hid (hba.trans (b2.mono hba.size))
  clear hba b2 HXA HTo
  obtain ⟨c0, c1, c2, c3, c4⟩ := conf_cells HX2.out
  have HHv := Lib.hid (heavyConfig_any R C (.slice ao X.length cap) X w2 (H.out.keep (Keep.of_below HB2.out) (fun b hb hS => by have := HRw.out b hb; omega)) (below_lt2 HRw.out HB2.out))
  unfold confCs at HHv
  by_cases hH : HeavyC X
  · rw [heavyCN_pos hH] at HHv
    go_wp2_with fail
    refine HHv.out.mono ?_
    rintro e w3 ⟨rfl, b3⟩
    go_wp2_with fail
    go_ret
    exact ⟨rfl, HB2.out.trans (b3.mono HB2.out.size)⟩
  rw [heavyCN_neg hH] at HHv
  have HH := Lib.hid hH
  have HCS := Lib.hid (fun W (hB : Below w.heap.size w W) => (show ConfSl R W C (.slice ao X.length cap) X from ⟨H.out.keep (Keep.of_below hB) (fun b hb hS => by have := HRw.out b hb; omega), HCE.out, small_of rfl HH.out, by have := Nat.le_of_not_lt (fun hh => HH.out (.inl hh)); omega⟩))
  clear hH
  go_wp2_with fail
  refine HHv.out.mono ?_
  rintro e w3 ⟨rfl, b3⟩
  have HX3 := Lib.hid (below_get b3 HX2.out (lt_of_get HX2.out))
  have HB3 := Lib.hid (HB2.out.trans (b3.mono HB2.out.size))
  clear b3 HX2 HB2 HHv c0 c1 c2 c3 c4
  obtain ⟨c0, c1, c2, c3, c4⟩ := conf_cells HX3.out
  have HCf := Lib.hid (rConfigFault_any R C (.slice ao X.length cap) X w3 (HCS.out w3 HB3.out) (below_lt2 HRw.out HB3.out))
  have hle := confF_le C
  obtain ⟨fc, fi, hcf⟩ : ∃ fc fi, confF C = (fc, fi) := ⟨_, _, rfl⟩
  rw [hcf] at HCf hle
  have HCF := Lib.hid hcf
  have HLE : Hid (fc ≤ 11) := hle
  unfold confCs at HCf
  clear hcf hle
  go_wp2_with fail
  refine HCf.out.mono ?_
  rintro e w4 ⟨rfl, b4⟩
  have HX4 := Lib.hid (below_get b4 HX3.out (lt_of_get HX3.out))
  have HB4 := Lib.hid (HB3.out.trans (b4.mono HB3.out.size))
  clear b4 HX3 HB3 HCf c0 c1 c2 c3 c4
  unfold faultV
  go_upto_region 5 with fail
  have hxf := get_alloc_new w4 (.cells #[.int .i64 (fc : Int), .int .i64 fi] 28)
  have hbf : Below w4.heap.size w4 (w4.alloc (.cells #[.int .i64 (fc : Int), .int .i64 fi] 28)) := (Below.refl _ _).alloc (Nat.le_refl _) _
  generalize w4.alloc _ = w5 at hxf hbf ⊢
  obtain ⟨fb, hfb⟩ : ∃ fb, fb = w4.heap.size := ⟨_, rfl⟩
  have HX5 := Lib.hid (below_get hbf HX4.out (lt_of_get HX4.out))
  have HB5 := Lib.hid (HB4.out.trans (hbf.mono HB4.out.size))
  rw [← hfb] at hxf ⊢
  have HF5 := Lib.hid hxf
  clear hfb hxf hbf HX4 HB4
  obtain ⟨c0, c1, c2, c3, c4⟩ := conf_cells HX5.out
  have HOw := Lib.hid (ownConfig_any R C (.slice ao X.length cap) X w5 (H.out.keep (Keep.of_below HB5.out) (fun b hb hS => by have := HRw.out b hb; omega)) (below_lt2 HRw.out HB5.out) HH.out)
  unfold confCs at HOw
  go_wp2_with fail
  refine HOw.out.mono ?_
  rintro e w6 ⟨a6, k6, Y, rfl, hYe, hY, b6⟩
  have HX6 := Lib.hid (below_get b6 HX5.out (lt_of_get HX5.out))
  have HF6 := Lib.hid (below_get b6 HF5.out (lt_of_get HF5.out))
  have HB6 := Lib.hid (HB5.out.trans (b6.mono HB5.out.size))
  have HY6 : Hid (ConfSl (fun b => w5.heap.size ≤ b ∧ b < w6.heap.size) w6 C (.slice a6 Y.length k6) Y) := (show ConfSl _ w6 C _ Y from ⟨hY.ents, by rw [HCE.out, hYe], small_of hYe HH.out, by have := len_of hYe; have := Nat.le_of_not_lt (fun hh => HH.out (.inl hh)); omega⟩)
  clear b6 HX5 HF5 HB5 HOw c0 c1 c2 c3 c4 hY hYe
  by_cases hz : fc = 0
  case neg =>
    have hpos : (0 : Int) < (fc : Int) := by omega
    have HTx := Lib.hid (textBad_any B sa _ C (.slice a6 Y.length k6) Y w6 (HS.out.low HB6.out HS.out.top).c HY6.out (fun b hb => hb.2) (by rw [HCF.out]; exact hz))
    rw [HCF.out] at HTx
    unfold confCs at HTx
    clear hz
    go_wp2_with fail
    refine HTx.out.mono ?_
    rintro e w7 ⟨u, rfl, hu, b7⟩
    have HU7 := Lib.hid hu
    have HX7 := Lib.hid (below_get b7 HX6.out (lt_of_get HX6.out))
    have HF7 := Lib.hid (below_get b7 HF6.out (lt_of_get HF6.out))
    have HB7 := Lib.hid (HB6.out.trans (b7.mono HB6.out.size))
    clear b7 hu HTx HX6 HF6 HB6 HY6
    have HOw6 := Lib.hid (fun W (hW : Below w7.heap.size w7 W) => (ownConfig_any R C (.slice ao X.length cap) X W (H.out.keep (Keep.of_below (HB7.out.trans (hW.mono HB7.out.size))) (fun b hb hS => by have := HRw.out b hb; omega)) (below_lt2 HRw.out (HB7.out.trans (hW.mono HB7.out.size))) HH.out).mono (R' := fun e w' => ∃ ao cap Y, e = .returned (.agg (confCs C (.slice ao Y.length cap))) ∧ Y.map EntX.E = X.map EntX.E ∧ OwnX W.heap.size w' (.slice ao Y.length cap) Y ∧ Below w7.heap.size w7 w') (fun e w' ⟨a, k, Y, h1, h2, h3, h4⟩ => ⟨a, k, Y, h1, h2, h3, hW.trans (h4.mono hW.size)⟩))
    have HCk6 := Lib.hid (fun (a : Option Addr) (k : Nat) (Y : List EntX) (base : Nat) (wA W : World) (hYe : Y.map EntX.E = X.map EntX.E) (hY : OwnX base wA (.slice a Y.length k) Y) (hA : Below w7.heap.size w7 wA) (hW : Below wA.heap.size wA W) => (check_any B sa (fun b => base ≤ b ∧ b < W.heap.size) C (.slice a Y.length k) Y W (HS.out.low (HB7.out.trans ((hA.trans (hW.mono hA.size)).mono HB7.out.size)) HS.out.top).c ⟨(hY.later hW).ents, by rw [HCE.out, hYe], small_of hYe HH.out, by have := len_of hYe; have := Nat.le_of_not_lt (fun hh => HH.out (.inl hh)); omega⟩ (fun b hb => hb.2)).mono (R' := fun e w' => ∃ u, e = .returned u ∧ ErrIs sa w' u (fc, fi) ∧ Below w7.heap.size w7 w') (fun e w' ⟨u, h1, h2, h3⟩ => ⟨u, h1, by rw [HCF.out] at h2; exact h2, (hA.trans (hW.mono hA.size)).trans (h3.mono (hA.trans (hW.mono hA.size)).size)⟩))
    have HFa6 := Lib.hid (fun (u : Value) (wB W : World) (hu : ErrIs sa wB u (fc, fi)) (hB : Below w7.heap.size w7 wB) (hW : Below wB.heap.size wB W) => (faulted_any B sa u (fc, fi) HLE.out (fc : Int) fi W (HS.out.low (HB7.out.trans ((hB.trans (hW.mono hB.size)).mono HB7.out.size)) HS.out.top) (hu.below hW)).mono (R' := fun e w' => e = .returned (.bool true) ∧ Below w7.heap.size w7 w') (fun e w' ⟨h1, h3⟩ => ⟨by rw [h1, faultB_self], (hB.trans (hW.mono hB.size)).trans (h3.mono (hB.trans (hW.mono hB.size)).size)⟩))
    unfold confCs at HOw6 HCk6
    have hq7 := lt_of_get HX7.out
    have hf7 := lt_of_get HF7.out
    obtain ⟨c0, c1, c2, c3, c4⟩ := conf_cells (C := C) HX7.out
    obtain ⟨f0, f1, ff⟩ := two_cells HF7.out
    go_upto_region 6 with fail
    go_region_held3 (fun w' => (∀ o, w'.cell? ⟨w.heap.size, o, none⟩ = w7.cell? ⟨w.heap.size, o, none⟩) ∧ (∀ o, w'.cell? ⟨fb, o, none⟩ = w7.cell? ⟨fb, o, none⟩))
      (first | exact ⟨fun _ => rfl, fun _ => rfl⟩ | exact ⟨fun o => e3.cell (p := ⟨w.heap.size, o, none⟩) hq7, fun o => e3.cell (p := ⟨fb, o, none⟩) hf7⟩ | exact ⟨fun o => e2.cell (p := ⟨w.heap.size, o, none⟩) hq7, fun o => e2.cell (p := ⟨fb, o, none⟩) hf7⟩ | exact ⟨fun o => e1.cell (p := ⟨w.heap.size, o, none⟩) hq7, fun o => e1.cell (p := ⟨fb, o, none⟩) hf7⟩)
      (first | (go_at_call 9; refine (HOw6.out _ ?_).mono ?_; (repeat (first | exact Below.refl _ _ | refine Below.drew ?_)); rintro e wA ⟨aA, kA, YA, rfl, hYeA, hYA, e1⟩) | (go_at_call 11; refine (HCk6.out _ _ _ _ _ _ hYeA hYA e1 ?_).mono ?_; (repeat (first | exact Below.refl _ _ | refine Below.drew ?_)); rintro e wB ⟨uB, rfl, huB, e2⟩) | (go_at_call 10; refine (HFa6.out _ _ _ huB e2 ?_).mono ?_; (repeat (first | exact Below.refl _ _ | refine Below.drew ?_)); rintro e wC ⟨rfl, e3⟩))
    have HXC := Lib.hid (below_get e3 HX7.out hq7)
    have HFC := Lib.hid (below_get e3 HF7.out hf7)
    have HBC := Lib.hid (HB7.out.trans (e3.mono HB7.out.size))
    have HE3 := Lib.hid e3
    clear ff HX7 HF7 HOw6 HCk6 HFa6 hYeA hYA e1 huB e2 e3 hq7 hf7
    obtain ⟨g0, g1, g2, g3, g4⟩ := conf_cells (C := C) HXC.out
    obtain ⟨k0, k1, kf⟩ := two_cells HFC.out
    clear kf
    have HFa := Lib.hid (faulted_any B sa u (fc, fi) HLE.out (fc : Int) fi wC (HS.out.low HBC.out HS.out.top) (HU7.out.below HE3.out))
    rw [faultB_self] at HFa
    go_wp2_with fail
    refine HFa.out.mono ?_
    rintro e w8 ⟨rfl, b8⟩
    go_wp2_with fail
    go_ret
    exact ⟨rfl, HBC.out.trans (b8.mono HBC.out.size)⟩
  case pos =>
    have hpos : ¬ (0 : Int) < (fc : Int) := by omega
    have HC := Lib.hid (confF_code (C := C) (by rw [HCF.out]; exact hz))
    have HTx := Lib.hid (text_any B sa _ C (.slice a6 Y.length k6) Y w6 (HS.out.low HB6.out HS.out.top).c (tab_up (HT.out.low HB6.out (Nat.le_refl _)) HB6.out.size) HY6.out (fun b hb => hb.2) HC.out)
    obtain ⟨tt, htt, htq⟩ : ∃ tt : ByteArray, tt.data.toList = textB C ∧ ⟨(textB C).toArray⟩ = tt := ⟨⟨(textB C).toArray⟩, by simp, rfl⟩
    rw [htq] at HTx
    have HTT := Lib.hid htt
    unfold confCs at HTx
    clear hz htt htq
    go_wp2_with fail
    refine HTx.out.mono ?_
    rintro e w7 ⟨rfl, b7⟩
    have HX7 := Lib.hid (below_get b7 HX6.out (lt_of_get HX6.out))
    have HF7 := Lib.hid (below_get b7 HF6.out (lt_of_get HF6.out))
    have HB7 := Lib.hid (HB6.out.trans (b7.mono HB6.out.size))
    clear b7 HTx HX6 HF6 HB6 HY6
    have HOw6 := Lib.hid (fun W (hW : Below w7.heap.size w7 W) => (ownConfig_any R C (.slice ao X.length cap) X W (H.out.keep (Keep.of_below (HB7.out.trans (hW.mono HB7.out.size))) (fun b hb hS => by have := HRw.out b hb; omega)) (below_lt2 HRw.out (HB7.out.trans (hW.mono HB7.out.size))) HH.out).mono (R' := fun e w' => ∃ ao cap Y, e = .returned (.agg (confCs C (.slice ao Y.length cap))) ∧ Y.map EntX.E = X.map EntX.E ∧ OwnX W.heap.size w' (.slice ao Y.length cap) Y ∧ Below w7.heap.size w7 w') (fun e w' ⟨a, k, Y, h1, h2, h3, h4⟩ => ⟨a, k, Y, h1, h2, h3, hW.trans (h4.mono hW.size)⟩))
    have HCk6 := Lib.hid (fun (a : Option Addr) (k : Nat) (Y : List EntX) (base : Nat) (wA W : World) (hYe : Y.map EntX.E = X.map EntX.E) (hY : OwnX base wA (.slice a Y.length k) Y) (hA : Below w7.heap.size w7 wA) (hW : Below wA.heap.size wA W) => (check_any B sa (fun b => base ≤ b ∧ b < W.heap.size) C (.slice a Y.length k) Y W (HS.out.low (HB7.out.trans ((hA.trans (hW.mono hA.size)).mono HB7.out.size)) HS.out.top).c ⟨(hY.later hW).ents, by rw [HCE.out, hYe], small_of hYe HH.out, by have := len_of hYe; have := Nat.le_of_not_lt (fun hh => HH.out (.inl hh)); omega⟩ (fun b hb => hb.2)).mono (R' := fun e w' => ∃ u, e = .returned u ∧ ErrIs sa w' u (fc, fi) ∧ Below w7.heap.size w7 w') (fun e w' ⟨u, h1, h2, h3⟩ => ⟨u, h1, by rw [HCF.out] at h2; exact h2, (hA.trans (hW.mono hA.size)).trans (h3.mono (hA.trans (hW.mono hA.size)).size)⟩))
    have HFa6 := Lib.hid (fun (u : Value) (wB W : World) (hu : ErrIs sa wB u (fc, fi)) (hB : Below w7.heap.size w7 wB) (hW : Below wB.heap.size wB W) => (faulted_any B sa u (fc, fi) HLE.out (fc : Int) fi W (HS.out.low (HB7.out.trans ((hB.trans (hW.mono hB.size)).mono HB7.out.size)) HS.out.top) (hu.below hW)).mono (R' := fun e w' => e = .returned (.bool true) ∧ Below w7.heap.size w7 w') (fun e w' ⟨h1, h3⟩ => ⟨by rw [h1, faultB_self], (hB.trans (hW.mono hB.size)).trans (h3.mono (hB.trans (hW.mono hB.size)).size)⟩))
    unfold confCs at HOw6 HCk6
    have hq7 := lt_of_get HX7.out
    have hf7 := lt_of_get HF7.out
    obtain ⟨c0, c1, c2, c3, c4⟩ := conf_cells (C := C) HX7.out
    obtain ⟨f0, f1, ff⟩ := two_cells HF7.out
    go_upto_region 6 with fail
    go_region_held3 (fun w' => (∀ o, w'.cell? ⟨w.heap.size, o, none⟩ = w7.cell? ⟨w.heap.size, o, none⟩) ∧ (∀ o, w'.cell? ⟨fb, o, none⟩ = w7.cell? ⟨fb, o, none⟩))
      (first | exact ⟨fun _ => rfl, fun _ => rfl⟩ | exact ⟨fun o => e3.cell (p := ⟨w.heap.size, o, none⟩) hq7, fun o => e3.cell (p := ⟨fb, o, none⟩) hf7⟩ | exact ⟨fun o => e2.cell (p := ⟨w.heap.size, o, none⟩) hq7, fun o => e2.cell (p := ⟨fb, o, none⟩) hf7⟩ | exact ⟨fun o => e1.cell (p := ⟨w.heap.size, o, none⟩) hq7, fun o => e1.cell (p := ⟨fb, o, none⟩) hf7⟩)
      (first | (go_at_call 9; refine (HOw6.out _ ?_).mono ?_; (repeat (first | exact Below.refl _ _ | refine Below.drew ?_)); rintro e wA ⟨aA, kA, YA, rfl, hYeA, hYA, e1⟩) | (go_at_call 11; refine (HCk6.out _ _ _ _ _ _ hYeA hYA e1 ?_).mono ?_; (repeat (first | exact Below.refl _ _ | refine Below.drew ?_)); rintro e wB ⟨uB, rfl, huB, e2⟩) | (go_at_call 10; refine (HFa6.out _ _ _ huB e2 ?_).mono ?_; (repeat (first | exact Below.refl _ _ | refine Below.drew ?_)); rintro e wC ⟨rfl, e3⟩))
    have HXC := Lib.hid (below_get e3 HX7.out hq7)
    have HFC := Lib.hid (below_get e3 HF7.out hf7)
    have HBC := Lib.hid (HB7.out.trans (e3.mono HB7.out.size))
    have HE3 := Lib.hid e3
    clear ff HX7 HF7 HOw6 HCk6 HFa6 hYeA hYA e1 huB e2 e3 hq7 hf7
    obtain ⟨g0, g1, g2, g3, g4⟩ := conf_cells (C := C) HXC.out
    obtain ⟨k0, k1, kf⟩ := two_cells HFC.out
    clear kf
    have HCt := Lib.hid (rConfigText_any R C (.slice ao X.length cap) X wC (HCS.out wC HBC.out) (below_lt2 HRw.out HBC.out) HC.out)
    unfold confCs at HCt
    go_wp2_with fail
    refine HCt.out.mono ?_
    rintro e w8 ⟨⟨S, rfl, hS⟩, b8⟩
    obtain rfl : S = tt := bytes_ext (hS.trans HTT.out.symm)
    have HX8 := Lib.hid (below_get b8 HXC.out (lt_of_get HXC.out))
    have HB8 := Lib.hid (HBC.out.trans (b8.mono HBC.out.size))
    clear hS b8 HXC HBC HCt HFC HE3 f0 f1 c0 c1 c2 c3 c4 g0 g1 g2 g3 g4 k0 k1 hpos
    by_cases h8 : (8000 : Int) < (S.size : Int)
    · have HRd := Lib.hid (readBig_any B sa S w8 (HS.out.low HB8.out HS.out.top).c (by omega))
      unfold ReadPost at HRd
      go_wp2_with fail
      refine HRd.out.mono ?_
      rintro e w9 ⟨a9, n9, k9, u, X9, rfl, hu, -, hv, b9⟩
      have hu0 : u = errv sa 2 := by
        rcases hu with ⟨_, hu⟩ | ⟨hu, _⟩
        · exact hu
        · exact absurd hu (by decide)
      subst hu0
      obtain ⟨rfl, rfl, rfl⟩ := Value.slice.inj (hv (by decide))
      have HB9 := Lib.hid (HB8.out.trans (b9.mono HB8.out.size))
      clear hu hv b9 HRd HX8
      unfold confCs
      go_upto_region 13 with fail
      have hbb : Below w9.heap.size w9 (w9.alloc (.cells (confCs zeroC (.slice none 0 0)) 24)) := (Below.refl _ _).alloc (Nat.le_refl _) _
      unfold confCs at hbb
      generalize w9.alloc _ = wD at hbb ⊢
      have HBD := Lib.hid (HB9.out.trans (hbb.mono HB9.out.size))
      have HCo := Lib.hid (coded1_any B sa 2 (by decide) 2 wD (HS.out.low HBD.out HS.out.top))
      clear hbb
      go_wp2_with fail
      refine HCo.out.mono ?_
      rintro e wE ⟨rfl, bE⟩
      go_wp2_with fail
      go_ret
      exact ⟨rfl, HBD.out.trans (bE.mono HBD.out.size)⟩
    · have HRd := Lib.hid (read_any B sa S w8 (HS.out.low HB8.out HS.out.top).c (HN.out.below HB8.out HS.out.top) (by omega) (fun k hk _ => txt_k HC.out HTT.out k hk))
      rw [txt_back HC.out HTT.out (by omega)] at HRd
      unfold ReadPost at HRd
      go_wp2_with fail
      refine HRd.out.mono ?_
      rintro e w9 ⟨a9, n9, k9, u, X9, rfl, hu, hcs, -, b9⟩
      have hu0 : u = .nilIface := by
        rcases hu with ⟨_, hu⟩ | ⟨_, hc0, _⟩
        · rw [hu]; rfl
        · exact absurd hc0 (by decide)
      subst hu0
      have HCS9 := Lib.hid (hcs trivial)
      have HX9 := Lib.hid (below_get b9 HX8.out (lt_of_get HX8.out))
      have HB9 := Lib.hid (HB8.out.trans (b9.mono HB8.out.size))
      clear hu hcs b9 HRd HX8
      unfold confCs
      go_upto_region 13 with fail
      have hxb := get_alloc_new w9 (.cells (confCs C (.slice a9 n9 k9)) 24)
      have hbb : Below w9.heap.size w9 (w9.alloc (.cells (confCs C (.slice a9 n9 k9)) 24)) := (Below.refl _ _).alloc (Nat.le_refl _) _
      unfold confCs at hxb hbb
      generalize w9.alloc _ = wD at hxb hbb ⊢
      have HBD := Lib.hid (HB9.out.trans (hbb.mono HB9.out.size))
      have HXD := Lib.hid (below_get hbb HX9.out (lt_of_get HX9.out))
      obtain ⟨c0, c1, c2, c3, c4⟩ := conf_cells (C := C) HXD.out
      obtain ⟨d0, d1, d2, d3, d4⟩ := conf_cells (C := C) hxb
      have HSm := Lib.hid (sameConfig_eq _ R C (.slice a9 n9 k9) (.slice ao X.length cap) X9 X wD (HCS9.out.below hbb (fun b hb => hb.2)) (HCS.out wD HBD.out) (fun b hb => by have := hbb.size; omega) (below_lt2 HRw.out HBD.out))
      unfold confCs at HSm
      clear hxb hbb
      go_wp2_with fail
      refine HSm.out.mono ?_
      rintro e wE ⟨rfl, bE⟩
      go_wp2_with fail
      go_ret
      exact ⟨rfl, HBD.out.trans (bE.mono HBD.out.size)⟩
end Go.Proofs.YtgdaljpimblkgaaGreatDoor
