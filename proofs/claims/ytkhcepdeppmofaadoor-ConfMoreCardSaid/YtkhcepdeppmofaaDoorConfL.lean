/- OwnConfig: a config of one's own memory. -/
import Derived.Test.YtkhcepdeppmofaaDoorConfK
import Derived.Test.YtkhcepdeppmofaaDoorAppOff
namespace Go.Proofs.YtkhcepdeppmofaaDoor
open Go.RowKit
set_option linter.unusedVariables false

theorem Tryd.infoEnt : (Tryd.prog.info? 27).map (fun i => (i.zero, i.size, i.bytes)) = some (some (.agg (entCs ⟨ByteArray.empty, 0, [], 0, 0, 0, [], [], [], []⟩ (.slice none 0 0) (.slice none 0 0) (.slice none 0 0) (.slice none 0 0) (.slice none 0 0))), 10, 168) := by kernel_rfl

theorem EntSl.imp {R S : Nat → Prop} {w : World} {E : EntV} {vp vg ve vf vl : Value} (h : EntSl R w E vp vg ve vf vl) (hd : ∀ b, R b → b < w.heap.size → S b) : EntSl S w E vp vg ve vf vl := by
  have k : ∀ {v : Value} {sz : Nat} {cs : List Value} {n : Nat}, SlOf R w v sz cs n → SlOf S w v sz cs n := by
    intro v sz cs n h
    obtain ⟨hl, ao, cap, hv, h1, h2, h3, h4⟩ := h
    refine ⟨hl, ao, cap, hv, h1, h2, h3, fun hp => ?_⟩
    obtain ⟨b, off, ha, hR, hb, hc⟩ := h4 hp
    exact ⟨b, off, ha, hd b hR hb, hb, hc⟩
  exact ⟨k h.p, k h.g, k h.e, k h.f, k h.l⟩
theorem OwnAt.mono {w : World} {base base' : Nat} {e : TypeId} {size : Nat} {v : Value} {n : Nat} {xs : List Value} (h : OwnAt w base e size v n xs) (hb : base' ≤ base) : OwnAt w base' e size v n xs := by
  refine ⟨h.1, ?_⟩
  rcases h.2 with hn | ⟨g, off, cap, cur, h1, h2, h3⟩
  · exact .inl hn
  · exact .inr ⟨g, off, cap, cur, h1, Nat.le_trans hb h2, h3⟩

/-- v is a row of entities of one's own, as is what each of them holds. -/
structure OwnX (base : Nat) (w : World) (v : Value) (Y : List EntX) : Prop where
  row : OwnAt w base 27 10 v Y.length (Y.flatMap entXCells)
  each : ∀ y ∈ Y, EntSl (fun b => base ≤ b ∧ v.ownBlock ≠ some b) w y.E y.p y.g y.e y.f y.l
theorem OwnX.nil (base : Nat) (w : World) : OwnX base w (.slice none 0 0) [] := ⟨⟨rfl, .inl ⟨rfl, rfl⟩⟩, fun y hy => (by cases hy)⟩
theorem OwnX.keep {base : Nat} {S : Nat → Prop} {w w' : World} {v : Value} {Y : List EntX} (h : OwnX base w v Y) (k : Keep S w w') (hS : ∀ b, base ≤ b → b < w.heap.size → ¬ S b) : OwnX base w' v Y := by
  refine ⟨h.row.keep k (fun b hb => hS b (h.row.lt b hb).1 (h.row.lt b hb).2), fun y hy => ?_⟩
  exact (((h.each y hy).imp (S := fun b => (base ≤ b ∧ v.ownBlock ≠ some b) ∧ b < w.heap.size) (fun b hb hl => ⟨hb, hl⟩)).keep k (fun b hb => hS b hb.1.1 hb.2)).imp (fun b hb _ => hb.1)
theorem OwnX.later {base : Nat} {w w' : World} {v : Value} {Y : List EntX} (h : OwnX base w v Y) (b : Below w.heap.size w w') : OwnX base w' v Y :=
  h.keep (below_keep b) (fun _ _ _ h => h)
theorem OwnX.mono {base base' : Nat} {w : World} {v : Value} {Y : List EntX} (h : OwnX base w v Y) (hb : base' ≤ base) : OwnX base' w v Y :=
  ⟨h.row.mono hb, fun y hy => (h.each y hy).imp (fun b h _ => ⟨Nat.le_trans hb h.1, h.2⟩)⟩
theorem OwnX.ents {base : Nat} {w : World} {v : Value} {Y : List EntX} (h : OwnX base w v Y) : EntsSl (fun b => base ≤ b ∧ b < w.heap.size) w v Y := by
  refine ⟨?_, fun y hy => (h.each y hy).imp (fun b h hl => ⟨h.1, hl⟩)⟩
  obtain ⟨hl, ao, cap, hv, h1, h2, h3, h4⟩ := h.row.slOf
  refine ⟨hl, ao, cap, hv, h1, h2, h3, fun hp => ?_⟩
  obtain ⟨b, off, ha, hR, hb, hc⟩ := h4 hp
  exact ⟨b, off, ha, ⟨hR.1, hb⟩, hb, hc⟩
theorem OwnX.app {base : Nat} {w w1 : World} {v : Value} {Y : List EntX} (h : OwnX base w v Y) {y : EntX} (hy : EntSl (fun b => base ≤ b ∧ v.ownBlock ≠ some b) w y.E y.p y.g y.e y.f y.l) {v1 : Value}
    (ho : OwnAt w1 base 27 10 v1 (Y.length + 1) (Y.flatMap entXCells ++ entXCells y)) (hg : w.grownBy w1 v.ownBlock) (hn : v1.ownBlock = v.ownBlock ∨ ∀ b, v1.ownBlock = some b → w.heap.size ≤ b) : OwnX base w1 v1 (Y ++ [y]) := by
  refine ⟨by rw [List.length_append, List.flatMap_append]; simpa using ho, fun z hz => ?_⟩
  have hz' : EntSl (fun b => base ≤ b ∧ v.ownBlock ≠ some b) w z.E z.p z.g z.e z.f z.l := by
    rcases List.mem_append.1 hz with hz | hz
    · exact h.each z hz
    · obtain rfl := List.mem_singleton.1 hz
      exact hy
  refine ((hz'.imp (S := fun b => (base ≤ b ∧ v.ownBlock ≠ some b) ∧ b < w.heap.size) (fun b hb hl => ⟨hb, hl⟩)).keep (Keep.of_grown hg) (fun b hb (h : some b = v.ownBlock) => hb.1.2 h.symm)).imp (fun b hb _ => ⟨hb.1.1, fun hh => ?_⟩)
  rcases hn with hn | hn
  · exact hb.1.2 (by rw [← hn]; exact hh)
  · have := hn b hh
    have := hb.2
    omega

/-- In the middle of OwnConfig. -/
structure OwnCs (w0 : World) (C : ConfV) (vX v : Value) (Y : List EntX) (w : World) : Prop where
  below : Below w0.heap.size w0 w
  h0 : w.heap[w0.heap.size]? = some (.cells (confCs C vX) 72)
  h1 : w.heap[w0.heap.size + 1]? = some (.cells (confCs ⟨0, 0, 0, 0, []⟩ (.slice none 0 0)) 72)
  h2 : w.heap[w0.heap.size + 1 + 1]? = some (.cells (confCs C v) 72)
  own : OwnX (w0.heap.size + 3) w v Y
theorem OwnCs.later {w0 w w' : World} {C : ConfV} {vX v : Value} {Y : List EntX} (h : OwnCs w0 C vX v Y w) (b : Below w.heap.size w w') : OwnCs w0 C vX v Y w' :=
  ⟨h.below.trans (b.mono h.below.size), below_get b h.h0 (lt_of_get h.h0), below_get b h.h1 (lt_of_get h.h1), below_get b h.h2 (lt_of_get h.h2), h.own.later b⟩
theorem ownCs_start (w : World) (C : ConfV) (vX : Value) : OwnCs w C vX (.slice none 0 0) [] (((w.alloc (.cells (confCs C vX) 72)).alloc (.cells (confCs ⟨0, 0, 0, 0, []⟩ (.slice none 0 0)) 72)).alloc (.cells (confCs C (.slice none 0 0)) 72)) := by
  have n1 := get_alloc_new w (.cells (confCs C vX) 72)
  have n2 := get_alloc_new (w.alloc (.cells (confCs C vX) 72)) (.cells (confCs ⟨0, 0, 0, 0, []⟩ (.slice none 0 0)) 72)
  have n3 := get_alloc_new ((w.alloc (.cells (confCs C vX) 72)).alloc (.cells (confCs ⟨0, 0, 0, 0, []⟩ (.slice none 0 0)) 72)) (.cells (confCs C (.slice none 0 0)) 72)
  rw [World.size_alloc] at n2
  rw [World.size_alloc, World.size_alloc] at n3
  have bb : Below w.heap.size w (((w.alloc (.cells (confCs C vX) 72)).alloc (.cells (confCs ⟨0, 0, 0, 0, []⟩ (.slice none 0 0)) 72)).alloc (.cells (confCs C (.slice none 0 0)) 72)) := (((Below.refl _ _).alloc (Nat.le_refl _) _).alloc (by simp) _).alloc (by simp; omega) _
  exact ⟨bb, get_alloc_old _ (get_alloc_old _ n1), get_alloc_old _ n2, n3, OwnX.nil _ _⟩
theorem OwnCs.next {w0 wA w1 : World} {C : ConfV} {vX v : Value} {Y : List EntX} (h : OwnCs w0 C vX v Y wA) {y : EntX} (hy : EntSl (fun b => w0.heap.size + 3 ≤ b ∧ v.ownBlock ≠ some b) wA y.E y.p y.g y.e y.f y.l) {v1 : Value}
    (ho : OwnAt w1 (w0.heap.size + 3) 27 10 v1 (Y.length + 1) (Y.flatMap entXCells ++ entXCells y)) (hg : wA.grownBy w1 v.ownBlock) (hn : v1.ownBlock = v.ownBlock ∨ ∀ b, v1.ownBlock = some b → wA.heap.size ≤ b) :
    OwnCs w0 C vX v1 (Y ++ [y]) (w1.setCell ⟨w0.heap.size + 1 + 1, 4, none⟩ v1) ∧ (∃ c, w1.cell? ⟨w0.heap.size + 1 + 1, 4, none⟩ = some c) ∧ ∀ o, w1.frozen? ⟨w0.heap.size + 1 + 1, o, none⟩ = false := by
  have kg := Keep.of_grown hg
  have hnb : ∀ b, b < w0.heap.size + 3 → ¬ some b = v.ownBlock := fun b hb hh => by have := (h.own.row.lt b hh.symm).1; omega
  have g2 := kg.get h.h2 (hnb _ (by omega))
  have kv := keep_set w1 (w0.heap.size + 1 + 1) 4 v1
  have hsz := h.below.size
  refine ⟨⟨?_, kv.get (kg.get h.h0 (hnb _ (by omega))) (by omega), kv.get (kg.get h.h1 (hnb _ (by omega))) (by omega), ?_, (h.own.app hy ho hg hn).keep kv (fun b hb _ => by omega)⟩, ⟨v, by simp [World.cell?, g2, confCs]⟩, fun o => by simp [World.frozen?, g2]⟩
  · exact h.below.trans ((kg.below hsz (fun b hb => by have := (h.own.row.lt b (Eq.symm hb)).1; omega)).trans (kv.below (Nat.le_trans hsz kg.size) (by intro j hj; omega)))
  · rw [get_setCell _ g2]
    rfl

set_option maxRecDepth 100000 in
set_option maxHeartbeats 8000000 in
theorem ownConfig_any (R : Nat → Prop) (C : ConfV) (v : Value) (X : List EntX) (w : World) (h : EntsSl R w v X) (hR : ∀ b, R b → b < w.heap.size) (hH : ¬ HeavyC X) :
    Calls Tryd.prog 39 #[.agg (confCs C v)] w fun e w' => ∃ ao cap Y, e = .returned (.agg (confCs C (.slice ao Y.length cap))) ∧ Y.map EntX.E = X.map EntX.E ∧ OwnX w.heap.size w' (.slice ao Y.length cap) Y ∧ Below w.heap.size w w' := by
  obtain ⟨i0, hi0, hz0, hz1, hz2⟩ := info_parts Tryd.infoEnt
  obtain ⟨ao, cap, rfl⟩ := h.row.val
  obtain ⟨hc1, hc2⟩ := h.row.capB
  have H := Lib.hid h
  have HRw := Lib.hid hR
  have hL12 : X.length ≤ 12 := Nat.le_of_not_lt (fun hh => hH (.inl hh))
  have HNH : Hid (∀ x ∈ X, ¬ Heavy x.E) := fun x hx hh => hH (.inr ⟨x, hx, hh⟩)
  have HS := Lib.hid (ownCs_start w C (.slice ao X.length cap))
  clear h hR hH
  unfold confCs at HS ⊢
  go_enter Tryd.func39, Tryd.ntmps39
  go_upto_region 3 with fail
  generalize World.alloc _ _ = w3 at HS ⊢
  have HS : Hid (OwnCs w C (.slice ao X.length cap) (.slice none 0 0) [] w3) := HS
  go_wp2_with fail
  go_loopw [4] (fun s wr => ∃ (i : Nat) (a1 : Option Addr) (k1 : Nat) (Y : List EntX), i ≤ X.length ∧ s = .int .i64 i ∧ Hid (Y.length = i) ∧ Hid (Y.map EntX.E = (X.take i).map EntX.E) ∧ Hid (OwnCs w C (.slice ao X.length cap) (.slice a1 i k1) Y wr)) (fun s _ => X.length - (intOf s).toNat)
  case atStart => exact ⟨0, none, 0, [], Nat.zero_le _, rfl, rfl, rfl, HS⟩
  case round =>
    obtain ⟨i, a1, k1, Y, hi, rfl, hYl, hYe, hst⟩ := hrel
    clear HS
    obtain ⟨c0, c1, c2, c3, c4⟩ := conf_cells hst.out.h0
    obtain ⟨d0, d1, d2, d3, d4⟩ := conf_cells hst.out.h2
    by_cases hlt : i < X.length
    · obtain ⟨b, off, rfl, hRb, hb, hc⟩ := ent_elem H.out.row (by omega)
      obtain ⟨q0, q1, q2, q3, q4, q5, q6, q7, q8, q9⟩ := hc i hlt
      have hRb' := HRw.out b hRb
      have hbl := hst.out.below
      rw [← hbl.cell hRb'] at q0 q1 q2 q3 q4 q5 q6 q7 q8 q9
      have HCe := Lib.hid (ownEntity_any R X[i].E X[i].p X[i].g X[i].e X[i].f X[i].l wr ((H.out.each X[i] (List.getElem_mem hlt)).keep (Keep.of_below hbl) (fun b hb hS => by have := HRw.out b hb; omega)) (below_lt2 HRw.out hbl) (light_of (HNH.out _ (List.getElem_mem hlt))))
      unfold entCs at HCe
      have hEs := H.out.each X[i] (List.getElem_mem hlt)
      obtain ⟨pa, pc, hvp⟩ := hEs.p.val
      obtain ⟨ga, gc, hvg⟩ := hEs.g.val
      obtain ⟨ea, ec, hve⟩ := hEs.e.val
      obtain ⟨fa, fc, hvf⟩ := hEs.f.val
      obtain ⟨la, lc, hvl⟩ := hEs.l.val
      rw [hvp, hvg, hve, hvf, hvl] at HCe
      rw [hvp] at q2
      rw [hvg] at q6
      rw [hve] at q7
      rw [hvf] at q8
      rw [hvl] at q9
      obtain ⟨xe, hxe⟩ : ∃ xe, xe = X[i].E := ⟨_, rfl⟩
      rw [← hxe] at HCe q0 q1 q2 q3 q4 q5 q6 q7 q8 q9
      have HXE := Lib.hid hxe
      have HSZ := Lib.hid hbl.size
      clear hc hvp hvg hve hvf hvl hEs hxe hbl
      go_wp2_with fail
      refine HCe.out.mono ?_
      rintro e w2 ⟨_, rfl, ⟨vp, vg, ve, vf, vl, rfl, hs⟩, b2⟩
      obtain ⟨pa, pc, rfl⟩ := hs.p.val
      obtain ⟨ga, gc, rfl⟩ := hs.g.val
      obtain ⟨ea, ec, rfl⟩ := hs.e.val
      obtain ⟨fa, fc, rfl⟩ := hs.f.val
      obtain ⟨la, lc, rfl⟩ := hs.l.val
      have HN2 := Lib.hid (hst.out.later b2)
      have HE2 := Lib.hid hs
      have HSTW := Lib.hid hst.out
      clear hst c0 c1 c2 c3 c4 d0 d1 d2 d3 d4 b2 hs q0 q1 q2 q3 q4 q5 q6 q7 q8 q9
      unfold entCs
      go_upto_region 7 with fail
      obtain ⟨y, hyq⟩ : ∃ y : EntX, y = ⟨xe, .slice pa xe.points.length pc, .slice ga xe.gaps.length gc, .slice ea xe.edges.length ec, .slice fa xe.first.length fc, .slice la xe.last.length lc⟩ := ⟨_, rfl⟩
      have HYQ := Lib.hid hyq
      have hxb := get_alloc_new w2 (.cells (entCs xe (.slice pa xe.points.length pc) (.slice ga xe.gaps.length gc) (.slice ea xe.edges.length ec) (.slice fa xe.first.length fc) (.slice la xe.last.length lc)) 27)
      have hbb : Below w2.heap.size w2 (w2.alloc (.cells (entCs xe (.slice pa xe.points.length pc) (.slice ga xe.gaps.length gc) (.slice ea xe.edges.length ec) (.slice fa xe.first.length fc) (.slice la xe.last.length lc)) 27)) := (Below.refl _ _).alloc (Nat.le_refl _) _
      have HEy : Hid (EntSl (fun b => w.heap.size + 3 ≤ b ∧ (Value.slice a1 i k1).ownBlock ≠ some b) w2 y.E y.p y.g y.e y.f y.l) := (show EntSl (fun b => w.heap.size + 3 ≤ b ∧ (Value.slice a1 i k1).ownBlock ≠ some b) w2 y.E y.p y.g y.e y.f y.l from by
        rw [HYQ.out]
        refine HE2.out.imp (fun b hb _ => ?_)
        have h3 := lt_of_get HSTW.out.h2
        refine ⟨by omega, fun hh => ?_⟩
        have := (HSTW.out.own.row.lt b hh).2
        omega)
      unfold entCs at hxb hbb
      clear hyq HE2 HSTW
      generalize w2.alloc _ = w3 at hxb hbb ⊢
      have HN3 := Lib.hid (HN2.out.later hbb)
      have HEy3 := Lib.hid ((HEy.out.imp (S := fun b => (w.heap.size + 3 ≤ b ∧ (Value.slice a1 i k1).ownBlock ≠ some b) ∧ b < w2.heap.size) (fun b hb hl => ⟨hb, hl⟩)).keep (Keep.of_below hbb) (fun b hb => by omega))
      have hx3 := lt_of_get hxb
      obtain ⟨eb, heb⟩ : ∃ eb, eb = w2.heap.size := ⟨_, rfl⟩
      rw [← heb] at hxb hx3 ⊢
      clear heb hbb HN2 HEy
      obtain ⟨z0, z1, z2, z3, z4, z5, z6, z7, z8, z9, zf⟩ := ten_cells hxb
      obtain ⟨d0, d1, d2, d3, d4⟩ := conf_cells HN3.out.h2
      have hd3 := lt_of_get HN3.out.h2
      have HOW : Hid (∀ o, OwnAt (w3.alloc o) (w.heap.size + 3) 27 10 (.slice a1 i k1) i (Y.flatMap entXCells) ∧ w.heap.size + 3 ≤ (w3.alloc o).heap.size) := (show _ from fun o => ⟨by have := HN3.out.own.row.later ((Below.refl _ _).alloc (Nat.le_refl _) o); rw [hYl.out] at this; exact this, by rw [World.size_alloc]; omega⟩)
      have h63 : Hid (i + 1 ≤ maxLen) := (show i + 1 ≤ maxLen from by unfold maxLen; omega)
      have hby : Hid ((i + 1) * 168 ≤ 140737488355328) := (show (i + 1) * 168 ≤ 140737488355328 from by omega)
      have HNX : Hid (∀ (o : Obj) (w4 : World) (a2 : Option Addr) (k2 : Nat), OwnAt w4 (w.heap.size + 3) 27 10 (.slice a2 (i + 1) k2) (i + 1) (Y.flatMap entXCells ++ entXCells ⟨xe, .slice pa xe.points.length pc, .slice ga xe.gaps.length gc, .slice ea xe.edges.length ec, .slice fa xe.first.length fc, .slice la xe.last.length lc⟩) → (w3.alloc o).grownBy w4 (Value.slice a1 i k1).ownBlock → ((Value.slice a2 (i + 1) k2).ownBlock = (Value.slice a1 i k1).ownBlock ∨ ∀ b, (Value.slice a2 (i + 1) k2).ownBlock = some b → (w3.alloc o).heap.size ≤ b) → OwnCs w C (.slice (some ⟨b, off, none⟩) X.length cap) (.slice a2 (i + 1) k2) (Y ++ [y]) (w4.setCell ⟨w.heap.size + 1 + 1, 4, none⟩ (.slice a2 (i + 1) k2)) ∧ (∃ c, w4.cell? ⟨w.heap.size + 1 + 1, 4, none⟩ = some c) ∧ ∀ o, w4.frozen? ⟨w.heap.size + 1 + 1, o, none⟩ = false) := (show _ from by
        intro o w4 a2 k2 ho hg hn
        have hbo : Below w3.heap.size w3 (w3.alloc o) := (Below.refl _ _).alloc (Nat.le_refl _) _
        rw [← HYQ.out] at ho
        refine (HN3.out.later hbo).next ((HEy3.out.imp (S := fun b => (w.heap.size + 3 ≤ b ∧ (Value.slice a1 i k1).ownBlock ≠ some b) ∧ b < w3.heap.size) (fun b hb hl => ⟨hb.1, hl⟩)).keep (below_keep hbo) (fun b hb h => h) |>.imp (fun b hb _ => hb.1)) ?_ hg hn
        rw [hYl.out]
        exact ho)
      go_wp2_with (at_builtin; go_must (refine wpList_append_off rfl (.tmp 22) (.tmp 24) 32 rfl (w.heap.size + 3) 27 i0 _ 10 168 Tryd.underlying32 hi0 hz0 hz1 hz2 rfl (by decide) _ i _ rfl (HOW.out _).1 ⟨w3.heap.size, 0, none⟩ 1 1 (entXCells ⟨xe, .slice pa xe.points.length pc, .slice ga xe.gaps.length gc, .slice ea xe.edges.length ec, .slice fa xe.first.length fc, .slice la xe.last.length lc⟩) rfl rfl (new_cells _ (entXCells ⟨xe, .slice pa xe.points.length pc, .slice ga xe.gaps.length gc, .slice ea xe.edges.length ec, .slice fa xe.first.length fc, .slice la xe.last.length lc⟩) _) (by intro u hu; simp [entXCells, entCs] at hu; rcases hu with rfl | rfl | rfl | rfl | rfl | rfl | rfl | rfl | rfl | rfl <;> rfl) h63.out hby.out (HOW.out _).2 ?_; intro a2 k2 w4 ho hg hn; obtain ⟨nx, ⟨c9, hc9⟩, hf9⟩ := HNX.out _ w4 a2 k2 ho hg hn; clear ho hg hn; have NX := Lib.hid nx; clear nx))
      go_roundw
      case rel =>
        refine ⟨i + 1, a2, k2, Y ++ [y], by omega, by go_num, (show (Y ++ [y]).length = i + 1 from by rw [List.length_append, hYl.out]; rfl), ?_, NX⟩
        show (Y ++ [y]).map EntX.E = (X.take (i + 1)).map EntX.E
        rw [List.take_succ_eq_append_getElem hlt, List.map_append, List.map_append, hYe.out, HYQ.out, HXE.out]
        rfl
      case measure => simp [intOf]; omega
    · have HEQ : Hid (Y.map EntX.E = X.map EntX.E) := (show Y.map EntX.E = X.map EntX.E from by rw [hYe.out, (show i = X.length by omega), List.take_length])
      obtain ⟨z0, z1, z2, z3, z4⟩ := conf_cells hst.out.h1
      have zf : ∀ o, wr.frozen? ⟨w.heap.size + 1, o, none⟩ = false := by have hh1 := hst.out.h1; intro o; simp [World.frozen?, hh1]
      have HEND : Hid (∀ w', Keep (· = w.heap.size + 1) wr w' → OwnX w.heap.size w' (.slice a1 i k1) Y ∧ Below w.heap.size w w') := (show _ from by
        intro w' k
        exact ⟨(hst.out.own.keep k (fun b hb _ => by omega)).mono (by omega), hst.out.below.trans (k.below hst.out.below.size (fun b hb => by omega))⟩)
      rw [← hYl.out] at HEND hst
      obtain ⟨ny, hny⟩ : ∃ ny, ny = Y.length := ⟨_, rfl⟩
      clear hst
      go_wp2_with fail
      have HK := Lib.hid (((((keep_set wr (w.heap.size + 1) 0 (.int .i64 C.closed)).setCell (p := ⟨w.heap.size + 1, 1, none⟩) (fun _ => rfl) (.int .i64 C.opn)).setCell (p := ⟨w.heap.size + 1, 2, none⟩) (fun _ => rfl) (.int .i64 C.cycle)).setCell (p := ⟨w.heap.size + 1, 3, none⟩) (fun _ => rfl) (.int .i64 C.delay)).setCell (p := ⟨w.heap.size + 1, 4, none⟩) (fun _ => rfl) (.slice a1 i k1))
      refine bodyPost_ret (v := .agg #[.int .i64 C.closed, .int .i64 C.opn, .int .i64 C.cycle, .int .i64 C.delay, .slice a1 i k1]) (by simp [z0, z1, z2, z3, z4, results, Tryd.results39, go_sem, World.cell?_setCell_same, World.cell?_setCell_other]) rfl ?_
      obtain ⟨h1, h2⟩ := HEND.out _ HK.out
      refine ⟨a1, k1, Y, by rw [hYl.out], HEQ.out, ?_, h2⟩
      exact h1
end Go.Proofs.YtkhcepdeppmofaaDoor
