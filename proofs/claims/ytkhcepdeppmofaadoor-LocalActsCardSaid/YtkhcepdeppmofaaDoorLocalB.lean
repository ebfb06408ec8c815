/- Package local: Begin. -/
import Derived.Test.YtkhcepdeppmofaaDoorLocal2
namespace Go.Proofs.YtkhcepdeppmofaaDoor
open Go.RowKit
set_option linter.unusedVariables false

def loc0 (l : Nat) (w : World) : Value := (w.cell? ⟨l, 0, none⟩).getD undef
theorem loc_limbs {w : World} {l : Nat} {p : Option Addr} {E : EntV} {vp vg ve vf vl : Value} (h : w.heap[l]? = some (locC p E vp vg ve vf vl)) :
    (w.cell? ⟨l, 0, none⟩ = some (loc0 l w) ∧ w.frozen? ⟨l, 0, none⟩ = false) ∧ w.cell? ⟨l, 1, none⟩ = some (.string E.name) ∧ w.cell? ⟨l, 2, none⟩ = some (.int .i64 E.tol) ∧ w.cell? ⟨l, 3, none⟩ = some vp ∧ w.cell? ⟨l, 4, none⟩ = some (.int .i64 E.count) ∧
    w.cell? ⟨l, 5, none⟩ = some (.int .i64 E.mn) ∧ w.cell? ⟨l, 6, none⟩ = some (.int .i64 E.mx) ∧ w.cell? ⟨l, 7, none⟩ = some vg ∧ w.cell? ⟨l, 8, none⟩ = some ve ∧ w.cell? ⟨l, 9, none⟩ = some vf ∧ w.cell? ⟨l, 10, none⟩ = some vl := by
  obtain ⟨c0, c1, c2, c3, c4, c5, c6, c7, c8, c9, c10, cf⟩ := loc_cells h
  exact ⟨⟨by unfold loc0; rw [c0]; rfl, cf 0⟩, c1, c2, c3, c4, c5, c6, c7, c8, c9, c10⟩
theorem loc_set {w : World} {l : Nat} {p : Option Addr} {E : EntV} {vp vg ve vf vl : Value} (h : w.heap[l]? = some (locC p E vp vg ve vf vl)) (q : Option Addr) : (w.setCell ⟨l, 0, none⟩ (.pointer q)).heap[l]? = some (locC q E vp vg ve vf vl) := by
  unfold locC at h ⊢
  rw [get_setCell _ h]; rfl

/-- Begin's end: the watch laid behind its three parts. -/
theorem localBegin_done {w w1 w2 w3 W : World} {l a g f hi base : Nat} {ro : Option Nat} {E : EntV} {vp vg ve vf vl : Value} (h1 : w.heap[l]? = some (locC none E vp vg ve vf vl)) (hL : E.gaps.length ≤ 100)
    (ha0 : w.heap.size ≤ a) (ha : w1.heap[a]? = some (aliveC (locPt E) E.mn E.mx 0)) (b1 : Below w.heap.size w w1)
    (hg0 : w1.heap.size ≤ g) (hg : GapsAt base ro w2 g (E.gaps.map gs0) false) (hr : ∀ b, ro = some b → w1.heap.size ≤ b) (b2 : Below w1.heap.size w1 w2)
    (hf : FlowAt w2.heap.size hi E E.edges w3 f (-1) false) (b3 : Below w2.heap.size w2 w3)
    (hW : W = (w3.alloc (watchC a g f false false 0)).setCell ⟨l, 0, none⟩ (.pointer (some ⟨w3.heap.size, 0, none⟩))) :
    LocAt l w.heap.size (w3.heap.size + 1) E vp vg ve vf vl (locBegin E) W ∧ Keep (· = l) w W := by
  have hl := lt_of_get h1
  have s1 := b1.size
  have s2 := b2.size
  have s3 := b3.size
  have hal := lt_of_get ha
  have hgl := hg.lt
  have hft := hf.ftop
  have kx : Keep (fun _ => False) w3 (w3.alloc (watchC a g f false false 0)) := (Keep.refl _ _).alloc _
  have ks : Keep (· = l) (w3.alloc (watchC a g f false false 0)) W := by rw [hW]; exact keep_set _ l 0 _
  have l3 := (below_keep b3).get ((below_keep b2).get ((below_keep b1).get h1 id) id) id
  have bx := get_alloc_new w3 (watchC a g f false false 0)
  refine ⟨⟨⟨w3.heap.size, a, g, f, ro, base, w2.heap.size, hi, ?_, ?_⟩, by omega⟩, ?_⟩
  · rw [hW]; exact loc_set (get_alloc_old _ l3) _
  · refine ⟨⟨by omega, by omega, by omega, fun b hb => ?_, by omega, by omega, by omega, fun hb => ?_, by omega, ?_, fun hb => ?_, by omega, by omega, fun b hb => ?_⟩, ?_, ?_, ?_, ?_, locOk_begin E hL, ?_⟩
    · have h := hr b hb
      have h2 := (hgl.2.2 b hb).2
      omega
    · have h2 := (hgl.2.2 _ hb).2
      omega
    · omega
    · have h := hr _ hb
      omega
    · have h2 := (hgl.2.2 b hb).2
      omega
    · exact ks.get bx (by omega)
    · exact ks.get (kx.get ((below_keep b3).get ((below_keep b2).get ha id) id) id) (by omega)
    · exact ((hg.keep (below_keep b3) (fun _ _ h => h)).keep kx (fun _ _ h => h)).keep ks (fun b hb e => by
        rcases hb with h | h
        · omega
        · have := hr b h; omega)
    · exact (hf.keep kx (fun _ _ _ h => h)).keep ks (fun b h1 h2 e => by omega)
    · have := ks.size
      rw [World.size_alloc] at this
      exact this
  · have k3 : Keep (· = l) w w3 := (((below_keep b1).trans (Keep.step (S := fun _ => False) (Keep.refl _ w1) (below_keep b2) (fun _ h _ => h))).mono (fun _ _ h => h.elim)).step (below_keep b3) (fun _ h _ => h.elim)
    exact (k3.step kx (fun _ h _ => h.elim)).trans ks

set_option maxRecDepth 100000 in
set_option maxHeartbeats 4000000 in
theorem localBegin_any (R : Nat → Prop) (l : Nat) (E : EntV) (vp vg ve vf vl : Value) (w : World) (h1 : w.heap[l]? = some (locC none E vp vg ve vf vl)) (h : EntSl R w E vp vg ve vf vl) (hR : ∀ b, R b → b < w.heap.size) (hL : Light E) :
    Calls Tryd.prog 16 #[.pointer (some ⟨l, 0, none⟩)] w fun e w' => e = .returned .nilIface ∧ ∃ t, LocAt l w.heap.size t E vp vg ve vf vl (locBegin E) w' ∧ Keep (· = l) w w' := by
  obtain ⟨pa, pc, rfl⟩ := h.p.val
  obtain ⟨ga, gc, rfl⟩ := h.g.val
  obtain ⟨ea, ec, rfl⟩ := h.e.val
  obtain ⟨fa, fc, rfl⟩ := h.f.val
  obtain ⟨la, lc, rfl⟩ := h.l.val
  have hA : Hid (∀ W, Below w.heap.size w W → Calls Tryd.prog 58 #[.agg #[.string E.name, .int .i64 E.tol, .slice pa E.points.length pc, .int .i64 E.count, .int .i64 E.mn, .int .i64 E.mx, .slice ga E.gaps.length gc, .slice ea E.edges.length ec, .slice fa E.first.length fc, .slice la E.last.length lc]] W
      fun e w' => ∃ a, e = .returned (.pointer (some ⟨a, 0, none⟩)) ∧ w.heap.size ≤ a ∧ w'.heap[a]? = some (aliveC (locPt E) E.mn E.mx 0) ∧ Below w.heap.size w w') := by
    intro W hW
    refine (aliveNew_any _ _ _ _ _ _ _ _ _ _ _ _ W).mono ?_
    rintro e w1 ⟨a, rfl, q1, q2, q3⟩
    exact ⟨a, rfl, Nat.le_trans hW.size q1, q2, hW.trans (q3.mono hW.size)⟩
  have hG : Hid (∀ W, Below w.heap.size w W → Calls Tryd.prog 59 #[.agg #[.string E.name, .int .i64 E.tol, .slice pa E.points.length pc, .int .i64 E.count, .int .i64 E.mn, .int .i64 E.mx, .slice ga E.gaps.length gc, .slice ea E.edges.length ec, .slice fa E.first.length fc, .slice la E.last.length lc]] W
      fun e w' => ∃ g ro base, e = .returned (.pointer (some ⟨g, 0, none⟩)) ∧ W.heap.size ≤ g ∧ GapsAt base ro w' g (E.gaps.map gs0) false ∧ (∀ b, ro = some b → W.heap.size ≤ b) ∧ Below W.heap.size W w' ∧ Below w.heap.size w w') := by
    intro W hW
    refine (gapsNew_any R _ _ _ _ _ _ _ _ _ E.gaps ga gc W (h.g.below hW hR) (below_lt hR hW) hL.g).mono ?_
    rintro e w1 ⟨rfl, ⟨ro, hg⟩, q3⟩
    exact ⟨_, ro, _, rfl, by omega, hg, fun b hb => by have := (hg.lt.2.2 b hb).1; omega, q3, hW.trans (q3.mono hW.size)⟩
  have hF : Hid (∀ W, Below w.heap.size w W → Calls Tryd.prog 60 #[.agg #[.string E.name, .int .i64 E.tol, .slice pa E.points.length pc, .int .i64 E.count, .int .i64 E.mn, .int .i64 E.mx, .slice ga E.gaps.length gc, .slice ea E.edges.length ec, .slice fa E.first.length fc, .slice la E.last.length lc]] W
      fun e w' => ∃ f hi, e = .returned (.pointer (some ⟨f, 0, none⟩)) ∧ FlowAt W.heap.size hi E E.edges w' f (-1) false ∧ Below W.heap.size W w' ∧ Below w.heap.size w w') := by
    intro W hW
    refine (flowNew_any R E _ _ _ _ _ W (h.below hW hR) (below_lt hR hW) hL).mono ?_
    rintro e w1 ⟨f, hi, rfl, hf, q3⟩
    exact ⟨f, hi, rfl, hf, q3, hW.trans (q3.mono hW.size)⟩
  have H1 := Lib.hid h1
  have hLg := hL.g
  obtain ⟨c0, c1, c2, c3, c4, c5, c6, c7, c8, c9, c10, cf⟩ := loc_cells h1
  have hll := lt_of_get h1
  clear h1 h hL
  go_enter Tryd.func16, Tryd.ntmps16
  go_wp2_with fail
  go_region_held3 (fun w' => (w'.cell? ⟨l, 0, none⟩ = some (loc0 l w') ∧ w'.frozen? ⟨l, 0, none⟩ = false) ∧ w'.cell? ⟨l, 1, none⟩ = some (.string E.name) ∧ w'.cell? ⟨l, 2, none⟩ = some (.int .i64 E.tol) ∧ w'.cell? ⟨l, 3, none⟩ = some (.slice pa E.points.length pc) ∧ w'.cell? ⟨l, 4, none⟩ = some (.int .i64 E.count) ∧
    w'.cell? ⟨l, 5, none⟩ = some (.int .i64 E.mn) ∧ w'.cell? ⟨l, 6, none⟩ = some (.int .i64 E.mx) ∧ w'.cell? ⟨l, 7, none⟩ = some (.slice ga E.gaps.length gc) ∧ w'.cell? ⟨l, 8, none⟩ = some (.slice ea E.edges.length ec) ∧ w'.cell? ⟨l, 9, none⟩ = some (.slice fa E.first.length fc) ∧ w'.cell? ⟨l, 10, none⟩ = some (.slice la E.last.length lc))
    (first | exact loc_limbs H1.out | exact loc_limbs l1.out | exact loc_limbs l2.out | exact loc_limbs l3.out | exact loc_limbs (get_alloc_old _ l3.out) | exact loc_limbs (loc_set (get_alloc_old _ l3.out) _))
    (first | (go_at_call 58; refine (hA.out _ ?_).mono ?_; (repeat (first | exact Below.refl _ _ | refine Below.drew ?_)); rintro e w1 ⟨a, rfl, qa, ha, b1⟩; have l1 := Lib.hid ((below_keep b1).get H1.out id)) | (go_at_call 59; refine (hG.out _ ?_).mono ?_; (repeat (first | exact b1 | refine Below.drew ?_)); rintro e w2 ⟨g, ro, base, rfl, qg, hg, hr, d2, b2⟩; have l2 := Lib.hid ((below_keep b2).get H1.out id)) | (go_at_call 60; refine (hF.out _ ?_).mono ?_; (repeat (first | exact b2 | refine Below.drew ?_)); rintro e w3 ⟨f, hi, rfl, hf, d3, b3⟩; have l3 := Lib.hid ((below_keep b3).get H1.out id)))
  all_goals (go_wp2_with fail)
  go_ret
  have e2 : Below w1.heap.size w1 w2 := ⟨d2.os, d2.tape, d2.output, d2.size, d2.block⟩
  have e3 : Below w2.heap.size w2 w3 := ⟨d3.os, d3.tape, d3.output, d3.size, d3.block⟩
  have fin := localBegin_done (w := w) (w1 := w1) (w2 := w2) (w3 := w3) H1.out hLg qa ha b1 qg hg hr e2 hf e3 rfl
  exact ⟨rfl, _, fin⟩
end Go.Proofs.YtkhcepdeppmofaaDoor
