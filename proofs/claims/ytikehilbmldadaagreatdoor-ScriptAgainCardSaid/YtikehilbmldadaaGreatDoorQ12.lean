import Derived.Test.YtikehilbmldadaaGreatDoorQ11
import Derived.Test.YtikehilbmldadaaGreatDoorQ07
import Derived.Test.YtikehilbmldadaaGreatDoorQ03
import Derived.Deep.QuietTactic
import Derived.BigQuiet
import Derived.Test.YtikehilbmldadaaGreatDoorQ10
import Derived.Deep.RegionHeld3
set_option maxHeartbeats 4000000
set_option maxRecDepth 100000
namespace Go.Proofs.YtikehilbmldadaaGreatDoor
open Go.RowKit
set_option linter.unusedVariables false
def loc0 (l : Nat) (w : World) : Value := (w.cell? ⟨l, 0, none⟩).getD undef
theorem loc_limbs {w : World} {l : Nat} {p : Option Addr} {E : EntV} {vp vg ve vf vl : Value} (h : w.heap[l]? = some (locC p E vp vg ve vf vl)) :
    (w.cell? ⟨l, 0, none⟩ = some (loc0 l w) ∧ w.frozen? ⟨l, 0, none⟩ = false) ∧ w.cell? ⟨l, 1, none⟩ = some (.string E.name) ∧ w.cell? ⟨l, 2, none⟩ = some (.int .i64 E.tol) ∧ w.cell? ⟨l, 3, none⟩ = some vp ∧ w.cell? ⟨l, 4, none⟩ = some (.int .i64 E.count) ∧
    w.cell? ⟨l, 5, none⟩ = some (.int .i64 E.mn) ∧ w.cell? ⟨l, 6, none⟩ = some (.int .i64 E.mx) ∧ w.cell? ⟨l, 7, none⟩ = some vg ∧ w.cell? ⟨l, 8, none⟩ = some ve ∧ w.cell? ⟨l, 9, none⟩ = some vf ∧ w.cell? ⟨l, 10, none⟩ = some vl := by
  obtain ⟨c0, c1, c2, c3, c4, c5, c6, c7, c8, c9, c10, cf⟩ := loc_cells h
  exact ⟨⟨by unfold loc0; rw [c0]; rfl, cf 0⟩, c1, c2, c3, c4, c5, c6, c7, c8, c9, c10⟩
theorem loc_set {w : World} {l : Nat} {p : Option Addr} {E : EntV} {vp vg ve vf vl : Value} (h : w.heap[l]? = some (locC p E vp vg ve vf vl)) (q : Option Addr) : (w.setCell ⟨l, 0, none⟩ (.pointer q)).heap[l]? = some (locC q E vp vg ve vf vl) := by
  unfold locC at h ⊢
  rw [get_setCell _ h]; rfl
theorem localBegin_done {w w1 w2 w3 W : World} {l a g f hi base : Nat} {ro : Option Nat} {E : EntV} {vp vg ve vf vl : Value} (h1 : w.heap[l]? = some (locC none E vp vg ve vf vl)) (hL : E.gaps.length ≤ 100)
    (ha0 : w.heap.size ≤ a) (ha : w1.heap[a]? = some (aliveC (locPt E) E.mn E.mx 0)) (b1 : Below w.heap.size w w1)
    (hg0 : w1.heap.size ≤ g) (hg : GapsAt base ro w2 g (E.gaps.map gs0) false) (hr : ∀ b, ro = some b → w1.heap.size ≤ b) (b2 : Below w1.heap.size w1 w2)
    (hf : FlowAt w2.heap.size hi E E.edges w3 f (-1) false) (b3 : Below w2.heap.size w2 w3)
    (hW : W = (w3.alloc (watchC a g f false false 0)).setCell ⟨l, 0, none⟩ (.pointer (some ⟨w3.heap.size, 0, none⟩))) :
    LocAt l w.heap.size (w3.heap.size + 1) E vp vg ve vf vl (locBegin E) W ∧ Keep (· = l) w W := by
  have hl := lt_of_get h1
  have s1 := b1.size
  have s2 := b2.size
  have s3 := b3.size
  have hal := lt_of_get ha
  have hgl := hg.lt
  have hft := hf.ftop
  have kx : Keep (fun _ => False) w3 (w3.alloc (watchC a g f false false 0)) := (Keep.refl _ _).alloc _
  have ks : Keep (· = l) (w3.alloc (watchC a g f false false 0)) W := by rw [hW]; exact keep_set _ l 0 _
  have l3 := (below_keep b3).get ((below_keep b2).get ((below_keep b1).get h1 id) id) id
  have bx := get_alloc_new w3 (watchC a g f false false 0)
  refine ⟨⟨⟨w3.heap.size, a, g, f, ro, base, w2.heap.size, hi, ?_, ?_⟩, by omega⟩, ?_⟩
  · rw [hW]; exact loc_set (get_alloc_old _ l3) _
  · refine ⟨⟨by omega, by omega, by omega, fun b hb => ?_, by omega, by omega, by omega, fun hb => ?_, by omega, ?_, fun hb => ?_, by omega, by omega, fun b hb => ?_⟩, ?_, ?_, ?_, ?_, locOk_begin E hL, ?_⟩
    · have h := hr b hb
      have h2 := (hgl.2.2 b hb).2
      omega
    · have h2 := (hgl.2.2 _ hb).2
      omega
    · omega
    · have h := hr _ hb
      omega
    · have h2 := (hgl.2.2 b hb).2
      omega
    · exact ks.get bx (by omega)
    · exact ks.get (kx.get ((below_keep b3).get ((below_keep b2).get ha id) id) id) (by omega)
    · exact ((hg.keep (below_keep b3) (fun _ _ h => h)).keep kx (fun _ _ h => h)).keep ks (fun b hb e => by
        rcases hb with h | h
        · omega
        · have := hr b h; omega)
    · exact (hf.keep kx (fun _ _ _ h => h)).keep ks (fun b h1 h2 e => by omega)
    · have := ks.size
      rw [World.size_alloc] at this
      exact this
  · have k3 : Keep (· = l) w w3 := (((below_keep b1).trans (Keep.step (S := fun _ => False) (Keep.refl _ w1) (below_keep b2) (fun _ h _ => h))).mono (fun _ _ h => h.elim)).step (below_keep b3) (fun _ h _ => h.elim)
    exact (k3.step kx (fun _ h _ => h.elim)).trans ks
theorem localBegin_any (R : Nat → Prop) (l : Nat) (E : EntV) (vp vg ve vf vl : Value) (w : World) (h1 : w.heap[l]? = some (locC none E vp vg ve vf vl)) (h : EntSl R w E vp vg ve vf vl) (hR : ∀ b, R b → b < w.heap.size) (hL : Light E) :
    Calls Tryz.prog 49 #[.pointer (some ⟨l, 0, none⟩)] w fun e w' => e = .returned .nilIface ∧ ∃ t, LocAt l w.heap.size t E vp vg ve vf vl (locBegin E) w' ∧ Keep (· = l) w w' := by
  obtain ⟨pa, pc, rfl⟩ := h.p.val
  obtain ⟨ga, gc, rfl⟩ := h.g.val
  obtain ⟨ea, ec, rfl⟩ := h.e.val
  obtain ⟨fa, fc, rfl⟩ := h.f.val
  obtain ⟨la, lc, rfl⟩ := h.l.val
  have hA : Hid (∀ W, Below w.heap.size w W → Calls Tryz.prog 89 #[.agg #[.string E.name, .int .i64 E.tol, .slice pa E.points.length pc, .int .i64 E.count, .int .i64 E.mn, .int .i64 E.mx, .slice ga E.gaps.length gc, .slice ea E.edges.length ec, .slice fa E.first.length fc, .slice la E.last.length lc]] W
      fun e w' => ∃ a, e = .returned (.pointer (some ⟨a, 0, none⟩)) ∧ w.heap.size ≤ a ∧ w'.heap[a]? = some (aliveC (locPt E) E.mn E.mx 0) ∧ Below w.heap.size w w') := by
    intro W hW
    refine (aliveNew_any _ _ _ _ _ _ _ _ _ _ _ _ W).mono ?_
    rintro e w1 ⟨a, rfl, q1, q2, q3⟩
    exact ⟨a, rfl, Nat.le_trans hW.size q1, q2, hW.trans (q3.mono hW.size)⟩
  have hG : Hid (∀ W, Below w.heap.size w W → Calls Tryz.prog 90 #[.agg #[.string E.name, .int .i64 E.tol, .slice pa E.points.length pc, .int .i64 E.count, .int .i64 E.mn, .int .i64 E.mx, .slice ga E.gaps.length gc, .slice ea E.edges.length ec, .slice fa E.first.length fc, .slice la E.last.length lc]] W
      fun e w' => ∃ g ro base, e = .returned (.pointer (some ⟨g, 0, none⟩)) ∧ W.heap.size ≤ g ∧ GapsAt base ro w' g (E.gaps.map gs0) false ∧ (∀ b, ro = some b → W.heap.size ≤ b) ∧ Below W.heap.size W w' ∧ Below w.heap.size w w') := by
    intro W hW
    refine (gapsNew_any R _ _ _ _ _ _ _ _ _ E.gaps ga gc W (h.g.below hW hR) (below_lt hR hW) hL.g).mono ?_
    rintro e w1 ⟨rfl, ⟨ro, hg⟩, q3⟩
    exact ⟨_, ro, _, rfl, by omega, hg, fun b hb => by have := (hg.lt.2.2 b hb).1; omega, q3, hW.trans (q3.mono hW.size)⟩
  have hF : Hid (∀ W, Below w.heap.size w W → Calls Tryz.prog 91 #[.agg #[.string E.name, .int .i64 E.tol, .slice pa E.points.length pc, .int .i64 E.count, .int .i64 E.mn, .int .i64 E.mx, .slice ga E.gaps.length gc, .slice ea E.edges.length ec, .slice fa E.first.length fc, .slice la E.last.length lc]] W
      fun e w' => ∃ f hi, e = .returned (.pointer (some ⟨f, 0, none⟩)) ∧ FlowAt W.heap.size hi E E.edges w' f (-1) false ∧ Below W.heap.size W w' ∧ Below w.heap.size w w') := by
    intro W hW
    refine (flowNew_any R E _ _ _ _ _ W (h.below hW hR) (below_lt hR hW) hL).mono ?_
    rintro e w1 ⟨f, hi, rfl, hf, q3⟩
    exact ⟨f, hi, rfl, hf, q3, hW.trans (q3.mono hW.size)⟩
  have H1 := Lib.hid h1
  have hLg := hL.g
  obtain ⟨c0, c1, c2, c3, c4, c5, c6, c7, c8, c9, c10, cf⟩ := loc_cells h1
  have hll := lt_of_get h1
  clear h1 h hL
  go_enter Tryz.func49, Tryz.ntmps49
  go_wp2_with fail
  go_region_held3 (fun w' => (w'.cell? ⟨l, 0, none⟩ = some (loc0 l w') ∧ w'.frozen? ⟨l, 0, none⟩ = false) ∧ w'.cell? ⟨l, 1, none⟩ = some (.string E.name) ∧ w'.cell? ⟨l, 2, none⟩ = some (.int .i64 E.tol) ∧ w'.cell? ⟨l, 3, none⟩ = some (.slice pa E.points.length pc) ∧ w'.cell? ⟨l, 4, none⟩ = some (.int .i64 E.count) ∧
    w'.cell? ⟨l, 5, none⟩ = some (.int .i64 E.mn) ∧ w'.cell? ⟨l, 6, none⟩ = some (.int .i64 E.mx) ∧ w'.cell? ⟨l, 7, none⟩ = some (.slice ga E.gaps.length gc) ∧ w'.cell? ⟨l, 8, none⟩ = some (.slice ea E.edges.length ec) ∧ w'.cell? ⟨l, 9, none⟩ = some (.slice fa E.first.length fc) ∧ w'.cell? ⟨l, 10, none⟩ = some (.slice la E.last.length lc))
    (first | exact loc_limbs H1.out | exact loc_limbs l1.out | exact loc_limbs l2.out | exact loc_limbs l3.out | exact loc_limbs (get_alloc_old _ l3.out) | exact loc_limbs (loc_set (get_alloc_old _ l3.out) _))
    (first | (go_at_call 89; refine (hA.out _ ?_).mono ?_; (repeat (first | exact Below.refl _ _ | refine Below.drew ?_)); rintro e w1 ⟨a, rfl, qa, ha, b1⟩; have l1 := Lib.hid ((below_keep b1).get H1.out id)) | (go_at_call 90; refine (hG.out _ ?_).mono ?_; (repeat (first | exact b1 | refine Below.drew ?_)); rintro e w2 ⟨g, ro, base, rfl, qg, hg, hr, d2, b2⟩; have l2 := Lib.hid ((below_keep b2).get H1.out id)) | (go_at_call 91; refine (hF.out _ ?_).mono ?_; (repeat (first | exact b2 | refine Below.drew ?_)); rintro e w3 ⟨f, hi, rfl, hf, d3, b3⟩; have l3 := Lib.hid ((below_keep b3).get H1.out id)))
  all_goals (go_wp2_with fail)
  go_ret
  have e2 : Below w1.heap.size w1 w2 := ⟨d2.os, d2.tape, d2.output, d2.size, d2.block⟩
  have e3 : Below w2.heap.size w2 w3 := ⟨d3.os, d3.tape, d3.output, d3.size, d3.block⟩
  have fin := localBegin_done (w := w) (w1 := w1) (w2 := w2) (w3 := w3) H1.out hLg qa ha b1 qg hg hr e2 hf e3 rfl
  exact ⟨rfl, _, fin⟩
theorem localBegin_held (l s t : Nat) (E : EntV) (vp vg ve vf vl u : Value) (m : LocM) (w : World) (h : LocAt l s t E vp vg ve vf vl m w) (hg : w.cell? ⟨9, 0, none⟩ = some u) :
    Calls Tryz.prog 49 #[.pointer (some ⟨l, 0, none⟩)] w fun e w' => e = .returned u ∧ w = w' := by
  obtain ⟨⟨wb, a, g, f, ro, base, lo, hi, h1, h2⟩, ho⟩ := h
  obtain ⟨c0, _⟩ := loc_cells h1
  clear h1 h2
  go_enter Tryz.func49, Tryz.ntmps49
  go_wp2_with fail
  go_ret
  exact ⟨rfl, rfl⟩
theorem localStop_idle (l : Nat) (E : EntV) (vp vg ve vf vl u : Value) (w : World) (h : w.heap[l]? = some (locC none E vp vg ve vf vl)) (hg : w.cell? ⟨8, 0, none⟩ = some u) :
    Calls Tryz.prog 50 #[.pointer (some ⟨l, 0, none⟩)] w fun e w' => e = .returned u ∧ w = w' := by
  obtain ⟨c0, _⟩ := loc_cells h
  clear h
  go_enter Tryz.func50, Tryz.ntmps50
  go_wp2_with fail
  go_ret
  exact ⟨rfl, rfl⟩
theorem localReport_idle (l : Nat) (E : EntV) (vp vg ve vf vl u : Value) (p t : Int) (w : World) (h : w.heap[l]? = some (locC none E vp vg ve vf vl)) (hg : w.cell? ⟨8, 0, none⟩ = some u) :
    Calls Tryz.prog 51 #[.pointer (some ⟨l, 0, none⟩), .int .i64 p, .int .i64 t] w fun e w' => e = .returned u ∧ w = w' := by
  obtain ⟨c0, _⟩ := loc_cells h
  clear h
  go_enter Tryz.func51, Tryz.ntmps51
  go_wp2_with fail
  go_ret
  exact ⟨rfl, rfl⟩
theorem localEnd_idle (l : Nat) (E : EntV) (vp vg ve vf vl : Value) (w : World) (h : w.heap[l]? = some (locC none E vp vg ve vf vl)) :
    Calls Tryz.prog 151 #[.pointer (some ⟨l, 0, none⟩)] w fun e w' => e = .returned (.tuple #[.int .i64 0, .bool false]) ∧ w = w' := by
  obtain ⟨c0, _⟩ := loc_cells h
  clear h
  go_enter Tryz.func151, Tryz.ntmps151
  go_wp2_with fail
  go_ret2
  exact ⟨rfl, rfl⟩
def okN (i : Nat) (c : UInt8) : Bool := decide ((97 ≤ c.toNat ∧ c.toNat ≤ 122) ∨ (i ≠ 0 ∧ ((48 ≤ c.toNat ∧ c.toNat ≤ 57) ∨ c.toNat = 45)))
def isNameB (s : ByteArray) : Bool := decide (1 ≤ s.size ∧ s.size ≤ 12) && (List.range s.size).all (fun i => okN i (s.data.toList.getD i 0))
theorem isNameB_short {s : ByteArray} (h : ¬ (1 ≤ s.size ∧ s.size ≤ 12)) : isNameB s = false := by simp only [isNameB, decide_eq_false h, Bool.false_and]
theorem getD_at (s : ByteArray) (i : Nat) (hi : i < s.size) : s.data.toList.getD i 0 = s[i] := by
  rw [List.getD_eq_getElem?_getD, List.getElem?_eq_getElem (show i < s.data.toList.length from hi)]; rfl
theorem isNameB_bad {s : ByteArray} (i : Nat) (hi : i < s.size) (h : okN i s[i] = false) : isNameB s = false := by
  unfold isNameB
  rw [Bool.and_eq_false_iff]
  right
  rw [List.all_eq_false]
  exact ⟨i, List.mem_range.2 hi, by rw [getD_at s i hi, h]; simp⟩
theorem isNameB_good {s : ByteArray} (h1 : 1 ≤ s.size ∧ s.size ≤ 12) (h : ∀ i (hi : i < s.size), okN i s[i] = true) : isNameB s = true := by
  unfold isNameB
  rw [decide_eq_true h1, Bool.true_and, List.all_eq_true]
  intro i hi
  have hi := List.mem_range.1 hi
  rw [getD_at s i hi]
  exact h i hi
def twiceB (l : List Int) : Bool := (List.range l.length).any (fun i => decide (l.getD i 0 ∈ l.take i))
theorem twiceB_hit {l : List Int} (i : Nat) (hi : i < l.length) (h : l[i] ∈ l.take i) : twiceB l = true := by
  unfold twiceB
  rw [List.any_eq_true]
  exact ⟨i, List.mem_range.2 hi, by rw [List.getD_eq_getElem?_getD, List.getElem?_eq_getElem hi]; exact decide_eq_true h⟩
theorem twiceB_miss {l : List Int} (h : ∀ i (hi : i < l.length), l[i] ∉ l.take i) : twiceB l = false := by
  unfold twiceB
  rw [List.any_eq_false]
  intro i hi
  have hi := List.mem_range.1 hi
  rw [List.getD_eq_getElem?_getD, List.getElem?_eq_getElem hi]
  simpa using h i hi
theorem SlOf.take {R : Nat → Prop} {w : World} {ao : Option Addr} {cap : Nat} {l : List Int} (h : SlOf R w (.slice ao l.length cap) 1 (intCells l) l.length) (k : Nat) (hk : k ≤ l.length) : SlOf R w (.slice ao k cap) 1 (intCells (l.take k)) (l.take k).length := by
  obtain ⟨hl, ao', cap', hv, h1, h2, h3, h4⟩ := h
  simp at hv
  obtain ⟨rfl, rfl⟩ := hv
  have hlt : (l.take k).length = k := by simp; omega
  refine ⟨by simp [intCells], ao, cap, by rw [hlt], by rw [hlt]; omega, h2, h3, fun hp => ?_⟩
  have hp2 : 0 < (intCells l).length := by simp [intCells] at hp ⊢; omega
  obtain ⟨b, off, ha, hR, hb, hc⟩ := h4 hp2
  refine ⟨b, off, ha, hR, hb, fun j u hu => hc j u ?_⟩
  have hj : j < k := by
    have := (List.getElem?_eq_some_iff.1 hu).1
    simp [intCells] at this; omega
  simp [intCells, hj] at hu ⊢
  exact hu
theorem quiet_of_eqE {P : Program} {f : FuncId} {args : Array Value} {w : World} {n : Nat} {v : Value}
    (h : Calls P f args (w.drewN n) fun e w' => e = .returned v ∧ w.drewN n = w') : Calls P f args (w.drewN n) fun e w'' => e = .returned v ∧ ∃ m, w'' = w.drewN m :=
  h.mono fun _ _ ⟨he, hm⟩ => ⟨he, n, hm.symm⟩
theorem run_sub_ints (w : World) (b off len cap i : Nat) (hi : i ≤ cap) :
    (Instr.slice 48 (.slice (some ⟨b, off, none⟩) len cap) none (some (.int .i64 i)) none).run Tryz.prog w = .ok (.slice (some ⟨b, off, none⟩) i cap) w := by
  have ht : Tryz.prog.underlying 48 = some (.slice (Tryz.prog.elem 48)) := by kernel_rfl
  have hs : ((sizeOf (Tryz.prog.elem 48)).run Tryz.prog w) = .ok 1 w := by kernel_rfl
  rw [run_slice_h w 48 (some ⟨b, off, none⟩) len cap ht .i64 i (by omega) (by omega), hs]
  show Result.ok (sliced _ _ _ _ _) w = _
  unfold sliced
  simp
  intro _
  rw [addr_add, Nat.add_zero]
end Go.Proofs.YtikehilbmldadaaGreatDoor
