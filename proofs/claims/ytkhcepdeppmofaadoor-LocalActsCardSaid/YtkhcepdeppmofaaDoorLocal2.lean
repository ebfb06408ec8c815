/- Package local: End, Begin. -/
import Derived.Test.YtkhcepdeppmofaaDoorLocal
namespace Go.Proofs.YtkhcepdeppmofaaDoor
open Go.RowKit
set_option linter.unusedVariables false

theorem keep_drewM (S : Nat → Prop) (w : World) (q : Nat) : Keep S w (w.drewN q) := (below_keep (below_drewN' q (Below.refl w.heap.size w))).mono (fun _ _ h => h.elim)
theorem watch_set5 {w : World} {b a g f : Nat} {wh ex : Bool} {run : Int} (h : w.heap[b]? = some (watchC a g f wh ex run)) (r : Int) : (w.setCell ⟨b, 5, none⟩ (.int .i64 r)).heap[b]? = some (watchC a g f wh ex r) := by
  unfold watchC at h ⊢
  rw [get_setCell _ h]; rfl
theorem watch_set4 {w : World} {b a g f : Nat} {wh ex : Bool} {run : Int} (h : w.heap[b]? = some (watchC a g f wh ex run)) (x : Bool) : (w.setCell ⟨b, 4, none⟩ (.bool x)).heap[b]? = some (watchC a g f wh x run) := by
  unfold watchC at h ⊢
  rw [get_setCell _ h]; rfl
theorem KAt.set5 {s t wb a g f : Nat} {ro : Option Nat} {base lo hi : Nat} {E : EntV} {m : LocM} {w0 w : World} (h : KAt s t wb a g f ro base lo hi E m w0 w) (r : Int) : KAt s t wb a g f ro base lo hi E ⟨m.whole, m.exp, r, m.cnt, m.gs, m.gbad, m.pos, m.fbad⟩ w0 (w.setCell ⟨wb, 5, none⟩ (.int .i64 r)) :=
  ⟨h.h.box' (keep_set w wb 5 _) (watch_set5 h.h.box r), h.k.trans (h.h.own_w (keep_set w wb 5 _))⟩
theorem KAt.set4 {s t wb a g f : Nat} {ro : Option Nat} {base lo hi : Nat} {E : EntV} {m : LocM} {w0 w : World} (h : KAt s t wb a g f ro base lo hi E m w0 w) (x : Bool) : KAt s t wb a g f ro base lo hi E ⟨m.whole, x, m.run, m.cnt, m.gs, m.gbad, m.pos, m.fbad⟩ w0 (w.setCell ⟨wb, 4, none⟩ (.bool x)) :=
  ⟨h.h.box' (keep_set w wb 4 _) (watch_set4 h.h.box x), h.k.trans (h.h.own_w (keep_set w wb 4 _))⟩
theorem KAt.drewN {s t wb a g f : Nat} {ro : Option Nat} {base lo hi : Nat} {E : EntV} {m : LocM} {w0 w : World} (h : KAt s t wb a g f ro base lo hi E m w0 w) (n : Nat) : KAt s t wb a g f ro base lo hi E m w0 (w.drewN n) :=
  ⟨h.h.keep (S := fun _ => False) (keep_drewM _ _ _) (fun _ _ _ h => h), keep_drewN n h.k⟩

set_option maxRecDepth 100000 in
set_option maxHeartbeats 2000000 in
theorem localEnd_any (l s t : Nat) (E : EntV) (vp vg ve vf vl : Value) (m : LocM) (w : World) (h : LocAt l s t E vp vg ve vf vl m w) (hr0 : 0 ≤ m.run) (hr1 : m.run ≤ 1000000) :
    Calls Tryd.prog 20 #[.pointer (some ⟨l, 0, none⟩)] w fun e w' => e = .returned (.tuple #[.int .i64 (locKind E m), .bool (locNow E m)]) ∧ LocAt l s t E vp vg ve vf vl (locEnd E m) w' ∧ Keep (fun b => s ≤ b ∧ b < t) w w' := by
  obtain ⟨⟨wb, a, g, f, ro, base, lo, hi, h1, h2⟩, ho⟩ := h
  obtain ⟨c0, c1, c2, c3, c4, c5, c6, c7, c8, c9, c10, cf⟩ := loc_cells h1
  have H1 := Lib.hid h1
  have H2 := Lib.hid h2
  have HO := Lib.hid ho
  clear h1 h2 ho c1 c2 c3 c4 c5 c6 c7 c8 c9 c10 cf
  go_enter Tryd.func20, Tryd.ntmps20
  go_wp2_with fail
  refine (localKind_any s t wb a g f ro base lo hi E m w H2.out).mono ?_
  rintro e w1 ⟨rfl, h21, k1⟩
  have q1 : KAt s t wb a g f ro base lo hi E (locMid m) w w1 := ⟨h21, k1⟩
  have c0' := (loc_cells (k1.get H1.out HO.out)).1
  obtain ⟨x0, x1, x2, x3, x4, x5, xf⟩ := watch_cells h21.box
  simp only [locMid] at x5
  have q2 := Lib.hid (q1.set5 (m.run + 1))
  have q3 := Lib.hid ((q1.set5 (m.run + 1)).set5 0)
  have c0'' := (loc_cells ((q1.set5 (m.run + 1)).k.get H1.out HO.out)).1
  clear h21 k1 q1 x0 x1 x2 x3 x4 c0 H2
  go_upto_if 25 with fail
  go_cut [] (fun wx => KAt s t wb a g f ro base lo hi E ⟨true, m.exp, locRun E m, 0, m.gs, false, m.pos, false⟩ w wx)
  case first =>
    by_cases hk : locKind E m = 0
    · have hb : (locKind E m == 0) = true := by simp [hk]
      have HR : Hid (locRun E m = 0) := if_pos hk
      clear hk
      go_wp2_with fail
      go_meet
      rw [HR.out]; exact q3.out
    · have hb : (locKind E m == 0) = false := by simp [hk]
      have HR : Hid (locRun E m = m.run + 1) := if_neg hk
      clear hk
      go_wp2_with fail
      go_meet
      rw [HR.out]; exact q2.out
  case rest =>
  have hk := hcut
  clear hcut c0' c0'' x5 xf q2 q3
  obtain ⟨c0, c1, c2, c3, c4, c5, c6, c7, c8, c9, c10, cf⟩ := loc_cells (hk.k.get H1.out HO.out)
  obtain ⟨x0, x1, x2, x3, x4, x5, xf⟩ := watch_cells hk.h.box
  simp only at x4 x5
  have HN : Hid (locNow E m = (decide (E.tol < locRun E m) && !m.exp)) := rfl
  have HE : Hid (locEnd E m = ⟨true, m.exp || decide (E.tol < locRun E m), locRun E m, 0, m.gs, false, m.pos, false⟩) := rfl
  have HK := Lib.hid hk
  clear hk c1 c3 c4 c5 c6 c7 c8 c9 c10 cf x0 x1 x2 x3
  generalize locRun E m = r at HK HN HE x5
  generalize hKK : locKind E m = K
  have HKK := Lib.hid hKK
  clear hKK
  by_cases ht : E.tol < r
  · cases hx : m.exp
    · rw [hx] at x4
      go_wp2_with fail
      go_quiet (fail)
      have y1 := HK.out.drewN nq
      have y2 := y1.set4 true
      have Y2 := Lib.hid y2
      obtain ⟨z0, z1, z2, z3, z4, z5, zf⟩ := watch_cells y1.h.box
      simp only at z4 z5
      have l2 := Lib.hid (y2.k.get H1.out HO.out)
      clear y1 y2 z0 z1 z2 z3 z5
      go_wp2_with fail
      go_ret2
      rw [HN.out, HE.out, HKK.out, hx, decide_eq_true ht]
      exact ⟨rfl, ⟨⟨wb, a, g, f, ro, base, lo, hi, l2.out, Y2.out.h⟩, HO.out⟩, Y2.out.k⟩
    · rw [hx] at x4
      go_wp2_with fail
      go_quiet (fail)
      have Y2 := Lib.hid (HK.out.drewN nq)
      have l2 := Lib.hid (Y2.out.k.get H1.out HO.out)
      go_wp2_with fail
      go_ret2
      rw [HN.out, HE.out, HKK.out, hx, decide_eq_true ht]
      refine ⟨rfl, ⟨⟨wb, a, g, f, ro, base, lo, hi, l2.out, ?_⟩, HO.out⟩, Y2.out.k⟩
      have := Y2.out.h
      rw [hx] at this
      exact this
  · have ht' : decide (E.tol < r) = false := decide_eq_false ht
    go_wp2_with fail
    go_quiet (fail)
    have Y2 := Lib.hid (HK.out.drewN nq)
    have l2 := Lib.hid (Y2.out.k.get H1.out HO.out)
    go_wp2_with fail
    go_ret2
    rw [HN.out, HE.out, HKK.out, ht']
    refine ⟨rfl, ⟨⟨wb, a, g, f, ro, base, lo, hi, l2.out, ?_⟩, HO.out⟩, Y2.out.k⟩
    have := Y2.out.h
    rw [Bool.or_false]
    exact this
end Go.Proofs.YtkhcepdeppmofaaDoor
