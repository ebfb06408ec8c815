/- The document's RowsOf: rows of reports that are well, counted from the end. -/
import Derived.Test.YtpodijlhlgbbdabDoorFlowBad
import Derived.Test.YtpodijlhlgbbdabDoorWays
import Derived.Deep.OwnRows
import Derived.IntWalk
import Derived.Deep.RegionHeld3
namespace Go.Proofs.YtpodijlhlgbbdabDoor
open Go.RowKit
set_option linter.unusedVariables false

theorem onward_le (may : Int → Int → Bool) (thn : Int → Int) (P : Nat) (hP : P ≤ 16) : ∀ n a, onward may thn P n a ≤ 16 ^ n
  | 0, a => by show 1 ≤ _; exact Nat.le_refl _
  | n + 1, a => by
    show sumU (List.range P) _ ≤ _
    have h1 : sumU (List.range P) (fun p => if may a p = true then onward may thn P n (thn p) else 0) ≤ sumU (List.range P) (fun _ => 16 ^ n) := sumU_le (fun p _ => by
      split
      · exact onward_le may thn P hP n _
      · exact Nat.zero_le _)
    refine Nat.le_trans h1 ?_
    have h2 : ∀ l : List Nat, sumU l (fun _ => 16 ^ n) = l.length * 16 ^ n := by
      intro l
      induction l with
      | nil => simp [sumU]
      | cons x l ih => rw [sumU_cons, ih, List.length_cons, Nat.succ_mul]; omega
    rw [h2, List.length_range, Nat.pow_succ, Nat.mul_comm]
    exact Nat.mul_le_mul_left _ hP
/-- Rows of n reports from a place on; those that begin with one of the first p points. -/
def onw (E : EntV) (n : Nat) (a : Int) : Nat := onward (flowMay E) (flowThen E) E.points.length n a
def onwP (E : EntV) (n : Nat) (a : Int) (p : Nat) : Nat := sumU (List.range p) (fun q => if flowMay E a q = true then onw E n (flowThen E q) else 0)
theorem onwP_zero (E : EntV) (n : Nat) (a : Int) : onwP E n a 0 = 0 := rfl
theorem onwP_all (E : EntV) (n : Nat) (a : Int) : onwP E n a E.points.length = onw E (n + 1) a := rfl
theorem onwP_no {E : EntV} {n : Nat} {a : Int} {p : Nat} (h : flowMay E a p = false) : onwP E n a (p + 1) = onwP E n a p := by
  simp [onwP, sumU, List.range_succ, h]
theorem onwP_yes {E : EntV} {n : Nat} {a : Int} {p : Nat} (h : flowMay E a p = true) : onwP E n a (p + 1) = onwP E n a p + onw E n (flowThen E p) := by
  simp [onwP, sumU, List.range_succ, h]
theorem onwP_mono (E : EntV) (n : Nat) (a : Int) (p : Nat) : onwP E n a p ≤ onwP E n a (p + 1) := by
  cases h : flowMay E a p
  · rw [onwP_no h]; exact Nat.le_refl _
  · rw [onwP_yes h]; omega
theorem onwP_le (E : EntV) (hP : E.points.length ≤ 16) (n : Nat) (hn : n < 15) (a : Int) (p : Nat) (hp : p ≤ E.points.length) : onwP E n a p ≤ 1152921504606846976 := by
  have h1 : ∀ d, p + d ≤ E.points.length → onwP E n a p ≤ onwP E n a (p + d) := by
    intro d
    induction d with
    | zero => intro _; exact Nat.le_refl _
    | succ d ih => intro h; exact Nat.le_trans (ih (by omega)) (onwP_mono E n a (p + d))
  have h2 := h1 (E.points.length - p) (by omega)
  rw [show p + (E.points.length - p) = E.points.length from by omega, onwP_all] at h2
  refine Nat.le_trans h2 (Nat.le_trans (onward_le _ _ _ hP _ _) (Nat.le_trans (Nat.pow_le_pow_right (by decide) (show n + 1 ≤ 15 by omega)) (by decide)))

/-- A row of numbers. -/
def rowA (f : Nat → Nat) (m : Nat) : Array Value := (Array.range m).map (fun i => Value.int .i64 (f i : Nat))
def RowAt (w : World) (b : Nat) (f : Nat → Nat) (m : Nat) : Prop := w.heap[b]? = some (.cells (rowA f m) 3)
theorem rowA_get (f : Nat → Nat) (m i : Nat) (hi : i < m) : (rowA f m)[i]? = some (.int .i64 (f i : Nat)) := by
  simp [rowA, hi]
theorem RowAt.cell {w : World} {b : Nat} {f : Nat → Nat} {m : Nat} (h : RowAt w b f m) (i : Nat) (hi : i < m) : w.cell? ⟨b, i, none⟩ = some (.int .i64 (f i : Nat)) := by
  unfold RowAt at h
  simp [World.cell?, h, rowA_get f m i hi]
theorem RowAt.free {w : World} {b : Nat} {f : Nat → Nat} {m : Nat} (h : RowAt w b f m) (o : Nat) : w.frozen? ⟨b, o, none⟩ = false := by
  unfold RowAt at h
  simp [World.frozen?, h]
theorem RowAt.congr {w : World} {b : Nat} {f g : Nat → Nat} {m : Nat} (h : RowAt w b f m) (e : ∀ i, i < m → f i = g i) : RowAt w b g m := by
  unfold RowAt at h ⊢
  rw [h]
  congr 2
  unfold rowA
  refine Array.ext (by simp) (fun i h1 h2 => ?_)
  simp at h1
  simp [e i h1]
theorem RowAt.set {w : World} {b : Nat} {f g : Nat → Nat} {m : Nat} (h : RowAt w b f m) (i : Nat) (x : Nat) (hi : i < m) (hx : g i = x) (hg : ∀ j, j < m → j ≠ i → g j = f j) : RowAt (w.setCell ⟨b, i, none⟩ (.int .i64 (x : Nat))) b g m := by
  unfold RowAt at h ⊢
  rw [get_setCell _ h]
  congr 2
  unfold rowA
  refine Array.ext (by simp) (fun j h1 h2 => ?_)
  simp at h1 h2
  by_cases e : j = i
  · subst e; simp [hx]
  · rw [Array.getElem_setIfInBounds_ne (by simpa using h1) (fun h => e h.symm)]
    simp [hg j h2 e]
theorem RowAt.keep {S : Nat → Prop} {w w' : World} {b : Nat} {f : Nat → Nat} {m : Nat} (h : RowAt w b f m) (k : Keep S w w') (hS : ¬ S b) : RowAt w' b f m := k.get h hS
theorem RowAt.made (w : World) (m : Nat) : RowAt (w.alloc (.cells (madeCells #[.int .i64 0] m) 3)) w.heap.size (fun _ => 0) m := by
  unfold RowAt
  rw [get_alloc_new]
  congr 2
  unfold rowA madeCells
  refine Array.ext (by simp) (fun i h1 h2 => ?_)
  simp [Nat.mod_one]
/-- What stays while rows are counted. -/
structure RK (R : Nat → Prop) (E : EntV) (vp vg ve vf vl : Value) (w0 w : World) : Prop where
  bel : Below w0.heap.size w0 w
  box : w.heap[w0.heap.size]? = some (.cells (entCs E vp vg ve vf vl) 73)
  ent : EntSl R w E vp vg ve vf vl
  low : ∀ b, R b → b < w0.heap.size
theorem RK.keep {S : Nat → Prop} {R : Nat → Prop} {E : EntV} {vp vg ve vf vl : Value} {w0 w w' : World} (h : RK R E vp vg ve vf vl w0 w) (k : Keep S w w') (hS : ∀ b, S b → w0.heap.size < b) : RK R E vp vg ve vf vl w0 w' := by
  refine ⟨h.bel.trans (k.below h.bel.size (fun b hb => by have := hS b hb; omega)), k.get h.box (fun hb => by have := hS _ hb; omega), h.ent.keep k (fun b hb hs => by have := hS b hs; have := h.low b hb; omega), h.low⟩

theorem RK.drew {R : Nat → Prop} {E : EntV} {vp vg ve vf vl : Value} {w0 w : World} (h : RK R E vp vg ve vf vl w0 w) : RK R E vp vg ve vf vl w0 w.drew := h.keep (Keep.drew (Keep.refl (fun _ => False) w)) (fun _ h => h.elim)

set_option maxRecDepth 100000 in
set_option maxHeartbeats 4000000 in
theorem rowsOf_any (R : Nat → Prop) (E : EntV) (vp vg ve vf vl : Value) (n : Nat) (w : World) (h : EntSl R w E vp vg ve vf vl) (hR : ∀ b, R b → b < w.heap.size) (hL : Light E) (hP : E.points.length ≤ 16) (hn : n ≤ 15) :
    Calls Tryd.prog 53 #[.agg (entCs E vp vg ve vf vl), .int .i64 (-1), .int .i64 n] w fun e w' => e = .returned (.int .i64 (onw E n (-1) : Nat)) ∧ Below w.heap.size w w' := by
  obtain ⟨pa, pc, rfl⟩ := h.p.val
  obtain ⟨ga, gc, rfl⟩ := h.g.val
  obtain ⟨ea, ec, rfl⟩ := h.e.val
  obtain ⟨fa, fc, rfl⟩ := h.f.val
  obtain ⟨la, lc, rfl⟩ := h.l.val
  have hbx := get_alloc_new w (.cells (entCs E (.slice pa E.points.length pc) (.slice ga E.gaps.length gc) (.slice ea E.edges.length ec) (.slice fa E.first.length fc) (.slice la E.last.length lc)) 73)
  have hb1 : Below w.heap.size w (w.alloc (.cells (entCs E (.slice pa E.points.length pc) (.slice ga E.gaps.length gc) (.slice ea E.edges.length ec) (.slice fa E.first.length fc) (.slice la E.last.length lc)) 73)) := (Below.refl _ _).alloc (Nat.le_refl _) _
  have rk1 : Hid (RK R E _ _ _ _ _ w _) := (show RK R E (.slice pa E.points.length pc) (.slice ga E.gaps.length gc) (.slice ea E.edges.length ec) (.slice fa E.first.length fc) (.slice la E.last.length lc) w _ from ⟨hb1, hbx, h.below hb1 hR, hR⟩)
  have hs1 : w.heap.size < (w.alloc (.cells (entCs E (.slice pa E.points.length pc) (.slice ga E.gaps.length gc) (.slice ea E.edges.length ec) (.slice fa E.first.length fc) (.slice la E.last.length lc)) 73)).heap.size := by rw [World.size_alloc]; exact Nat.lt_succ_self _
  have hmk := run_make_row' (P := Tryd.prog) 22 3 (.int .i64 0) 8 Tryd.underlying22 Tryd.infoInt rfl .i64 .i64 (E.points.length + 1) (by omega) (by omega)
  rw [show ((E.points.length + 1 : Nat) : Int) = (E.points.length : Int) + 1 by omega] at hmk
  clear h hbx hb1
  go_enter Tryd.func53, Tryd.ntmps53
  unfold entCs at hs1 rk1 ⊢
  go_upto_region 1 with fail
  generalize w.alloc _ = w1 at hs1 rk1 ⊢
  obtain ⟨x0, x1, x2, x3, x4, x5, x6, x7, x8, x9, xf⟩ := ten_cells rk1.out.box
  have R1 := Lib.hid (RowAt.made w1 (E.points.length + 1))
  have k1 : Hid (Keep (fun _ => False) w1 (w1.alloc (.cells (madeCells #[.int .i64 0] (E.points.length + 1)) 3))) := below_keep ((Below.refl _ _).alloc (Nat.le_refl _) _)
  have RK1 := Lib.hid (rk1.out.keep k1.out (fun _ h => h.elim))
  go_wp2_with fail
  go_loopw [8] (fun s wr => ∃ i : Nat, i ≤ E.points.length + 1 ∧ s = .int .i64 i ∧ Hid (RowAt wr w1.heap.size (fun j => if j < i then 1 else 0) (E.points.length + 1)) ∧ Hid (RK R E (.slice pa E.points.length pc) (.slice ga E.gaps.length gc) (.slice ea E.edges.length ec) (.slice fa E.first.length fc) (.slice la E.last.length lc) w wr)) (fun s _ => E.points.length + 1 - (intOf s).toNat)
  case atStart => exact ⟨0, Nat.zero_le _, rfl, R1.out.congr (fun i _ => by simp), RK1⟩
  case round =>
    obtain ⟨i, hi, rfl, hrow, hrk⟩ := hrel
    clear R1 RK1 k1 rk1 x0 x1 x2 x3 x4 x5 x6 x7 x8 x9 xf
    by_cases hlt : i < E.points.length + 1
    · obtain ⟨vi, hci⟩ : ∃ vi, wr.cell? ⟨w1.heap.size, i, none⟩ = some vi := ⟨_, hrow.out.cell i hlt⟩
      have hfi := hrow.out.free
      have hrow2 := Lib.hid (hrow.out.set (g := fun j => if j < i + 1 then 1 else 0) i 1 hlt (by simp) (fun j hj hne => by by_cases h : j < i <;> simp [h] <;> omega))
      have hrk2 := Lib.hid (hrk.out.keep (keep_set wr w1.heap.size i (.int .i64 (1 : Nat))) (fun b hb => by omega))
      have hlt2 : (i : Int) < (E.points.length : Int) + 1 := by omega
      clear hrow hrk
      go_wp2_with fail
      go_roundw
      case rel => exact ⟨i + 1, by omega, by go_num, hrow2, hrk2⟩
      case measure => simp [intOf]; omega
    · have hrow2 : Hid (RowAt wr w1.heap.size (fun j => onw E 0 ((j : Int) - 1)) (E.points.length + 1)) := hrow.out.congr (fun j hj => by rw [if_pos (by omega)]; rfl)
      have hge : ¬ (i : Int) < (E.points.length : Int) + 1 := by omega
      clear hrow
      go_wp2_with fail
      clear hge
      obtain ⟨wq, rfl⟩ : ∃ wq : World, wq = wr := ⟨_, rfl⟩
      generalize w1.heap.size = b0 at hs1 hrow2 ⊢
      go_loopw [7, 9] (fun s7 s9 wx => ∃ (k b : Nat), k ≤ n ∧ s9 = .int .i64 k ∧ s7 = .slice (some ⟨b, 0, none⟩) (E.points.length + 1) (E.points.length + 1) ∧ w.heap.size < b ∧ Hid (RowAt wx b (fun j => onw E k ((j : Int) - 1)) (E.points.length + 1)) ∧ Hid (RK R E (.slice pa E.points.length pc) (.slice ga E.gaps.length gc) (.slice ea E.edges.length ec) (.slice fa E.first.length fc) (.slice la E.last.length lc) w wx)) (fun _ s _ => n - (intOf s).toNat)
      case atStart => exact ⟨0, b0, Nat.zero_le _, rfl, rfl, hs1, hrow2, hrk⟩
      case round =>
        obtain ⟨wo, rfl⟩ : ∃ wo : World, wo = wr := ⟨_, rfl⟩
        obtain ⟨k, b, hk, rfl, rfl, hb, hrow, hrk1⟩ := hrel
        clear hrow2 hrk hi hlt
        have hbs := lt_of_get hrow.out
        by_cases hkn : k < n
        · have made2 := Lib.hid (RowAt.made wo (E.points.length + 1))
          have k2 : Keep (fun _ => False) wo (wo.alloc (.cells (madeCells #[.int .i64 0] (E.points.length + 1)) 3)) := below_keep ((Below.refl _ _).alloc (Nat.le_refl _) _)
          have row2 := Lib.hid (hrow.out.keep k2 (fun h => h))
          have rk2 := Lib.hid (hrk1.out.keep k2 (fun _ h => h.elim))
          have hb2 : w.heap.size < wo.heap.size := Nat.lt_of_lt_of_le (lt_of_get hrk1.out.box) (Nat.le_refl _)
          clear k2
          go_wp2_with fail
          generalize World.alloc _ _ = w2 at made2 row2 rk2 ⊢
          generalize wo.heap.size = b2 at made2 hbs hb2 ⊢
          go_loopw [11] (fun s wx => ∃ i : Nat, i ≤ E.points.length + 1 ∧ s = .int .i64 i ∧ Hid (RowAt wx b (fun j => onw E k ((j : Int) - 1)) (E.points.length + 1)) ∧ Hid (RowAt wx b2 (fun j => if j < i then onw E (k + 1) ((j : Int) - 1) else 0) (E.points.length + 1)) ∧ Hid (RK R E (.slice pa E.points.length pc) (.slice ga E.gaps.length gc) (.slice ea E.edges.length ec) (.slice fa E.first.length fc) (.slice la E.last.length lc) w wx)) (fun s _ => E.points.length + 1 - (intOf s).toNat)
          case atStart => exact ⟨0, Nat.zero_le _, rfl, row2, made2.out.congr (fun j _ => by simp), rk2⟩
          case round =>
            obtain ⟨wp, rfl⟩ : ∃ wp : World, wp = wr := ⟨_, rfl⟩
            obtain ⟨i, hi, rfl, rowB, rowN, rk3⟩ := hrel
            clear made2 row2 rk2 hrow hrk1
            by_cases hlt : i < E.points.length + 1
            · have rowN1 : Hid (RowAt wp b2 (fun j => if j < i then onw E (k + 1) ((j : Int) - 1) else if j = i then onwP E k ((i : Int) - 1) 0 else 0) (E.points.length + 1)) := rowN.out.congr (fun j _ => by by_cases h : j < i <;> simp [h, onwP_zero])
              clear rowN
              have hlt2 : (i : Int) < (E.points.length : Int) + 1 := by omega
              go_wp2_with fail
              go_loopw [12] (fun s wx => ∃ p : Nat, p ≤ E.points.length ∧ s = .int .i64 p ∧ Hid (RowAt wx b (fun j => onw E k ((j : Int) - 1)) (E.points.length + 1)) ∧ Hid (RowAt wx b2 (fun j => if j < i then onw E (k + 1) ((j : Int) - 1) else if j = i then onwP E k ((i : Int) - 1) p else 0) (E.points.length + 1)) ∧ Hid (RK R E (.slice pa E.points.length pc) (.slice ga E.gaps.length gc) (.slice ea E.edges.length ec) (.slice fa E.first.length fc) (.slice la E.last.length lc) w wx)) (fun s _ => E.points.length - (intOf s).toNat)
              case atStart => exact ⟨0, Nat.zero_le _, rfl, rowB, rowN1, rk3⟩
              case round =>
                obtain ⟨p, hp, rfl, rowB2, rowN2, rk4⟩ := hrel
                clear rowB rowN1 rk3
                have cbx := ten_cells rk4.out.box
                obtain ⟨x0, x1, x2, x3, x4, x5, x6, x7, x8, x9, xf⟩ := cbx
                by_cases hpl : p < E.points.length
                · go_wp2_with fail
                  refine (flowStep_any R E _ _ _ _ _ ((i : Int) - 1) p wr rk4.out.ent (fun b hb => Nat.lt_of_lt_of_le (rk4.out.low b hb) rk4.out.bel.size) hL (by omega)).mono ?_
                  rintro e w5 ⟨rfl, b5⟩
                  have k5 := below_keep b5
                  have rowB3 := Lib.hid (rowB2.out.keep k5 (fun h => h))
                  have rowN3 := Lib.hid (rowN2.out.keep k5 (fun h => h))
                  have rk5 := Lib.hid (rk4.out.keep k5 (fun _ h => h.elim))
                  clear k5 b5 rowB2 rowN2 rk4 x0 x1 x2 x3 x4 x5 x6 x7 x8 x9 xf
                  have cbx := ten_cells rk5.out.box
                  obtain ⟨x0, x1, x2, x3, x4, x5, x6, x7, x8, x9, xf⟩ := cbx
                  cases hm : flowMay E ((i : Int) - 1) p
                  · have e1 := onwP_no (n := k) hm
                    have rowN4 : Hid (RowAt w5 b2 (fun j => if j < i then onw E (k + 1) ((j : Int) - 1) else if j = i then onwP E k ((i : Int) - 1) (p + 1) else 0) (E.points.length + 1)) := rowN3.out.congr (fun j _ => by rw [e1])
                    clear e1
                    go_wp2_with fail
                    go_roundw
                    case rel => exact ⟨p + 1, by omega, by go_num, rowB3, rowN4, rk5⟩
                    case measure => simp [intOf]; omega
                  · have e1 := onwP_yes (n := k) hm
                    have hle := onwP_le E hP k (by omega) ((i : Int) - 1) (p + 1) (by omega)
                    rw [e1] at hle
                    have qn : w5.cell? ⟨b2, i, none⟩ = some (.int .i64 (onwP E k ((i : Int) - 1) p : Nat)) := by
                      have := rowN3.out.cell i (by omega)
                      simpa using this
                    have qf := rowN3.out.free
                    have qg := rowB3.out.free
                    by_cases hl : (p : Int) ∈ E.last
                    · have ht : flowThen E p = -1 := flowThen_last E p hl
                      rw [ht] at e1 hle
                      have qb : w5.cell? ⟨b, 0, none⟩ = some (.int .i64 (onw E k (-1) : Nat)) := by
                        have := rowB3.out.cell 0 (by omega)
                        simpa using this
                      obtain ⟨X, hX⟩ : ∃ X : Nat, X = onwP E k ((i : Int) - 1) p := ⟨_, rfl⟩
                      obtain ⟨Y, hY⟩ : ∃ Y : Nat, Y = onw E k (-1) := ⟨_, rfl⟩
                      rw [← hX] at qn e1 hle
                      rw [← hY] at qb e1 hle
                      have hw := IntWalk.i64_in ((X : Int) + Y) (by omega)
                      have rowN4 := rowN3.out.set (g := fun j => if j < i then onw E (k + 1) ((j : Int) - 1) else if j = i then onwP E k ((i : Int) - 1) (p + 1) else 0) i (X + Y) (by omega) (by simp [e1]) (fun j hj hne => by simp [hne])
                      rw [show ((X + Y : Nat) : Int) = (X : Int) + Y from by omega] at rowN4
                      have RN4 := Lib.hid rowN4
                      have k4 : Keep (· = b2) w5 (w5.setCell ⟨b2, i, none⟩ (.int .i64 ((X : Int) + Y))) := keep_set w5 b2 i _
                      have rowB4 := Lib.hid (rowB3.out.keep k4 (show ¬ b = b2 by omega))
                      have rk6 := Lib.hid (rk5.out.keep k4 (fun c (hc : c = b2) => by omega))
                      clear rowN4 e1 hX hY k4
                      go_wp2_with fail
                      refine (hasInts_any R E.last _ p w5 rk5.out.ent.l).mono ?_
                      rintro e w' ⟨rfl, rfl⟩
                      rw [decide_eq_true hl]
                      go_wp2_with fail
                      go_region
                      all_goals
                        go_wp2_with fail
                        go_roundw
                        case rel => exact ⟨p + 1, by omega, by go_num, rowB4.out, RN4.out, rk6.out.drew⟩
                        case measure => simp [intOf]; omega
                    · have ht : flowThen E p = p := by unfold flowThen; exact if_neg (by rintro (h | h | h); omega; omega; exact hl h)
                      rw [ht] at e1 hle
                      have qb : w5.cell? ⟨b, (p + 1), none⟩ = some (.int .i64 (onw E k (p : Int) : Nat)) := by
                        have := rowB3.out.cell (p + 1) (by omega)
                        rw [show (((p + 1 : Nat) : Int) - 1) = (p : Int) from by omega] at this; exact this
                      obtain ⟨X, hX⟩ : ∃ X : Nat, X = onwP E k ((i : Int) - 1) p := ⟨_, rfl⟩
                      obtain ⟨Y, hY⟩ : ∃ Y : Nat, Y = onw E k (p : Int) := ⟨_, rfl⟩
                      rw [← hX] at qn e1 hle
                      rw [← hY] at qb e1 hle
                      have hw := IntWalk.i64_in ((X : Int) + Y) (by omega)
                      have rowN4 := rowN3.out.set (g := fun j => if j < i then onw E (k + 1) ((j : Int) - 1) else if j = i then onwP E k ((i : Int) - 1) (p + 1) else 0) i (X + Y) (by omega) (by simp [e1]) (fun j hj hne => by simp [hne])
                      rw [show ((X + Y : Nat) : Int) = (X : Int) + Y from by omega] at rowN4
                      have RN4 := Lib.hid rowN4
                      have k4 : Keep (· = b2) w5 (w5.setCell ⟨b2, i, none⟩ (.int .i64 ((X : Int) + Y))) := keep_set w5 b2 i _
                      have rowB4 := Lib.hid (rowB3.out.keep k4 (show ¬ b = b2 by omega))
                      have rk6 := Lib.hid (rk5.out.keep k4 (fun c (hc : c = b2) => by omega))
                      clear rowN4 e1 hX hY k4
                      go_wp2_with fail
                      refine (hasInts_any R E.last _ p w5 rk5.out.ent.l).mono ?_
                      rintro e w' ⟨rfl, rfl⟩
                      rw [decide_eq_false hl]
                      go_wp2_with fail
                      go_region
                      all_goals
                        go_wp2_with fail
                        go_roundw
                        case rel => exact ⟨p + 1, by omega, by go_num, rowB4.out, RN4.out, rk6.out.drew⟩
                        case measure => simp [intOf]; omega
                · obtain hpe : p = E.points.length := by omega
                  have rowN5 : Hid (RowAt wr b2 (fun j => if j < i + 1 then onw E (k + 1) ((j : Int) - 1) else 0) (E.points.length + 1)) := rowN2.out.congr (fun j _ => by
                    by_cases h1 : j < i
                    · simp [h1, show j < i + 1 by omega]
                    · by_cases h2 : j = i
                      · subst h2; simp [hpe, onwP_all]
                      · simp [h1, h2, show ¬ j < i + 1 by omega])
                  clear rowN2 hpe
                  go_wp2_with fail
                  go_roundw
                  case rel => exact ⟨i + 1, by omega, by go_num, rowB2, rowN5, rk4⟩
                  case measure => simp [intOf]; omega
            · have rowN1 : Hid (RowAt wp b2 (fun j => onw E (k + 1) ((j : Int) - 1)) (E.points.length + 1)) := rowN.out.congr (fun j hj => by rw [if_pos (by omega)])
              have hge : ¬ (i : Int) < (E.points.length : Int) + 1 := by omega
              clear rowN
              go_wp2_with fail
              go_roundw
              case rel => exact ⟨k + 1, b2, by omega, by go_num, rfl, hb2, rowN1, rk3⟩
              case measure => simp [intOf]; omega
        · obtain rfl : k = n := by omega
          have q := hrow.out.cell 0 (by omega)
          have hout : (onw E k (((0 : Nat) : Int) - 1)) = onw E k (-1) := rfl
          rw [hout] at q
          go_wp2_with fail
          go_ret
          exact ⟨rfl, hrk1.out.bel⟩
end Go.Proofs.YtpodijlhlgbbdabDoor
