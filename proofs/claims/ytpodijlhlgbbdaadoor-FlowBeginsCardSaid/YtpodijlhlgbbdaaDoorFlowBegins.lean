/- FlowBegins: a row is well if each beginning of it is; words of n + 1 reports are at most points times those of n. -/
import Derived.Test.YtpodijlhlgbbdaaDoorOrdered
import Derived.Test.YtpodijlhlgbbdaaDoorWords
namespace Go.Proofs.YtpodijlhlgbbdaaDoor
open Go.RowKit
set_option linter.unusedVariables false

/-- Two flows beside each other. -/
structure FB (w0 : World) (E : EntV) (bx : Obj) (lo1 hi1 f lo2 hi2 g : Nat) (af : Int) (bf : Bool) (ag : Int) (bg : Bool) (w : World) : Prop where
  bel : Below w0.heap.size w0 w
  box : w.heap[w0.heap.size]? = some bx
  ff : FlowAt lo1 hi1 E E.edges w f af bf
  gg : FlowAt lo2 hi2 E E.edges w g ag bg
  s1 : w0.heap.size < lo1
  s2 : hi1 ≤ lo2
section
variable {w0 w w' : World} {E : EntV} {bx : Obj} {lo1 hi1 f lo2 hi2 g : Nat} {af ag : Int} {bf bg : Bool}
theorem FB.stepF (h : FB w0 E bx lo1 hi1 f lo2 hi2 g af bf ag bg w) (k : Keep (· = f) w w') {a : Int} {b : Bool} (hf : FlowAt lo1 hi1 E E.edges w' f a b) : FB w0 E bx lo1 hi1 f lo2 hi2 g a b ag bg w' := by
  have h1 := h.s1
  have h2 := h.s2
  have h3 := h.ff.flo
  have h4 := h.ff.fhi
  exact ⟨h.bel.trans (k.below h.bel.size (fun b hb => by omega)), k.get h.box (by omega), hf, h.gg.keep k (fun b q1 q2 e => by omega), h1, h2⟩
theorem FB.stepG (h : FB w0 E bx lo1 hi1 f lo2 hi2 g af bf ag bg w) (k : Keep (· = g) w w') {a : Int} {b : Bool} (hg : FlowAt lo2 hi2 E E.edges w' g a b) : FB w0 E bx lo1 hi1 f lo2 hi2 g af bf a b w' := by
  have h1 := h.s1
  have h2 := h.s2
  have h3 := h.gg.flo
  have h4 := h.gg.fhi
  have h5 := h.ff.flo
  have h6 := h.ff.fhi
  exact ⟨h.bel.trans (k.below h.bel.size (fun b hb => by omega)), k.get h.box (by omega), h.ff.keep k (fun b q1 q2 e => by omega), hg, h1, h2⟩
theorem FB.still (h : FB w0 E bx lo1 hi1 f lo2 hi2 g af bf ag bg w) (k : Below w.heap.size w w') : FB w0 E bx lo1 hi1 f lo2 hi2 g af bf ag bg w' :=
  ⟨h.bel.trans (k.mono h.bel.size), below_get k h.box (lt_of_get h.box), h.ff.keep (below_keep k) (fun _ _ _ h => h), h.gg.keep (below_keep k) (fun _ _ _ h => h), h.s1, h.s2⟩
end

theorem allW_le (E : EntV) (hP : E.points.length ≤ 16) (n : Nat) (hn : n ≤ 14) : allW E (n + 1) ≤ E.points.length * allW E n ∧ E.points.length * allW E n ≤ 1152921504606846976 ∧ allW E (n + 1) ≤ 1152921504606846976 := by
  have h1 := allWays_succ (flowMay E) (flowThen E) E.points.length (flowThen_places E) n
  have h2 := allWays_le (flowMay E) (flowThen E) E.points.length (flowThen_places E) hP n
  have h3 : 16 ^ n ≤ 16 ^ 14 := Nat.pow_le_pow_right (by decide) hn
  have h4 : E.points.length * allW E n ≤ 16 * 16 ^ 14 := Nat.mul_le_mul hP (Nat.le_trans h2 h3)
  have h5 : E.points.length * allW E n ≤ 1152921504606846976 := Nat.le_trans h4 (by decide)
  exact ⟨h1, h5, Nat.le_trans h1 h5⟩

set_option maxRecDepth 100000 in
set_option maxHeartbeats 8000000 in
theorem flowBegins_any (E : EntV) (L : List Int) (n : Int) (vp vg ve vf vl vr : Value) (w : World) (h : EntSl (· < w.heap.size) w E vp vg ve vf vl) (hr : SlOf (· < w.heap.size) w vr 1 (intCells L) L.length) :
    Calls Tryd.prog 4 #[.agg (entCs E vp vg ve vf vl), vr, .int .i64 n] w fun e w' => e = .returned (.bool true) ∧ Below w.heap.size w w' := by
  obtain ⟨pa, pc, rfl⟩ := h.p.val
  obtain ⟨ga, gc, rfl⟩ := h.g.val
  obtain ⟨ea, ec, rfl⟩ := h.e.val
  obtain ⟨fa, fc, rfl⟩ := h.f.val
  obtain ⟨la, lc, rfl⟩ := h.l.val
  obtain ⟨ra, rc, rfl⟩ := hr.val
  have H := Lib.hid h
  have HR := Lib.hid hr
  clear h hr
  unfold entCs
  go_enter Tryd.func4, Tryd.ntmps4
  go_wp2_with fail
  refine (ordered_any _).mono ?_
  rintro e w1 ⟨rfl, b1⟩
  obtain ⟨bb1, hx1⟩ := box_below b1
  clear b1
  have HX1 := Lib.hid hx1
  obtain ⟨c0, c1, c2, c3, c4, c5, c6, c7, c8, c9, cf⟩ := ten_cells hx1
  clear hx1 cf
  go_wp2_with fail
  refine (heavyEntity_x E _ _ _ _ _ _ _ _ _ _ w w1 H.out bb1).mono ?_
  rintro e w2 ⟨rfl, b2⟩
  have bb2 := bb1.trans (b2.mono bb1.size)
  have hx2 := below_get b2 HX1.out (lt_of_get HX1.out)
  clear c0 c1 c2 c3 c4 c5 c6 c7 c8 c9 HX1 b2
  by_cases hH : Heavy E
  · rw [heavyN_pos hH]
    go_wp2_with fail
    go_ret
    exact ⟨rfl, bb2⟩
  rw [heavyN_neg hH]
  by_cases hF : 30 < L.length
  · go_wp2_with fail
    go_ret
    exact ⟨rfl, bb2⟩
  by_cases hn0 : n < 0
  · go_wp2_with fail
    go_ret
    exact ⟨rfl, bb2⟩
  by_cases hn1 : 14 < n
  · go_wp2_with fail
    go_ret
    exact ⟨rfl, bb2⟩
  have HX2 := Lib.hid hx2
  obtain ⟨c0, c1, c2, c3, c4, c5, c6, c7, c8, c9, cf⟩ := ten_cells hx2
  clear hx2 cf
  by_cases hP : 16 < E.points.length
  · go_wp2_with fail
    go_ret
    exact ⟨rfl, bb2⟩
  have hlr : L.length ≤ 30 := by omega
  have hP16 : E.points.length ≤ 16 := by omega
  have lg := light_of hH
  have HH := Lib.hid hH
  clear hH
  go_wp2_with fail
  refine (ownEntity_x E _ _ _ _ _ _ _ _ _ _ w w2 H.out bb2 HH.out).mono ?_
  rintro e w3 ⟨_, _, _, _, _, _, _, _, _, _, rfl, hs3, b3⟩
  have bb3 := bb2.trans (b3.mono bb2.size)
  have hx3 := below_get b3 HX2.out (lt_of_get HX2.out)
  have hs3' : EntSl (· < w3.heap.size) w3 E _ _ _ _ _ := ⟨hs3.p.here, hs3.g.here, hs3.e.here, hs3.f.here, hs3.l.here⟩
  have HS3 := Lib.hid hs3'
  clear c0 c1 c2 c3 c4 c5 c6 c7 c8 c9 HX2 b3 hs3 hs3'
  go_wp2_with fail
  refine (flowNew_any (· < w3.heap.size) E _ _ _ _ _ w3 HS3.out (fun b h => h) lg).mono ?_
  rintro e w4 ⟨f, hi1, rfl, f4, b4⟩
  have bb4 := bb3.trans (b4.mono bb3.size)
  have hx4 := below_get b4 hx3 (lt_of_get hx3)
  have hlt3 := lt_of_get hx3
  have F4 := Lib.hid f4
  have HX4 := Lib.hid hx4
  obtain ⟨c0, c1, c2, c3, c4, c5, c6, c7, c8, c9, cf⟩ := ten_cells hx4
  clear hx3 hx4 cf b4 f4 HS3
  go_wp2_with fail
  refine (ownEntity_x E _ _ _ _ _ _ _ _ _ _ w w4 H.out bb4 HH.out).mono ?_
  rintro e w5 ⟨_, _, _, _, _, _, _, _, _, _, rfl, hs5, b5⟩
  have bb5 := bb4.trans (b5.mono bb4.size)
  have hx5 := below_get b5 HX4.out (lt_of_get HX4.out)
  have F5 := Lib.hid (F4.out.keep (below_keep b5) (fun _ _ _ h => h))
  have hs5' : EntSl (· < w5.heap.size) w5 E _ _ _ _ _ := ⟨hs5.p.here, hs5.g.here, hs5.e.here, hs5.f.here, hs5.l.here⟩
  have HS5 := Lib.hid hs5'
  clear c0 c1 c2 c3 c4 c5 c6 c7 c8 c9 HX4 b5 hs5 hs5' F4
  go_wp2_with fail
  refine (flowNew_any (· < w5.heap.size) E _ _ _ _ _ w5 HS5.out (fun b h => h) lg).mono ?_
  rintro e w6 ⟨g, hi2, rfl, g6, b6⟩
  have fb : FB w E _ w3.heap.size hi1 f w5.heap.size hi2 g (-1) false (-1) false w6 := ⟨bb5.trans (b6.mono bb5.size), below_get b6 hx5 (lt_of_get hx5), F5.out.keep (below_keep b6) (fun _ _ _ h => h), g6, hlt3, F5.out.ftop⟩
  have FBH := Lib.hid fb
  clear hx5 b6 g6 fb HS5 F5 bb1 bb2 bb3 bb4 bb5
  go_wp2_with fail
  go_loopw [10, 11] (fun s10 s11 wr => ∃ (i : Nat) (wl : Bool) (a : Int), i ≤ L.length ∧ s11 = .int .i64 i ∧ s10 = .bool wl ∧ Hid (FB w E (.cells #[.string E.name, .int .i64 E.tol, .slice pa E.points.length pc, .int .i64 E.count, .int .i64 E.mn, .int .i64 E.mx, .slice ga E.gaps.length gc, .slice ea E.edges.length ec, .slice fa E.first.length fc, .slice la E.last.length lc] 36) w3.heap.size hi1 f w5.heap.size hi2 g a false a (!wl) wr)) (fun _ s _ => L.length - (intOf s).toNat)
  case atStart => exact ⟨0, true, -1, Nat.zero_le _, rfl, rfl, FBH⟩
  case round =>
    obtain ⟨i, wl, a, hi, rfl, rfl, hfb⟩ := hrel
    clear FBH
    by_cases hlt : i < L.length
    · obtain ⟨b, off, rfl, hRb, _, hc⟩ := int_cells HR.out (by omega)
      have hq := hc i hlt
      have q := hq
      rw [← hfb.out.bel.cell (p := ⟨b, off + i, none⟩) hRb] at q
      have HQ := Lib.hid hq
      clear hc hq
      go_wp2_with fail
      refine (flowReport_any _ _ _ _ _ _ _ _ hfb.out.ff).mono ?_
      rintro e w7 ⟨rfl, f7, k7⟩
      have fb7 := hfb.out.stepF k7 f7
      have q7 := HQ.out
      rw [← fb7.bel.cell (p := ⟨b, off + i, none⟩) hRb] at q7
      have FB7 := Lib.hid fb7
      clear f7 k7 fb7 hfb q
      go_wp2_with fail
      refine (flowReport_any _ _ _ _ _ _ _ _ FB7.out.gg).mono ?_
      rintro e w8 ⟨rfl, f8, k8⟩
      have FB8 := Lib.hid (FB7.out.stepG k8 f8)
      clear f8 k8 FB7 q7
      go_wp2_with fail
      refine (flowEnd_any _ _ _ _ _ _ _ FB8.out.ff).mono ?_
      rintro e w9 ⟨rfl, f9, k9⟩
      have FB9 := Lib.hid (FB8.out.stepF k9 f9)
      clear f9 k9 FB8
      generalize flowMay E a L[i] = mm at FB9 ⊢
      cases wl <;> cases mm
      all_goals
        go_wp2_with fail
        go_roundw
        case rel => exact ⟨i + 1, _, _, by omega, by go_num, rfl, FB9⟩
        case measure => simp [intOf]; omega
    · go_wp2_with fail
      refine (flowEnd_any _ _ _ _ _ _ _ hfb.out.gg).mono ?_
      rintro e w7 ⟨rfl, f7, k7⟩
      have fb7 := hfb.out.stepG k7 f7
      have FB7 := Lib.hid fb7
      obtain ⟨c0, c1, c2, c3, c4, c5, c6, c7, c8, c9, cf⟩ := ten_cells fb7.box
      clear f7 k7 fb7 hfb cf
      obtain ⟨nn, rfl⟩ : ∃ nn : Nat, n = nn := ⟨n.toNat, by omega⟩
      have hw1 := allW_le E hP16 nn (by omega)
      cases wl
      all_goals
        go_wp2_with fail
        refine (ownEntity_x E _ _ _ _ _ _ _ _ _ _ w w7 H.out FB7.out.bel HH.out).mono ?_
        rintro e w8 ⟨_, _, _, _, _, _, _, _, _, _, rfl, hs8, b8⟩
        have FB8 := Lib.hid (FB7.out.still b8)
        have hs8' : EntSl (· < w8.heap.size) w8 E _ _ _ _ _ := ⟨hs8.p.here, hs8.g.here, hs8.e.here, hs8.f.here, hs8.l.here⟩
        have HS8 := Lib.hid hs8'
        clear b8 hs8 hs8' FB7 c0 c1 c2 c3 c4 c5 c6 c7 c8 c9
        go_wp2_with fail
        refine (words_any (· < w8.heap.size) E _ _ _ _ _ nn w8 HS8.out (fun b h => h) lg hP16 (by omega)).mono ?_
        rintro e w9 ⟨rfl, b9⟩
        have FB9 := Lib.hid (FB8.out.still b9)
        obtain ⟨c0, c1, c2, c3, c4, c5, c6, c7, c8, c9, cf⟩ := ten_cells FB9.out.box
        clear b9 FB8 HS8 cf
        go_wp2_with fail
        refine (ownEntity_x E _ _ _ _ _ _ _ _ _ _ w w9 H.out FB9.out.bel HH.out).mono ?_
        rintro e w10 ⟨_, _, _, _, _, _, _, _, _, _, rfl, hs10, b10⟩
        have FB10 := Lib.hid (FB9.out.still b10)
        have hs10' : EntSl (· < w10.heap.size) w10 E _ _ _ _ _ := ⟨hs10.p.here, hs10.g.here, hs10.e.here, hs10.f.here, hs10.l.here⟩
        have HS10 := Lib.hid hs10'
        clear b10 hs10 hs10' FB9 c0 c1 c2 c3 c4 c5 c6 c7 c8 c9
        go_wp2_with fail
        refine (words_any (· < w10.heap.size) E _ _ _ _ _ (nn + 1) w10 HS10.out (fun b h => h) lg hP16 (by omega)).mono ?_
        rintro e w11 ⟨rfl, b11⟩
        have FB11 := Lib.hid (FB10.out.still b11)
        obtain ⟨c0, c1, c2, c3, c4, c5, c6, c7, c8, c9, cf⟩ := ten_cells FB11.out.box
        clear b11 FB10 HS10 cf c0 c1 c3 c4 c5 c6 c7 c8 c9
        obtain ⟨y1, y2, y3⟩ := hw1
        generalize allW E (nn + 1) = Bn at y1 y2 y3 ⊢
        generalize allW E nn = An at y1 y2 y3 ⊢
        generalize E.points.length = P at y1 y2 y3 c2 ⊢
        have z1 : (Bn : Int) ≤ (P : Int) * (An : Int) := by have := Int.ofNat_le.2 y1; rwa [Int.natCast_mul] at this
        have z2 : (P : Int) * (An : Int) ≤ 1152921504606846976 := by have := Int.ofNat_le.2 y2; rwa [Int.natCast_mul] at this
        have z3 : 0 ≤ (P : Int) * (An : Int) := by rw [← Int.natCast_mul]; omega
        have z4 := IntWalk.i64_in ((P : Int) * (An : Int)) (by omega)
        clear y1 y2 y3
        go_wp2_with fail
        go_ret
        exact ⟨rfl, FB11.out.bel⟩
end Go.Proofs.YtpodijlhlgbbdaaDoor
