/- GapsEven: a point that comes every n ticks keeps a gap to itself from n to n, and no other one. -/
import Derived.Test.YtpodijlhlgbbdaaGapsR
namespace Go.Proofs.Ytpodijlhlgbbdaa
open Go.RowKit
set_option linter.unusedVariables false

theorem slOf_alloc (w : World) (l : List Value) (t : TypeId) (sz n : Nat) (hl : l.length = n * sz) (hn : n ≤ maxLen) : SlOf (· = w.heap.size) (w.alloc (.cells l.toArray t)) (.slice (some ⟨w.heap.size, 0, none⟩) n n) sz l n := by
  refine ⟨hl, _, _, rfl, Nat.le_refl _, hn, (fun h => by cases h), fun _ => ⟨w.heap.size, 0, rfl, rfl, by simp, fun k u hu => ?_⟩⟩
  have := new_cells w l t k u hu
  rwa [addr_add] at this

theorem gapsNew_one (x : GapV) (w : World) (nm vp ve vf vl : Value) (tol cnt mn mx : Int) :
    Calls Try.prog 16 #[.agg #[nm, .int .i64 tol, vp, .int .i64 cnt, .int .i64 mn, .int .i64 mx, .slice (some ⟨w.heap.size, 0, none⟩) 1 1, ve, vf, vl]] (w.alloc (.cells #[.int .i64 x.fr, .int .i64 x.dst, .int .i64 x.mn, .int .i64 x.mx] 45)) fun e w' =>
      ∃ g ro, e = .returned (.pointer (some ⟨g, 0, none⟩)) ∧ w.heap.size ≤ g ∧ (∀ b, ro = some b → g < b) ∧ GapsAt (g + 1) ro w' g [gs0 x] false ∧ Below w.heap.size w w' := by
  have hs := slOf_alloc w (gapCells x) 45 4 1 rfl (by decide)
  have hs' : SlOf (· = w.heap.size) (w.alloc (.cells (gapCells x).toArray 45)) (.slice (some ⟨w.heap.size, 0, none⟩) [x].length 1) 4 ([x].flatMap gapCells) [x].length := by simpa using hs
  refine (gapsNew_any _ nm vp ve vf vl tol cnt mn mx [x] _ _ _ hs' (fun b hb => by simp [hb]) (by simp)).mono ?_
  rintro e w' ⟨rfl, ⟨ro, h2⟩, h3⟩
  refine ⟨_, ro, rfl, ?_, (fun b hb => by have := (h2.lt.2.2 b hb).1; omega), h2, ((Below.refl _ _).alloc (Nat.le_refl _) _).trans (h3.mono (by simp))⟩
  simp; omega

set_option maxHeartbeats 400000 in
theorem spaced_any (w : World) : Calls Try.prog 15 #[] w fun e w' => e = .returned (.bool true) ∧ Below w.heap.size w w' := by
  go_enter Try.func15, Try.ntmps15
  go_wp2_with fail
  refine (gapsNew_one ⟨0, 1, 5, 6⟩ w _ _ _ _ _ _ _ _ _).mono ?_
  rintro e w1 ⟨g, ro, rfl, hg, hro, h1, b1⟩
  have H1 := Lib.hid h1; clear h1
  have HRO := Lib.hid hro; clear hro
  go_wp2_with fail
  refine (gapsReport_any (g + 1) ro g _ _ _ _ _ H1.out (by decide) (by decide) (by intro x hx; simp at hx; subst hx; decide) (by decide)).mono ?_
  rintro e w2 ⟨rfl, h2, k2, o2, l2⟩
  have H2 := Lib.hid h2; have O2 := Lib.hid o2; have L2 := Lib.hid l2; clear h2 o2 l2
  go_wp2_with fail
  refine (gapsReport_any (g + 1) ro g _ _ _ _ _ H2.out (by decide) (by decide) O2.out L2.out).mono ?_
  rintro e w3 ⟨rfl, h3, k3, o3, l3⟩
  have H3 := Lib.hid h3; have O3 := Lib.hid o3; have L3 := Lib.hid l3; clear h3 o3 l3
  go_wp2_with fail
  refine (gapsEnd_any (g + 1) ro g _ _ _ H3.out).mono ?_
  rintro e w4 ⟨rfl, h4, k4⟩
  rw [show (!(false || List.any [gs0 ⟨0, 1, 5, 6⟩] (gsBad · 0 10) || List.any (List.map (gsStep · 0 10) [gs0 ⟨0, 1, 5, 6⟩]) (gsBad · 1 14))) = false from by decide]
  have H4 := Lib.hid h4; clear h4
  go_wp2_with fail
  refine (gapsReport_any (g + 1) ro g _ _ _ _ _ H4.out (by decide) (by decide) O3.out L3.out).mono ?_
  rintro e w5 ⟨rfl, h5, k5, o5, l5⟩
  have H5 := Lib.hid h5; clear h5 o5 l5
  go_wp2_with fail
  refine (gapsEnd_any (g + 1) ro g _ _ _ H5.out).mono ?_
  rintro e w6 ⟨rfl, h6, k6⟩
  rw [show (!(false || List.any (List.map (gsStep · 1 14) (List.map (gsStep · 0 10) [gs0 ⟨0, 1, 5, 6⟩])) (gsBad · 1 15))) = true from by decide]
  go_wp2_with fail
  go_ret
  exact ⟨rfl, b1.trans (((((k2.trans k3).trans k4).trans k5).trans k6).below b1.size (fun b hb => by rcases hb with hb | hb; (omega); (have := HRO.out b hb; omega)))⟩

/-- The one gap behind its latest report. -/
def evenL (mn mx s : Int) : List GapS := [⟨⟨0, 0, mn, mx⟩, s, true⟩]

set_option maxHeartbeats 1000000 in
theorem gapsEven_in (n mn mx times : Int) (w : World) (h1 : 0 ≤ n) (h2 : n ≤ 1000) (h3 : 0 ≤ mn) (h4 : mn ≤ mx) (h5 : mx ≤ 1000) (h6 : 2 ≤ times) (h7 : times ≤ 50) :
    Calls Try.prog 5 #[.int .i64 n, .int .i64 mn, .int .i64 mx, .int .i64 times] w fun e w' => e = .returned (.bool true) ∧ Below w.heap.size w w' := by
  go_enter Try.func5, Try.ntmps5
  go_wp2_with fail
  refine (spaced_any _).mono ?_
  rintro e w1 ⟨rfl, b1⟩
  go_wp2_with fail
  refine (gapsNew_one ⟨0, 0, mn, mx⟩ w1 _ _ _ _ _ _ _ _ _).mono ?_
  rintro e w2 ⟨g, ro, rfl, hg, hro, h2', b2⟩
  have bb2 := b1.trans (b2.mono b1.size)
  have hgw := Nat.le_trans b1.size hg
  have H2 := Lib.hid h2'; clear h2' b2 b1 hg
  have HRO := Lib.hid hro; clear hro
  go_wp2_with fail
  refine (gapsReport_any (g + 1) ro g _ _ _ _ _ H2.out (by decide) (by decide) (by intro x hx; simp at hx; subst hx; simp [gs0]) (by simp)).mono ?_
  rintro e w3 ⟨rfl, h3', k3, o3, l3⟩
  have e3 : List.map (gsStep · 0 0) [gs0 ⟨0, 0, mn, mx⟩] = evenL mn mx 0 := by simp [gsStep, gs0, evenL]
  have e3b : (false || List.any [gs0 ⟨0, 0, mn, mx⟩] (gsBad · 0 0)) = true := by simp [gsBad, gs0]
  rw [e3, e3b] at h3'
  have H3 := Lib.hid h3'; clear h3' o3 l3 e3 e3b
  go_wp2_with fail
  refine (gapsEnd_any (g + 1) ro g _ _ _ H3.out).mono ?_
  rintro e w4 ⟨rfl, h4', k4⟩
  have bb4 := bb2.trans ((k3.trans k4).below bb2.size (fun b hb => by rcases hb with hb | hb; (omega); (have := HRO.out b hb; omega)))
  have H4 := Lib.hid h4'; clear h4' k3 k4 bb2 H2 H3
  go_wp2_with fail
  go_loopw [11] (fun s wr => ∃ k : Nat, 1 ≤ k ∧ (k : Int) ≤ times ∧ s = .int .i64 k ∧ Below w.heap.size w wr ∧ Hid (GapsAt (g + 1) ro wr g (evenL mn mx ((k - 1 : Int) * n)) false)) (fun s _ => (times - intOf s).toNat)
  case atStart => exact ⟨1, by omega, by omega, rfl, bb4, by simpa using H4⟩
  case round =>
    obtain ⟨k, hk1, hk, rfl, hb, hh⟩ := hrel
    clear H4 bb4
    by_cases hlt : (k : Int) < times
    · have m0 : 0 ≤ (k : Int) * n := Int.mul_nonneg (by omega) h1
      have m1 : (k : Int) * n ≤ 50 * 1000 := Int.mul_le_mul (by omega) h2 h1 (by omega)
      have p0 : 0 ≤ (k - 1 : Int) * n := Int.mul_nonneg (by omega) h1
      have pe : (k : Int) * n = (k - 1 : Int) * n + n := by rw [Int.sub_mul, Int.one_mul]; omega
      have PE := Lib.hid pe
      clear pe
      go_wp2_with fail
      refine (gapsReport_any (g + 1) ro g _ _ _ _ _ hh.out m0 (by omega) (by intro x hx; simp [evenL] at hx; subst hx; exact ⟨p0, by have := PE.out; simp only; omega⟩) (by simp [evenL])).mono ?_
      rintro e w5 ⟨rfl, h5', k5, o5, l5⟩
      have e5 : List.map (gsStep · 0 ((k : Int) * n)) (evenL mn mx ((k - 1 : Int) * n)) = evenL mn mx ((k : Int) * n) := by simp [gsStep, evenL]
      rw [e5] at h5'
      have H5 := Lib.hid h5'; clear h5' o5 l5 e5
      go_wp2_with fail
      refine (gapsEnd_any (g + 1) ro g _ _ _ H5.out).mono ?_
      rintro e w6 ⟨rfl, h6', k6⟩
      have hb6 := hb.trans ((k5.trans k6).below hb.size (fun b hb => by rcases hb with hb | hb; (omega); (have := HRO.out b hb; omega)))
      have H6 := Lib.hid h6'
      clear h6' k5 k6 H5
      have hkn : ((k + 1 : Nat) - 1 : Int) = k := by omega
      by_cases hm : mn ≤ n
      · by_cases hm2 : n ≤ mx
        · have e6 : (!(false || List.any (evenL mn mx ((k - 1 : Int) * n)) (gsBad · 0 ((k : Int) * n)))) = true := by
            have := gsBad_ok (x := ⟨⟨0, 0, mn, mx⟩, (k - 1 : Int) * n, true⟩) (p := 0) (t := (k : Int) * n) rfl rfl (by have := PE.out; simp only; omega) (by have := PE.out; simp only; omega)
            simp [evenL, this]
          rw [e6]
          clear e6
          have HK := Lib.hid hkn
          clear hkn
          go_wp2_with fail
          go_roundw
          case rel => exact ⟨k + 1, by omega, by omega, by go_num, hb6, by rw [HK.out]; exact H6⟩
          case measure => simp [intOf]; omega
        · have e6 : (!(false || List.any (evenL mn mx ((k - 1 : Int) * n)) (gsBad · 0 ((k : Int) * n)))) = false := by
            have := gsBad_hi (x := ⟨⟨0, 0, mn, mx⟩, (k - 1 : Int) * n, true⟩) (p := 0) (t := (k : Int) * n) rfl (by have := PE.out; simp only; omega)
            simp [evenL, this]
          rw [e6]
          clear e6
          have HK := Lib.hid hkn
          clear hkn
          go_wp2_with fail
          go_roundw
          case rel => exact ⟨k + 1, by omega, by omega, by go_num, hb6, by rw [HK.out]; exact H6⟩
          case measure => simp [intOf]; omega
      · have e6 : (!(false || List.any (evenL mn mx ((k - 1 : Int) * n)) (gsBad · 0 ((k : Int) * n)))) = false := by
          have := gsBad_lo (x := ⟨⟨0, 0, mn, mx⟩, (k - 1 : Int) * n, true⟩) (p := 0) (t := (k : Int) * n) rfl (by have := PE.out; simp only; omega)
          simp [evenL, this]
        rw [e6]
        clear e6
        have HK := Lib.hid hkn
        clear hkn
        go_wp2_with fail
        go_roundw
        case rel => exact ⟨k + 1, by omega, by omega, by go_num, hb6, by rw [HK.out]; exact H6⟩
        case measure => simp [intOf]; omega
    · go_wp2_with fail
      go_ret
      exact ⟨rfl, hb⟩
set_option maxHeartbeats 1000000 in
theorem gapsEven_out (n mn mx times : Int) (w : World) (h : n < 0 ∨ 1000 < n ∨ mn < 0 ∨ mx < mn ∨ 1000 < mx ∨ times < 2 ∨ 50 < times) :
    Calls Try.prog 5 #[.int .i64 n, .int .i64 mn, .int .i64 mx, .int .i64 times] w fun e w' => e = .returned (.bool true) ∧ Below w.heap.size w w' := by
  go_enter Try.func5, Try.ntmps5
  go_wp2_with fail
  refine (spaced_any _).mono ?_
  rintro e w1 ⟨rfl, b1⟩
  by_cases h31 : n < 0
  · clear h
    go_wp2_with fail
    go_ret
    exact ⟨rfl, b1⟩
  by_cases h225 : 1000 < n
  · clear h
    go_wp2_with fail
    go_ret
    exact ⟨rfl, b1⟩
  by_cases h184 : mn < 0
  · clear h
    go_wp2_with fail
    go_ret
    exact ⟨rfl, b1⟩
  by_cases h725 : mx < mn
  · clear h
    go_wp2_with fail
    go_ret
    exact ⟨rfl, b1⟩
  by_cases h478 : 1000 < mx
  · clear h
    go_wp2_with fail
    go_ret
    exact ⟨rfl, b1⟩
  by_cases h994 : times < 2
  · clear h
    go_wp2_with fail
    go_ret
    exact ⟨rfl, b1⟩
  have h7 : 50 < times := by omega
  clear h
  go_wp2_with fail
  go_ret
  exact ⟨rfl, b1⟩
theorem gapsEven_any (n mn mx times : Int) (w : World) :
    Calls Try.prog 5 #[.int .i64 n, .int .i64 mn, .int .i64 mx, .int .i64 times] w fun e w' => e = .returned (.bool true) ∧ Below w.heap.size w w' := by
  by_cases h : n < 0 ∨ 1000 < n ∨ mn < 0 ∨ mx < mn ∨ 1000 < mx ∨ times < 2 ∨ 50 < times
  · exact gapsEven_out n mn mx times w h
  · exact gapsEven_in n mn mx times w (by omega) (by omega) (by omega) (by omega) (by omega) (by omega) (by omega)
end Go.Proofs.Ytpodijlhlgbbdaa
