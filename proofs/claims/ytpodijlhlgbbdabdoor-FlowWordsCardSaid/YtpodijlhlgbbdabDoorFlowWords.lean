/- FlowWords: how many rows are well. -/
import Derived.Test.YtpodijlhlgbbdabDoorOrdered
import Derived.Test.YtpodijlhlgbbdabDoorWords
import Derived.Test.YtpodijlhlgbbdabDoorRowsOf
import Derived.Test.YtpodijlhlgbbdabDoorSents
namespace Go.Proofs.YtpodijlhlgbbdabDoor
open Go.RowKit
set_option linter.unusedVariables false

theorem allW_onw (E : EntV) (n : Nat) : allW E n = onw E n (-1) := allWays_onward (flowMay E) (flowThen E) E.points.length (flowThen_places E) n

set_option maxRecDepth 100000 in
set_option maxHeartbeats 4000000 in
theorem words_out (B : Nat) (sa : Nat → Addr) (E : EntV) (pa ga ea fa la : Option Addr) (pc gc ec fc lc : Nat) (n : Int) (w : World) (hS : Sents B sa w) (hbad : n < 0 ∨ 15 < n ∨ 16 < E.points.length) :
    Calls Tryd.prog 51 #[.agg #[.string E.name, .int .i64 E.tol, .slice pa E.points.length pc, .int .i64 E.count, .int .i64 E.mn, .int .i64 E.mx, .slice ga E.gaps.length gc, .slice ea E.edges.length ec, .slice fa E.first.length fc, .slice la E.last.length lc], .int .i64 n] w fun e w' => e = .returned (.tuple #[.int .i64 0, errv sa 2]) ∧ Below w.heap.size w w' := by
  have ba : Below w.heap.size w (w.alloc (.cells #[.string E.name, .int .i64 E.tol, .slice pa E.points.length pc, .int .i64 E.count, .int .i64 E.mn, .int .i64 E.mx, .slice ga E.gaps.length gc, .slice ea E.edges.length ec, .slice fa E.first.length fc, .slice la E.last.length lc] 73)) := (Below.refl _ _).alloc (Nat.le_refl _) _
  obtain ⟨g0, g1, g2, g3, g4, g5, g6, g7, g8, g9, g10⟩ := (hS.below ba).all
  obtain ⟨c0, c1, c2, c3, c4, c5, c6, c7, c8, c9, cf⟩ := ten_cells (get_alloc_new w (.cells #[.string E.name, .int .i64 E.tol, .slice pa E.points.length pc, .int .i64 E.count, .int .i64 E.mn, .int .i64 E.mx, .slice ga E.gaps.length gc, .slice ea E.edges.length ec, .slice fa E.first.length fc, .slice la E.last.length lc] 73))
  clear hS g0 g2 g3 g4 g5 g6 g7 g8 g9 g10 c0 c1 c3 c4 c5 c6 c7 c8 c9
  by_cases h1 : n < 0
  · clear hbad
    go_enter Tryd.func51, Tryd.ntmps51
    go_wp2_with fail
    go_quiet (fail)
    go_wp2_with fail
    go_ret2
    exact ⟨rfl, below_drewN' _ ba⟩
  by_cases h2 : 15 < n
  · clear hbad
    go_enter Tryd.func51, Tryd.ntmps51
    go_wp2_with fail
    go_quiet (fail)
    go_wp2_with fail
    go_ret2
    exact ⟨rfl, below_drewN' _ ba⟩
  · have h3 : 16 < E.points.length := by omega
    clear hbad
    go_enter Tryd.func51, Tryd.ntmps51
    go_wp2_with fail
    go_quiet (fail)
    go_wp2_with fail
    go_ret2
    exact ⟨rfl, below_drewN' _ ba⟩

set_option maxRecDepth 100000 in
set_option maxHeartbeats 4000000 in
theorem flowWords_any (B : Nat) (sa : Nat → Addr) (E : EntV) (n : Int) (vp vg ve vf vl : Value) (w : World) (hS : Sents B sa w) (h : EntSl (· < w.heap.size) w E vp vg ve vf vl) :
    Calls Tryd.prog 9 #[.agg (entCs E vp vg ve vf vl), .int .i64 n] w fun e w' => e = .returned (.bool true) ∧ Below w.heap.size w w' := by
  obtain ⟨pa, pc, rfl⟩ := h.p.val
  obtain ⟨ga, gc, rfl⟩ := h.g.val
  obtain ⟨ea, ec, rfl⟩ := h.e.val
  obtain ⟨fa, fc, rfl⟩ := h.f.val
  obtain ⟨la, lc, rfl⟩ := h.l.val
  have H := Lib.hid h
  have HS := Lib.hid hS
  clear h hS
  unfold entCs
  go_enter Tryd.func9, Tryd.ntmps9
  go_wp2_with fail
  refine (ordered_any _).mono ?_
  rintro e w1 ⟨rfl, b1⟩
  obtain ⟨bb1, hx1⟩ := box_below b1
  clear b1
  have HX1 := Lib.hid hx1
  obtain ⟨c0, c1, c2, c3, c4, c5, c6, c7, c8, c9, cf⟩ := ten_cells hx1
  clear hx1 cf
  go_wp2_with fail
  refine (heavyEntity_x E _ _ _ _ _ _ _ _ _ _ w w1 H.out bb1).mono ?_
  rintro e w2 ⟨rfl, b2⟩
  have bb2 := bb1.trans (b2.mono bb1.size)
  have hx2 := below_get b2 HX1.out (lt_of_get HX1.out)
  clear c0 c1 c2 c3 c4 c5 c6 c7 c8 c9 HX1 b2
  by_cases hH : Heavy E
  · rw [heavyN_pos hH]
    go_wp2_with fail
    go_ret
    exact ⟨rfl, bb2⟩
  rw [heavyN_neg hH]
  have HX2 := Lib.hid hx2
  obtain ⟨c0, c1, c2, c3, c4, c5, c6, c7, c8, c9, cf⟩ := ten_cells hx2
  clear hx2 cf
  have lg := light_of hH
  have HH := Lib.hid hH
  clear hH
  go_wp2_with fail
  refine (ownEntity_x E _ _ _ _ _ _ _ _ _ _ w w2 H.out bb2 HH.out).mono ?_
  rintro e w3 ⟨_, _, _, _, _, _, _, _, _, _, rfl, hs3, b3⟩
  have bb3 := bb2.trans (b3.mono bb2.size)
  have hx3 := below_get b3 HX2.out (lt_of_get HX2.out)
  have hs3' : EntSl (· < w3.heap.size) w3 E _ _ _ _ _ := ⟨hs3.p.here, hs3.g.here, hs3.e.here, hs3.f.here, hs3.l.here⟩
  have HS3 := Lib.hid hs3'
  have HX3 := Lib.hid hx3
  have S3 := Lib.hid (HS.out.below bb3)
  clear c0 c1 c2 c3 c4 c5 c6 c7 c8 c9 HX2 b3 hs3 hs3' hx3
  by_cases hbad : n < 0 ∨ 15 < n ∨ 16 < E.points.length
  · go_wp2_with fail
    refine (words_out B sa E _ _ _ _ _ _ _ _ _ _ n w3 S3.out hbad).mono ?_
    rintro e w4 ⟨rfl, b4⟩
    have bb4 := bb3.trans (b4.mono bb3.size)
    have hx4 := below_get b4 HX3.out (lt_of_get HX3.out)
    obtain ⟨c0, c1, c2, c3, c4, c5, c6, c7, c8, c9, cf⟩ := ten_cells hx4
    have S4 := Lib.hid (S3.out.below b4)
    by_cases h1 : n < 0
    · clear hbad
      go_wp2_with fail
      refine (coded2_any B sa 2 (by decide) 2 w4 S4.out).mono ?_
      rintro e w5 ⟨rfl, b5⟩
      go_wp2_with fail
      go_ret
      exact ⟨rfl, bb4.trans (b5.mono bb4.size)⟩
    by_cases h2 : 15 < n
    · clear hbad
      go_wp2_with fail
      refine (coded2_any B sa 2 (by decide) 2 w4 S4.out).mono ?_
      rintro e w5 ⟨rfl, b5⟩
      go_wp2_with fail
      go_ret
      exact ⟨rfl, bb4.trans (b5.mono bb4.size)⟩
    · have h3 : 16 < E.points.length := by omega
      clear hbad
      go_wp2_with fail
      refine (coded2_any B sa 2 (by decide) 2 w4 S4.out).mono ?_
      rintro e w5 ⟨rfl, b5⟩
      go_wp2_with fail
      go_ret
      exact ⟨rfl, bb4.trans (b5.mono bb4.size)⟩
  · have h1 : ¬ n < 0 := by omega
    have h2 : ¬ 15 < n := by omega
    have h3 : E.points.length ≤ 16 := by omega
    obtain ⟨nn, rfl⟩ : ∃ nn : Nat, n = nn := ⟨n.toNat, by omega⟩
    clear hbad
    go_wp2_with fail
    refine (words_any (· < w3.heap.size) E _ _ _ _ _ nn w3 HS3.out (fun b h => h) lg h3 (by omega)).mono ?_
    rintro e w4 ⟨rfl, b4⟩
    have bb4 := bb3.trans (b4.mono bb3.size)
    have hx4 := below_get b4 HX3.out (lt_of_get HX3.out)
    have HB4 := Lib.hid bb4
    obtain ⟨c0, c1, c2, c3, c4, c5, c6, c7, c8, c9, cf⟩ := ten_cells hx4
    rw [allW_onw]
    go_wp2_with fail
    refine (rowsOf_any (· < w.heap.size) E _ _ _ _ _ nn w4 (H.out.below bb4 (fun _ h => h)) (fun b h => Nat.lt_of_lt_of_le h bb4.size) lg h3 (by omega)).mono ?_
    rintro e w5 ⟨rfl, b5⟩
    go_wp2_with fail
    go_ret
    exact ⟨ret_bool (by simp), bb4.trans (b5.mono bb4.size)⟩
end Go.Proofs.YtpodijlhlgbbdabDoor
