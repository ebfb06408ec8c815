/- The document's ConfigFault. -/
import Derived.Test.YtakjbjokekbmbaaGreatDoorR25
import Derived.Test.YtakjbjokekbmbaaGreatDoorR18
namespace Go.Proofs.YtakjbjokekbmbaaGreatDoor
open Go.RowKit
set_option linter.unusedVariables false

theorem two_set {w : World} {q : Nat} {c0 c1 : Value} {t : TypeId} (h : w.heap[q]? = some (.cells #[c0, c1] t)) (a b : Value) : ((w.setCell ⟨q, 0, none⟩ a).setCell ⟨q, 1, none⟩ b).heap[q]? = some (.cells #[a, b] t) := by
  rw [get_setCell _ (get_setCell _ h)]
  simp
theorem two_keep (w : World) (q : Nat) (a b : Value) : Keep (· = q) w ((w.setCell ⟨q, 0, none⟩ a).setCell ⟨q, 1, none⟩ b) := keep_more (keep_set _ _ _ _) _ _
theorem below_two {w w1 : World} {q : Nat} (h : Below w.heap.size w w1) (hq : w.heap.size ≤ q) (a b : Value) : Below w.heap.size w ((w1.setCell ⟨q, 0, none⟩ a).setCell ⟨q, 1, none⟩ b) :=
  h.trans ((two_keep w1 q a b).below h.size (fun k hk => by omega))
theorem rBare_any (n : Int) (w : World) : Calls Tryz.prog 28 #[.int .i64 n] w fun e w' => e = .returned (.agg #[.int .i64 n, .int .i64 (-1)]) ∧ Below w.heap.size w w' := by
  have hxa := get_alloc_new w (.cells #[.int .i64 0, .int .i64 0] 29)
  have hba : Below w.heap.size w (w.alloc (.cells #[.int .i64 0, .int .i64 0] 29)) := (Below.refl _ _).alloc (Nat.le_refl _) _
  go_enter Tryz.func28, Tryz.ntmps28
  go_upto_region 1 with fail
  generalize w.alloc _ = w1 at hxa hba ⊢
  obtain ⟨z0, z1, zf⟩ := two_cells hxa
  clear hxa
  go_wp2_with fail
  refine bodyPost_ret (v := .agg #[.int .i64 n, .int .i64 (-1)]) (by simp [results, Tryz.results28, go_sem, z0, z1, World.cell?_setCell_same, World.cell?_setCell_other]) rfl ?_
  exact ⟨rfl, below_two hba (Nat.le_refl _) _ _⟩
theorem rFine_any (w : World) : Calls Tryz.prog 30 #[] w fun e w' => e = .returned (.agg #[.int .i64 0, .int .i64 (-1)]) ∧ Below w.heap.size w w' := by
  have hxa := get_alloc_new w (.cells #[.int .i64 0, .int .i64 0] 29)
  have hba : Below w.heap.size w (w.alloc (.cells #[.int .i64 0, .int .i64 0] 29)) := (Below.refl _ _).alloc (Nat.le_refl _) _
  go_enter Tryz.func30, Tryz.ntmps30
  go_upto_region 1 with fail
  generalize w.alloc _ = w1 at hxa hba ⊢
  obtain ⟨z0, z1, zf⟩ := two_cells hxa
  clear hxa
  go_wp2_with fail
  refine bodyPost_ret (v := .agg #[.int .i64 0, .int .i64 (-1)]) (by simp [results, Tryz.results30, go_sem, z0, z1, World.cell?_setCell_same, World.cell?_setCell_other]) rfl ?_
  exact ⟨rfl, below_two hba (Nat.le_refl _) _ _⟩
def faultV (f : Nat × Int) : Value := .agg #[.int .i64 f.1, .int .i64 f.2]
theorem faultV_of {f : Nat × Int} {c : Nat} {i : Int} (h : f = (c, i)) : Ending.returned (.agg #[.int .i64 (c : Int), .int .i64 i]) = .returned (faultV f) := by rw [h]; rfl
/-- The end: a fault stored into the result's cells. -/
theorem fault_end {w w1 : World} {q : Nat} {c0 c1 : Value} {t : TypeId} (hx : w1.heap[q]? = some (.cells #[c0, c1] t)) (hq : w.heap.size ≤ q) (hb : Below w.heap.size w w1) (a b : Value) :
    ((w1.setCell ⟨q, 0, none⟩ a).setCell ⟨q, 1, none⟩ b).cell? ⟨q, 0, none⟩ = some a ∧ ((w1.setCell ⟨q, 0, none⟩ a).setCell ⟨q, 1, none⟩ b).cell? ⟨q, 1, none⟩ = some b ∧ Below w.heap.size w ((w1.setCell ⟨q, 0, none⟩ a).setCell ⟨q, 1, none⟩ b) := by
  have := two_cells (two_set hx a b)
  exact ⟨this.1, this.2.1, below_two hb hq _ _⟩
set_option maxRecDepth 100000 in
set_option maxHeartbeats 4000000 in
theorem rConfigFault_any (R : Nat → Prop) (C : ConfV) (v : Value) (X : List EntX) (w : World) (h : ConfSl R w C v X) (hR : ∀ b, R b → b < w.heap.size) :
    Calls Tryz.prog 7 #[.agg (confCs C v)] w fun e w' => e = .returned (faultV (confF C)) ∧ Below w.heap.size w w' := by
  obtain ⟨ao, cap, rfl⟩ := h.sl.row.val
  obtain ⟨hc1, hc2⟩ := h.sl.row.capB
  have hlen : C.ents.length = X.length := by rw [h.eq, List.length_map]
  have hXl := h.len
  have H := Lib.hid h
  have HRw := Lib.hid hR
  have hxa := get_alloc_new w (.cells (confCs C (.slice ao X.length cap)) 24)
  have hba : Below w.heap.size w (w.alloc (.cells (confCs C (.slice ao X.length cap)) 24)) := (Below.refl _ _).alloc (Nat.le_refl _) _
  obtain ⟨w1, hw1⟩ : ∃ w1, w1 = w.alloc (.cells (confCs C (.slice ao X.length cap)) 24) := ⟨_, rfl⟩
  rw [← hw1] at hxa hba
  have hxr := get_alloc_new w1 (.cells #[.int .i64 0, .int .i64 0] 29)
  have hbr : Below w1.heap.size w1 (w1.alloc (.cells #[.int .i64 0, .int .i64 0] 29)) := (Below.refl _ _).alloc (Nat.le_refl _) _
  have hsz1 : w1.heap.size = w.heap.size + 1 := by rw [hw1]; simp
  clear h hR
  unfold confCs at hw1 ⊢
  go_enter Tryz.func7, Tryz.ntmps7
  go_upto_region 1 with fail
  rw [← hw1]
  generalize w1.alloc _ = w2 at hxr hbr ⊢
  rw [hsz1] at hxr
  obtain ⟨rb, hrb⟩ : ∃ rb, rb = w.heap.size + 1 := ⟨_, rfl⟩
  have HQ := Lib.hid (show w.heap.size ≤ rb from by omega)
  have hne : ¬ rb = w.heap.size := by omega
  rw [← hrb] at hxr ⊢
  have HX2 := Lib.hid hxr
  have HXA := Lib.hid (below_get hbr hxa (lt_of_get hxa))
  have HB2 := Lib.hid (hba.trans (hbr.mono hba.size))
  obtain ⟨c0, c1, c2, c3, c4⟩ := conf_cells HXA.out
  have HBr := Lib.hid (rBare_any 2 w2)
  clear hxa hba hxr hbr hrb hw1 hsz1
  by_cases h1 : C.closed < 0
  · have HT := Lib.hid (show confF C = (2, -1) from if_pos (decide_eq_true (by omega)))
    go_wp2_with fail
    refine HBr.out.mono ?_
    rintro e w3 ⟨rfl, b3⟩
    have hx3 := below_get b3 HX2.out (lt_of_get HX2.out)
    obtain ⟨z0, z1, zf⟩ := two_cells hx3
    clear hx3
    go_wp2_with fail
    refine bodyPost_ret (v := .agg #[.int .i64 2, .int .i64 (-1)]) (by simp [results, Tryz.results7, go_sem, z0, z1, World.cell?_setCell_same, World.cell?_setCell_other]) rfl ?_
    exact ⟨faultV_of HT.out, below_two (HB2.out.trans (b3.mono HB2.out.size)) HQ.out _ _⟩
  by_cases h2 : 1000 < C.closed
  · have HT := Lib.hid (show confF C = (2, -1) from if_pos (decide_eq_true (by omega)))
    go_wp2_with fail
    refine HBr.out.mono ?_
    rintro e w3 ⟨rfl, b3⟩
    have hx3 := below_get b3 HX2.out (lt_of_get HX2.out)
    obtain ⟨z0, z1, zf⟩ := two_cells hx3
    clear hx3
    go_wp2_with fail
    refine bodyPost_ret (v := .agg #[.int .i64 2, .int .i64 (-1)]) (by simp [results, Tryz.results7, go_sem, z0, z1, World.cell?_setCell_same, World.cell?_setCell_other]) rfl ?_
    exact ⟨faultV_of HT.out, below_two (HB2.out.trans (b3.mono HB2.out.size)) HQ.out _ _⟩
  by_cases h3 : C.opn < 1
  · have HT := Lib.hid (show confF C = (2, -1) from if_pos (decide_eq_true (by omega)))
    go_wp2_with fail
    refine HBr.out.mono ?_
    rintro e w3 ⟨rfl, b3⟩
    have hx3 := below_get b3 HX2.out (lt_of_get HX2.out)
    obtain ⟨z0, z1, zf⟩ := two_cells hx3
    clear hx3
    go_wp2_with fail
    refine bodyPost_ret (v := .agg #[.int .i64 2, .int .i64 (-1)]) (by simp [results, Tryz.results7, go_sem, z0, z1, World.cell?_setCell_same, World.cell?_setCell_other]) rfl ?_
    exact ⟨faultV_of HT.out, below_two (HB2.out.trans (b3.mono HB2.out.size)) HQ.out _ _⟩
  by_cases h4 : 1000 < C.opn
  · have HT := Lib.hid (show confF C = (2, -1) from if_pos (decide_eq_true (by omega)))
    go_wp2_with fail
    refine HBr.out.mono ?_
    rintro e w3 ⟨rfl, b3⟩
    have hx3 := below_get b3 HX2.out (lt_of_get HX2.out)
    obtain ⟨z0, z1, zf⟩ := two_cells hx3
    clear hx3
    go_wp2_with fail
    refine bodyPost_ret (v := .agg #[.int .i64 2, .int .i64 (-1)]) (by simp [results, Tryz.results7, go_sem, z0, z1, World.cell?_setCell_same, World.cell?_setCell_other]) rfl ?_
    exact ⟨faultV_of HT.out, below_two (HB2.out.trans (b3.mono HB2.out.size)) HQ.out _ _⟩
  by_cases h5 : C.cycle < 1
  · have HT := Lib.hid (show confF C = (2, -1) from if_pos (decide_eq_true (by omega)))
    go_wp2_with fail
    refine HBr.out.mono ?_
    rintro e w3 ⟨rfl, b3⟩
    have hx3 := below_get b3 HX2.out (lt_of_get HX2.out)
    obtain ⟨z0, z1, zf⟩ := two_cells hx3
    clear hx3
    go_wp2_with fail
    refine bodyPost_ret (v := .agg #[.int .i64 2, .int .i64 (-1)]) (by simp [results, Tryz.results7, go_sem, z0, z1, World.cell?_setCell_same, World.cell?_setCell_other]) rfl ?_
    exact ⟨faultV_of HT.out, below_two (HB2.out.trans (b3.mono HB2.out.size)) HQ.out _ _⟩
  by_cases h6 : 100 < C.cycle
  · have HT := Lib.hid (show confF C = (2, -1) from if_pos (decide_eq_true (by omega)))
    go_wp2_with fail
    refine HBr.out.mono ?_
    rintro e w3 ⟨rfl, b3⟩
    have hx3 := below_get b3 HX2.out (lt_of_get HX2.out)
    obtain ⟨z0, z1, zf⟩ := two_cells hx3
    clear hx3
    go_wp2_with fail
    refine bodyPost_ret (v := .agg #[.int .i64 2, .int .i64 (-1)]) (by simp [results, Tryz.results7, go_sem, z0, z1, World.cell?_setCell_same, World.cell?_setCell_other]) rfl ?_
    exact ⟨faultV_of HT.out, below_two (HB2.out.trans (b3.mono HB2.out.size)) HQ.out _ _⟩
  by_cases h7 : C.delay < 0
  · have HT := Lib.hid (show confF C = (2, -1) from if_pos (decide_eq_true (by omega)))
    go_wp2_with fail
    refine HBr.out.mono ?_
    rintro e w3 ⟨rfl, b3⟩
    have hx3 := below_get b3 HX2.out (lt_of_get HX2.out)
    obtain ⟨z0, z1, zf⟩ := two_cells hx3
    clear hx3
    go_wp2_with fail
    refine bodyPost_ret (v := .agg #[.int .i64 2, .int .i64 (-1)]) (by simp [results, Tryz.results7, go_sem, z0, z1, World.cell?_setCell_same, World.cell?_setCell_other]) rfl ?_
    exact ⟨faultV_of HT.out, below_two (HB2.out.trans (b3.mono HB2.out.size)) HQ.out _ _⟩
  by_cases h8 : 20 < C.delay
  · have HT := Lib.hid (show confF C = (2, -1) from if_pos (decide_eq_true (by omega)))
    go_wp2_with fail
    refine HBr.out.mono ?_
    rintro e w3 ⟨rfl, b3⟩
    have hx3 := below_get b3 HX2.out (lt_of_get HX2.out)
    obtain ⟨z0, z1, zf⟩ := two_cells hx3
    clear hx3
    go_wp2_with fail
    refine bodyPost_ret (v := .agg #[.int .i64 2, .int .i64 (-1)]) (by simp [results, Tryz.results7, go_sem, z0, z1, World.cell?_setCell_same, World.cell?_setCell_other]) rfl ?_
    exact ⟨faultV_of HT.out, below_two (HB2.out.trans (b3.mono HB2.out.size)) HQ.out _ _⟩
  by_cases h9 : (8 : Int) < (X.length : Int)
  · have HT := Lib.hid (show confF C = (2, -1) from if_pos (decide_eq_true (by omega)))
    go_wp2_with fail
    refine HBr.out.mono ?_
    rintro e w3 ⟨rfl, b3⟩
    have hx3 := below_get b3 HX2.out (lt_of_get HX2.out)
    obtain ⟨z0, z1, zf⟩ := two_cells hx3
    clear hx3
    go_wp2_with fail
    refine bodyPost_ret (v := .agg #[.int .i64 2, .int .i64 (-1)]) (by simp [results, Tryz.results7, go_sem, z0, z1, World.cell?_setCell_same, World.cell?_setCell_other]) rfl ?_
    exact ⟨faultV_of HT.out, below_two (HB2.out.trans (b3.mono HB2.out.size)) HQ.out _ _⟩
  have hbd : boundC C = false := decide_eq_false (by omega)
  clear HBr
  by_cases hcy : C.opn < C.cycle
  · have HT := Lib.hid (show confF C = (3, -1) from by unfold confF; rw [if_neg (by rw [hbd]; decide), if_pos hcy])
    have HBr := Lib.hid (rBare_any 3 w2)
    clear hbd
    go_wp2_with fail
    refine HBr.out.mono ?_
    rintro e w3 ⟨rfl, b3⟩
    have hx3 := below_get b3 HX2.out (lt_of_get HX2.out)
    obtain ⟨z0, z1, zf⟩ := two_cells hx3
    clear hx3
    go_wp2_with fail
    refine bodyPost_ret (v := .agg #[.int .i64 3, .int .i64 (-1)]) (by simp [results, Tryz.results7, go_sem, z0, z1, World.cell?_setCell_same, World.cell?_setCell_other]) rfl ?_
    exact ⟨faultV_of HT.out, below_two (HB2.out.trans (b3.mono HB2.out.size)) HQ.out _ _⟩
  have HT := Lib.hid (show confF C = entsF C.ents from by unfold confF; rw [if_neg (by rw [hbd]; decide), if_neg hcy])
  clear hbd
  go_wp2_with fail
  go_loopw [3] (fun s wr => ∃ i : Nat, i ≤ X.length ∧ s = .int .i64 i ∧ Hid (Below w.heap.size w wr) ∧ Hid (wr.heap[w.heap.size]? = some (.cells (confCs C (.slice ao X.length cap)) 24)) ∧ Hid (wr.heap[rb]? = some (.cells #[.int .i64 0, .int .i64 0] 29)) ∧ Hid (∀ j, j < i → entAt C.ents j = 0)) (fun s _ => X.length - (intOf s).toNat)
  case atStart => exact ⟨0, Nat.zero_le _, rfl, HB2, HXA, HX2, fun j h => by omega⟩
  case round =>
    obtain ⟨i, hi, rfl, hbl, hxc, hxr, hall⟩ := hrel
    clear HXA HB2 HX2 c0 c1 c2 c3 c4 h1 h2 h3 h4 h5 h6 h7 h8 h9 hcy
    obtain ⟨c0, c1, c2, c3, c4⟩ := conf_cells hxc.out
    by_cases hlt : i < X.length
    · have HEr := Lib.hid (show entAt C.ents i = entErr ((X.take i).map xName) X[i].E from by
        rw [entAt_at (by omega)]
        simp only [H.out.eq, List.getElem_map, ← List.map_take, List.map_map]
        rfl)
      have HCe := Lib.hid (entErr_any R X (.slice ao X.length cap) i hlt wr (H.out.sl.keep (Keep.of_below hbl.out) (fun b hb hS => by have := HRw.out b hb; omega)) (below_lt2 HRw.out hbl.out) (H.out.small X[i] (List.getElem_mem hlt)) hXl)
      rw [← HEr.out] at HCe
      obtain ⟨er, her⟩ : ∃ er, er = entAt C.ents i := ⟨_, rfl⟩
      rw [← her] at HCe
      have HQ2 := Lib.hid her
      clear HEr her
      go_wp2_with fail
      refine HCe.out.mono ?_
      rintro e w3 ⟨rfl, b3⟩
      have HB3 := Lib.hid (hbl.out.trans (b3.mono hbl.out.size))
      have hx3 := Lib.hid (below_get b3 hxc.out (lt_of_get hxc.out))
      have hr3 := Lib.hid (below_get b3 hxr.out (lt_of_get hxr.out))
      clear b3 HCe c0 c1 c2 c3 c4
      by_cases hz : (0 : Int) < (er : Int)
      · have HT2 := Lib.hid (show entsF C.ents = (er, (i : Int)) from by rw [entsF_hit (by omega) (by rw [← HQ2.out]; omega) hall.out, ← HQ2.out])
        obtain ⟨z0, z1, zf⟩ := two_cells hr3.out
        go_wp2_with fail
        refine bodyPost_ret (v := .agg #[.int .i64 er, .int .i64 i]) (by simp [results, Tryz.results7, go_sem, z0, z1, World.cell?_setCell_same, World.cell?_setCell_other]) rfl ?_
        exact ⟨faultV_of (HT.out.trans HT2.out), below_two HB3.out HQ.out _ _⟩
      · have nx : Hid (∀ j, j < i + 1 → entAt C.ents j = 0) := (show ∀ j, j < i + 1 → entAt C.ents j = 0 from fun j hj => by
          by_cases e : j = i
          · rw [e, ← HQ2.out]; omega
          · exact hall.out j (by omega))
        clear hall
        go_wp2_with fail
        go_roundw
        case rel => exact ⟨i + 1, by omega, by go_num, HB3, hx3, hr3, nx⟩
        case measure => simp [intOf]; omega
    · have HT2 := Lib.hid (entsF_miss (L := C.ents) (fun j hj => hall.out j (by omega)))
      have HBr := Lib.hid (rFine_any wr)
      have HX2 := hxr
      go_wp2_with fail
      refine HBr.out.mono ?_
      rintro e w3 ⟨rfl, b3⟩
      have hx3 := below_get b3 HX2.out (lt_of_get HX2.out)
      obtain ⟨z0, z1, zf⟩ := two_cells hx3
      clear hx3
      go_wp2_with fail
      refine bodyPost_ret (v := .agg #[.int .i64 0, .int .i64 (-1)]) (by simp [results, Tryz.results7, go_sem, z0, z1, World.cell?_setCell_same, World.cell?_setCell_other]) rfl ?_
      exact ⟨faultV_of (HT.out.trans HT2.out), below_two (hbl.out.trans (b3.mono hbl.out.size)) HQ.out _ _⟩
end Go.Proofs.YtakjbjokekbmbaaGreatDoor
