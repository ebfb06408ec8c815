/- Package conf: twice; points; a slice's beginning. -/
import Derived.Test.YtgdaljpimblkgaaGreatDoorR09
import Derived.Deep.RegionHeld3
namespace Go.Proofs.YtgdaljpimblkgaaGreatDoor
open Go.RowKit
set_option linter.unusedVariables false

theorem run_sub_strs (w : World) (b off len cap i : Nat) (hi : i ≤ cap) :
    (Instr.slice 47 (.slice (some ⟨b, off, none⟩) len cap) none (some (.int .i64 i)) none).run Tryz.prog w = .ok (.slice (some ⟨b, off, none⟩) i cap) w := by
  have ht : Tryz.prog.underlying 47 = some (.slice (Tryz.prog.elem 47)) := by kernel_rfl
  have hs : ((sizeOf (Tryz.prog.elem 47)).run Tryz.prog w) = .ok 1 w := by kernel_rfl
  rw [run_slice_h w 47 (some ⟨b, off, none⟩) len cap ht .i64 i (by omega) (by omega), hs]
  show Result.ok (sliced _ _ _ _ _) w = _
  unfold sliced
  simp
  intro _
  rw [addr_add, Nat.add_zero]
theorem run_sub_pairs (w : World) (b off len cap i : Nat) (hi : i ≤ cap) :
    (Instr.slice 49 (.slice (some ⟨b, off, none⟩) len cap) none (some (.int .i64 i)) none).run Tryz.prog w = .ok (.slice (some ⟨b, off, none⟩) i cap) w := by
  have ht : Tryz.prog.underlying 49 = some (.slice (Tryz.prog.elem 49)) := by kernel_rfl
  have hs : ((sizeOf (Tryz.prog.elem 49)).run Tryz.prog w) = .ok 2 w := by kernel_rfl
  rw [run_slice_h w 49 (some ⟨b, off, none⟩) len cap ht .i64 i (by omega) (by omega), hs]
  show Result.ok (sliced _ _ _ _ _) w = _
  unfold sliced
  simp
  intro _
  rw [addr_add, Nat.add_zero]
theorem run_sub_ents (w : World) (b off len cap i : Nat) (hi : i ≤ cap) :
    (Instr.slice 22 (.slice (some ⟨b, off, none⟩) len cap) none (some (.int .i64 i)) none).run Tryz.prog w = .ok (.slice (some ⟨b, off, none⟩) i cap) w := by
  have ht : Tryz.prog.underlying 22 = some (.slice (Tryz.prog.elem 22)) := by kernel_rfl
  have hs : ((sizeOf (Tryz.prog.elem 22)).run Tryz.prog w) = .ok 10 w := by kernel_rfl
  rw [run_slice_h w 22 (some ⟨b, off, none⟩) len cap ht .i64 i (by omega) (by omega), hs]
  show Result.ok (sliced _ _ _ _ _) w = _
  unfold sliced
  simp
  intro _
  rw [addr_add, Nat.add_zero]
theorem SlOf.cut {α : Type} {f : α → List Value} {R : Nat → Prop} {w : World} {ao : Option Addr} {cap sz : Nat} {l : List α} (h : SlOf R w (.slice ao l.length cap) sz (l.flatMap f) l.length) (hf : ∀ x, (f x).length = sz) (k : Nat) (hk : k ≤ l.length) : SlOf R w (.slice ao k cap) sz ((l.take k).flatMap f) (l.take k).length := by
  obtain ⟨hl, ao', cap', hv, h1, h2, h3, h4⟩ := h
  obtain ⟨rfl, _, rfl⟩ := Value.slice.inj hv
  have e : (l.take k).length = k := by rw [List.length_take]; omega
  refine ⟨flat_len f sz hf _, ao, cap, by rw [e], by omega, h2, h3, fun hp => ?_⟩
  have hs : l.flatMap f = (l.take k).flatMap f ++ (l.drop k).flatMap f := by rw [← List.flatMap_append, List.take_append_drop]
  obtain ⟨b, off, ha, hR, hb, hc⟩ := h4 (by rw [hs, List.length_append]; omega)
  refine ⟨b, off, ha, hR, hb, fun j u hj => hc j u ?_⟩
  have hj' := (List.getElem?_eq_some_iff.1 hj).1
  rw [hs, List.getElem?_append_left hj']
  exact hj
theorem SlOf.capB {R : Nat → Prop} {w : World} {ao : Option Addr} {n cap sz : Nat} {cs : List Value} (h : SlOf R w (.slice ao n cap) sz cs n) : (n : Int) ≤ (cap : Int) ∧ (cap : Int) ≤ 9223372036854775807 := by
  obtain ⟨_, _, _, hv, h1, h2, _⟩ := h
  obtain ⟨_, _, rfl⟩ := Value.slice.inj hv
  unfold maxLen at h2
  omega
theorem edge_elem {R : Nat → Prop} {w : World} {ao : Option Addr} {n cap : Nat} {l : List (Int × Int)} (h : SlOf R w (.slice ao n cap) 2 (l.flatMap edgeCells) l.length) (h0 : 0 < l.length) :
    ∃ b off, ao = some ⟨b, off, none⟩ ∧ R b ∧ b < w.heap.size ∧ ∀ k (hk : k < l.length), w.cell? ⟨b, off + k * 2, none⟩ = some (.int .i64 l[k].1) ∧ w.cell? ⟨b, off + k * 2 + 1, none⟩ = some (.int .i64 l[k].2) := by
  obtain ⟨b, off, ha, hR, hb, hc⟩ := h.elem (fun _ => rfl) (by decide) h0
  exact ⟨b, off, ha, hR, hb, fun k hk => ⟨hc k hk 0 _ rfl, hc k hk 1 _ rfl⟩⟩

set_option maxHeartbeats 1000000 in
theorem idxPair_any (R : Nat → Prop) (l : List (Int × Int)) (v : Value) (x : Int × Int) (w : World) (h : SlOf R w v 2 (l.flatMap edgeCells) l.length) (hR : ∀ b, R b → b < w.heap.size) (hl : l.length ≤ 100000) :
    Calls Tryz.prog 113 #[v, .agg #[.int .i64 x.1, .int .i64 x.2]] w fun e w' => ∃ r : Int, e = .returned (.int .i64 r) ∧ decide (0 ≤ r) = decide (x ∈ l) ∧ Below w.heap.size w w' := by
  obtain ⟨ao, cap, rfl⟩ := h.val
  have H := Lib.hid h
  have heq := Tryz.pairEqE
  unfold pairEqE at heq
  clear h
  go_enter Tryz.func113, Tryz.ntmps113
  go_wp2_with fail
  generalize hwa : w.alloc _ = wa
  have hba : Below w.heap.size w wa := by rw [← hwa]; exact (Below.refl _ _).alloc (Nat.le_refl _) _
  have hxa : wa.heap[w.heap.size]? = some (.cells #[.int .i64 x.1, .int .i64 x.2] 66) := by rw [← hwa]; exact get_alloc_new w _
  obtain ⟨z0, z1, zf⟩ := two_cells hxa
  clear hwa hxa zf
  go_loopw [8] (fun t wr => ∃ k : Nat, k ≤ l.length ∧ t = .int .i64 k ∧ Below w.heap.size w wr ∧ wr.cell? ⟨w.heap.size, 0, none⟩ = some (.int .i64 x.1) ∧ wr.cell? ⟨w.heap.size, 1, none⟩ = some (.int .i64 x.2) ∧ Hid (∀ j (hj : j < l.length), j < k → l[j] ≠ x)) (fun t _ => l.length - (intOf t).toNat)
  case atStart => exact ⟨0, Nat.zero_le _, rfl, hba, z0, z1, fun j hj h => by omega⟩
  case round =>
    obtain ⟨k, hk, rfl, hbl, c0, c1, hall⟩ := hrel
    clear hba z0 z1
    by_cases hkl : k < l.length
    · obtain ⟨b, off, rfl, hRb, _, hc⟩ := edge_elem H.out (by omega)
      obtain ⟨q0, q1⟩ := hc k hkl
      rw [← hbl.cell (hR b hRb)] at q0 q1
      clear hc
      by_cases hn : x = l[k]
      · have hq := fun W => heq W x.1 x.2 l[k].1 l[k].2
        rw [decide_eq_true (show (x.1, x.2) = (l[k].1, l[k].2) from hn)] at hq
        have HB : Hid (x ∈ l) := hn ▸ List.getElem_mem hkl
        clear hn hall heq
        go_wp2_with fail
        go_quiet (fail)
        go_wp2_with fail
        go_ret
        exact ⟨_, rfl, by rw [decide_eq_true HB.out]; exact decide_eq_true (by omega), below_drewN' _ hbl⟩
      · have hq := fun W => heq W x.1 x.2 l[k].1 l[k].2
        rw [decide_eq_false (show ¬ (x.1, x.2) = (l[k].1, l[k].2) from hn)] at hq
        have nx : Hid (∀ j (hj : j < l.length), j < k + 1 → l[j] ≠ x) := (show ∀ j (hj : j < l.length), j < k + 1 → l[j] ≠ x from fun j hj h => by
          by_cases e : j = k
          · subst e; exact fun e => hn e.symm
          · exact hall.out j hj (by omega))
        clear hn hall heq
        go_wp2_with fail
        go_quiet (fail)
        go_wp2_with fail
        go_roundw
        case rel => exact ⟨k + 1, by omega, by go_num, below_drewN' _ hbl, c0, c1, nx⟩
        case measure => simp [intOf]; omega
    · have HB : Hid (x ∉ l) := (show x ∉ l from fun hx => by
        obtain ⟨j, hj, e⟩ := List.mem_iff_getElem.1 hx
        exact hall.out j hj (by omega) e)
      clear hall heq
      go_wp2_with fail
      go_ret
      exact ⟨_, rfl, by rw [decide_eq_false HB.out]; rfl, hbl⟩
set_option maxHeartbeats 1000000 in
theorem conPair_any (R : Nat → Prop) (l : List (Int × Int)) (v : Value) (x : Int × Int) (w : World) (h : SlOf R w v 2 (l.flatMap edgeCells) l.length) (hR : ∀ b, R b → b < w.heap.size) (hl : l.length ≤ 100000) :
    Calls Tryz.prog 99 #[v, .agg #[.int .i64 x.1, .int .i64 x.2]] w fun e w' => e = .returned (.bool (decide (x ∈ l))) ∧ Below w.heap.size w w' := by
  obtain ⟨ao, cap, rfl⟩ := h.val
  have b0 : Below w.heap.size w (w.alloc (.cells #[.int .i64 x.1, .int .i64 x.2] 66)) := (Below.refl _ _).alloc (Nat.le_refl _) _
  have H := Lib.hid (idxPair_any R l _ x _ (h.below b0 hR) (below_lt2 hR b0) hl)
  have B0 := Lib.hid b0
  clear h b0
  go_enter Tryz.func99, Tryz.ntmps99
  go_wp2_with fail
  refine H.out.mono ?_
  rintro e w' ⟨r, rfl, hr, hb0⟩
  have hb := B0.out.trans (hb0.mono B0.out.size)
  clear hb0
  have HR := Lib.hid hr
  clear hr
  go_wp2_with fail
  go_ret
  exact ⟨ret_bool HR.out, hb⟩

set_option maxHeartbeats 1000000 in
theorem twiceI_any (R : Nat → Prop) (l : List Int) (v : Value) (w : World) (h : SlOf R w v 1 (intCells l) l.length) (hn : l.length ≤ 100000) :
    Calls Tryz.prog 80 #[v] w fun e w' => e = .returned (.bool (twiceB l)) ∧ w = w' := by
  obtain ⟨ao, cap, rfl⟩ := h.val
  have H := Lib.hid h
  obtain ⟨hc1, hc2⟩ := h.capB
  clear h
  go_enter Tryz.func80, Tryz.ntmps80
  go_wp2_with fail
  go_loop [7] (fun s => ∃ i : Nat, i ≤ l.length ∧ s = .int .i64 i ∧ Hid (∀ j (hj : j < l.length), j < i → l[j] ∉ l.take j)) (fun s => l.length - (intOf s).toNat)
  case atStart => exact ⟨0, Nat.zero_le _, rfl, fun j _ h => by omega⟩
  case round =>
    obtain ⟨i, hi, rfl, hall⟩ := hrel
    by_cases hlt : i < l.length
    · obtain ⟨b, off, rfl, _, _, hc⟩ := int_cells H.out (by omega)
      have q1 := hc i hlt
      have HT := Lib.hid (containsInts_any R (l.take i) (.slice (some ⟨b, off, none⟩) i cap) l[i] w (H.out.take i (by omega)))
      have hi2 : (i : Int) ≤ (cap : Int) := by omega
      have hsub := fun W => run_sub_ints W b off l.length cap i (by omega)
      clear hc
      by_cases ht : l[i] ∈ l.take i
      · rw [decide_eq_true ht] at HT
        have hbad := Lib.hid (twiceB_hit i hlt ht)
        clear ht hall
        go_wp2_with fail
        refine HT.out.mono ?_
        rintro e w' ⟨rfl, rfl⟩
        go_wp2_with fail
        go_ret
        exact ⟨ret_bool hbad.out.symm, rfl⟩
      · rw [decide_eq_false ht] at HT
        have nx : Hid (∀ j (hj : j < l.length), j < i + 1 → l[j] ∉ l.take j) := (show ∀ j (hj : j < l.length), j < i + 1 → l[j] ∉ l.take j from fun j hj hji => by
          by_cases e : j = i
          · subst e; exact ht
          · exact hall.out j hj (by omega))
        clear ht hall
        go_wp2_with fail
        refine HT.out.mono ?_
        rintro e w' ⟨rfl, rfl⟩
        go_wp2_with fail
        go_round
        case rel => exact ⟨i + 1, by omega, by go_num, nx⟩
        case measure => simp [intOf]; omega
    · have hgood := Lib.hid (twiceB_miss (l := l) (fun j hj => hall.out j hj (by omega)))
      clear hall
      go_wp2_with fail
      go_ret
      exact ⟨ret_bool hgood.out.symm, rfl⟩
theorem getD_pair {l : List (Int × Int)} {i : Nat} (hi : i < l.length) : l.getD i (0, 0) = l[i] := by simp [hi]
set_option maxHeartbeats 1000000 in
theorem twiceP_any (R : Nat → Prop) (l : List (Int × Int)) (v : Value) (w : World) (h : SlOf R w v 2 (l.flatMap edgeCells) l.length) (hR : ∀ b, R b → b < w.heap.size) (hn : l.length ≤ 100000) :
    Calls Tryz.prog 79 #[v] w fun e w' => e = .returned (.bool (edgesTwice l)) ∧ Below w.heap.size w w' := by
  obtain ⟨ao, cap, rfl⟩ := h.val
  have H := Lib.hid h
  obtain ⟨hc1, hc2⟩ := h.capB
  clear h
  go_enter Tryz.func79, Tryz.ntmps79
  go_wp2_with fail
  go_loopw [7] (fun s wr => ∃ i : Nat, i ≤ l.length ∧ s = .int .i64 i ∧ Below w.heap.size w wr ∧ Hid (∀ j (hj : j < l.length), j < i → l[j] ∉ l.take j)) (fun s _ => l.length - (intOf s).toNat)
  case atStart => exact ⟨0, Nat.zero_le _, rfl, Below.refl _ _, fun j _ h => by omega⟩
  case round =>
    obtain ⟨i, hi, rfl, hbl, hall⟩ := hrel
    by_cases hlt : i < l.length
    · obtain ⟨b, off, rfl, hRb, _, hc⟩ := edge_elem H.out (by omega)
      obtain ⟨q0, q1⟩ := hc i hlt
      rw [← hbl.cell (hR b hRb)] at q0 q1
      have hi2 : (i : Int) ≤ (cap : Int) := by omega
      have hsub := fun W => run_sub_pairs W b off l.length cap i (by omega)
      have HT := Lib.hid (fun W (hB : Below w.heap.size w W) => conPair_any R (l.take i) (.slice (some ⟨b, off, none⟩) i cap) l[i] W ((SlOf.cut (f := edgeCells) H.out (fun _ => rfl) i (by omega)).below hB hR) (below_lt2 hR hB) (by rw [List.length_take]; omega))
      clear hc
      go_upto_region 4 with fail
      have hxb := get_alloc_new wr (.cells #[.int .i64 l[i].1, .int .i64 l[i].2] 66)
      have hb1 : Below w.heap.size w (wr.alloc (.cells #[.int .i64 l[i].1, .int .i64 l[i].2] 66)) := hbl.alloc hbl.size _
      generalize wr.alloc _ = wb at hxb hb1 ⊢
      obtain ⟨z0, z1, zf⟩ := two_cells hxb
      have hbb := lt_of_get hxb
      obtain ⟨bb, hbq⟩ : ∃ bb, bb = wr.heap.size := ⟨_, rfl⟩
      rw [← hbq] at z0 z1 hbb ⊢
      clear hbq hxb zf q0 q1
      go_cut [16] (fun s wx => s = .bool (decide (l[i] ∈ l.take i)) ∧ Below w.heap.size w wx)
      case first =>
       go_region_held3 (fun w' => ∀ o, w'.cell? ⟨bb, o, none⟩ = wb.cell? ⟨bb, o, none⟩)
        (first | exact fun _ => rfl | exact fun o => d1.cell (p := ⟨bb, o, none⟩) hbb)
        (first | (go_at_call 99; refine (HT.out _ ?_).mono ?_; (repeat (first | exact hb1 | refine Below.drew ?_)); rintro e w2 ⟨rfl, b2⟩; have d1 : Below wb.heap.size wb w2 := (by repeat (first | exact Below.refl _ _ | exact b2 | refine Below.drew ?_ | refine Below.trans ?_ b2))))
       all_goals (go_wp2_with fail; go_meet)
       all_goals exact ⟨rfl, by repeat (first | exact hb1.trans (d1.mono hb1.size) | refine Below.drew ?_)⟩
      case rest =>
      obtain ⟨rfl, hb2⟩ := hcut
      clear z0 z1 HT hb1
      by_cases ht : l[i] ∈ l.take i
      · rw [decide_eq_true ht]
        have hbad := Lib.hid (edgesTwice_hit i hlt ht)
        clear ht hall
        go_wp2_with fail
        go_ret
        exact ⟨ret_bool hbad.out.symm, hb2⟩
      · rw [decide_eq_false ht]
        have nx : Hid (∀ j (hj : j < l.length), j < i + 1 → l[j] ∉ l.take j) := (show ∀ j (hj : j < l.length), j < i + 1 → l[j] ∉ l.take j from fun j hj hji => by
          by_cases e : j = i
          · subst e; exact ht
          · exact hall.out j hj (by omega))
        clear ht hall
        go_wp2_with fail
        go_roundw
        case rel => exact ⟨i + 1, by omega, by go_num, hb2, nx⟩
        case measure => simp [intOf]; omega
    · have hgood := Lib.hid (edgesTwice_miss (l := l) (fun j hj => hall.out j hj (by omega)))
      clear hall
      go_wp2_with fail
      go_ret
      exact ⟨ret_bool hgood.out.symm, hbl⟩
end Go.Proofs.YtgdaljpimblkgaaGreatDoor
