import Derived.Test.YtikehilbmldadaaGreatDoorQ17
set_option maxHeartbeats 4000000
set_option maxRecDepth 100000
namespace Go.Proofs.YtikehilbmldadaaGreatDoor
open Go.RowKit
set_option linter.unusedVariables false
theorem run_grow_ints (n : Nat) (h0 : 0 < n) (hn : n ≤ 1000000) (w : World) : ∃ cap w', (∀ ty, (Builtin.append_ #[48, 3] ty #[.slice none 0 0, .int .i64 n]).run Tryz.prog w = .ok (.slice (some ⟨w.heap.size, 0, none⟩) n cap) w') ∧ n ≤ cap ∧ cap ≤ 9223372036854775807 ∧
    w'.ownsRow w.heap.size 3 1 (.slice (some ⟨w.heap.size, 0, none⟩) 0 cap) 0 [] ∧ Below w.heap.size w w' := by
  obtain ⟨i0, hi0, hz0, hz1, hz2⟩ := info_parts Tryz.infoInt
  have hG := grownCap_ge w (0 + n) 0 3
  have hG2 := grownCap_le_maxLen w (0 + n) 0 3 (by unfold maxLen; omega)
  have hr := fun ty => Lib.run_append_grow_zeros w 48 3 ty 3 i0 (.int .i64 0) .i64 .i64 Tryz.underlying48 Tryz.underlying3 hi0 hz0 none 0 0 [] (run_firstCells_none w.drew i0.size 0 0 0) n h0 (by rw [hz1]; decide) (by omega) (by omega) (by rw [hz2]; omega) (growslice_fits (by omega) (by rw [hz2]; omega))
  rw [Nat.zero_add] at hr hG hG2
  refine ⟨_, _, hr, hG, hG2, ⟨rfl, .inr ⟨_, _, _, rfl, Nat.le_refl _, get_alloc_new _ _, Nat.zero_le _, hG2, ?_, by simp⟩⟩, ((Below.refl _ _).drew).alloc (Nat.le_refl _) _⟩
  simp only [Builtin.zeroCells, Array.size_append, Array.size_map, Array.size_range, show (Value.int IntKind.i64 0).cells.size = 1 from rfl, List.size_toArray, List.length_nil]
  omega
theorem grow_any (n : Nat) (hn : n ≤ 1000000) (w : World) :
    Calls Tryz.prog 277 #[.slice none 0 0, .int .i64 n] w fun e w' => ∃ ao cap, e = .returned (.slice ao 0 cap) ∧ w'.ownsRow w.heap.size 3 1 (.slice ao 0 cap) 0 [] ∧ Below w.heap.size w w' := by
  by_cases h0 : n = 0
  · subst h0
    go_enter Tryz.func277, Tryz.ntmps277
    go_wp2_with fail
    go_ret
    exact ⟨_, _, rfl, World.ownsRow_nil _ _ _ _, Below.refl _ _⟩
  · have hpos : 0 < (n : Int) := by omega
    have hnn : ¬ (n : Int) < 0 := by omega
    obtain ⟨cap, w1, hrz, hc1, hc2, hown, hb⟩ := run_grow_ints n (by omega) hn w
    have hsl : ∀ W : World, (Instr.slice 48 (.slice (some ⟨w.heap.size, 0, none⟩) n cap) none (some (.int .i64 0)) none).run Tryz.prog W = .ok (.slice (some ⟨w.heap.size, 0, none⟩) 0 cap) W := fun W => run_sub_ints W w.heap.size 0 n cap 0 (Nat.zero_le _)
    have HO := Lib.hid hown
    have HB := Lib.hid hb
    have hz0 : (Instr.slice 48 (.slice none 0 0) none (some (.int .i64 0)) none).run Tryz.prog w = .ok (.slice none 0 0) w := by
      have ht : Tryz.prog.underlying 48 = some (.slice (Tryz.prog.elem 48)) := by kernel_rfl
      have hs : ((sizeOf (Tryz.prog.elem 48)).run Tryz.prog w) = .ok 1 w := by kernel_rfl
      rw [run_slice_h w 48 none 0 0 ht .i64 0 (by omega) (by omega), hs]
      show Result.ok (sliced _ _ _ _ _) w = _
      unfold sliced
      simp
    clear hown hb h0
    go_enter Tryz.func277, Tryz.ntmps277
    go_wp2_with (at_builtin; refine Lib.wpList_append_run _ rfl _ _ _ _ rfl _ _ rfl rfl _ _ (hrz _) ?_)
    all_goals
      go_ret
      exact ⟨_, _, rfl, HO.out, HB.out⟩
def cat2 (a b : List Int) (k : Nat) : List Int := if k = 0 then [] else if k = 1 then a else a ++ b
def el2 {α : Type} (a b : α) (k : Nat) : α := if k = 0 then a else b
theorem cat2_succ (a b : List Int) (k : Nat) (hk : k < 2) : cat2 a b (k + 1) = cat2 a b k ++ el2 a b k := by
  match k, hk with
  | 0, _ => simp [cat2, el2]
  | 1, _ => simp [cat2, el2]
theorem cat2_end (a b : List Int) (k : Nat) (h1 : 2 ≤ k) : cat2 a b k = a ++ b := by
  unfold cat2
  rw [if_neg (by omega), if_neg (by omega)]
theorem el2_sl {R : Nat → Prop} {w : World} {a b : List Int} {va vb : Value} (ha : SlOf R w va 1 (intCells a) a.length) (hb : SlOf R w vb 1 (intCells b) b.length) (k : Nat) : SlOf R w (el2 va vb k) 1 (intCells (el2 a b k)) (el2 a b k).length := by
  unfold el2
  by_cases h : k = 0
  · simp only [if_pos h]; exact ha
  · simp only [if_neg h]; exact hb
theorem el2_cell {w : World} {cb : Nat} {va vb : Value} (h0 : w.cell? ⟨cb, 0, none⟩ = some va) (h1 : w.cell? ⟨cb, 1, none⟩ = some vb) (k : Nat) (hk : k < 2) : w.cell? ⟨cb, k, none⟩ = some (el2 va vb k) := by
  match k, hk with
  | 0, _ => exact h0
  | 1, _ => exact h1
theorem cat2_len {a b : List Int} (la : a.length ≤ 1000) (lb : b.length ≤ 1000) (k : Nat) : (cat2 a b k).length ≤ 2000 := by
  unfold cat2
  split
  · simp
  · split
    · omega
    · rw [List.length_append]; omega
theorem el2_len {a b : List Int} (la : a.length ≤ 1000) (lb : b.length ≤ 1000) (k : Nat) : (el2 a b k).length ≤ 1000 := by
  unfold el2
  split <;> omega
theorem concat_any (R : Nat → Prop) (a b : List Int) (va vb : Value) (cb : Nat) (w : World) (ha : SlOf R w va 1 (intCells a) a.length) (hb : SlOf R w vb 1 (intCells b) b.length) (hR : ∀ b, R b → b < w.heap.size) (h0 : w.cell? ⟨cb, 0, none⟩ = some va) (h1 : w.cell? ⟨cb, 1, none⟩ = some vb) (la : a.length ≤ 1000) (lb : b.length ≤ 1000) :
    Calls Tryz.prog 242 #[.slice (some ⟨cb, 0, none⟩) 2 2] w fun e w' => ∃ ao cap, e = .returned (.slice ao (a ++ b).length cap) ∧ w'.ownsRow w.heap.size 3 1 (.slice ao (a ++ b).length cap) (a ++ b).length (intCells (a ++ b)) ∧ Below w.heap.size w w' := by
  obtain ⟨i0, hi0, hz0, hz1, hz2⟩ := info_parts Tryz.infoInt
  have HQ := Lib.hid (el2_cell h0 h1)
  have hcb := World.block_lt_of_cell? _ ⟨cb, 0, none⟩ h0
  have HS := Lib.hid (el2_sl ha hb)
  have HCL := Lib.hid (cat2_len la lb)
  have HEL := Lib.hid (el2_len la lb)
  simp only at hcb
  obtain ⟨c, hc⟩ : ∃ c, c = a ++ b := ⟨_, rfl⟩
  have HC := Lib.hid hc
  have hcl : c.length ≤ 2000 := by rw [hc, List.length_append]; omega
  rw [← hc]
  clear hc
  clear ha hb h0 h1
  go_enter Tryz.func242, Tryz.ntmps242
  go_wp2_with fail
  go_loop [3, 11] (fun s3 s11 => ∃ k : Nat, k ≤ 2 ∧ s3 = .int .i64 (cat2 a b k).length ∧ s11 = .int .i64 k) (fun _ s => 2 - (intOf s).toNat)
  case atStart => exact ⟨0, Nat.zero_le _, rfl, rfl⟩
  case round =>
    obtain ⟨k, hk, rfl, rfl⟩ := hrel
    by_cases hlt : k < 2
    · have hlt2 : (k : Int) < 2 := by omega
      have q := HQ.out k hlt
      obtain ⟨xa, xc, hv⟩ := (HS.out k).val
      rw [hv] at q
      have hl1 := HCL.out k
      have hl2 := HEL.out k
      have hsu : Hid (((cat2 a b k).length : Int) + ((el2 a b k).length : Int) = ((cat2 a b (k + 1)).length : Nat)) := by
        show ((cat2 a b k).length : Int) + ((el2 a b k).length : Int) = ((cat2 a b (k + 1)).length : Nat)
        rw [cat2_succ a b k hlt, List.length_append]; omega
      clear hv
      generalize (el2 a b k).length = m at q hl2 hsu
      generalize (cat2 a b k).length = n at hl1 hsu ⊢
      go_wp2_with fail
      go_round
      case rel => exact ⟨k + 1, by omega, by rw [hsu.out], by go_num⟩
      case measure => simp [intOf]; omega
    · have hlt2 : (2 : Int) ≤ k := by omega
      have hk2 := (cat2_end a b k (by omega)).trans HC.out.symm
      rw [hk2]
      have HG := Lib.hid (grow_any c.length (by omega) w)
      clear hk2
      go_wp2_with fail
      refine HG.out.mono ?_
      rintro e w1 ⟨go1, gc1, rfl, hown, hb1⟩
      have HO1 := Lib.hid hown
      clear HG hown
      go_wp2_with fail
      go_loopw [6, 27] (fun s6 s27 wr => ∃ (j : Nat) (ao : Option Addr) (cap : Nat), j ≤ 2 ∧ s6 = .slice ao (cat2 a b j).length cap ∧ s27 = .int .i64 j ∧ Below w.heap.size w wr ∧ Hid (wr.ownsRow w.heap.size 3 1 (.slice ao (cat2 a b j).length cap) (cat2 a b j).length (intCells (cat2 a b j)))) (fun _ s _ => 2 - (intOf s).toNat)
      case atStart => exact ⟨0, go1, gc1, Nat.zero_le _, rfl, rfl, hb1, HO1⟩
      case round =>
        obtain ⟨j, ao, cap, hj, rfl, rfl, hbl, hown⟩ := hrel
        clear HO1 hb1
        by_cases hjl : j < 2
        · have hjl2 : (j : Int) < 2 := by omega
          have q := HQ.out j hjl
          rw [← hbl.cell (p := ⟨cb, j, none⟩) hcb] at q
          have hsl := (HS.out j).below hbl hR
          obtain ⟨xa, xc, hv⟩ := hsl.val
          rw [hv] at q hsl
          have HSL := Lib.hid hsl
          have hl1 := HCL.out j
          have hl2 := HEL.out j
          have hsu := Lib.hid (cat2_succ a b j hjl)
          clear hv hsl
          obtain ⟨n, hn⟩ : ∃ n, n = (cat2 a b j).length := ⟨_, rfl⟩
          obtain ⟨m, hm⟩ : ∃ m, m = (el2 a b j).length := ⟨_, rfl⟩
          rw [← hm] at q hl2 HSL
          rw [← hn] at hl1 hown ⊢
          have HN := Lib.hid hn
          have HM := Lib.hid hm
          clear hn hm
          go_wp2_with (at_builtin; go_must (refine wpList_append_src rfl (.tmp 31) (.tmp 32) 48 rfl w.heap.size 3 i0 _ 1 8 Tryz.underlying48 hi0 hz0 hz1 hz2 rfl (by decide) _ n _ rfl hown.out R _ m (intCells (el2 a b j)) rfl HSL.out (oneCell_ints _) (by unfold maxLen; omega) (by omega) hbl.size ?_; intro a1 k1 w6 ho6 hg6))
          have hb6 : Below w.heap.size w w6 := hbl.trans (below_grown hg6 (fun b hb => (hown.out.lt b hb).1) hbl.size)
          rw [← intCells_app, ← hsu.out] at ho6
          have e6 : n + m = (cat2 a b (j + 1)).length := by rw [hsu.out, List.length_append, HN.out, HM.out]
          rw [e6] at ho6 ⊢
          have HO6 := Lib.hid ho6
          clear ho6 hg6 e6 HSL hown q
          go_roundw
          case rel => exact ⟨j + 1, a1, k1, by omega, rfl, by go_num, hb6, HO6⟩
          case measure => simp [intOf]; omega
        · have hjl2 : (2 : Int) ≤ j := by omega
          have hj2 := (cat2_end a b j (by omega)).trans HC.out.symm
          rw [hj2] at hown ⊢
          clear hj2
          go_wp2_with fail
          go_ret
          exact ⟨_, _, rfl, hown.out, hbl⟩
end Go.Proofs.YtikehilbmldadaaGreatDoor
namespace Go.Proofs.YtikehilbmldadaaGreatDoor
open Go.RowKit
set_option linter.unusedVariables false
structure ST (w0 : World) (R : Nat → Prop) (E : EntV) (vp vg ve vf vl : Value) (eb base : Nat) (acc : List Int) (ao : Option Addr) (cap : Nat) (w : World) : Prop where
  ebx : EB w0 R E vp vg ve vf vl eb w
  nb : w.heap[eb + 1]? = some (.cells #[.int .i64 E.points.length] 3)
  own : w.ownsRow base 3 1 (.slice ao acc.length cap) acc.length (intCells acc)
  lay : eb + 2 ≤ base ∧ base ≤ w.heap.size
theorem ST.step {w0 wr wA w1 : World} {R : Nat → Prop} {E : EntV} {vp vg ve vf vl : Value} {eb base n : Nat} {acc acc' : List Int} {ao a1 : Option Addr} {cap k1 : Nat} {x y : Int} (h : ST w0 R E vp vg ve vf vl eb base acc ao cap wr) (kA : Keep (fun _ => False) wr wA) (hn : n = acc.length) (ha : acc' = acc ++ [x, y])
    (hg : wA.grownBy w1 (Value.slice ao n cap).ownBlock) (ho1 : w1.ownsRow base 3 1 (.slice a1 (n + 2) k1) (n + 2) (intCells acc ++ [.int .i64 x, .int .i64 y])) : n + 2 = acc'.length ∧ ST w0 R E vp vg ve vf vl eb base acc' a1 k1 w1 := by
  subst hn
  have hl : acc.length + 2 = acc'.length := by rw [ha, List.length_append]; rfl
  have hlay := h.lay
  have kk : Keep (fun b => base ≤ b) wr w1 := (kA.mono (fun _ _ h => h.elim)).trans ((Keep.of_grown hg).mono (fun b hb hs => (h.own.lt _ hs.symm).1))
  refine ⟨hl, h.ebx.keep kk (fun b hb _ => by have := h.ebx.hi; omega), kk.get h.nb (by omega), ?_, hlay.1, Nat.le_trans hlay.2 kk.size⟩
  rw [← hl, ha, intCells_app]
  exact ho1
theorem one_cell {w : World} {b : Nat} {c0 : Value} {t : TypeId} (h : w.heap[b]? = some (.cells #[c0] t)) : w.cell? ⟨b, 0, none⟩ = some c0 := by simp [World.cell?, h]
def strangP (E : EntV) : Bool := cntW E || strangeB E
theorem strangersP_any (R : Nat → Prop) (E : EntV) (vp vg ve vf vl : Value) (w : World) (h : EntSl R w E vp vg ve vf vl) (hR : ∀ b, R b → b < w.heap.size) (hE : EntSmall E) :
    Calls Tryz.prog 204 #[.agg (entCs E vp vg ve vf vl)] w fun e w' => e = .returned (.bool (strangP E)) ∧ Below w.heap.size w w' := by
  obtain ⟨i0, hi0, hz0, hz1, hz2⟩ := info_parts Tryz.infoInt
  obtain ⟨e1, e2, e3, e4, e5⟩ := hE
  obtain ⟨pa, pc, rfl⟩ := h.p.val
  obtain ⟨ga, gc, rfl⟩ := h.g.val
  obtain ⟨ea, ec, rfl⟩ := h.e.val
  obtain ⟨fa, fc, rfl⟩ := h.f.val
  obtain ⟨la, lc, rfl⟩ := h.l.val
  have hEB : EB w R E (.slice pa E.points.length pc) (.slice ga E.gaps.length gc) (.slice ea E.edges.length ec) (.slice fa E.first.length fc) (.slice la E.last.length lc) w.heap.size (w.alloc (.cells (entCs E (.slice pa E.points.length pc) (.slice ga E.gaps.length gc) (.slice ea E.edges.length ec) (.slice fa E.first.length fc) (.slice la E.last.length lc)) 50)) :=
    ⟨get_alloc_new _ _, h.keep (below_keep ((Below.refl _ _).alloc (Nat.le_refl _) _)) (fun _ _ h => h), (Below.refl _ _).alloc (Nat.le_refl _) _, hR, Nat.le_refl _⟩
  have hs1 : (w.alloc (.cells (entCs E (.slice pa E.points.length pc) (.slice ga E.gaps.length gc) (.slice ea E.edges.length ec) (.slice fa E.first.length fc) (.slice la E.last.length lc)) 50)).heap.size = w.heap.size + 1 := World.size_alloc _ _
  have HRw := Lib.hid hR
  clear h hR
  unfold entCs at hEB hs1 ⊢
  go_enter Tryz.func204, Tryz.ntmps204
  go_upto_region 1 with fail
  generalize w.alloc _ = w1 at hEB hs1 ⊢
  obtain ⟨c0, c1, c2, c3, c4, c5, c6, c7, c8, c9⟩ := hEB.cells
  have HB1 := Lib.hid hEB
  have HS1 := Lib.hid hs1
  clear hEB hs1
  obtain ⟨eb, heb⟩ : ∃ eb, eb = w.heap.size := ⟨_, rfl⟩
  rw [← heb] at c0 c1 c2 c3 c4 c5 c6 c7 c8 c9 HB1 HS1 ⊢
  have HEBQ := Lib.hid heb
  clear heb
  go_upto_region 2 with fail
  have hn1 := get_alloc_new w1 (.cells #[.int .i64 E.points.length] 3)
  have hb1 : Below w1.heap.size w1 (w1.alloc (.cells #[.int .i64 E.points.length] 3)) := (Below.refl _ _).alloc (Nat.le_refl _) _
  have hs2 : (w1.alloc (.cells #[.int .i64 E.points.length] 3)).heap.size = w1.heap.size + 1 := World.size_alloc _ _
  generalize w1.alloc _ = w2 at hn1 hb1 hs2 ⊢
  obtain ⟨nb, hnb⟩ : ∃ nb, nb = w1.heap.size := ⟨_, rfl⟩
  rw [← hnb] at hn1 ⊢
  have HNB : Hid (nb = eb + 1) := hnb.trans HS1.out
  have HB2 := Lib.hid (HB1.out.below hb1)
  have HN2 := Lib.hid hn1
  have HS2 : Hid (w2.heap.size = eb + 2) := (show w2.heap.size = eb + 2 from by have := HS1.out; omega)
  clear hnb hn1 hb1 hs2 c0 c1 c2 c3 c4 c5 c6 c7 c8 c9 HB1
  obtain ⟨c0, c1, c2, c3, c4, c5, c6, c7, c8, c9⟩ := HB2.out.cells
  have b3 : Below w2.heap.size w2 (w2.alloc (.cells #[.slice fa E.first.length fc, .slice la E.last.length lc] 48)) := (Below.refl _ _).alloc (Nat.le_refl _) _
  have hc3 := get_alloc_new w2 (.cells #[.slice fa E.first.length fc, .slice la E.last.length lc] 48)
  obtain ⟨z0, z1, zf⟩ := two_cells hc3
  have HB3 := Lib.hid (HB2.out.below b3)
  have HN3 := Lib.hid (below_get b3 HN2.out (lt_of_get HN2.out))
  have HS3 := Lib.hid (show (w2.alloc (.cells #[.slice fa E.first.length fc, .slice la E.last.length lc] 48)).heap.size = eb + 3 from by rw [World.size_alloc, HS2.out])
  have HCat := Lib.hid (concat_any R E.first E.last _ _ w2.heap.size _ HB3.out.sl.f HB3.out.sl.l (fun b hb => by have h1 := HB3.out.lo b hb; have h2 := HB3.out.bel.size; omega) z0 z1 e4 e5)
  clear z0 z1 zf hc3 b3
  go_wp2_with fail
  refine HCat.out.mono ?_
  rintro e w4 ⟨ao, cap, rfl, hown, b4⟩
  have hST : ST w R E (.slice pa E.points.length pc) (.slice ga E.gaps.length gc) (.slice ea E.edges.length ec) (.slice fa E.first.length fc) (.slice la E.last.length lc) eb (eb + 3) (accG E 0) ao cap w4 := by
    have e0 : accG E 0 = E.first ++ E.last := by simp [accG]
    rw [e0]
    rw [HS3.out] at hown
    exact ⟨HB3.out.below b4, by rw [← HNB.out]; exact below_get b4 HN3.out (lt_of_get HN3.out), hown, by omega, by have := HS3.out; have := b4.size; omega⟩
  have hl4 : (E.first ++ E.last).length = (accG E 0).length := by simp [accG]
  rw [hl4]
  have HST := Lib.hid hST
  clear hST hl4 hown b4 HCat HB3 HN3 HS3 HB2 HN2 HS2 c0 c1 c2 c3 c4 c5 c7 c8 c9 c6 HS1
  obtain ⟨c0, c1, c2, c3, c4, c5, c6, c7, c8, c9⟩ := HST.out.ebx.cells
  go_wp2_with fail
  go_loopw [4, 21] (fun s4 s21 wr => ∃ (k : Nat) (ao : Option Addr) (cap : Nat), k ≤ E.gaps.length ∧ s4 = .slice ao (accG E k).length cap ∧ s21 = .int .i64 k ∧ Hid (ST w R E (.slice pa E.points.length pc) (.slice ga E.gaps.length gc) (.slice ea E.edges.length ec) (.slice fa E.first.length fc) (.slice la E.last.length lc) eb (eb + 3) (accG E k) ao cap wr)) (fun _ s _ => E.gaps.length - (intOf s).toNat)
  case atStart => exact ⟨0, ao, cap, Nat.zero_le _, rfl, rfl, HST⟩
  case round =>
    obtain ⟨k, ao, cap, hk, rfl, rfl, hst⟩ := hrel
    clear HST c0 c1 c2 c3 c4 c5 c6 c7 c8 c9
    by_cases hlt : k < E.gaps.length
    · obtain ⟨b, off, rfl, hRb, hb, hc⟩ := hst.out.ebx.sl.g.elem (f := gapCells) (fun _ => rfl) (by decide) (by omega)
      have q0 := hc k hlt 0 _ rfl
      have q1 := hc k hlt 1 _ rfl
      have q2 := hc k hlt 2 _ rfl
      have q3 := hc k hlt 3 _ rfl
      rw [Nat.add_zero] at q0
      have hsz := Lib.hid hst.out.lay
      clear hc
      go_upto_region 6 with fail
      have hxb := get_alloc_new wr (.cells #[.int .i64 E.gaps[k].fr, .int .i64 E.gaps[k].dst, .int .i64 E.gaps[k].mn, .int .i64 E.gaps[k].mx] 126)
      have hkb : Keep (fun _ => False) wr (wr.alloc (.cells #[.int .i64 E.gaps[k].fr, .int .i64 E.gaps[k].dst, .int .i64 E.gaps[k].mn, .int .i64 E.gaps[k].mx] 126)) := (Keep.refl _ _).alloc _
      generalize wr.alloc _ = wb at hxb hkb ⊢
      obtain ⟨z0, z1, z2, z3⟩ := four_cells hxb
      have HKB := Lib.hid hkb
      have HOW := Lib.hid (ownsRow_keep' hst.out.own hkb (fun _ _ _ h => h))
      have HSZ : Hid (eb + 3 ≤ wb.heap.size) := Nat.le_trans hsz.out.2 hkb.size
      have hal := accG_len E k
      obtain ⟨n, hn⟩ : ∃ n, n = (accG E k).length := ⟨_, rfl⟩
      rw [← hn] at hal HOW ⊢
      have HNN := Lib.hid hn
      clear hn hxb hkb q0 q1 q2 q3 hb hsz
      go_wp2_with (at_builtin; go_must (refine wpList_append_ownS rfl (.tmp 25) (.tmp 30) 48 rfl (eb + 3) 3 i0 _ 1 8 Tryz.underlying48 hi0 hz0 hz1 hz2 rfl (by decide) _ n _ rfl (HOW.out.alloc _) ⟨wb.heap.size, 0, none⟩ 2 2 [.int .i64 E.gaps[k].fr, .int .i64 E.gaps[k].dst] rfl rfl (by exact new_cells _ [.int .i64 E.gaps[k].fr, .int .i64 E.gaps[k].dst] _) (by intro u hu; simp at hu; rcases hu with rfl | rfl <;> rfl) (by unfold maxLen; omega) (by omega) (by have := HSZ.out; simp; omega) ?_; intro a1 k1 w6 ho6 hg6))
      obtain ⟨hl6, hs6⟩ := hst.out.step (HKB.out.alloc _) HNN.out (accG_succ E k hlt) hg6 ho6
      rw [hl6]
      have HS6 := Lib.hid hs6
      clear hl6 hs6 ho6 hg6 HOW z0 z1 z2 z3 hal
      go_roundw
      case rel => exact ⟨k + 1, a1, k1, by omega, rfl, by go_num, HS6⟩
      case measure => simp [intOf]; omega
    · obtain rfl : k = E.gaps.length := by omega
      have e0 : accG E E.gaps.length = accE E 0 := by simp [accG, accE]
      rw [e0] at hst ⊢
      have HST := hst
      clear hst e0
      obtain ⟨c0, c1, c2, c3, c4, c5, c6, c7, c8, c9⟩ := HST.out.ebx.cells
      go_wp2_with fail
      go_loopw [4, 36] (fun s4 s36 wr => ∃ (k : Nat) (ao : Option Addr) (cap : Nat), k ≤ E.edges.length ∧ s4 = .slice ao (accE E k).length cap ∧ s36 = .int .i64 k ∧ Hid (ST w R E (.slice pa E.points.length pc) (.slice ga E.gaps.length gc) (.slice ea E.edges.length ec) (.slice fa E.first.length fc) (.slice la E.last.length lc) eb (eb + 3) (accE E k) ao cap wr)) (fun _ s _ => E.edges.length - (intOf s).toNat)
      case atStart => exact ⟨0, ao, cap, Nat.zero_le _, rfl, rfl, HST⟩
      case round =>
        obtain ⟨k, ao, cap, hk, rfl, rfl, hst⟩ := hrel
        clear HST c0 c1 c2 c3 c4 c5 c6 c7 c8 c9
        by_cases hlt : k < E.edges.length
        · obtain ⟨b, off, rfl, hRb, hb, hc⟩ := hst.out.ebx.sl.e.elem (f := edgeCells) (fun _ => rfl) (by decide) (by omega)
          have q0 := hc k hlt 0 _ rfl
          have q1 := hc k hlt 1 _ rfl
          rw [Nat.add_zero] at q0
          have hsz := Lib.hid hst.out.lay
          clear hc
          go_upto_region 11 with fail
          have hxb := get_alloc_new wr (.cells #[.int .i64 E.edges[k].1, .int .i64 E.edges[k].2] 127)
          have hkb : Keep (fun _ => False) wr (wr.alloc (.cells #[.int .i64 E.edges[k].1, .int .i64 E.edges[k].2] 127)) := (Keep.refl _ _).alloc _
          generalize wr.alloc _ = wb at hxb hkb ⊢
          obtain ⟨z0, z1, zf⟩ := two_cells hxb
          have HKB := Lib.hid hkb
          have HOW := Lib.hid (ownsRow_keep' hst.out.own hkb (fun _ _ _ h => h))
          have HSZ : Hid (eb + 3 ≤ wb.heap.size) := Nat.le_trans hsz.out.2 hkb.size
          have hal := accE_len E k
          obtain ⟨n, hn⟩ : ∃ n, n = (accE E k).length := ⟨_, rfl⟩
          rw [← hn] at hal HOW ⊢
          have HNN := Lib.hid hn
          clear hn hxb hkb q0 q1 hb hsz zf
          go_wp2_with (at_builtin; go_must (refine wpList_append_ownS rfl (.tmp 40) (.tmp 45) 48 rfl (eb + 3) 3 i0 _ 1 8 Tryz.underlying48 hi0 hz0 hz1 hz2 rfl (by decide) _ n _ rfl (HOW.out.alloc _) ⟨wb.heap.size, 0, none⟩ 2 2 [.int .i64 E.edges[k].1, .int .i64 E.edges[k].2] rfl rfl (by exact new_cells _ [.int .i64 E.edges[k].1, .int .i64 E.edges[k].2] _) (by intro u hu; simp at hu; rcases hu with rfl | rfl <;> rfl) (by unfold maxLen; omega) (by omega) (by have := HSZ.out; simp; omega) ?_; intro a1 k1 w6 ho6 hg6))
          obtain ⟨hl6, hs6⟩ := hst.out.step (HKB.out.alloc _) HNN.out (accE_succ E k hlt) hg6 ho6
          rw [hl6]
          have HS6 := Lib.hid hs6
          clear hl6 hs6 ho6 hg6 HOW z0 z1 hal
          go_roundw
          case rel => exact ⟨k + 1, a1, k1, by omega, rfl, by go_num, HS6⟩
          case measure => simp [intOf]; omega
        · obtain rfl : k = E.edges.length := by omega
          have e0 : accE E E.edges.length = strL E := by simp [accE, strL]
          have hal := accE_len E E.edges.length
          rw [e0] at hst hal ⊢
          have HST := hst
          clear hst e0
          obtain ⟨c0, c1, c2, c3, c4, c5, c6, c7, c8, c9⟩ := HST.out.ebx.cells
          have hnn := one_cell HST.out.nb
          rw [← HNB.out] at hnn
          have HCo := Lib.hid (conStr_any _ (strL E) _ E.points.length nb wr (slOf_owns HST.out.own) (by omega) hnn)
          unfold strgV at HCo
          have hbl := HST.out.ebx.bel
          by_cases h1 : E.count < -1
          · have HV := Lib.hid (show strangP E = true from by unfold strangP cntW; rw [decide_eq_true (.inl h1)]; rfl)
            go_wp2_with fail
            go_ret
            exact ⟨ret_bool HV.out.symm, hbl⟩
          by_cases h2 : (E.points.length : Int) ≤ E.count
          · have HV := Lib.hid (show strangP E = true from by unfold strangP cntW; rw [decide_eq_true (.inr h2)]; rfl)
            go_wp2_with fail
            go_ret
            exact ⟨ret_bool HV.out.symm, hbl⟩
          have HV := Lib.hid (show strangP E = (strL E).any (strgP E.points.length) from by unfold strangP cntW; rw [decide_eq_false (by omega)]; rfl)
          generalize (strL E).any (strgP E.points.length) = ans at HCo HV
          go_wp2_with fail
          refine HCo.out.mono ?_
          rintro e w' ⟨rfl, rfl⟩
          go_wp2_with fail
          go_ret
          exact ⟨ret_bool HV.out.symm, hbl⟩
end Go.Proofs.YtikehilbmldadaaGreatDoor
namespace Go.Proofs.YtikehilbmldadaaGreatDoor
open Go.RowKit
set_option linter.unusedVariables false
def twiceE (E : EntV) : Bool := edgesTwice E.edges || (twiceB E.first || twiceB E.last)
def ruleB (E : EntV) : Nat → Bool
  | 0 => strangP E
  | 1 => cmmW E
  | 2 => rngW E
  | 3 => E.gaps.any gapWrong
  | 4 => twiceE E
  | 5 => s1W E
  | 6 => s2W E
  | _ => false
def ruleN : Nat → Nat
  | 0 => 5
  | 1 => 3
  | 2 => 2
  | 3 => 2
  | 4 => 6
  | _ => 3
def tailE (E : EntV) : Nat :=
  if ruleB E 0 = true then 5 else if ruleB E 1 = true then 3 else if ruleB E 2 = true then 2 else if ruleB E 3 = true then 2 else if ruleB E 4 = true then 6 else if ruleB E 5 = true then 3 else if ruleB E 6 = true then 3 else 0
theorem tailE_hit {E : EntV} (k : Nat) (hk : k < 7) (h : ruleB E k = true) (hb : ∀ j, j < k → ruleB E j = false) : tailE E = ruleN k := by
  unfold tailE
  match k, hk with
  | 0, _ => rw [h]; rfl
  | 1, _ => rw [hb 0 (by decide), h]; rfl
  | 2, _ => rw [hb 0 (by decide), hb 1 (by decide), h]; rfl
  | 3, _ => rw [hb 0 (by decide), hb 1 (by decide), hb 2 (by decide), h]; rfl
  | 4, _ => rw [hb 0 (by decide), hb 1 (by decide), hb 2 (by decide), hb 3 (by decide), h]; rfl
  | 5, _ => rw [hb 0 (by decide), hb 1 (by decide), hb 2 (by decide), hb 3 (by decide), hb 4 (by decide), h]; rfl
  | 6, _ => rw [hb 0 (by decide), hb 1 (by decide), hb 2 (by decide), hb 3 (by decide), hb 4 (by decide), hb 5 (by decide), h]; rfl
theorem tailE_miss {E : EntV} (hb : ∀ j, j < 7 → ruleB E j = false) : tailE E = 0 := by
  unfold tailE
  rw [hb 0 (by decide), hb 1 (by decide), hb 2 (by decide), hb 3 (by decide), hb 4 (by decide), hb 5 (by decide), hb 6 (by decide)]
  rfl
theorem entErr_tail {ahead : List ByteArray} {E : EntV} (h1 : isNameB E.name = true) (h2 : hasStr ahead E.name = false) (h3 : topW E = false) (h4 : fstW E = false) (h5 : ptsE E.points = 0) : entErr ahead E = tailE E := by
  unfold entErr tailE
  rw [h1, h2, h3, h4, h5]
  simp only [ruleB, strangP, twiceE]
  cases cntW E
  · cases strangeB E
    · cases cmmW E
      · cases rngW E
        · cases E.gaps.any gapWrong
          · cases edgesTwice E.edges
            · cases twiceB E.first
              · cases twiceB E.last <;> rfl
              · rfl
            · rfl
          · rfl
        · rfl
      · rfl
    · rfl
  · rfl
section
variable (E : EntV) (vp vg ve vf vl : Value) (w : World)
theorem rule1_any : Calls Tryz.prog 205 #[.agg (entCs E vp vg ve vf vl)] w fun e w' => e = .returned (.bool (cmmW E)) ∧ Below w.heap.size w w' := by
  unfold entCs
  have ba : Below w.heap.size w (w.alloc (.cells (entCs E vp vg ve vf vl) 50)) := (Below.refl _ _).alloc (Nat.le_refl _) _
  unfold entCs at ba
  have BA := Lib.hid ba
  clear ba
  by_cases h1 : E.count = -1
  · have hb1 : (E.count == -1) = true := by simp [h1]
    by_cases h2 : E.mn = 0
    · have hb2 : (E.mn != 0) = false := by simp [h2]
      by_cases h3 : E.mx = 0
      · have hb3 : (E.mx != 0) = false := by simp [h3]
        have HV := Lib.hid (show cmmW E = false from decide_eq_false (by omega))
        clear h1 h2 h3
        go_enter Tryz.func205, Tryz.ntmps205
        go_wp2_with fail
        go_ret
        exact ⟨ret_bool HV.out.symm, BA.out⟩
      · have hb3 : (E.mx != 0) = true := by simp [h3]
        have HV := Lib.hid (show cmmW E = true from decide_eq_true ⟨h1, .inr h3⟩)
        clear h1 h2 h3
        go_enter Tryz.func205, Tryz.ntmps205
        go_wp2_with fail
        go_ret
        exact ⟨ret_bool HV.out.symm, BA.out⟩
    · have hb2 : (E.mn != 0) = true := by simp [h2]
      have HV := Lib.hid (show cmmW E = true from decide_eq_true ⟨h1, .inl h2⟩)
      clear h1 h2
      go_enter Tryz.func205, Tryz.ntmps205
      go_wp2_with fail
      go_ret
      exact ⟨ret_bool HV.out.symm, BA.out⟩
  · have hb1 : (E.count == -1) = false := by simp [h1]
    have HV := Lib.hid (show cmmW E = false from decide_eq_false (fun h => h1 h.1))
    clear h1
    go_enter Tryz.func205, Tryz.ntmps205
    go_wp2_with fail
    go_ret
    exact ⟨ret_bool HV.out.symm, BA.out⟩
theorem rule2_any : Calls Tryz.prog 206 #[.agg (entCs E vp vg ve vf vl)] w fun e w' => e = .returned (.bool (rngW E)) ∧ Below w.heap.size w w' := by
  unfold entCs
  have ba : Below w.heap.size w (w.alloc (.cells (entCs E vp vg ve vf vl) 50)) := (Below.refl _ _).alloc (Nat.le_refl _) _
  unfold entCs at ba
  have BA := Lib.hid ba
  clear ba
  by_cases h1 : E.mn < 0
  · have HV := Lib.hid (show rngW E = true from decide_eq_true (.inl h1))
    go_enter Tryz.func206, Tryz.ntmps206
    go_wp2_with fail
    go_ret
    exact ⟨ret_bool HV.out.symm, BA.out⟩
  · by_cases h2 : E.mx < E.mn
    · have HV := Lib.hid (show rngW E = true from decide_eq_true (.inr (.inl h2)))
      go_enter Tryz.func206, Tryz.ntmps206
      go_wp2_with fail
      go_ret
      exact ⟨ret_bool HV.out.symm, BA.out⟩
    · have HV := Lib.hid (show rngW E = decide (1000 ≤ E.mx) from by unfold rngW; rw [decide_eq_decide]; omega)
      go_enter Tryz.func206, Tryz.ntmps206
      go_wp2_with fail
      go_ret
      exact ⟨ret_bool HV.out.symm, BA.out⟩
end
section
variable (R : Nat → Prop) (E : EntV) (vp vg ve vf vl : Value) (w : World) (h : EntSl R w E vp vg ve vf vl) (hR : ∀ b, R b → b < w.heap.size) (hE : EntSmall E)
include h hR hE
theorem rule3_any : Calls Tryz.prog 207 #[.agg (entCs E vp vg ve vf vl)] w fun e w' => e = .returned (.bool (E.gaps.any gapWrong)) ∧ Below w.heap.size w w' := by
  unfold entCs
  have ba : Below w.heap.size w (w.alloc (.cells (entCs E vp vg ve vf vl) 50)) := (Below.refl _ _).alloc (Nat.le_refl _) _
  unfold entCs at ba
  have BA := Lib.hid ba
  clear ba
  obtain ⟨ga, gc, rfl⟩ := h.g.val
  have HC := Lib.hid (fun W (hB : Below w.heap.size w W) => conGap_any R E.gaps _ W (h.g.below hB hR) (below_lt2 hR hB) (by have := hE.g; omega))
  unfold gapFV at HC
  generalize E.gaps.any gapWrong = ans at HC ⊢
  clear h hR hE
  go_enter Tryz.func207, Tryz.ntmps207
  go_wp2_with fail
  refine (HC.out _ BA.out).mono ?_
  rintro e w2 ⟨rfl, b2⟩
  go_wp2_with fail
  go_ret
  exact ⟨rfl, BA.out.trans (b2.mono BA.out.size)⟩
theorem rule4_any : Calls Tryz.prog 210 #[.agg (entCs E vp vg ve vf vl)] w fun e w' => e = .returned (.bool (twiceE E)) ∧ Below w.heap.size w w' := by
  obtain ⟨ea, ec, rfl⟩ := h.e.val
  obtain ⟨fa, fc, rfl⟩ := h.f.val
  obtain ⟨la, lc, rfl⟩ := h.l.val
  have H := Lib.hid h
  have hEB : EB w R E vp vg (.slice ea E.edges.length ec) (.slice fa E.first.length fc) (.slice la E.last.length lc) w.heap.size (w.alloc (.cells (entCs E vp vg (.slice ea E.edges.length ec) (.slice fa E.first.length fc) (.slice la E.last.length lc)) 50)) :=
    ⟨get_alloc_new _ _, h.keep (below_keep ((Below.refl _ _).alloc (Nat.le_refl _) _)) (fun _ _ h => h), (Below.refl _ _).alloc (Nat.le_refl _) _, hR, Nat.le_refl _⟩
  have HP := Lib.hid (fun W (hB : Below w.heap.size w W) => twiceP_any R E.edges _ W (h.e.below hB hR) (below_lt2 hR hB) (by have := hE.e; omega))
  have HF := Lib.hid (fun W (hB : Below w.heap.size w W) => twiceI_any R E.first _ W (h.f.below hB hR) (by have := hE.f; omega))
  have HL := Lib.hid (fun W (hB : Below w.heap.size w W) => twiceI_any R E.last _ W (h.l.below hB hR) (by have := hE.l; omega))
  have HT : Hid (twiceE E = (edgesTwice E.edges || (twiceB E.first || twiceB E.last))) := rfl
  generalize edgesTwice E.edges = t1 at HP HT
  generalize twiceB E.first = t2 at HF HT
  generalize twiceB E.last = t3 at HL HT
  clear h hE
  unfold entCs at hEB ⊢
  go_enter Tryz.func210, Tryz.ntmps210
  go_upto_region 1 with fail
  generalize w.alloc _ = w1 at hEB ⊢
  obtain ⟨c0, c1, c2, c3, c4, c5, c6, c7, c8, c9⟩ := hEB.cells
  have HEB := Lib.hid hEB
  clear hEB c0 c1 c2 c3 c4 c5 c6
  go_wp2_with fail
  refine (HP.out _ HEB.out.bel).mono ?_
  rintro e w2 ⟨rfl, b2⟩
  have HEB2 := Lib.hid (HEB.out.below b2)
  clear c7 c8 c9 b2 HEB
  obtain ⟨c0, c1, c2, c3, c4, c5, c6, c7, c8, c9⟩ := HEB2.out.cells
  clear c0 c1 c2 c3 c4 c5 c6 c7
  have hbl := HEB2.out.bel
  cases t1 with
  | true =>
    have HV := Lib.hid (show twiceE E = true from HT.out)
    go_wp2_with fail
    go_ret
    exact ⟨ret_bool HV.out.symm, hbl⟩
  | false =>
    go_wp2_with fail
    refine (HF.out _ hbl).mono ?_
    rintro e w' ⟨rfl, rfl⟩
    cases t2 with
    | true =>
      have HV := Lib.hid (show twiceE E = true from HT.out)
      go_wp2_with fail
      go_ret
      exact ⟨ret_bool HV.out.symm, hbl⟩
    | false =>
      go_wp2_with fail
      refine (HL.out _ hbl).mono ?_
      rintro e w' ⟨rfl, rfl⟩
      have HV := Lib.hid (show twiceE E = t3 from HT.out)
      go_wp2_with fail
      go_ret
      exact ⟨ret_bool HV.out.symm, hbl⟩
end
theorem rule5_any (R : Nat → Prop) (E : EntV) (vp vg ve vf vl : Value) (w : World) (h : EntSl R w E vp vg ve vf vl) (hR : ∀ b, R b → b < w.heap.size) (hE : EntSmall E) : Calls Tryz.prog 213 #[.agg (entCs E vp vg ve vf vl)] w fun e w' => e = .returned (.bool (s1W E)) ∧ Below w.heap.size w w' := by
  unfold entCs
  have ba : Below w.heap.size w (w.alloc (.cells (entCs E vp vg ve vf vl) 50)) := (Below.refl _ _).alloc (Nat.le_refl _) _
  unfold entCs at ba
  have BA := Lib.hid ba
  clear ba
  obtain ⟨ea, ec, rfl⟩ := h.e.val
  obtain ⟨fa, fc, rfl⟩ := h.f.val
  clear h hR hE
  by_cases h1 : 0 < E.edges.length
  · by_cases h2 : E.first.length = 0
    · have hb : ((E.first.length : Int) == 0) = true := by simp [h2]
      have HV := Lib.hid (show s1W E = true from decide_eq_true ⟨h1, h2⟩)
      clear h2
      go_enter Tryz.func213, Tryz.ntmps213
      go_wp2_with fail
      go_ret
      exact ⟨ret_bool HV.out.symm, BA.out⟩
    · have hb : ((E.first.length : Int) == 0) = false := by simp; intro e; exact h2 (by rw [e]; rfl)
      have HV := Lib.hid (show s1W E = false from decide_eq_false (fun h => h2 h.2))
      clear h2
      go_enter Tryz.func213, Tryz.ntmps213
      go_wp2_with fail
      go_ret
      exact ⟨ret_bool HV.out.symm, BA.out⟩
  · have HV := Lib.hid (show s1W E = false from decide_eq_false (fun h => h1 h.1))
    go_enter Tryz.func213, Tryz.ntmps213
    go_wp2_with fail
    go_ret
    exact ⟨ret_bool HV.out.symm, BA.out⟩
theorem rule6_any (R : Nat → Prop) (E : EntV) (vp vg ve vf vl : Value) (w : World) (h : EntSl R w E vp vg ve vf vl) (hR : ∀ b, R b → b < w.heap.size) (hE : EntSmall E) : Calls Tryz.prog 214 #[.agg (entCs E vp vg ve vf vl)] w fun e w' => e = .returned (.bool (s2W E)) ∧ Below w.heap.size w w' := by
  unfold entCs
  have ba : Below w.heap.size w (w.alloc (.cells (entCs E vp vg ve vf vl) 50)) := (Below.refl _ _).alloc (Nat.le_refl _) _
  unfold entCs at ba
  have BA := Lib.hid ba
  clear ba
  have e4 := hE.f
  have e5 := hE.l
  obtain ⟨ea, ec, rfl⟩ := h.e.val
  obtain ⟨fa, fc, rfl⟩ := h.f.val
  obtain ⟨la, lc, rfl⟩ := h.l.val
  clear h hR hE
  by_cases h1 : E.edges.length = 0
  · have hb : ((E.edges.length : Int) == 0) = true := by simp [h1]
    by_cases h2 : 0 < (E.first.length : Int) + (E.last.length : Int)
    · have HV := Lib.hid (show s2W E = true from decide_eq_true ⟨h1, by omega⟩)
      clear h1
      go_enter Tryz.func214, Tryz.ntmps214
      go_wp2_with fail
      go_ret
      exact ⟨ret_bool HV.out.symm, BA.out⟩
    · have HV := Lib.hid (show s2W E = false from decide_eq_false (fun h => h2 (by have := h.2; omega)))
      clear h1
      go_enter Tryz.func214, Tryz.ntmps214
      go_wp2_with fail
      go_ret
      exact ⟨ret_bool HV.out.symm, BA.out⟩
  · have hb : ((E.edges.length : Int) == 0) = false := by simp; intro e; exact h1 (by rw [e]; rfl)
    have HV := Lib.hid (show s2W E = false from decide_eq_false (fun h => h1 h.1))
    clear h1
    go_enter Tryz.func214, Tryz.ntmps214
    go_wp2_with fail
    go_ret
    exact ⟨ret_bool HV.out.symm, BA.out⟩
end Go.Proofs.YtikehilbmldadaaGreatDoor
