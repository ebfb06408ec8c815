/- Package conf: strangers. -/
import Derived.Test.YtakjbjokekbmbaaGreatDoorQ20
namespace Go.Proofs.YtakjbjokekbmbaaGreatDoor
open Go.RowKit
set_option linter.unusedVariables false

structure ST (w0 : World) (R : Nat → Prop) (E : EntV) (vp vg ve vf vl : Value) (eb base : Nat) (acc : List Int) (ao : Option Addr) (cap : Nat) (w : World) : Prop where
  ebx : EB w0 R E vp vg ve vf vl eb w
  nb : w.heap[eb + 1]? = some (.cells #[.int .i64 E.points.length] 3)
  own : w.ownsRow base 3 1 (.slice ao acc.length cap) acc.length (intCells acc)
  lay : eb + 2 ≤ base ∧ base ≤ w.heap.size
theorem ST.step {w0 wr wA w1 : World} {R : Nat → Prop} {E : EntV} {vp vg ve vf vl : Value} {eb base n : Nat} {acc acc' : List Int} {ao a1 : Option Addr} {cap k1 : Nat} {x y : Int} (h : ST w0 R E vp vg ve vf vl eb base acc ao cap wr) (kA : Keep (fun _ => False) wr wA) (hn : n = acc.length) (ha : acc' = acc ++ [x, y])
    (hg : wA.grownBy w1 (Value.slice ao n cap).ownBlock) (ho1 : w1.ownsRow base 3 1 (.slice a1 (n + 2) k1) (n + 2) (intCells acc ++ [.int .i64 x, .int .i64 y])) : n + 2 = acc'.length ∧ ST w0 R E vp vg ve vf vl eb base acc' a1 k1 w1 := by
  subst hn
  have hl : acc.length + 2 = acc'.length := by rw [ha, List.length_append]; rfl
  have hlay := h.lay
  have kk : Keep (fun b => base ≤ b) wr w1 := (kA.mono (fun _ _ h => h.elim)).trans ((Keep.of_grown hg).mono (fun b hb hs => (h.own.lt _ hs.symm).1))
  refine ⟨hl, h.ebx.keep kk (fun b hb _ => by have := h.ebx.hi; omega), kk.get h.nb (by omega), ?_, hlay.1, Nat.le_trans hlay.2 kk.size⟩
  rw [← hl, ha, intCells_app]
  exact ho1
theorem one_cell {w : World} {b : Nat} {c0 : Value} {t : TypeId} (h : w.heap[b]? = some (.cells #[c0] t)) : w.cell? ⟨b, 0, none⟩ = some c0 := by simp [World.cell?, h]
def strangP (E : EntV) : Bool := cntW E || strangeB E
set_option maxRecDepth 100000 in
set_option maxHeartbeats 4000000 in
theorem strangersP_any (R : Nat → Prop) (E : EntV) (vp vg ve vf vl : Value) (w : World) (h : EntSl R w E vp vg ve vf vl) (hR : ∀ b, R b → b < w.heap.size) (hE : EntSmall E) :
    Calls Tryz.prog 149 #[.agg (entCs E vp vg ve vf vl)] w fun e w' => e = .returned (.bool (strangP E)) ∧ Below w.heap.size w w' := by
  obtain ⟨i0, hi0, hz0, hz1, hz2⟩ := info_parts Tryz.infoInt
  obtain ⟨e1, e2, e3, e4, e5⟩ := hE
  obtain ⟨pa, pc, rfl⟩ := h.p.val
  obtain ⟨ga, gc, rfl⟩ := h.g.val
  obtain ⟨ea, ec, rfl⟩ := h.e.val
  obtain ⟨fa, fc, rfl⟩ := h.f.val
  obtain ⟨la, lc, rfl⟩ := h.l.val
  have hEB : EB w R E (.slice pa E.points.length pc) (.slice ga E.gaps.length gc) (.slice ea E.edges.length ec) (.slice fa E.first.length fc) (.slice la E.last.length lc) w.heap.size (w.alloc (.cells (entCs E (.slice pa E.points.length pc) (.slice ga E.gaps.length gc) (.slice ea E.edges.length ec) (.slice fa E.first.length fc) (.slice la E.last.length lc)) 38)) :=
    ⟨get_alloc_new _ _, h.keep (below_keep ((Below.refl _ _).alloc (Nat.le_refl _) _)) (fun _ _ h => h), (Below.refl _ _).alloc (Nat.le_refl _) _, hR, Nat.le_refl _⟩
  have hs1 : (w.alloc (.cells (entCs E (.slice pa E.points.length pc) (.slice ga E.gaps.length gc) (.slice ea E.edges.length ec) (.slice fa E.first.length fc) (.slice la E.last.length lc)) 38)).heap.size = w.heap.size + 1 := World.size_alloc _ _
  have HRw := Lib.hid hR
  clear h hR
  unfold entCs at hEB hs1 ⊢
  go_enter Tryz.func149, Tryz.ntmps149
  go_upto_region 1 with fail
  generalize w.alloc _ = w1 at hEB hs1 ⊢
  obtain ⟨c0, c1, c2, c3, c4, c5, c6, c7, c8, c9⟩ := hEB.cells
  have HB1 := Lib.hid hEB
  have HS1 := Lib.hid hs1
  clear hEB hs1
  obtain ⟨eb, heb⟩ : ∃ eb, eb = w.heap.size := ⟨_, rfl⟩
  rw [← heb] at c0 c1 c2 c3 c4 c5 c6 c7 c8 c9 HB1 HS1 ⊢
  have HEBQ := Lib.hid heb
  clear heb
  go_upto_region 2 with fail
  have hn1 := get_alloc_new w1 (.cells #[.int .i64 E.points.length] 3)
  have hb1 : Below w1.heap.size w1 (w1.alloc (.cells #[.int .i64 E.points.length] 3)) := (Below.refl _ _).alloc (Nat.le_refl _) _
  have hs2 : (w1.alloc (.cells #[.int .i64 E.points.length] 3)).heap.size = w1.heap.size + 1 := World.size_alloc _ _
  generalize w1.alloc _ = w2 at hn1 hb1 hs2 ⊢
  obtain ⟨nb, hnb⟩ : ∃ nb, nb = w1.heap.size := ⟨_, rfl⟩
  rw [← hnb] at hn1 ⊢
  have HNB : Hid (nb = eb + 1) := hnb.trans HS1.out
  have HB2 := Lib.hid (HB1.out.below hb1)
  have HN2 := Lib.hid hn1
  have HS2 : Hid (w2.heap.size = eb + 2) := (show w2.heap.size = eb + 2 from by have := HS1.out; omega)
  clear hnb hn1 hb1 hs2 c0 c1 c2 c3 c4 c5 c6 c7 c8 c9 HB1
  obtain ⟨c0, c1, c2, c3, c4, c5, c6, c7, c8, c9⟩ := HB2.out.cells
  have b3 : Below w2.heap.size w2 (w2.alloc (.cells #[.slice fa E.first.length fc, .slice la E.last.length lc] 36)) := (Below.refl _ _).alloc (Nat.le_refl _) _
  have hc3 := get_alloc_new w2 (.cells #[.slice fa E.first.length fc, .slice la E.last.length lc] 36)
  obtain ⟨z0, z1, zf⟩ := two_cells hc3
  have HB3 := Lib.hid (HB2.out.below b3)
  have HN3 := Lib.hid (below_get b3 HN2.out (lt_of_get HN2.out))
  have HS3 := Lib.hid (show (w2.alloc (.cells #[.slice fa E.first.length fc, .slice la E.last.length lc] 36)).heap.size = eb + 3 from by rw [World.size_alloc, HS2.out])
  have HCat := Lib.hid (concat_any R E.first E.last _ _ w2.heap.size _ HB3.out.sl.f HB3.out.sl.l (fun b hb => by have h1 := HB3.out.lo b hb; have h2 := HB3.out.bel.size; omega) z0 z1 e4 e5)
  clear z0 z1 zf hc3 b3
  go_wp2_with fail
  refine HCat.out.mono ?_
  rintro e w4 ⟨ao, cap, rfl, hown, b4⟩
  have hST : ST w R E (.slice pa E.points.length pc) (.slice ga E.gaps.length gc) (.slice ea E.edges.length ec) (.slice fa E.first.length fc) (.slice la E.last.length lc) eb (eb + 3) (accG E 0) ao cap w4 := by
    have e0 : accG E 0 = E.first ++ E.last := by simp [accG]
    rw [e0]
    rw [HS3.out] at hown
    exact ⟨HB3.out.below b4, by rw [← HNB.out]; exact below_get b4 HN3.out (lt_of_get HN3.out), hown, by omega, by have := HS3.out; have := b4.size; omega⟩
  have hl4 : (E.first ++ E.last).length = (accG E 0).length := by simp [accG]
  rw [hl4]
  have HST := Lib.hid hST
  clear hST hl4 hown b4 HCat HB3 HN3 HS3 HB2 HN2 HS2 c0 c1 c2 c3 c4 c5 c7 c8 c9 c6 HS1
  obtain ⟨c0, c1, c2, c3, c4, c5, c6, c7, c8, c9⟩ := HST.out.ebx.cells
  go_wp2_with fail
  go_loopw [4, 21] (fun s4 s21 wr => ∃ (k : Nat) (ao : Option Addr) (cap : Nat), k ≤ E.gaps.length ∧ s4 = .slice ao (accG E k).length cap ∧ s21 = .int .i64 k ∧ Hid (ST w R E (.slice pa E.points.length pc) (.slice ga E.gaps.length gc) (.slice ea E.edges.length ec) (.slice fa E.first.length fc) (.slice la E.last.length lc) eb (eb + 3) (accG E k) ao cap wr)) (fun _ s _ => E.gaps.length - (intOf s).toNat)
  case atStart => exact ⟨0, ao, cap, Nat.zero_le _, rfl, rfl, HST⟩
  case round =>
    obtain ⟨k, ao, cap, hk, rfl, rfl, hst⟩ := hrel
    clear HST c0 c1 c2 c3 c4 c5 c6 c7 c8 c9
    by_cases hlt : k < E.gaps.length
    · obtain ⟨b, off, rfl, hRb, hb, hc⟩ := hst.out.ebx.sl.g.elem (f := gapCells) (fun _ => rfl) (by decide) (by omega)
      have q0 := hc k hlt 0 _ rfl
      have q1 := hc k hlt 1 _ rfl
      have q2 := hc k hlt 2 _ rfl
      have q3 := hc k hlt 3 _ rfl
      rw [Nat.add_zero] at q0
      have hsz := Lib.hid hst.out.lay
      clear hc
      go_upto_region 6 with fail
      have hxb := get_alloc_new wr (.cells #[.int .i64 E.gaps[k].fr, .int .i64 E.gaps[k].dst, .int .i64 E.gaps[k].mn, .int .i64 E.gaps[k].mx] 96)
      have hkb : Keep (fun _ => False) wr (wr.alloc (.cells #[.int .i64 E.gaps[k].fr, .int .i64 E.gaps[k].dst, .int .i64 E.gaps[k].mn, .int .i64 E.gaps[k].mx] 96)) := (Keep.refl _ _).alloc _
      generalize wr.alloc _ = wb at hxb hkb ⊢
      obtain ⟨z0, z1, z2, z3⟩ := four_cells hxb
      have HKB := Lib.hid hkb
      have HOW := Lib.hid (ownsRow_keep' hst.out.own hkb (fun _ _ _ h => h))
      have HSZ : Hid (eb + 3 ≤ wb.heap.size) := Nat.le_trans hsz.out.2 hkb.size
      have hal := accG_len E k
      obtain ⟨n, hn⟩ : ∃ n, n = (accG E k).length := ⟨_, rfl⟩
      rw [← hn] at hal HOW ⊢
      have HNN := Lib.hid hn
      clear hn hxb hkb q0 q1 q2 q3 hb hsz
      go_wp2_with (at_builtin; go_must (refine wpList_append_ownS rfl (.tmp 25) (.tmp 30) 36 rfl (eb + 3) 3 i0 _ 1 8 Tryz.underlying36 hi0 hz0 hz1 hz2 rfl (by decide) _ n _ rfl (HOW.out.alloc _) ⟨wb.heap.size, 0, none⟩ 2 2 [.int .i64 E.gaps[k].fr, .int .i64 E.gaps[k].dst] rfl rfl (by exact new_cells _ [.int .i64 E.gaps[k].fr, .int .i64 E.gaps[k].dst] _) (by intro u hu; simp at hu; rcases hu with rfl | rfl <;> rfl) (by unfold maxLen; omega) (by omega) (by have := HSZ.out; simp; omega) ?_; intro a1 k1 w6 ho6 hg6))
      obtain ⟨hl6, hs6⟩ := hst.out.step (HKB.out.alloc _) HNN.out (accG_succ E k hlt) hg6 ho6
      rw [hl6]
      have HS6 := Lib.hid hs6
      clear hl6 hs6 ho6 hg6 HOW z0 z1 z2 z3 hal
      go_roundw
      case rel => exact ⟨k + 1, a1, k1, by omega, rfl, by go_num, HS6⟩
      case measure => simp [intOf]; omega
    · obtain rfl : k = E.gaps.length := by omega
      have e0 : accG E E.gaps.length = accE E 0 := by simp [accG, accE]
      rw [e0] at hst ⊢
      have HST := hst
      clear hst e0
      obtain ⟨c0, c1, c2, c3, c4, c5, c6, c7, c8, c9⟩ := HST.out.ebx.cells
      go_wp2_with fail
      go_loopw [4, 36] (fun s4 s36 wr => ∃ (k : Nat) (ao : Option Addr) (cap : Nat), k ≤ E.edges.length ∧ s4 = .slice ao (accE E k).length cap ∧ s36 = .int .i64 k ∧ Hid (ST w R E (.slice pa E.points.length pc) (.slice ga E.gaps.length gc) (.slice ea E.edges.length ec) (.slice fa E.first.length fc) (.slice la E.last.length lc) eb (eb + 3) (accE E k) ao cap wr)) (fun _ s _ => E.edges.length - (intOf s).toNat)
      case atStart => exact ⟨0, ao, cap, Nat.zero_le _, rfl, rfl, HST⟩
      case round =>
        obtain ⟨k, ao, cap, hk, rfl, rfl, hst⟩ := hrel
        clear HST c0 c1 c2 c3 c4 c5 c6 c7 c8 c9
        by_cases hlt : k < E.edges.length
        · obtain ⟨b, off, rfl, hRb, hb, hc⟩ := hst.out.ebx.sl.e.elem (f := edgeCells) (fun _ => rfl) (by decide) (by omega)
          have q0 := hc k hlt 0 _ rfl
          have q1 := hc k hlt 1 _ rfl
          rw [Nat.add_zero] at q0
          have hsz := Lib.hid hst.out.lay
          clear hc
          go_upto_region 11 with fail
          have hxb := get_alloc_new wr (.cells #[.int .i64 E.edges[k].1, .int .i64 E.edges[k].2] 97)
          have hkb : Keep (fun _ => False) wr (wr.alloc (.cells #[.int .i64 E.edges[k].1, .int .i64 E.edges[k].2] 97)) := (Keep.refl _ _).alloc _
          generalize wr.alloc _ = wb at hxb hkb ⊢
          obtain ⟨z0, z1, zf⟩ := two_cells hxb
          have HKB := Lib.hid hkb
          have HOW := Lib.hid (ownsRow_keep' hst.out.own hkb (fun _ _ _ h => h))
          have HSZ : Hid (eb + 3 ≤ wb.heap.size) := Nat.le_trans hsz.out.2 hkb.size
          have hal := accE_len E k
          obtain ⟨n, hn⟩ : ∃ n, n = (accE E k).length := ⟨_, rfl⟩
          rw [← hn] at hal HOW ⊢
          have HNN := Lib.hid hn
          clear hn hxb hkb q0 q1 hb hsz zf
          go_wp2_with (at_builtin; go_must (refine wpList_append_ownS rfl (.tmp 40) (.tmp 45) 36 rfl (eb + 3) 3 i0 _ 1 8 Tryz.underlying36 hi0 hz0 hz1 hz2 rfl (by decide) _ n _ rfl (HOW.out.alloc _) ⟨wb.heap.size, 0, none⟩ 2 2 [.int .i64 E.edges[k].1, .int .i64 E.edges[k].2] rfl rfl (by exact new_cells _ [.int .i64 E.edges[k].1, .int .i64 E.edges[k].2] _) (by intro u hu; simp at hu; rcases hu with rfl | rfl <;> rfl) (by unfold maxLen; omega) (by omega) (by have := HSZ.out; simp; omega) ?_; intro a1 k1 w6 ho6 hg6))
          obtain ⟨hl6, hs6⟩ := hst.out.step (HKB.out.alloc _) HNN.out (accE_succ E k hlt) hg6 ho6
          rw [hl6]
          have HS6 := Lib.hid hs6
          clear hl6 hs6 ho6 hg6 HOW z0 z1 hal
          go_roundw
          case rel => exact ⟨k + 1, a1, k1, by omega, rfl, by go_num, HS6⟩
          case measure => simp [intOf]; omega
        · obtain rfl : k = E.edges.length := by omega
          have e0 : accE E E.edges.length = strL E := by simp [accE, strL]
          have hal := accE_len E E.edges.length
          rw [e0] at hst hal ⊢
          have HST := hst
          clear hst e0
          obtain ⟨c0, c1, c2, c3, c4, c5, c6, c7, c8, c9⟩ := HST.out.ebx.cells
          have hnn := one_cell HST.out.nb
          rw [← HNB.out] at hnn
          have HCo := Lib.hid (conStr_any _ (strL E) _ E.points.length nb wr (slOf_owns HST.out.own) (by omega) hnn)
          unfold strgV at HCo
          have hbl := HST.out.ebx.bel
          by_cases h1 : E.count < -1
          · have HV := Lib.hid (show strangP E = true from by unfold strangP cntW; rw [decide_eq_true (.inl h1)]; rfl)
            go_wp2_with fail
            go_ret
            exact ⟨ret_bool HV.out.symm, hbl⟩
          by_cases h2 : (E.points.length : Int) ≤ E.count
          · have HV := Lib.hid (show strangP E = true from by unfold strangP cntW; rw [decide_eq_true (.inr h2)]; rfl)
            go_wp2_with fail
            go_ret
            exact ⟨ret_bool HV.out.symm, hbl⟩
          have HV := Lib.hid (show strangP E = (strL E).any (strgP E.points.length) from by unfold strangP cntW; rw [decide_eq_false (by omega)]; rfl)
          generalize (strL E).any (strgP E.points.length) = ans at HCo HV
          go_wp2_with fail
          refine HCo.out.mono ?_
          rintro e w' ⟨rfl, rfl⟩
          go_wp2_with fail
          go_ret
          exact ⟨ret_bool HV.out.symm, hbl⟩
end Go.Proofs.YtakjbjokekbmbaaGreatDoor

/- Package conf: the rules of an entity, one by one. -/
namespace Go.Proofs.YtakjbjokekbmbaaGreatDoor
open Go.RowKit
set_option linter.unusedVariables false

def twiceE (E : EntV) : Bool := edgesTwice E.edges || (twiceB E.first || twiceB E.last)
def ruleB (E : EntV) : Nat → Bool
  | 0 => strangP E
  | 1 => cmmW E
  | 2 => rngW E
  | 3 => E.gaps.any gapWrong
  | 4 => twiceE E
  | 5 => s1W E
  | 6 => s2W E
  | _ => false
def ruleN : Nat → Nat
  | 0 => 5
  | 1 => 3
  | 2 => 2
  | 3 => 2
  | 4 => 6
  | _ => 3
def tailE (E : EntV) : Nat :=
  if ruleB E 0 = true then 5 else if ruleB E 1 = true then 3 else if ruleB E 2 = true then 2 else if ruleB E 3 = true then 2 else if ruleB E 4 = true then 6 else if ruleB E 5 = true then 3 else if ruleB E 6 = true then 3 else 0
theorem tailE_hit {E : EntV} (k : Nat) (hk : k < 7) (h : ruleB E k = true) (hb : ∀ j, j < k → ruleB E j = false) : tailE E = ruleN k := by
  unfold tailE
  match k, hk with
  | 0, _ => rw [h]; rfl
  | 1, _ => rw [hb 0 (by decide), h]; rfl
  | 2, _ => rw [hb 0 (by decide), hb 1 (by decide), h]; rfl
  | 3, _ => rw [hb 0 (by decide), hb 1 (by decide), hb 2 (by decide), h]; rfl
  | 4, _ => rw [hb 0 (by decide), hb 1 (by decide), hb 2 (by decide), hb 3 (by decide), h]; rfl
  | 5, _ => rw [hb 0 (by decide), hb 1 (by decide), hb 2 (by decide), hb 3 (by decide), hb 4 (by decide), h]; rfl
  | 6, _ => rw [hb 0 (by decide), hb 1 (by decide), hb 2 (by decide), hb 3 (by decide), hb 4 (by decide), hb 5 (by decide), h]; rfl
theorem tailE_miss {E : EntV} (hb : ∀ j, j < 7 → ruleB E j = false) : tailE E = 0 := by
  unfold tailE
  rw [hb 0 (by decide), hb 1 (by decide), hb 2 (by decide), hb 3 (by decide), hb 4 (by decide), hb 5 (by decide), hb 6 (by decide)]
  rfl
theorem entErr_tail {ahead : List ByteArray} {E : EntV} (h1 : isNameB E.name = true) (h2 : hasStr ahead E.name = false) (h3 : topW E = false) (h4 : fstW E = false) (h5 : ptsE E.points = 0) : entErr ahead E = tailE E := by
  unfold entErr tailE
  rw [h1, h2, h3, h4, h5]
  simp only [ruleB, strangP, twiceE]
  cases cntW E
  · cases strangeB E
    · cases cmmW E
      · cases rngW E
        · cases E.gaps.any gapWrong
          · cases edgesTwice E.edges
            · cases twiceB E.first
              · cases twiceB E.last <;> rfl
              · rfl
            · rfl
          · rfl
        · rfl
      · rfl
    · rfl
  · rfl

section
variable (E : EntV) (vp vg ve vf vl : Value) (w : World)
set_option maxHeartbeats 400000 in
theorem rule1_any : Calls Tryz.prog 150 #[.agg (entCs E vp vg ve vf vl)] w fun e w' => e = .returned (.bool (cmmW E)) ∧ Below w.heap.size w w' := by
  unfold entCs
  have ba : Below w.heap.size w (w.alloc (.cells (entCs E vp vg ve vf vl) 38)) := (Below.refl _ _).alloc (Nat.le_refl _) _
  unfold entCs at ba
  have BA := Lib.hid ba
  clear ba
  by_cases h1 : E.count = -1
  · have hb1 : (E.count == -1) = true := by simp [h1]
    by_cases h2 : E.mn = 0
    · have hb2 : (E.mn != 0) = false := by simp [h2]
      by_cases h3 : E.mx = 0
      · have hb3 : (E.mx != 0) = false := by simp [h3]
        have HV := Lib.hid (show cmmW E = false from decide_eq_false (by omega))
        clear h1 h2 h3
        go_enter Tryz.func150, Tryz.ntmps150
        go_wp2_with fail
        go_ret
        exact ⟨ret_bool HV.out.symm, BA.out⟩
      · have hb3 : (E.mx != 0) = true := by simp [h3]
        have HV := Lib.hid (show cmmW E = true from decide_eq_true ⟨h1, .inr h3⟩)
        clear h1 h2 h3
        go_enter Tryz.func150, Tryz.ntmps150
        go_wp2_with fail
        go_ret
        exact ⟨ret_bool HV.out.symm, BA.out⟩
    · have hb2 : (E.mn != 0) = true := by simp [h2]
      have HV := Lib.hid (show cmmW E = true from decide_eq_true ⟨h1, .inl h2⟩)
      clear h1 h2
      go_enter Tryz.func150, Tryz.ntmps150
      go_wp2_with fail
      go_ret
      exact ⟨ret_bool HV.out.symm, BA.out⟩
  · have hb1 : (E.count == -1) = false := by simp [h1]
    have HV := Lib.hid (show cmmW E = false from decide_eq_false (fun h => h1 h.1))
    clear h1
    go_enter Tryz.func150, Tryz.ntmps150
    go_wp2_with fail
    go_ret
    exact ⟨ret_bool HV.out.symm, BA.out⟩
set_option maxHeartbeats 400000 in
theorem rule2_any : Calls Tryz.prog 151 #[.agg (entCs E vp vg ve vf vl)] w fun e w' => e = .returned (.bool (rngW E)) ∧ Below w.heap.size w w' := by
  unfold entCs
  have ba : Below w.heap.size w (w.alloc (.cells (entCs E vp vg ve vf vl) 38)) := (Below.refl _ _).alloc (Nat.le_refl _) _
  unfold entCs at ba
  have BA := Lib.hid ba
  clear ba
  by_cases h1 : E.mn < 0
  · have HV := Lib.hid (show rngW E = true from decide_eq_true (.inl h1))
    go_enter Tryz.func151, Tryz.ntmps151
    go_wp2_with fail
    go_ret
    exact ⟨ret_bool HV.out.symm, BA.out⟩
  · by_cases h2 : E.mx < E.mn
    · have HV := Lib.hid (show rngW E = true from decide_eq_true (.inr (.inl h2)))
      go_enter Tryz.func151, Tryz.ntmps151
      go_wp2_with fail
      go_ret
      exact ⟨ret_bool HV.out.symm, BA.out⟩
    · have HV := Lib.hid (show rngW E = decide (1000 ≤ E.mx) from by unfold rngW; rw [decide_eq_decide]; omega)
      go_enter Tryz.func151, Tryz.ntmps151
      go_wp2_with fail
      go_ret
      exact ⟨ret_bool HV.out.symm, BA.out⟩
end
section
variable (R : Nat → Prop) (E : EntV) (vp vg ve vf vl : Value) (w : World) (h : EntSl R w E vp vg ve vf vl) (hR : ∀ b, R b → b < w.heap.size) (hE : EntSmall E)
include h hR hE
set_option maxHeartbeats 400000 in
theorem rule3_any : Calls Tryz.prog 152 #[.agg (entCs E vp vg ve vf vl)] w fun e w' => e = .returned (.bool (E.gaps.any gapWrong)) ∧ Below w.heap.size w w' := by
  unfold entCs
  have ba : Below w.heap.size w (w.alloc (.cells (entCs E vp vg ve vf vl) 38)) := (Below.refl _ _).alloc (Nat.le_refl _) _
  unfold entCs at ba
  have BA := Lib.hid ba
  clear ba
  obtain ⟨ga, gc, rfl⟩ := h.g.val
  have HC := Lib.hid (fun W (hB : Below w.heap.size w W) => conGap_any R E.gaps _ W (h.g.below hB hR) (below_lt2 hR hB) (by have := hE.g; omega))
  unfold gapFV at HC
  generalize E.gaps.any gapWrong = ans at HC ⊢
  clear h hR hE
  go_enter Tryz.func152, Tryz.ntmps152
  go_wp2_with fail
  refine (HC.out _ BA.out).mono ?_
  rintro e w2 ⟨rfl, b2⟩
  go_wp2_with fail
  go_ret
  exact ⟨rfl, BA.out.trans (b2.mono BA.out.size)⟩
set_option maxRecDepth 100000 in
set_option maxHeartbeats 1000000 in
theorem rule4_any : Calls Tryz.prog 155 #[.agg (entCs E vp vg ve vf vl)] w fun e w' => e = .returned (.bool (twiceE E)) ∧ Below w.heap.size w w' := by
  obtain ⟨ea, ec, rfl⟩ := h.e.val
  obtain ⟨fa, fc, rfl⟩ := h.f.val
  obtain ⟨la, lc, rfl⟩ := h.l.val
  have H := Lib.hid h
  have hEB : EB w R E vp vg (.slice ea E.edges.length ec) (.slice fa E.first.length fc) (.slice la E.last.length lc) w.heap.size (w.alloc (.cells (entCs E vp vg (.slice ea E.edges.length ec) (.slice fa E.first.length fc) (.slice la E.last.length lc)) 38)) :=
    ⟨get_alloc_new _ _, h.keep (below_keep ((Below.refl _ _).alloc (Nat.le_refl _) _)) (fun _ _ h => h), (Below.refl _ _).alloc (Nat.le_refl _) _, hR, Nat.le_refl _⟩
  have HP := Lib.hid (fun W (hB : Below w.heap.size w W) => twiceP_any R E.edges _ W (h.e.below hB hR) (below_lt2 hR hB) (by have := hE.e; omega))
  have HF := Lib.hid (fun W (hB : Below w.heap.size w W) => twiceI_any R E.first _ W (h.f.below hB hR) (by have := hE.f; omega))
  have HL := Lib.hid (fun W (hB : Below w.heap.size w W) => twiceI_any R E.last _ W (h.l.below hB hR) (by have := hE.l; omega))
  have HT : Hid (twiceE E = (edgesTwice E.edges || (twiceB E.first || twiceB E.last))) := rfl
  generalize edgesTwice E.edges = t1 at HP HT
  generalize twiceB E.first = t2 at HF HT
  generalize twiceB E.last = t3 at HL HT
  clear h hE
  unfold entCs at hEB ⊢
  go_enter Tryz.func155, Tryz.ntmps155
  go_upto_region 1 with fail
  generalize w.alloc _ = w1 at hEB ⊢
  obtain ⟨c0, c1, c2, c3, c4, c5, c6, c7, c8, c9⟩ := hEB.cells
  have HEB := Lib.hid hEB
  clear hEB c0 c1 c2 c3 c4 c5 c6
  go_wp2_with fail
  refine (HP.out _ HEB.out.bel).mono ?_
  rintro e w2 ⟨rfl, b2⟩
  have HEB2 := Lib.hid (HEB.out.below b2)
  clear c7 c8 c9 b2 HEB
  obtain ⟨c0, c1, c2, c3, c4, c5, c6, c7, c8, c9⟩ := HEB2.out.cells
  clear c0 c1 c2 c3 c4 c5 c6 c7
  have hbl := HEB2.out.bel
  cases t1 with
  | true =>
    have HV := Lib.hid (show twiceE E = true from HT.out)
    go_wp2_with fail
    go_ret
    exact ⟨ret_bool HV.out.symm, hbl⟩
  | false =>
    go_wp2_with fail
    refine (HF.out _ hbl).mono ?_
    rintro e w' ⟨rfl, rfl⟩
    cases t2 with
    | true =>
      have HV := Lib.hid (show twiceE E = true from HT.out)
      go_wp2_with fail
      go_ret
      exact ⟨ret_bool HV.out.symm, hbl⟩
    | false =>
      go_wp2_with fail
      refine (HL.out _ hbl).mono ?_
      rintro e w' ⟨rfl, rfl⟩
      have HV := Lib.hid (show twiceE E = t3 from HT.out)
      go_wp2_with fail
      go_ret
      exact ⟨ret_bool HV.out.symm, hbl⟩
end
set_option maxHeartbeats 400000 in
theorem rule5_any (R : Nat → Prop) (E : EntV) (vp vg ve vf vl : Value) (w : World) (h : EntSl R w E vp vg ve vf vl) (hR : ∀ b, R b → b < w.heap.size) (hE : EntSmall E) : Calls Tryz.prog 158 #[.agg (entCs E vp vg ve vf vl)] w fun e w' => e = .returned (.bool (s1W E)) ∧ Below w.heap.size w w' := by
  unfold entCs
  have ba : Below w.heap.size w (w.alloc (.cells (entCs E vp vg ve vf vl) 38)) := (Below.refl _ _).alloc (Nat.le_refl _) _
  unfold entCs at ba
  have BA := Lib.hid ba
  clear ba
  obtain ⟨ea, ec, rfl⟩ := h.e.val
  obtain ⟨fa, fc, rfl⟩ := h.f.val
  clear h hR hE
  by_cases h1 : 0 < E.edges.length
  · by_cases h2 : E.first.length = 0
    · have hb : ((E.first.length : Int) == 0) = true := by simp [h2]
      have HV := Lib.hid (show s1W E = true from decide_eq_true ⟨h1, h2⟩)
      clear h2
      go_enter Tryz.func158, Tryz.ntmps158
      go_wp2_with fail
      go_ret
      exact ⟨ret_bool HV.out.symm, BA.out⟩
    · have hb : ((E.first.length : Int) == 0) = false := by simp; intro e; exact h2 (by rw [e]; rfl)
      have HV := Lib.hid (show s1W E = false from decide_eq_false (fun h => h2 h.2))
      clear h2
      go_enter Tryz.func158, Tryz.ntmps158
      go_wp2_with fail
      go_ret
      exact ⟨ret_bool HV.out.symm, BA.out⟩
  · have HV := Lib.hid (show s1W E = false from decide_eq_false (fun h => h1 h.1))
    go_enter Tryz.func158, Tryz.ntmps158
    go_wp2_with fail
    go_ret
    exact ⟨ret_bool HV.out.symm, BA.out⟩
set_option maxHeartbeats 400000 in
theorem rule6_any (R : Nat → Prop) (E : EntV) (vp vg ve vf vl : Value) (w : World) (h : EntSl R w E vp vg ve vf vl) (hR : ∀ b, R b → b < w.heap.size) (hE : EntSmall E) : Calls Tryz.prog 159 #[.agg (entCs E vp vg ve vf vl)] w fun e w' => e = .returned (.bool (s2W E)) ∧ Below w.heap.size w w' := by
  unfold entCs
  have ba : Below w.heap.size w (w.alloc (.cells (entCs E vp vg ve vf vl) 38)) := (Below.refl _ _).alloc (Nat.le_refl _) _
  unfold entCs at ba
  have BA := Lib.hid ba
  clear ba
  have e4 := hE.f
  have e5 := hE.l
  obtain ⟨ea, ec, rfl⟩ := h.e.val
  obtain ⟨fa, fc, rfl⟩ := h.f.val
  obtain ⟨la, lc, rfl⟩ := h.l.val
  clear h hR hE
  by_cases h1 : E.edges.length = 0
  · have hb : ((E.edges.length : Int) == 0) = true := by simp [h1]
    by_cases h2 : 0 < (E.first.length : Int) + (E.last.length : Int)
    · have HV := Lib.hid (show s2W E = true from decide_eq_true ⟨h1, by omega⟩)
      clear h1
      go_enter Tryz.func159, Tryz.ntmps159
      go_wp2_with fail
      go_ret
      exact ⟨ret_bool HV.out.symm, BA.out⟩
    · have HV := Lib.hid (show s2W E = false from decide_eq_false (fun h => h2 (by have := h.2; omega)))
      clear h1
      go_enter Tryz.func159, Tryz.ntmps159
      go_wp2_with fail
      go_ret
      exact ⟨ret_bool HV.out.symm, BA.out⟩
  · have hb : ((E.edges.length : Int) == 0) = false := by simp; intro e; exact h1 (by rw [e]; rfl)
    have HV := Lib.hid (show s2W E = false from decide_eq_false (fun h => h1 h.1))
    clear h1
    go_enter Tryz.func159, Tryz.ntmps159
    go_wp2_with fail
    go_ret
    exact ⟨ret_bool HV.out.symm, BA.out⟩
end Go.Proofs.YtakjbjokekbmbaaGreatDoor
