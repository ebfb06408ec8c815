/- Package conf: the rules of an entity, one by one. -/
import Derived.Test.YtkhcepdeppmofaaDoorConfG
namespace Go.Proofs.YtkhcepdeppmofaaDoor
open Go.RowKit
set_option linter.unusedVariables false

def twiceE (E : EntV) : Bool := edgesTwice E.edges || (twiceB E.first || twiceB E.last)
def ruleB (E : EntV) : Nat → Bool
  | 0 => strangP E
  | 1 => cmmW E
  | 2 => rngW E
  | 3 => E.gaps.any gapWrong
  | 4 => twiceE E
  | 5 => s1W E
  | 6 => s2W E
  | _ => false
def ruleN : Nat → Nat
  | 0 => 5
  | 1 => 3
  | 2 => 2
  | 3 => 2
  | 4 => 6
  | _ => 3
def tailE (E : EntV) : Nat :=
  if ruleB E 0 = true then 5 else if ruleB E 1 = true then 3 else if ruleB E 2 = true then 2 else if ruleB E 3 = true then 2 else if ruleB E 4 = true then 6 else if ruleB E 5 = true then 3 else if ruleB E 6 = true then 3 else 0
theorem tailE_hit {E : EntV} (k : Nat) (hk : k < 7) (h : ruleB E k = true) (hb : ∀ j, j < k → ruleB E j = false) : tailE E = ruleN k := by
  unfold tailE
  match k, hk with
  | 0, _ => rw [h]; rfl
  | 1, _ => rw [hb 0 (by decide), h]; rfl
  | 2, _ => rw [hb 0 (by decide), hb 1 (by decide), h]; rfl
  | 3, _ => rw [hb 0 (by decide), hb 1 (by decide), hb 2 (by decide), h]; rfl
  | 4, _ => rw [hb 0 (by decide), hb 1 (by decide), hb 2 (by decide), hb 3 (by decide), h]; rfl
  | 5, _ => rw [hb 0 (by decide), hb 1 (by decide), hb 2 (by decide), hb 3 (by decide), hb 4 (by decide), h]; rfl
  | 6, _ => rw [hb 0 (by decide), hb 1 (by decide), hb 2 (by decide), hb 3 (by decide), hb 4 (by decide), hb 5 (by decide), h]; rfl
theorem tailE_miss {E : EntV} (hb : ∀ j, j < 7 → ruleB E j = false) : tailE E = 0 := by
  unfold tailE
  rw [hb 0 (by decide), hb 1 (by decide), hb 2 (by decide), hb 3 (by decide), hb 4 (by decide), hb 5 (by decide), hb 6 (by decide)]
  rfl
theorem entErr_tail {ahead : List ByteArray} {E : EntV} (h1 : isNameB E.name = true) (h2 : hasStr ahead E.name = false) (h3 : topW E = false) (h4 : fstW E = false) (h5 : ptsE E.points = 0) : entErr ahead E = tailE E := by
  unfold entErr tailE
  rw [h1, h2, h3, h4, h5]
  simp only [ruleB, strangP, twiceE]
  cases cntW E
  · cases strangeB E
    · cases cmmW E
      · cases rngW E
        · cases E.gaps.any gapWrong
          · cases edgesTwice E.edges
            · cases twiceB E.first
              · cases twiceB E.last <;> rfl
              · rfl
            · rfl
          · rfl
        · rfl
      · rfl
    · rfl
  · rfl

section
variable (E : EntV) (vp vg ve vf vl : Value) (w : World)
set_option maxHeartbeats 400000 in
theorem rule1_any : Calls Tryd.prog 145 #[.agg (entCs E vp vg ve vf vl)] w fun e w' => e = .returned (.bool (cmmW E)) ∧ Below w.heap.size w w' := by
  unfold entCs
  have ba : Below w.heap.size w (w.alloc (.cells (entCs E vp vg ve vf vl) 27)) := (Below.refl _ _).alloc (Nat.le_refl _) _
  unfold entCs at ba
  have BA := Lib.hid ba
  clear ba
  by_cases h1 : E.count = -1
  · have hb1 : (E.count == -1) = true := by simp [h1]
    by_cases h2 : E.mn = 0
    · have hb2 : (E.mn != 0) = false := by simp [h2]
      by_cases h3 : E.mx = 0
      · have hb3 : (E.mx != 0) = false := by simp [h3]
        have HV := Lib.hid (show cmmW E = false from decide_eq_false (by omega))
        clear h1 h2 h3
        go_enter Tryd.func145, Tryd.ntmps145
        go_wp2_with fail
        go_ret
        exact ⟨ret_bool HV.out.symm, BA.out⟩
      · have hb3 : (E.mx != 0) = true := by simp [h3]
        have HV := Lib.hid (show cmmW E = true from decide_eq_true ⟨h1, .inr h3⟩)
        clear h1 h2 h3
        go_enter Tryd.func145, Tryd.ntmps145
        go_wp2_with fail
        go_ret
        exact ⟨ret_bool HV.out.symm, BA.out⟩
    · have hb2 : (E.mn != 0) = true := by simp [h2]
      have HV := Lib.hid (show cmmW E = true from decide_eq_true ⟨h1, .inl h2⟩)
      clear h1 h2
      go_enter Tryd.func145, Tryd.ntmps145
      go_wp2_with fail
      go_ret
      exact ⟨ret_bool HV.out.symm, BA.out⟩
  · have hb1 : (E.count == -1) = false := by simp [h1]
    have HV := Lib.hid (show cmmW E = false from decide_eq_false (fun h => h1 h.1))
    clear h1
    go_enter Tryd.func145, Tryd.ntmps145
    go_wp2_with fail
    go_ret
    exact ⟨ret_bool HV.out.symm, BA.out⟩
set_option maxHeartbeats 400000 in
theorem rule2_any : Calls Tryd.prog 146 #[.agg (entCs E vp vg ve vf vl)] w fun e w' => e = .returned (.bool (rngW E)) ∧ Below w.heap.size w w' := by
  unfold entCs
  have ba : Below w.heap.size w (w.alloc (.cells (entCs E vp vg ve vf vl) 27)) := (Below.refl _ _).alloc (Nat.le_refl _) _
  unfold entCs at ba
  have BA := Lib.hid ba
  clear ba
  by_cases h1 : E.mn < 0
  · have HV := Lib.hid (show rngW E = true from decide_eq_true (.inl h1))
    go_enter Tryd.func146, Tryd.ntmps146
    go_wp2_with fail
    go_ret
    exact ⟨ret_bool HV.out.symm, BA.out⟩
  · by_cases h2 : E.mx < E.mn
    · have HV := Lib.hid (show rngW E = true from decide_eq_true (.inr (.inl h2)))
      go_enter Tryd.func146, Tryd.ntmps146
      go_wp2_with fail
      go_ret
      exact ⟨ret_bool HV.out.symm, BA.out⟩
    · have HV := Lib.hid (show rngW E = decide (1000 ≤ E.mx) from by unfold rngW; rw [decide_eq_decide]; omega)
      go_enter Tryd.func146, Tryd.ntmps146
      go_wp2_with fail
      go_ret
      exact ⟨ret_bool HV.out.symm, BA.out⟩
end
section
variable (R : Nat → Prop) (E : EntV) (vp vg ve vf vl : Value) (w : World) (h : EntSl R w E vp vg ve vf vl) (hR : ∀ b, R b → b < w.heap.size) (hE : EntSmall E)
include h hR hE
set_option maxHeartbeats 400000 in
theorem rule3_any : Calls Tryd.prog 147 #[.agg (entCs E vp vg ve vf vl)] w fun e w' => e = .returned (.bool (E.gaps.any gapWrong)) ∧ Below w.heap.size w w' := by
  unfold entCs
  have ba : Below w.heap.size w (w.alloc (.cells (entCs E vp vg ve vf vl) 27)) := (Below.refl _ _).alloc (Nat.le_refl _) _
  unfold entCs at ba
  have BA := Lib.hid ba
  clear ba
  obtain ⟨ga, gc, rfl⟩ := h.g.val
  have HC := Lib.hid (fun W (hB : Below w.heap.size w W) => conGap_any R E.gaps _ W (h.g.below hB hR) (below_lt2 hR hB) (by have := hE.g; omega))
  unfold gapFV at HC
  generalize E.gaps.any gapWrong = ans at HC ⊢
  clear h hR hE
  go_enter Tryd.func147, Tryd.ntmps147
  go_wp2_with fail
  refine (HC.out _ BA.out).mono ?_
  rintro e w2 ⟨rfl, b2⟩
  go_wp2_with fail
  go_ret
  exact ⟨rfl, BA.out.trans (b2.mono BA.out.size)⟩
set_option maxRecDepth 100000 in
set_option maxHeartbeats 1000000 in
theorem rule4_any : Calls Tryd.prog 150 #[.agg (entCs E vp vg ve vf vl)] w fun e w' => e = .returned (.bool (twiceE E)) ∧ Below w.heap.size w w' := by
  obtain ⟨ea, ec, rfl⟩ := h.e.val
  obtain ⟨fa, fc, rfl⟩ := h.f.val
  obtain ⟨la, lc, rfl⟩ := h.l.val
  have H := Lib.hid h
  have hEB : EB w R E vp vg (.slice ea E.edges.length ec) (.slice fa E.first.length fc) (.slice la E.last.length lc) w.heap.size (w.alloc (.cells (entCs E vp vg (.slice ea E.edges.length ec) (.slice fa E.first.length fc) (.slice la E.last.length lc)) 27)) :=
    ⟨get_alloc_new _ _, h.keep (below_keep ((Below.refl _ _).alloc (Nat.le_refl _) _)) (fun _ _ h => h), (Below.refl _ _).alloc (Nat.le_refl _) _, hR, Nat.le_refl _⟩
  have HP := Lib.hid (fun W (hB : Below w.heap.size w W) => twiceP_any R E.edges _ W (h.e.below hB hR) (below_lt2 hR hB) (by have := hE.e; omega))
  have HF := Lib.hid (fun W (hB : Below w.heap.size w W) => twiceI_any R E.first _ W (h.f.below hB hR) (by have := hE.f; omega))
  have HL := Lib.hid (fun W (hB : Below w.heap.size w W) => twiceI_any R E.last _ W (h.l.below hB hR) (by have := hE.l; omega))
  have HT : Hid (twiceE E = (edgesTwice E.edges || (twiceB E.first || twiceB E.last))) := rfl
  generalize edgesTwice E.edges = t1 at HP HT
  generalize twiceB E.first = t2 at HF HT
  generalize twiceB E.last = t3 at HL HT
  clear h hE
  unfold entCs at hEB ⊢
  go_enter Tryd.func150, Tryd.ntmps150
  go_upto_region 1 with fail
  generalize w.alloc _ = w1 at hEB ⊢
  obtain ⟨c0, c1, c2, c3, c4, c5, c6, c7, c8, c9⟩ := hEB.cells
  have HEB := Lib.hid hEB
  clear hEB c0 c1 c2 c3 c4 c5 c6
  go_wp2_with fail
  refine (HP.out _ HEB.out.bel).mono ?_
  rintro e w2 ⟨rfl, b2⟩
  have HEB2 := Lib.hid (HEB.out.below b2)
  clear c7 c8 c9 b2 HEB
  obtain ⟨c0, c1, c2, c3, c4, c5, c6, c7, c8, c9⟩ := HEB2.out.cells
  clear c0 c1 c2 c3 c4 c5 c6 c7
  have hbl := HEB2.out.bel
  cases t1 with
  | true =>
    have HV := Lib.hid (show twiceE E = true from HT.out)
    go_wp2_with fail
    go_ret
    exact ⟨ret_bool HV.out.symm, hbl⟩
  | false =>
    go_wp2_with fail
    refine (HF.out _ hbl).mono ?_
    rintro e w' ⟨rfl, rfl⟩
    cases t2 with
    | true =>
      have HV := Lib.hid (show twiceE E = true from HT.out)
      go_wp2_with fail
      go_ret
      exact ⟨ret_bool HV.out.symm, hbl⟩
    | false =>
      go_wp2_with fail
      refine (HL.out _ hbl).mono ?_
      rintro e w' ⟨rfl, rfl⟩
      have HV := Lib.hid (show twiceE E = t3 from HT.out)
      go_wp2_with fail
      go_ret
      exact ⟨ret_bool HV.out.symm, hbl⟩
end
set_option maxHeartbeats 400000 in
theorem rule5_any (R : Nat → Prop) (E : EntV) (vp vg ve vf vl : Value) (w : World) (h : EntSl R w E vp vg ve vf vl) (hR : ∀ b, R b → b < w.heap.size) (hE : EntSmall E) : Calls Tryd.prog 153 #[.agg (entCs E vp vg ve vf vl)] w fun e w' => e = .returned (.bool (s1W E)) ∧ Below w.heap.size w w' := by
  unfold entCs
  have ba : Below w.heap.size w (w.alloc (.cells (entCs E vp vg ve vf vl) 27)) := (Below.refl _ _).alloc (Nat.le_refl _) _
  unfold entCs at ba
  have BA := Lib.hid ba
  clear ba
  obtain ⟨ea, ec, rfl⟩ := h.e.val
  obtain ⟨fa, fc, rfl⟩ := h.f.val
  clear h hR hE
  by_cases h1 : 0 < E.edges.length
  · by_cases h2 : E.first.length = 0
    · have hb : ((E.first.length : Int) == 0) = true := by simp [h2]
      have HV := Lib.hid (show s1W E = true from decide_eq_true ⟨h1, h2⟩)
      clear h2
      go_enter Tryd.func153, Tryd.ntmps153
      go_wp2_with fail
      go_ret
      exact ⟨ret_bool HV.out.symm, BA.out⟩
    · have hb : ((E.first.length : Int) == 0) = false := by simp; intro e; exact h2 (by rw [e]; rfl)
      have HV := Lib.hid (show s1W E = false from decide_eq_false (fun h => h2 h.2))
      clear h2
      go_enter Tryd.func153, Tryd.ntmps153
      go_wp2_with fail
      go_ret
      exact ⟨ret_bool HV.out.symm, BA.out⟩
  · have HV := Lib.hid (show s1W E = false from decide_eq_false (fun h => h1 h.1))
    go_enter Tryd.func153, Tryd.ntmps153
    go_wp2_with fail
    go_ret
    exact ⟨ret_bool HV.out.symm, BA.out⟩
set_option maxHeartbeats 400000 in
theorem rule6_any (R : Nat → Prop) (E : EntV) (vp vg ve vf vl : Value) (w : World) (h : EntSl R w E vp vg ve vf vl) (hR : ∀ b, R b → b < w.heap.size) (hE : EntSmall E) : Calls Tryd.prog 154 #[.agg (entCs E vp vg ve vf vl)] w fun e w' => e = .returned (.bool (s2W E)) ∧ Below w.heap.size w w' := by
  unfold entCs
  have ba : Below w.heap.size w (w.alloc (.cells (entCs E vp vg ve vf vl) 27)) := (Below.refl _ _).alloc (Nat.le_refl _) _
  unfold entCs at ba
  have BA := Lib.hid ba
  clear ba
  have e4 := hE.f
  have e5 := hE.l
  obtain ⟨ea, ec, rfl⟩ := h.e.val
  obtain ⟨fa, fc, rfl⟩ := h.f.val
  obtain ⟨la, lc, rfl⟩ := h.l.val
  clear h hR hE
  by_cases h1 : E.edges.length = 0
  · have hb : ((E.edges.length : Int) == 0) = true := by simp [h1]
    by_cases h2 : 0 < (E.first.length : Int) + (E.last.length : Int)
    · have HV := Lib.hid (show s2W E = true from decide_eq_true ⟨h1, by omega⟩)
      clear h1
      go_enter Tryd.func154, Tryd.ntmps154
      go_wp2_with fail
      go_ret
      exact ⟨ret_bool HV.out.symm, BA.out⟩
    · have HV := Lib.hid (show s2W E = false from decide_eq_false (fun h => h2 (by have := h.2; omega)))
      clear h1
      go_enter Tryd.func154, Tryd.ntmps154
      go_wp2_with fail
      go_ret
      exact ⟨ret_bool HV.out.symm, BA.out⟩
  · have hb : ((E.edges.length : Int) == 0) = false := by simp; intro e; exact h1 (by rw [e]; rfl)
    have HV := Lib.hid (show s2W E = false from decide_eq_false (fun h => h1 h.1))
    clear h1
    go_enter Tryd.func154, Tryd.ntmps154
    go_wp2_with fail
    go_ret
    exact ⟨ret_bool HV.out.symm, BA.out⟩
end Go.Proofs.YtkhcepdeppmofaaDoor
