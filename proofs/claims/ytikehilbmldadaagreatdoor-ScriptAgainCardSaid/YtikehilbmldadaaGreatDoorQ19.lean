import Derived.Test.YtikehilbmldadaaGreatDoorQ18
import Derived.Laws.EntriesVeiled
set_option maxHeartbeats 8000000
set_option maxRecDepth 100000
namespace Go.Proofs.YtikehilbmldadaaGreatDoor
open Go.RowKit
set_option linter.unusedVariables false
def rulesC (sa : Nat → Addr) : Array Value := #[.func (.func 204) #[] #[], .iface 372 (.pointer (some (sa 4))), .func (.func 205) #[] #[], .iface 372 (.pointer (some (sa 2))), .func (.func 206) #[] #[], .iface 372 (.pointer (some (sa 1))),
  .func (.func 207) #[] #[], .iface 372 (.pointer (some (sa 1))), .func (.func 210) #[] #[], .iface 372 (.pointer (some (sa 5))), .func (.func 213) #[] #[], .iface 372 (.pointer (some (sa 2))), .func (.func 214) #[] #[], .iface 372 (.pointer (some (sa 2)))]
theorem rules_any (B : Nat) (sa : Nat → Addr) (w : World) (hS : SentsC B sa w) :
    Calls Tryz.prog 167 #[] w fun e w' => e = .returned (.slice (some ⟨w.heap.size, 0, none⟩) 7 7) ∧ w'.heap[w.heap.size]? = some (.cells (rulesC sa) 263) ∧ Below w.heap.size w w' := by
  obtain ⟨g0, g1, g2, g3, g4, g5⟩ := hS.all
  have hn := Lib.hid (get_alloc_new w (.cells (rulesC sa) 263))
  have hb := Lib.hid ((Below.refl w.heap.size w).alloc (Nat.le_refl _) (.cells (rulesC sa) 263))
  clear hS
  go_enter Tryz.func167, Tryz.ntmps167
  go_wp2_with fail
  go_ret
  exact ⟨rfl, hn.out, hb.out⟩
theorem rules_cells {w : World} {b : Nat} {sa : Nat → Addr} (h : w.heap[b]? = some (.cells (rulesC sa) 263)) (j : Nat) (hj : j < 14) : w.cell? ⟨b, j, none⟩ = (rulesC sa)[j]? := by
  simp [World.cell?, h]
def boundB (E : EntV) : Bool := topW E || fstW E
theorem entErr_name {ah : List ByteArray} {E : EntV} (h : isNameB E.name = false) : entErr ah E = 4 := by
  unfold entErr
  rw [if_pos h]
theorem entErr_exist {ah : List ByteArray} {E : EntV} (h1 : isNameB E.name = true) (h : hasStr ah E.name = true) : entErr ah E = 6 := by
  unfold entErr
  rw [if_neg (by rw [h1]; decide), if_pos h]
theorem entErr_bound {ah : List ByteArray} {E : EntV} (h1 : isNameB E.name = true) (h2 : hasStr ah E.name = false) (h : boundB E = true) : entErr ah E = 2 := by
  unfold entErr
  rw [if_neg (by rw [h1]; decide), if_neg (by rw [h2]; decide)]
  unfold boundB at h
  cases h3 : topW E
  · rw [h3, Bool.false_or] at h
    rw [if_neg (by decide), if_pos h]
  · rw [if_pos rfl]
theorem entErr_pts {ah : List ByteArray} {E : EntV} (h1 : isNameB E.name = true) (h2 : hasStr ah E.name = false) (h3 : boundB E = false) (h : ptsE E.points ≠ 0) : entErr ah E = ptsE E.points := by
  unfold boundB at h3
  obtain ⟨h4, h5⟩ := Bool.or_eq_false_iff.1 h3
  unfold entErr
  rw [if_neg (by rw [h1]; decide), if_neg (by rw [h2]; decide), if_neg (by rw [h4]; decide), if_neg (by rw [h5]; decide), if_pos h]
theorem entErr_tail' {ah : List ByteArray} {E : EntV} (h1 : isNameB E.name = true) (h2 : hasStr ah E.name = false) (h3 : boundB E = false) (h : ptsE E.points = 0) : entErr ah E = tailE E := by
  unfold boundB at h3
  obtain ⟨h4, h5⟩ := Bool.or_eq_false_iff.1 h3
  exact entErr_tail h1 h2 h4 h5 h
theorem errv_succ (sa : Nat → Addr) (n : Nat) : errv sa (n + 1) = .iface 372 (.pointer (some (sa n))) := rfl
theorem entity_any (B : Nat) (sa : Nat → Addr) (R : Nat → Prop) (X : List EntX) (v : Value) (E : EntV) (vp vg ve vf vl : Value) (w : World) (hS : SentsC B sa w) (h : EntSl R w E vp vg ve vf vl) (hv : SlOf R w v 10 (X.flatMap entXCells) X.length) (hR : ∀ b, R b → b < w.heap.size) (hE : EntSmall E) (hX : X.length ≤ 1000) :
    Calls Tryz.prog 97 #[.agg (entCs E vp vg ve vf vl), v] w fun e w' => e = .returned (errv sa (entErr (X.map xName) E)) ∧ Below w.heap.size w w' := by
  obtain ⟨ao, cap, rfl⟩ := hv.val
  obtain ⟨pa, pc, rfl⟩ := h.p.val
  obtain ⟨ga, gc, rfl⟩ := h.g.val
  obtain ⟨ea, ec, rfl⟩ := h.e.val
  obtain ⟨fa, fc, rfl⟩ := h.f.val
  obtain ⟨la, lc, rfl⟩ := h.l.val
  have hEB : EB w R E (.slice pa E.points.length pc) (.slice ga E.gaps.length gc) (.slice ea E.edges.length ec) (.slice fa E.first.length fc) (.slice la E.last.length lc) w.heap.size (w.alloc (.cells (entCs E (.slice pa E.points.length pc) (.slice ga E.gaps.length gc) (.slice ea E.edges.length ec) (.slice fa E.first.length fc) (.slice la E.last.length lc)) 50)) :=
    ⟨get_alloc_new _ _, h.keep (below_keep ((Below.refl _ _).alloc (Nat.le_refl _) _)) (fun _ _ h => h), (Below.refl _ _).alloc (Nat.le_refl _) _, hR, Nat.le_refl _⟩
  have HV := Lib.hid hv
  have HSl := Lib.hid (fun W (hB : Below w.heap.size w W) => h.keep (Keep.of_below hB) (fun b hb hS => by have := hR b hb; omega))
  have HS := Lib.hid hS
  have HRw := Lib.hid hR
  obtain ⟨e1, e2, e3, e4, e5⟩ := hE
  have HE : Hid (EntSmall E) := ⟨e1, e2, e3, e4, e5⟩
  clear h hv hS hR
  unfold entCs at hEB ⊢
  go_enter Tryz.func97, Tryz.ntmps97
  go_upto_region 1 with fail
  generalize w.alloc _ = w1 at hEB ⊢
  obtain ⟨c0, c1, c2, c3, c4, c5, c6, c7, c8, c9⟩ := hEB.cells
  have HEB := Lib.hid hEB
  clear hEB
  go_cut [5] (fun s wx => ∃ M : Int, s = .int .i64 M ∧ Hid (16 < M ↔ 16 < E.points.length ∨ 16 < E.first.length ∨ 16 < E.last.length) ∧ w1 = wx)
  case first =>
    go_wp2_with fail
    all_goals
      go_meet
      refine ⟨_, rfl, ?_, rfl⟩
      show _ ↔ _
      first | omega | (split <;> omega) | (split <;> split <;> omega)
  case rest =>
  obtain ⟨M, rfl, HM, rfl⟩ := hcut
  have HN := Lib.hid (confName_any E.name w1)
  cases hnm : isNameB E.name
  · rw [hnm] at HN
    have HT := Lib.hid (entErr_name (ah := X.map xName) hnm)
    clear hnm
    go_wp2_with fail
    refine HN.out.mono ?_
    rintro e w2 ⟨rfl, b2⟩
    have hbl := (HEB.out.below b2).bel
    obtain ⟨_, _, _, g3, _, _⟩ := (HS.out.on hbl).all
    go_wp2_with fail
    go_ret
    rw [HT.out]
    exact ⟨rfl, hbl⟩
  rw [hnm] at HN
  have HNM := Lib.hid hnm
  clear hnm
  go_wp2_with fail
  refine HN.out.mono ?_
  rintro e w2 ⟨rfl, b2⟩
  have HEB2 := Lib.hid (HEB.out.below b2)
  clear c0 c1 c2 c3 c4 c5 c6 c7 c8 c9 b2 HEB HN
  have hbl2 := HEB2.out.bel
  have HCE := Lib.hid (conEnt_any R X _ E.name w.heap.size w2 (HV.out.below hbl2 HRw.out) (below_lt2 HRw.out hbl2) (by omega) HEB2.out.cells.1)
  unfold entFV at HCE
  cases hex : hasStr (X.map xName) E.name
  case true =>
    rw [hex] at HCE
    have HT := Lib.hid (entErr_exist HNM.out hex)
    clear hex
    go_wp2_with fail
    refine HCE.out.mono ?_
    rintro e w3 ⟨rfl, b3⟩
    have hbl := (HEB2.out.below b3).bel
    obtain ⟨_, _, _, _, _, g5⟩ := (HS.out.on hbl).all
    go_wp2_with fail
    go_ret
    rw [HT.out]
    exact ⟨rfl, hbl⟩
  case false =>
  rw [hex] at HCE
  have HEX := Lib.hid hex
  clear hex
  go_wp2_with fail
  refine HCE.out.mono ?_
  rintro e w3 ⟨rfl, b3⟩
  have HEB3 := Lib.hid (HEB2.out.below b3)
  clear b3 HEB2 HCE hbl2
  obtain ⟨c0, c1, c2, c3, c4, c5, c6, c7, c8, c9⟩ := HEB3.out.cells
  go_upto_region 6 with fail
  go_cut [30] (fun s wx => s = .bool (boundB E) ∧ w3 = wx)
  case first =>
    by_cases h1 : E.tol < 0
    · have HB := Lib.hid (show boundB E = true from by unfold boundB topW; rw [decide_eq_true (.inl h1)]; rfl)
      go_wp2_with fail
      go_meet
      exact ⟨val_bool HB.out.symm, rfl⟩
    by_cases h2 : 20 < E.tol
    · have HB := Lib.hid (show boundB E = true from by unfold boundB topW; rw [decide_eq_true (.inr (.inl h2))]; rfl)
      go_wp2_with fail
      go_meet
      exact ⟨val_bool HB.out.symm, rfl⟩
    by_cases h3 : 16 < M
    · have HB := Lib.hid (show boundB E = true from by
        have := HM.out.1 h3
        unfold boundB topW fstW
        rcases this with h | h | h
        · rw [decide_eq_true (.inr (.inr (.inl h)))]; rfl
        · rw [Bool.or_eq_true]; exact .inr (decide_eq_true (.inl h))
        · rw [Bool.or_eq_true]; exact .inr (decide_eq_true (.inr h)))
      go_wp2_with fail
      go_meet
      exact ⟨val_bool HB.out.symm, rfl⟩
    by_cases h4 : 8 < (E.gaps.length : Int)
    · have HB := Lib.hid (show boundB E = true from by unfold boundB topW; rw [decide_eq_true (.inr (.inr (.inr (.inl (by omega)))))]; rfl)
      go_wp2_with fail
      go_meet
      exact ⟨val_bool HB.out.symm, rfl⟩
    have HB := Lib.hid (show boundB E = decide (64 < (E.edges.length : Int)) from by
      have hm : ¬ (16 < E.points.length ∨ 16 < E.first.length ∨ 16 < E.last.length) := fun h => h3 (HM.out.2 h)
      unfold boundB topW fstW
      rw [decide_eq_false (show ¬ (16 < E.first.length ∨ 16 < E.last.length) from by omega), Bool.or_false, decide_eq_decide]
      omega)
    go_wp2_with fail
    go_meet
    exact ⟨val_bool (by rw [HB.out]), rfl⟩
  case rest =>
  obtain ⟨rfl, rfl⟩ := hcut
  have hbl3 := HEB3.out.bel
  cases hbd : boundB E
  case true =>
    have HT := Lib.hid (entErr_bound HNM.out HEX.out hbd)
    obtain ⟨_, g1, _, _, _, _⟩ := (HS.out.on hbl3).all
    clear hbd
    go_wp2_with fail
    go_ret
    rw [HT.out]
    exact ⟨rfl, hbl3⟩
  case false =>
  have HBD := Lib.hid hbd
  have HPt := Lib.hid (points_any B sa R E.points _ w3 (HS.out.on hbl3) (HEB3.out.sl.p) (below_lt2 HRw.out hbl3) (by omega))
  clear hbd
  have HPE : Hid (ptsE E.points = ptsE E.points) := rfl
  obtain ⟨pe, hpe⟩ : ∃ pe, pe = ptsE E.points := ⟨_, rfl⟩
  rw [← hpe] at HPt
  have HPQ := Lib.hid hpe
  clear hpe HPE
  go_wp2_with fail
  refine HPt.out.mono ?_
  rintro e w4 ⟨rfl, b4⟩
  have HEB4 := Lib.hid (HEB3.out.below b4)
  have hbl4 := HEB4.out.bel
  clear c0 c1 c2 c3 c4 c5 c6 c7 c8 c9 b4 HEB3 hbl3 HPt
  cases pe with
  | succ n =>
    have HT := Lib.hid (show entErr (X.map xName) E = n + 1 from by rw [entErr_pts HNM.out HEX.out HBD.out (by rw [← HPQ.out]; omega), ← HPQ.out])
    rw [errv_succ]
    go_wp2_with fail
    go_ret
    rw [HT.out, errv_succ]
    exact ⟨rfl, hbl4⟩
  | zero =>
    rw [show errv sa 0 = .nilIface from rfl]
    have HTl := Lib.hid (entErr_tail' (ah := X.map xName) HNM.out HEX.out HBD.out HPQ.out.symm)
    have HRu := Lib.hid (rules_any B sa w4 (HS.out.on hbl4))
    go_wp2_with fail
    refine HRu.out.mono ?_
    rintro e w5 ⟨rfl, hru, b5⟩
    have HRU5 := Lib.hid hru
    have HEB5 := Lib.hid (HEB4.out.below b5)
    clear hru b5 HRu HEB4 hbl4
    obtain ⟨rb, hrb⟩ : ∃ rb, rb = w4.heap.size := ⟨_, rfl⟩
    rw [← hrb] at HRU5 ⊢
    clear hrb
    go_wp2_with fail
    go_loopw [64] (fun s wr => ∃ k : Nat, k ≤ 7 ∧ s = .int .i64 k ∧ Hid (EB w R E (.slice pa E.points.length pc) (.slice ga E.gaps.length gc) (.slice ea E.edges.length ec) (.slice fa E.first.length fc) (.slice la E.last.length lc) w.heap.size wr) ∧ Hid (wr.heap[rb]? = some (.cells (rulesC sa) 263)) ∧ Hid (∀ j, j < k → ruleB E j = false)) (fun s _ => 7 - (intOf s).toNat)
    case atStart => exact ⟨0, Nat.zero_le _, rfl, HEB5, HRU5, fun j h => by omega⟩
    case round =>
      obtain ⟨k, hk, rfl, heb, hru, hall⟩ := hrel
      clear HEB5 HRU5
      by_cases hlt : k < 7
      · have hlt2 : (k : Int) < 7 := by omega
        by_cases hkj : k = 0
        · have q0 : wr.cell? ⟨rb, k * 2, none⟩ = some (.func (.func 204) #[] #[]) := by rw [hkj]; exact rules_cells hru.out (0 * 2) (by decide)
          have q1 : wr.cell? ⟨rb, k * 2 + 1, none⟩ = some (.iface 372 (.pointer (some (sa 4)))) := by rw [hkj]; exact rules_cells hru.out (0 * 2 + 1) (by decide)
          have HC : Hid (∀ W, Below w.heap.size w W → Calls Tryz.prog 204 #[.agg (entCs E (.slice pa E.points.length pc) (.slice ga E.gaps.length gc) (.slice ea E.edges.length ec) (.slice fa E.first.length fc) (.slice la E.last.length lc))] W fun e w' => e = .returned (.bool (ruleB E 0)) ∧ Below W.heap.size W w') := fun W hB => strangersP_any R E _ _ _ _ _ W (HSl.out W hB) (below_lt2 HRw.out hB) HE.out
          have HKJ := Lib.hid hkj
          unfold entCs at HC
          clear hkj
          go_upto_region 14 with fail
          have hxb := get_alloc_new wr (.cells #[.func (.func 204) #[] #[], .iface 372 (.pointer (some (sa 4)))] 263)
          have hbb : Below wr.heap.size wr (wr.alloc (.cells #[.func (.func 204) #[] #[], .iface 372 (.pointer (some (sa 4)))] 263)) := (Below.refl _ _).alloc (Nat.le_refl _) _
          generalize wr.alloc _ = wb at hxb hbb ⊢
          obtain ⟨z0, z1, zf⟩ := two_cells hxb
          have HEBb := Lib.hid (heb.out.below hbb)
          have HRUb := Lib.hid (below_get hbb hru.out (lt_of_get hru.out))
          have HXB := Lib.hid hxb
          obtain ⟨c0, c1, c2, c3, c4, c5, c6, c7, c8, c9⟩ := HEBb.out.cells
          clear q0 q1 zf hxb hbb
          go_wp2_with fail
          refine (HC.out _ HEBb.out.bel).mono ?_
          rintro e w6 ⟨rfl, b6⟩
          have HEB6 := Lib.hid (HEBb.out.below b6)
          have HRU6 := Lib.hid (below_get b6 HRUb.out (lt_of_get HRUb.out))
          obtain ⟨y0, y1, yf⟩ := two_cells (below_get b6 HXB.out (lt_of_get HXB.out))
          clear c0 c1 c2 c3 c4 c5 c6 c7 c8 c9 z0 z1 yf b6
          cases hrb : ruleB E 0
          · have nx : Hid (∀ j, j < k + 1 → ruleB E j = false) := (show ∀ j, j < k + 1 → ruleB E j = false from fun j hj => by
              by_cases e : j = k
              · rw [e, HKJ.out]; exact hrb
              · exact hall.out j (by omega))
            clear hrb hall
            go_wp2_with fail
            go_roundw
            case rel => exact ⟨k + 1, by omega, by go_num, HEB6, HRU6, nx⟩
            case measure => simp [intOf]; omega
          · have HT := Lib.hid (tailE_hit 0 (by decide) hrb (fun j hj => hall.out j (by have := HKJ.out; omega)))
            have hbl6 := HEB6.out.bel
            clear hrb hall
            go_wp2_with fail
            go_ret
            rw [HTl.out, HT.out]
            exact ⟨rfl, hbl6⟩
        by_cases hkj : k = 1
        · have q0 : wr.cell? ⟨rb, k * 2, none⟩ = some (.func (.func 205) #[] #[]) := by rw [hkj]; exact rules_cells hru.out (1 * 2) (by decide)
          have q1 : wr.cell? ⟨rb, k * 2 + 1, none⟩ = some (.iface 372 (.pointer (some (sa 2)))) := by rw [hkj]; exact rules_cells hru.out (1 * 2 + 1) (by decide)
          have HC : Hid (∀ W, Below w.heap.size w W → Calls Tryz.prog 205 #[.agg (entCs E (.slice pa E.points.length pc) (.slice ga E.gaps.length gc) (.slice ea E.edges.length ec) (.slice fa E.first.length fc) (.slice la E.last.length lc))] W fun e w' => e = .returned (.bool (ruleB E 1)) ∧ Below W.heap.size W w') := fun W hB => rule1_any E _ _ _ _ _ W
          have HKJ := Lib.hid hkj
          unfold entCs at HC
          clear hkj
          go_upto_region 14 with fail
          have hxb := get_alloc_new wr (.cells #[.func (.func 205) #[] #[], .iface 372 (.pointer (some (sa 2)))] 263)
          have hbb : Below wr.heap.size wr (wr.alloc (.cells #[.func (.func 205) #[] #[], .iface 372 (.pointer (some (sa 2)))] 263)) := (Below.refl _ _).alloc (Nat.le_refl _) _
          generalize wr.alloc _ = wb at hxb hbb ⊢
          obtain ⟨z0, z1, zf⟩ := two_cells hxb
          have HEBb := Lib.hid (heb.out.below hbb)
          have HRUb := Lib.hid (below_get hbb hru.out (lt_of_get hru.out))
          have HXB := Lib.hid hxb
          obtain ⟨c0, c1, c2, c3, c4, c5, c6, c7, c8, c9⟩ := HEBb.out.cells
          clear q0 q1 zf hxb hbb
          go_wp2_with fail
          refine (HC.out _ HEBb.out.bel).mono ?_
          rintro e w6 ⟨rfl, b6⟩
          have HEB6 := Lib.hid (HEBb.out.below b6)
          have HRU6 := Lib.hid (below_get b6 HRUb.out (lt_of_get HRUb.out))
          obtain ⟨y0, y1, yf⟩ := two_cells (below_get b6 HXB.out (lt_of_get HXB.out))
          clear c0 c1 c2 c3 c4 c5 c6 c7 c8 c9 z0 z1 yf b6
          cases hrb : ruleB E 1
          · have nx : Hid (∀ j, j < k + 1 → ruleB E j = false) := (show ∀ j, j < k + 1 → ruleB E j = false from fun j hj => by
              by_cases e : j = k
              · rw [e, HKJ.out]; exact hrb
              · exact hall.out j (by omega))
            clear hrb hall
            go_wp2_with fail
            go_roundw
            case rel => exact ⟨k + 1, by omega, by go_num, HEB6, HRU6, nx⟩
            case measure => simp [intOf]; omega
          · have HT := Lib.hid (tailE_hit 1 (by decide) hrb (fun j hj => hall.out j (by have := HKJ.out; omega)))
            have hbl6 := HEB6.out.bel
            clear hrb hall
            go_wp2_with fail
            go_ret
            rw [HTl.out, HT.out]
            exact ⟨rfl, hbl6⟩
        by_cases hkj : k = 2
        · have q0 : wr.cell? ⟨rb, k * 2, none⟩ = some (.func (.func 206) #[] #[]) := by rw [hkj]; exact rules_cells hru.out (2 * 2) (by decide)
          have q1 : wr.cell? ⟨rb, k * 2 + 1, none⟩ = some (.iface 372 (.pointer (some (sa 1)))) := by rw [hkj]; exact rules_cells hru.out (2 * 2 + 1) (by decide)
          have HC : Hid (∀ W, Below w.heap.size w W → Calls Tryz.prog 206 #[.agg (entCs E (.slice pa E.points.length pc) (.slice ga E.gaps.length gc) (.slice ea E.edges.length ec) (.slice fa E.first.length fc) (.slice la E.last.length lc))] W fun e w' => e = .returned (.bool (ruleB E 2)) ∧ Below W.heap.size W w') := fun W hB => rule2_any E _ _ _ _ _ W
          have HKJ := Lib.hid hkj
          unfold entCs at HC
          clear hkj
          go_upto_region 14 with fail
          have hxb := get_alloc_new wr (.cells #[.func (.func 206) #[] #[], .iface 372 (.pointer (some (sa 1)))] 263)
          have hbb : Below wr.heap.size wr (wr.alloc (.cells #[.func (.func 206) #[] #[], .iface 372 (.pointer (some (sa 1)))] 263)) := (Below.refl _ _).alloc (Nat.le_refl _) _
          generalize wr.alloc _ = wb at hxb hbb ⊢
          obtain ⟨z0, z1, zf⟩ := two_cells hxb
          have HEBb := Lib.hid (heb.out.below hbb)
          have HRUb := Lib.hid (below_get hbb hru.out (lt_of_get hru.out))
          have HXB := Lib.hid hxb
          obtain ⟨c0, c1, c2, c3, c4, c5, c6, c7, c8, c9⟩ := HEBb.out.cells
          clear q0 q1 zf hxb hbb
          go_wp2_with fail
          refine (HC.out _ HEBb.out.bel).mono ?_
          rintro e w6 ⟨rfl, b6⟩
          have HEB6 := Lib.hid (HEBb.out.below b6)
          have HRU6 := Lib.hid (below_get b6 HRUb.out (lt_of_get HRUb.out))
          obtain ⟨y0, y1, yf⟩ := two_cells (below_get b6 HXB.out (lt_of_get HXB.out))
          clear c0 c1 c2 c3 c4 c5 c6 c7 c8 c9 z0 z1 yf b6
          cases hrb : ruleB E 2
          · have nx : Hid (∀ j, j < k + 1 → ruleB E j = false) := (show ∀ j, j < k + 1 → ruleB E j = false from fun j hj => by
              by_cases e : j = k
              · rw [e, HKJ.out]; exact hrb
              · exact hall.out j (by omega))
            clear hrb hall
            go_wp2_with fail
            go_roundw
            case rel => exact ⟨k + 1, by omega, by go_num, HEB6, HRU6, nx⟩
            case measure => simp [intOf]; omega
          · have HT := Lib.hid (tailE_hit 2 (by decide) hrb (fun j hj => hall.out j (by have := HKJ.out; omega)))
            have hbl6 := HEB6.out.bel
            clear hrb hall
            go_wp2_with fail
            go_ret
            rw [HTl.out, HT.out]
            exact ⟨rfl, hbl6⟩
        by_cases hkj : k = 3
        · have q0 : wr.cell? ⟨rb, k * 2, none⟩ = some (.func (.func 207) #[] #[]) := by rw [hkj]; exact rules_cells hru.out (3 * 2) (by decide)
          have q1 : wr.cell? ⟨rb, k * 2 + 1, none⟩ = some (.iface 372 (.pointer (some (sa 1)))) := by rw [hkj]; exact rules_cells hru.out (3 * 2 + 1) (by decide)
          have HC : Hid (∀ W, Below w.heap.size w W → Calls Tryz.prog 207 #[.agg (entCs E (.slice pa E.points.length pc) (.slice ga E.gaps.length gc) (.slice ea E.edges.length ec) (.slice fa E.first.length fc) (.slice la E.last.length lc))] W fun e w' => e = .returned (.bool (ruleB E 3)) ∧ Below W.heap.size W w') := fun W hB => rule3_any R E _ _ _ _ _ W (HSl.out W hB) (below_lt2 HRw.out hB) HE.out
          have HKJ := Lib.hid hkj
          unfold entCs at HC
          clear hkj
          go_upto_region 14 with fail
          have hxb := get_alloc_new wr (.cells #[.func (.func 207) #[] #[], .iface 372 (.pointer (some (sa 1)))] 263)
          have hbb : Below wr.heap.size wr (wr.alloc (.cells #[.func (.func 207) #[] #[], .iface 372 (.pointer (some (sa 1)))] 263)) := (Below.refl _ _).alloc (Nat.le_refl _) _
          generalize wr.alloc _ = wb at hxb hbb ⊢
          obtain ⟨z0, z1, zf⟩ := two_cells hxb
          have HEBb := Lib.hid (heb.out.below hbb)
          have HRUb := Lib.hid (below_get hbb hru.out (lt_of_get hru.out))
          have HXB := Lib.hid hxb
          obtain ⟨c0, c1, c2, c3, c4, c5, c6, c7, c8, c9⟩ := HEBb.out.cells
          clear q0 q1 zf hxb hbb
          go_wp2_with fail
          refine (HC.out _ HEBb.out.bel).mono ?_
          rintro e w6 ⟨rfl, b6⟩
          have HEB6 := Lib.hid (HEBb.out.below b6)
          have HRU6 := Lib.hid (below_get b6 HRUb.out (lt_of_get HRUb.out))
          obtain ⟨y0, y1, yf⟩ := two_cells (below_get b6 HXB.out (lt_of_get HXB.out))
          clear c0 c1 c2 c3 c4 c5 c6 c7 c8 c9 z0 z1 yf b6
          cases hrb : ruleB E 3
          · have nx : Hid (∀ j, j < k + 1 → ruleB E j = false) := (show ∀ j, j < k + 1 → ruleB E j = false from fun j hj => by
              by_cases e : j = k
              · rw [e, HKJ.out]; exact hrb
              · exact hall.out j (by omega))
            clear hrb hall
            go_wp2_with fail
            go_roundw
            case rel => exact ⟨k + 1, by omega, by go_num, HEB6, HRU6, nx⟩
            case measure => simp [intOf]; omega
          · have HT := Lib.hid (tailE_hit 3 (by decide) hrb (fun j hj => hall.out j (by have := HKJ.out; omega)))
            have hbl6 := HEB6.out.bel
            clear hrb hall
            go_wp2_with fail
            go_ret
            rw [HTl.out, HT.out]
            exact ⟨rfl, hbl6⟩
        by_cases hkj : k = 4
        · have q0 : wr.cell? ⟨rb, k * 2, none⟩ = some (.func (.func 210) #[] #[]) := by rw [hkj]; exact rules_cells hru.out (4 * 2) (by decide)
          have q1 : wr.cell? ⟨rb, k * 2 + 1, none⟩ = some (.iface 372 (.pointer (some (sa 5)))) := by rw [hkj]; exact rules_cells hru.out (4 * 2 + 1) (by decide)
          have HC : Hid (∀ W, Below w.heap.size w W → Calls Tryz.prog 210 #[.agg (entCs E (.slice pa E.points.length pc) (.slice ga E.gaps.length gc) (.slice ea E.edges.length ec) (.slice fa E.first.length fc) (.slice la E.last.length lc))] W fun e w' => e = .returned (.bool (ruleB E 4)) ∧ Below W.heap.size W w') := fun W hB => rule4_any R E _ _ _ _ _ W (HSl.out W hB) (below_lt2 HRw.out hB) HE.out
          have HKJ := Lib.hid hkj
          unfold entCs at HC
          clear hkj
          go_upto_region 14 with fail
          have hxb := get_alloc_new wr (.cells #[.func (.func 210) #[] #[], .iface 372 (.pointer (some (sa 5)))] 263)
          have hbb : Below wr.heap.size wr (wr.alloc (.cells #[.func (.func 210) #[] #[], .iface 372 (.pointer (some (sa 5)))] 263)) := (Below.refl _ _).alloc (Nat.le_refl _) _
          generalize wr.alloc _ = wb at hxb hbb ⊢
          obtain ⟨z0, z1, zf⟩ := two_cells hxb
          have HEBb := Lib.hid (heb.out.below hbb)
          have HRUb := Lib.hid (below_get hbb hru.out (lt_of_get hru.out))
          have HXB := Lib.hid hxb
          obtain ⟨c0, c1, c2, c3, c4, c5, c6, c7, c8, c9⟩ := HEBb.out.cells
          clear q0 q1 zf hxb hbb
          go_wp2_with fail
          refine (HC.out _ HEBb.out.bel).mono ?_
          rintro e w6 ⟨rfl, b6⟩
          have HEB6 := Lib.hid (HEBb.out.below b6)
          have HRU6 := Lib.hid (below_get b6 HRUb.out (lt_of_get HRUb.out))
          obtain ⟨y0, y1, yf⟩ := two_cells (below_get b6 HXB.out (lt_of_get HXB.out))
          clear c0 c1 c2 c3 c4 c5 c6 c7 c8 c9 z0 z1 yf b6
          cases hrb : ruleB E 4
          · have nx : Hid (∀ j, j < k + 1 → ruleB E j = false) := (show ∀ j, j < k + 1 → ruleB E j = false from fun j hj => by
              by_cases e : j = k
              · rw [e, HKJ.out]; exact hrb
              · exact hall.out j (by omega))
            clear hrb hall
            go_wp2_with fail
            go_roundw
            case rel => exact ⟨k + 1, by omega, by go_num, HEB6, HRU6, nx⟩
            case measure => simp [intOf]; omega
          · have HT := Lib.hid (tailE_hit 4 (by decide) hrb (fun j hj => hall.out j (by have := HKJ.out; omega)))
            have hbl6 := HEB6.out.bel
            clear hrb hall
            go_wp2_with fail
            go_ret
            rw [HTl.out, HT.out]
            exact ⟨rfl, hbl6⟩
        by_cases hkj : k = 5
        · have q0 : wr.cell? ⟨rb, k * 2, none⟩ = some (.func (.func 213) #[] #[]) := by rw [hkj]; exact rules_cells hru.out (5 * 2) (by decide)
          have q1 : wr.cell? ⟨rb, k * 2 + 1, none⟩ = some (.iface 372 (.pointer (some (sa 2)))) := by rw [hkj]; exact rules_cells hru.out (5 * 2 + 1) (by decide)
          have HC : Hid (∀ W, Below w.heap.size w W → Calls Tryz.prog 213 #[.agg (entCs E (.slice pa E.points.length pc) (.slice ga E.gaps.length gc) (.slice ea E.edges.length ec) (.slice fa E.first.length fc) (.slice la E.last.length lc))] W fun e w' => e = .returned (.bool (ruleB E 5)) ∧ Below W.heap.size W w') := fun W hB => rule5_any R E _ _ _ _ _ W (HSl.out W hB) (below_lt2 HRw.out hB) HE.out
          have HKJ := Lib.hid hkj
          unfold entCs at HC
          clear hkj
          go_upto_region 14 with fail
          have hxb := get_alloc_new wr (.cells #[.func (.func 213) #[] #[], .iface 372 (.pointer (some (sa 2)))] 263)
          have hbb : Below wr.heap.size wr (wr.alloc (.cells #[.func (.func 213) #[] #[], .iface 372 (.pointer (some (sa 2)))] 263)) := (Below.refl _ _).alloc (Nat.le_refl _) _
          generalize wr.alloc _ = wb at hxb hbb ⊢
          obtain ⟨z0, z1, zf⟩ := two_cells hxb
          have HEBb := Lib.hid (heb.out.below hbb)
          have HRUb := Lib.hid (below_get hbb hru.out (lt_of_get hru.out))
          have HXB := Lib.hid hxb
          obtain ⟨c0, c1, c2, c3, c4, c5, c6, c7, c8, c9⟩ := HEBb.out.cells
          clear q0 q1 zf hxb hbb
          go_wp2_with fail
          refine (HC.out _ HEBb.out.bel).mono ?_
          rintro e w6 ⟨rfl, b6⟩
          have HEB6 := Lib.hid (HEBb.out.below b6)
          have HRU6 := Lib.hid (below_get b6 HRUb.out (lt_of_get HRUb.out))
          obtain ⟨y0, y1, yf⟩ := two_cells (below_get b6 HXB.out (lt_of_get HXB.out))
          clear c0 c1 c2 c3 c4 c5 c6 c7 c8 c9 z0 z1 yf b6
          cases hrb : ruleB E 5
          · have nx : Hid (∀ j, j < k + 1 → ruleB E j = false) := (show ∀ j, j < k + 1 → ruleB E j = false from fun j hj => by
              by_cases e : j = k
              · rw [e, HKJ.out]; exact hrb
              · exact hall.out j (by omega))
            clear hrb hall
            go_wp2_with fail
            go_roundw
            case rel => exact ⟨k + 1, by omega, by go_num, HEB6, HRU6, nx⟩
            case measure => simp [intOf]; omega
          · have HT := Lib.hid (tailE_hit 5 (by decide) hrb (fun j hj => hall.out j (by have := HKJ.out; omega)))
            have hbl6 := HEB6.out.bel
            clear hrb hall
            go_wp2_with fail
            go_ret
            rw [HTl.out, HT.out]
            exact ⟨rfl, hbl6⟩
        by_cases hkj : k = 6
        · have q0 : wr.cell? ⟨rb, k * 2, none⟩ = some (.func (.func 214) #[] #[]) := by rw [hkj]; exact rules_cells hru.out (6 * 2) (by decide)
          have q1 : wr.cell? ⟨rb, k * 2 + 1, none⟩ = some (.iface 372 (.pointer (some (sa 2)))) := by rw [hkj]; exact rules_cells hru.out (6 * 2 + 1) (by decide)
          have HC : Hid (∀ W, Below w.heap.size w W → Calls Tryz.prog 214 #[.agg (entCs E (.slice pa E.points.length pc) (.slice ga E.gaps.length gc) (.slice ea E.edges.length ec) (.slice fa E.first.length fc) (.slice la E.last.length lc))] W fun e w' => e = .returned (.bool (ruleB E 6)) ∧ Below W.heap.size W w') := fun W hB => rule6_any R E _ _ _ _ _ W (HSl.out W hB) (below_lt2 HRw.out hB) HE.out
          have HKJ := Lib.hid hkj
          unfold entCs at HC
          clear hkj
          go_upto_region 14 with fail
          have hxb := get_alloc_new wr (.cells #[.func (.func 214) #[] #[], .iface 372 (.pointer (some (sa 2)))] 263)
          have hbb : Below wr.heap.size wr (wr.alloc (.cells #[.func (.func 214) #[] #[], .iface 372 (.pointer (some (sa 2)))] 263)) := (Below.refl _ _).alloc (Nat.le_refl _) _
          generalize wr.alloc _ = wb at hxb hbb ⊢
          obtain ⟨z0, z1, zf⟩ := two_cells hxb
          have HEBb := Lib.hid (heb.out.below hbb)
          have HRUb := Lib.hid (below_get hbb hru.out (lt_of_get hru.out))
          have HXB := Lib.hid hxb
          obtain ⟨c0, c1, c2, c3, c4, c5, c6, c7, c8, c9⟩ := HEBb.out.cells
          clear q0 q1 zf hxb hbb
          go_wp2_with fail
          refine (HC.out _ HEBb.out.bel).mono ?_
          rintro e w6 ⟨rfl, b6⟩
          have HEB6 := Lib.hid (HEBb.out.below b6)
          have HRU6 := Lib.hid (below_get b6 HRUb.out (lt_of_get HRUb.out))
          obtain ⟨y0, y1, yf⟩ := two_cells (below_get b6 HXB.out (lt_of_get HXB.out))
          clear c0 c1 c2 c3 c4 c5 c6 c7 c8 c9 z0 z1 yf b6
          cases hrb : ruleB E 6
          · have nx : Hid (∀ j, j < k + 1 → ruleB E j = false) := (show ∀ j, j < k + 1 → ruleB E j = false from fun j hj => by
              by_cases e : j = k
              · rw [e, HKJ.out]; exact hrb
              · exact hall.out j (by omega))
            clear hrb hall
            go_wp2_with fail
            go_roundw
            case rel => exact ⟨k + 1, by omega, by go_num, HEB6, HRU6, nx⟩
            case measure => simp [intOf]; omega
          · have HT := Lib.hid (tailE_hit 6 (by decide) hrb (fun j hj => hall.out j (by have := HKJ.out; omega)))
            have hbl6 := HEB6.out.bel
            clear hrb hall
            go_wp2_with fail
            go_ret
            rw [HTl.out, HT.out]
            exact ⟨rfl, hbl6⟩
        exact absurd hlt (by omega)
      · have hge : (7 : Int) ≤ k := by omega
        have HT := Lib.hid (tailE_miss (E := E) (fun j hj => hall.out j (by omega)))
        have hbl := heb.out.bel
        go_wp2_with fail
        go_ret
        rw [HTl.out, HT.out]
        exact ⟨rfl, hbl⟩
end Go.Proofs.YtikehilbmldadaaGreatDoor
