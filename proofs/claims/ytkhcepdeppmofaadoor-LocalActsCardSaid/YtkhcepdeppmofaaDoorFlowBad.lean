/- The document's Has, Step, Ahead, FlowBad. -/
import Derived.Test.YtkhcepdeppmofaaDoorFlowR
import Derived.Test.YtkhcepdeppmofaaDoorRHas
import Derived.Test.YtkhcepdeppmofaaDoorMarks
namespace Go.Proofs.YtkhcepdeppmofaaDoor
open Go.RowKit
set_option linter.unusedVariables false

/-- Which point is ahead behind these marks; is the order bad in a cycle? -/
def flowAhead (E : EntV) (l : List MarkV) : Int := match l.getLast? with | none => -1 | some m => flowThen E m.point
theorem flowAhead_snoc (E : EntV) (l : List MarkV) (m : MarkV) : flowAhead E (l ++ [m]) = flowThen E m.point := by simp [flowAhead]
theorem flowThen_ge (E : EntV) (p : Int) : flowThen E p = -1 ∨ 0 ≤ flowThen E p := by
  unfold flowThen
  split
  · exact .inl rfl
  · right; omega
theorem flowAhead_ge (E : EntV) (l : List MarkV) : flowAhead E l = -1 ∨ 0 ≤ flowAhead E l := by
  unfold flowAhead
  split
  · exact .inl rfl
  · exact flowThen_ge _ _
def flowMark (E : EntV) (ahead : List MarkV) (m : MarkV) (c : Int) : Bool := decide (m.cycle = c) && !flowMay E (flowAhead E ahead) m.point
def flowBadF (E : EntV) (l : List MarkV) (c : Int) (n : Nat) : Bool := (List.range n).any fun i => match l[i]? with | some m => flowMark E (l.take i) m c | none => false
theorem flowBadF_succ (E : EntV) (l : List MarkV) (c : Int) (n : Nat) (hn : n < l.length) : flowBadF E l c (n + 1) = (flowBadF E l c n || flowMark E (l.take n) l[n] c) := by
  unfold flowBadF
  rw [List.range_succ, List.any_append]
  simp [hn]
theorem flowBadF_mono (E : EntV) (l : List MarkV) (c : Int) (n m : Nat) (h : flowBadF E l c n = true) (hm : n ≤ m) : flowBadF E l c m = true := by
  unfold flowBadF at h ⊢
  rw [List.any_eq_true] at h ⊢
  obtain ⟨i, hi, hb⟩ := h
  exact ⟨i, by rw [List.mem_range] at hi ⊢; omega, hb⟩
theorem flowBadF_snoc (E : EntV) (l : List MarkV) (m : MarkV) (c : Int) : flowBadF E (l ++ [m]) c (l ++ [m]).length = (flowBadF E l c l.length || flowMark E l m c) := by
  have hl : (l ++ [m]).length = l.length + 1 := by simp
  rw [hl, flowBadF_succ _ _ _ _ (by omega)]
  have h1 : (l ++ [m]).take l.length = l := by simp
  have h2 : (l ++ [m])[l.length]'(by omega) = m := by simp
  rw [h1, h2]
  congr 1
  unfold flowBadF
  rw [Bool.eq_iff_iff, List.any_eq_true, List.any_eq_true]
  constructor <;> rintro ⟨i, hi, hb⟩ <;> refine ⟨i, hi, ?_⟩ <;> have hi' := List.mem_range.1 hi
  · rw [List.getElem?_append_left hi', List.take_append_of_le_length (by omega)] at hb; exact hb
  · rw [List.getElem?_append_left hi', List.take_append_of_le_length (by omega)]; exact hb
theorem flowBadF_fresh (E : EntV) (l : List MarkV) (c : Int) (h : ∀ m ∈ l, m.cycle ≠ c) : flowBadF E l c l.length = false := by
  unfold flowBadF
  rw [List.any_eq_false]
  intro i hi
  have hi' := List.mem_range.1 hi
  rw [List.getElem?_eq_getElem hi']
  simp [flowMark, h l[i] (List.getElem_mem _)]

def pairEq (P : Program) (t : TypeId) : Prop := ∀ (w : World) (a b c d : Int), (Op.equalIn 10000 t (.agg #[.int .i64 a, .int .i64 b]) (.agg #[.int .i64 c, .int .i64 d])).run P w = .ok (decide ((a, b) = (c, d))) w
theorem Tryd.pairEq : pairEq Tryd.prog 105 := fun w a b c d => Tryd.pairMap.equal w (a, b) (c, d)

set_option maxRecDepth 100000 in
set_option maxHeartbeats 2000000 in
theorem flowStep_any (R : Nat → Prop) (E : EntV) (vp vg ve vf vl : Value) (a p : Int) (w : World) (h : EntSl R w E vp vg ve vf vl) (hR : ∀ b, R b → b < w.heap.size) (hL : Light E) (ha : a = -1 ∨ 0 ≤ a) :
    Calls Tryd.prog 125 #[.agg (entCs E vp vg ve vf vl), .int .i64 a, .int .i64 p] w fun e w' => e = .returned (.bool (flowMay E a p)) ∧ Below w.heap.size w w' := by
  obtain ⟨pa, pc, rfl⟩ := h.p.val
  obtain ⟨ga, gc, rfl⟩ := h.g.val
  obtain ⟨ea, ec, rfl⟩ := h.e.val
  obtain ⟨fa, fc, rfl⟩ := h.f.val
  obtain ⟨la, lc, rfl⟩ := h.l.val
  have H := Lib.hid h
  have le := hL.e
  have heq := Tryd.pairEq
  unfold pairEq at heq
  clear h
  unfold entCs
  go_enter Tryd.func125, Tryd.ntmps125
  by_cases h0 : E.edges = []
  · have hF := Lib.hid (flowMay_none E a p h0)
    have h0l : E.edges.length = 0 := by rw [h0]; rfl
    clear h0
    go_wp2_with fail
    go_ret
    exact ⟨ret_bool hF.out.symm, (Below.refl _ _).alloc (Nat.le_refl _) _⟩
  have h0l : 0 < E.edges.length := List.length_pos_iff.2 h0
  by_cases h1 : p < 0 ∨ (E.points.length : Int) ≤ p
  · have hF := Lib.hid (flowMay_out E a p h0 h1)
    clear h0
    rcases h1 with h1 | h1
    · go_wp2_with fail
      go_ret
      exact ⟨ret_bool hF.out.symm, (Below.refl _ _).alloc (Nat.le_refl _) _⟩
    · have h2 : ¬ p < 0 := by omega
      go_wp2_with fail
      go_ret
      exact ⟨ret_bool hF.out.symm, (Below.refl _ _).alloc (Nat.le_refl _) _⟩
  have h2 : ¬ p < 0 := by omega
  have h3 : ¬ (E.points.length : Int) ≤ p := by omega
  by_cases h4 : a = -1
  · subst h4
    have hF := Lib.hid (flowMay_first E p h0 h1)
    clear h0 h1 ha
    go_wp2_with fail
    refine (hasInts_any R E.first _ p _ (H.out.f.below ((Below.refl _ _).alloc (Nat.le_refl _) _) hR)).mono ?_
    rintro e w' ⟨rfl, rfl⟩
    go_wp2_with fail
    go_ret
    exact ⟨ret_bool hF.out.symm, (Below.refl _ _).alloc (Nat.le_refl _) _⟩
  · have hF := Lib.hid (flowMay_edge E a p h0 h1 h4)
    have ha0 : 0 ≤ a := by omega
    clear h0 h1 ha h4
    go_wp2_with fail
    generalize hwa : w.alloc _ = wa
    have hba : Below w.heap.size w wa := by rw [← hwa]; exact (Below.refl _ _).alloc (Nat.le_refl _) _
    have c7 : wa.cell? ⟨w.heap.size, 7, none⟩ = some (.slice ea E.edges.length ec) := by rw [← hwa]; exact (ten_cells (get_alloc_new w _)).2.2.2.2.2.2.2.1
    clear hwa
    go_loopw [7] (fun s wr => ∃ k : Nat, k ≤ E.edges.length ∧ s = .int .i64 k ∧ Below w.heap.size w wr ∧ wr.cell? ⟨w.heap.size, 7, none⟩ = some (.slice ea E.edges.length ec) ∧ Hid (∀ j (hj : j < E.edges.length), j < k → E.edges[j] ≠ (a, p))) (fun s _ => E.edges.length - (intOf s).toNat)
    case atStart => exact ⟨0, Nat.zero_le _, rfl, hba, c7, fun j hj h => by omega⟩
    case round =>
      obtain ⟨k, hk, rfl, hb, c7, hall⟩ := hrel
      by_cases hlt : k < E.edges.length
      · obtain ⟨eb, eoff, rfl, hRb, _, hc⟩ := H.out.e.elem (f := edgeCells) (fun _ => rfl) (by decide) (by omega)
        have q0 := hc k hlt 0 _ rfl
        have q1 := hc k hlt 1 _ rfl
        rw [← hb.cell (hR eb hRb)] at q0 q1
        rw [Nat.add_zero] at q0
        clear hc
        by_cases hx : E.edges[k] = (a, p)
        · have HI := Lib.hid (show (a, p) ∈ E.edges from hx ▸ List.getElem_mem hlt)
          have hq := fun w => heq w E.edges[k].1 E.edges[k].2 a p
          rw [decide_eq_true (show (E.edges[k].1, E.edges[k].2) = (a, p) from hx)] at hq
          clear hx heq
          go_wp2_with fail
          go_ret
          exact ⟨ret_bool ((decide_eq_true HI.out).symm.trans hF.out.symm), hb⟩
        · have hq := fun w => heq w E.edges[k].1 E.edges[k].2 a p
          rw [decide_eq_false (show ¬ (E.edges[k].1, E.edges[k].2) = (a, p) from hx)] at hq
          have HX := Lib.hid hx
          clear hx heq
          go_wp2_with fail
          go_roundw
          case rel =>
            refine ⟨k + 1, by omega, by go_num, hb, c7, fun j hj h => ?_⟩
            by_cases hjk : j = k
            · subst hjk; exact HX.out
            · exact hall.out j hj (by omega)
          case measure => simp [intOf]; omega
      · have HI := Lib.hid (show (a, p) ∉ E.edges from fun h => by
          obtain ⟨j, hj, e⟩ := List.mem_iff_getElem.1 h
          exact hall.out j hj (by omega) e)
        go_wp2_with fail
        go_ret
        exact ⟨ret_bool ((decide_eq_false HI.out).symm.trans hF.out.symm), hb⟩

theorem flowAhead_zero (E : EntV) (l : List MarkV) : flowAhead E (l.take 0) = -1 := by simp [flowAhead]
theorem flowAhead_succ (E : EntV) (l : List MarkV) (k : Nat) (hk : k < l.length) : flowAhead E (l.take (k + 1)) = flowThen E l[k].point := by
  rw [List.take_succ_eq_append_getElem hk, flowAhead_snoc]

set_option maxRecDepth 100000 in
set_option maxHeartbeats 2000000 in
theorem flowAhead_any (R : Nat → Prop) (E : EntV) (l : List MarkV) (i : Nat) (vp vg ve vf vl v : Value) (w : World) (h : EntSl R w E vp vg ve vf vl) (hm : SlOf R w v 3 (l.flatMap markCells) l.length) (hR : ∀ b, R b → b < w.heap.size) (hl : l.length ≤ 1000) (hi : i ≤ l.length) :
    Calls Tryd.prog 126 #[.agg (entCs E vp vg ve vf vl), v, .int .i64 i] w fun e w' => e = .returned (.int .i64 (flowAhead E (l.take i))) ∧ Below w.heap.size w w' := by
  obtain ⟨pa, pc, rfl⟩ := h.p.val
  obtain ⟨ga, gc, rfl⟩ := h.g.val
  obtain ⟨ea, ec, rfl⟩ := h.e.val
  obtain ⟨fa, fc, rfl⟩ := h.f.val
  obtain ⟨la, lc, rfl⟩ := h.l.val
  obtain ⟨ma, mc, rfl⟩ := hm.val
  have H := Lib.hid h
  have HM := Lib.hid hm
  clear h hm
  unfold entCs
  go_enter Tryd.func126, Tryd.ntmps126
  cases i with
  | zero =>
    have hF := Lib.hid (flowAhead_zero E l)
    go_wp2_with fail
    go_ret
    exact ⟨ret_int hF.out.symm, (Below.refl _ _).alloc (Nat.le_refl _) _⟩
  | succ k =>
    obtain ⟨mb, moff, rfl, hRb, _, hc⟩ := mark_cells HM.out (by omega)
    obtain ⟨q0, _, _⟩ := hc k (by omega)
    clear hc
    have hF := flowAhead_succ E l k (by omega)
    have HF := Lib.hid hF
    have hkz : (((k + 1 : Nat) : Int) == 0) = false := by simp; omega
    have hkr : (((k + 1 : Nat) : Int) - 1) = k := by omega
    have hbl := hR mb hRb
    clear hF
    generalize l[k].point = p at q0 HF
    by_cases h1 : p < 0
    · have hF := Lib.hid (HF.out.trans (flowThen_low E p h1))
      go_wp2_with fail
      go_ret
      exact ⟨ret_int hF.out.symm, (Below.refl _ _).alloc (Nat.le_refl _) _⟩
    by_cases h2 : (E.points.length : Int) ≤ p
    · have hF := Lib.hid (HF.out.trans (flowThen_high E p h2))
      go_wp2_with fail
      go_ret
      exact ⟨ret_int hF.out.symm, (Below.refl _ _).alloc (Nat.le_refl _) _⟩
    go_wp2_with fail
    refine (hasInts_any R E.last _ p _ (H.out.l.below ((Below.refl _ _).alloc (Nat.le_refl _) _) hR)).mono ?_
    rintro e w' ⟨rfl, rfl⟩
    by_cases h3 : p ∈ E.last
    · have hF := Lib.hid (HF.out.trans (flowThen_last E p h3))
      rw [decide_eq_true h3]
      go_wp2_with fail
      go_ret
      exact ⟨ret_int hF.out.symm, (Below.refl _ _).alloc (Nat.le_refl _) _⟩
    · have hF := Lib.hid (HF.out.trans (flowThen_in E p (by omega) (by omega) h3))
      rw [decide_eq_false h3]
      go_wp2_with fail
      go_ret
      exact ⟨ret_int hF.out.symm, (Below.refl _ _).alloc (Nat.le_refl _) _⟩

theorem fn_keep2 {B C : Nat} {w1 w' : World} (hs : B < w1.heap.size) (ht : C < w1.heap.size) (h : Below w1.heap.size w1 w') : (∀ o, w'.cell? ⟨B, o, none⟩ = w1.cell? ⟨B, o, none⟩) ∧ (∀ o, w'.cell? ⟨C, o, none⟩ = w1.cell? ⟨C, o, none⟩) ∧ Below w1.heap.size w1 w' :=
  ⟨fun o => h.cell (p := ⟨B, o, none⟩) hs, fun o => h.cell (p := ⟨C, o, none⟩) ht, h⟩

set_option maxRecDepth 100000 in
set_option maxHeartbeats 2000000 in
theorem flowBad_any (R : Nat → Prop) (E : EntV) (l : List MarkV) (c : Int) (vp vg ve vf vl v : Value) (w : World) (h : EntSl R w E vp vg ve vf vl) (hm : SlOf R w v 3 (l.flatMap markCells) l.length) (hR : ∀ b, R b → b < w.heap.size) (hL : Light E) (hl : l.length ≤ 1000) :
    Calls Tryd.prog 93 #[.agg (entCs E vp vg ve vf vl), v, .int .i64 c] w fun e w' => e = .returned (.bool (flowBadF E l c l.length)) ∧ Below w.heap.size w w' := by
  obtain ⟨pa, pc, rfl⟩ := h.p.val
  obtain ⟨ga, gc, rfl⟩ := h.g.val
  obtain ⟨ea, ec, rfl⟩ := h.e.val
  obtain ⟨fa, fc, rfl⟩ := h.f.val
  obtain ⟨la, lc, rfl⟩ := h.l.val
  obtain ⟨ma, mc, rfl⟩ := hm.val
  have H := Lib.hid h
  have HM := Lib.hid hm
  clear h hm
  unfold entCs
  go_enter Tryd.func93, Tryd.ntmps93
  go_wp2_with fail
  generalize hwa : w.alloc _ = wa
  have hba : Below w.heap.size w wa := by rw [← hwa]; exact (Below.refl _ _).alloc (Nat.le_refl _) _
  have hxa : wa.heap[w.heap.size]? = some (.cells (entCs E (.slice pa E.points.length pc) (.slice ga E.gaps.length gc) (.slice ea E.edges.length ec) (.slice fa E.first.length fc) (.slice la E.last.length lc)) 27) := by rw [← hwa]; exact get_alloc_new w _
  have HXA := Lib.hid hxa
  clear hwa hxa
  go_loopw [7] (fun s wr => ∃ i : Nat, i ≤ l.length ∧ s = .int .i64 i ∧ Below w.heap.size w wr ∧ Hid (wr.heap[w.heap.size]? = some (.cells (entCs E (.slice pa E.points.length pc) (.slice ga E.gaps.length gc) (.slice ea E.edges.length ec) (.slice fa E.first.length fc) (.slice la E.last.length lc)) 27)) ∧ Hid (flowBadF E l c i = false)) (fun s _ => l.length - (intOf s).toNat)
  case atStart => exact ⟨0, Nat.zero_le _, rfl, hba, HXA, rfl⟩
  case round =>
    obtain ⟨i, hi, rfl, hb, hx, hg⟩ := hrel
    clear HXA hba
    by_cases hlt : i < l.length
    · obtain ⟨mb, moff, rfl, hRb, _, hc⟩ := mark_cells HM.out (by omega)
      obtain ⟨q0, q1, q2⟩ := hc i hlt
      rw [← hb.cell (p := ⟨mb, moff + i * 3, none⟩) (hR mb hRb)] at q0
      rw [← hb.cell (p := ⟨mb, moff + i * 3 + 2, none⟩) (hR mb hRb)] at q2
      clear hc q1
      have hbx := hx.out
      unfold entCs at hbx
      obtain ⟨c0, c1, c2, c3, c4, c5, c6, c7, c8, c9, cf⟩ := ten_cells hbx
      clear hbx cf
      have hbl := hR mb hRb
      have hxs := lt_of_get hx.out
      have hms : mb < wr.heap.size := Nat.lt_of_lt_of_le hbl hb.size
      have ha := flowAhead_ge E (l.take i)
      have hAh := fun W (hB : Below wr.heap.size wr W) => flowAhead_any R E l i (.slice pa E.points.length pc) (.slice ga E.gaps.length gc) (.slice ea E.edges.length ec) (.slice fa E.first.length fc) (.slice la E.last.length lc) (.slice (some ⟨mb, moff, none⟩) l.length mc) W (EntSl.below H.out (hb.trans (hB.mono hb.size)) hR) (SlOf.below HM.out (hb.trans (hB.mono hb.size)) hR) (below_lt hR (hb.trans (hB.mono hb.size))) hl hi
      have hSt := fun W (hB : Below wr.heap.size wr W) => flowStep_any R E (.slice pa E.points.length pc) (.slice ga E.gaps.length gc) (.slice ea E.edges.length ec) (.slice fa E.first.length fc) (.slice la E.last.length lc) (flowAhead E (l.take i)) l[i].point W (EntSl.below H.out (hb.trans (hB.mono hb.size)) hR) (below_lt hR (hb.trans (hB.mono hb.size))) hL ha
      simp only [entCs] at hAh hSt
      have HAh := Lib.hid hAh
      have HSt := Lib.hid hSt
      clear hAh hSt ha
      go_upto_region 4 with fail
      go_cut [8] (fun s wx => s = .bool (flowMay E (flowAhead E (l.take i)) l[i].point) ∧ Below wr.heap.size wr wx)
      case first =>
       go_region_held3 (fun w' => (∀ o, w'.cell? ⟨w.heap.size, o, none⟩ = wr.cell? ⟨w.heap.size, o, none⟩) ∧ (∀ o, w'.cell? ⟨mb, o, none⟩ = wr.cell? ⟨mb, o, none⟩) ∧ Below wr.heap.size wr w')
        (first | (refine fn_keep2 hxs hms ?_; repeat (first | exact Below.refl _ _ | assumption | refine Below.drew ?_ | refine below_alloc1 ?_ _ | refine below_step ?_ (by assumption))))
        (first | (go_at_call_of 126 (Value.slice pa E.points.length pc); refine (HAh.out _ ?_).mono ?_; (repeat (first | exact Below.refl _ _ | assumption | refine Below.drew ?_ | refine below_alloc1 ?_ _ | refine below_step ?_ (by assumption))); rintro e wf ⟨rfl, bf⟩) | (go_at_call_of 125 (Value.slice pa E.points.length pc); refine (HSt.out _ ?_).mono ?_; (repeat (first | exact Below.refl _ _ | assumption | refine Below.drew ?_ | refine below_alloc1 ?_ _ | refine below_step ?_ (by assumption))); rintro e wl ⟨rfl, bl⟩))
       all_goals (go_wp2_with fail; go_meet)
       all_goals exact ⟨rfl, by repeat (first | exact Below.refl _ _ | assumption | refine Below.drew ?_ | refine below_alloc1 ?_ _ | refine below_step ?_ (by assumption))⟩
      case rest =>
      obtain ⟨rfl, hB⟩ := hcut
      have hsu := flowBadF_succ E l c i hlt
      rw [hg.out, Bool.false_or] at hsu
      unfold flowMark at hsu
      have hbW := hb.trans (hB.mono hb.size)
      have hxW := Lib.hid (below_get hB hx.out (lt_of_get hx.out))
      rw [← hB.cell (p := ⟨mb, moff + i * 3 + 2, none⟩) hms] at q2
      have HS := Lib.hid hsu
      clear hsu q0 c0 c1 c2 c3 c4 c5 c6 c7 c8 c9 HAh HSt hx hB
      generalize flowMay E (flowAhead E (l.take i)) l[i].point = ok at HS ⊢
      by_cases hcy : l[i].cycle = c
      · have hcb : (l[i].cycle == c) = true := beq_iff_eq.2 hcy
        rw [decide_eq_true hcy] at HS
        have HCY := Lib.hid hcy
        clear hcy
        cases ok
        · have hF : flowBadF E l c l.length = true := flowBadF_mono _ _ _ _ _ HS.out (show i + 1 ≤ l.length by omega)
          have HF := Lib.hid hF
          clear hF
          go_wp2_with fail
          go_ret
          exact ⟨ret_bool HF.out.symm, hbW⟩
        · go_wp2_with fail
          go_roundw
          case rel => exact ⟨i + 1, by omega, by go_num, hbW, hxW, HS⟩
          case measure => simp [intOf]; omega
      · have hcb : (l[i].cycle == c) = false := by simp [hcy]
        rw [decide_eq_false hcy, Bool.false_and] at HS
        clear hcy
        go_wp2_with fail
        go_roundw
        case rel => exact ⟨i + 1, by omega, by go_num, hbW, hxW, HS⟩
        case measure => simp [intOf]; omega
    · have hii : i = l.length := by omega
      subst hii
      go_wp2_with fail
      go_ret
      exact ⟨ret_bool hg.out.symm, hb⟩
end Go.Proofs.YtkhcepdeppmofaaDoor
