/- The document's Local in memory: KindOf, Begin, Stop, Report, End, Status. -/
import Derived.Test.YtkhcepdeppmofaaDoorLocalRM
import Derived.Test.YtkhcepdeppmofaaDoorRowsOf
namespace Go.Proofs.YtkhcepdeppmofaaDoor
open Go.RowKit
set_option linter.unusedVariables false

def rlocC (E : EntV) (vp vg ve vf vl : Value) (m : RLocM) (lv : Value) : Obj :=
  .cells #[.string E.name, .int .i64 E.tol, vp, .int .i64 E.count, .int .i64 E.mn, .int .i64 E.mx, vg, ve, vf, vl, .bool m.act, .int .i64 m.since, lv, .int .i64 m.run, .bool m.exp] 39
theorem rloc_cells {w : World} {b : Nat} {E : EntV} {vp vg ve vf vl : Value} {m : RLocM} {lv : Value} (h : w.heap[b]? = some (rlocC E vp vg ve vf vl m lv)) :
    (w.cell? ⟨b, 0, none⟩ = some (.string E.name) ∧ w.cell? ⟨b, 1, none⟩ = some (.int .i64 E.tol) ∧ w.cell? ⟨b, 2, none⟩ = some vp ∧ w.cell? ⟨b, 3, none⟩ = some (.int .i64 E.count) ∧ w.cell? ⟨b, 4, none⟩ = some (.int .i64 E.mn) ∧ w.cell? ⟨b, 5, none⟩ = some (.int .i64 E.mx) ∧
    w.cell? ⟨b, 6, none⟩ = some vg ∧ w.cell? ⟨b, 7, none⟩ = some ve ∧ w.cell? ⟨b, 8, none⟩ = some vf ∧ w.cell? ⟨b, 9, none⟩ = some vl) ∧ w.cell? ⟨b, 10, none⟩ = some (.bool m.act) ∧ w.cell? ⟨b, 11, none⟩ = some (.int .i64 m.since) ∧ w.cell? ⟨b, 12, none⟩ = some lv ∧
    w.cell? ⟨b, 13, none⟩ = some (.int .i64 m.run) ∧ w.cell? ⟨b, 14, none⟩ = some (.bool m.exp) ∧ ∀ o, w.frozen? ⟨b, o, none⟩ = false := by
  unfold rlocC at h
  simp [World.cell?, World.frozen?, h]

/-- The document's Local at block rl; its row lies at base or behind it. -/
structure RLocAt (base rl : Nat) (E : EntV) (vp vg ve vf vl : Value) (m : RLocM) (lv : Value) (w : World) : Prop where
  box : w.heap[rl]? = some (rlocC E vp vg ve vf vl m lv)
  own : m.act = true → w.ownsRow base 124 3 lv m.L.length (m.L.flatMap markCells)
  val : ∃ ao n cap, lv = .slice ao n cap
  lo : rl < base
  top : m.act = true → base ≤ w.heap.size
theorem RLocAt.keep {S : Nat → Prop} {base rl : Nat} {E : EntV} {vp vg ve vf vl : Value} {m : RLocM} {lv : Value} {w w' : World} (h : RLocAt base rl E vp vg ve vf vl m lv w) (k : Keep S w w') (h1 : ¬ S rl) (h2 : ∀ b, base ≤ b → b < w.heap.size → ¬ S b) : RLocAt base rl E vp vg ve vf vl m lv w' :=
  ⟨k.get h.box h1, fun ha => ownsRow_keep' (h.own ha) k h2, h.val, h.lo, fun ha => Nat.le_trans (h.top ha) k.size⟩
theorem RLocAt.below {base rl : Nat} {E : EntV} {vp vg ve vf vl : Value} {m : RLocM} {lv : Value} {w w' : World} (h : RLocAt base rl E vp vg ve vf vl m lv w) (b : Below w.heap.size w w') : RLocAt base rl E vp vg ve vf vl m lv w' :=
  h.keep (below_keep b) (fun h => h) (fun _ _ _ h => h)

theorem cntIn_lt {E : EntV} {l : List MarkV} {c : Int} {i : Nat} (hl : l.length ≤ 200) : cntIn E (l.take i) c ≤ 200 := Nat.le_trans (cntIn_le _ _ _) (Nat.le_trans (by rw [List.length_take]; exact Nat.min_le_right _ _) hl)
set_option maxRecDepth 100000 in
set_option maxHeartbeats 1000000 in
theorem countIn_any (R : Nat → Prop) (E : EntV) (l : List MarkV) (c : Int) (vp vg ve vf vl v : Value) (w : World) (hm : SlOf R w v 3 (l.flatMap markCells) l.length) (hR : ∀ b, R b → b < w.heap.size) (hl : l.length ≤ 200) :
    Calls Tryd.prog 91 #[.agg (entCs E vp vg ve vf vl), v, .int .i64 c] w fun e w' => e = .returned (.int .i64 (cntIn E l c : Nat)) ∧ Below w.heap.size w w' := by
  obtain ⟨ma, mc, rfl⟩ := hm.val
  have HM := Lib.hid hm
  clear hm
  unfold entCs
  go_enter Tryd.func91, Tryd.ntmps91
  go_wp2_with fail
  generalize hwa : w.alloc _ = wa
  have hba : Below w.heap.size w wa := by rw [← hwa]; exact (Below.refl _ _).alloc (Nat.le_refl _) _
  have hxa : wa.heap[w.heap.size]? = some (.cells (entCs E vp vg ve vf vl) 27) := by rw [← hwa]; exact get_alloc_new w _
  have HXA := Lib.hid hxa
  clear hwa hxa
  go_loopw [7, 8] (fun s7 s8 wr => ∃ i : Nat, i ≤ l.length ∧ s7 = .int .i64 (cntIn E (l.take i) c : Nat) ∧ s8 = .int .i64 i ∧ Below w.heap.size w wr ∧ Hid (wr.heap[w.heap.size]? = some (.cells (entCs E vp vg ve vf vl) 27))) (fun _ s _ => l.length - (intOf s).toNat)
  case atStart => exact ⟨0, Nat.zero_le _, rfl, rfl, hba, HXA⟩
  case round =>
    obtain ⟨i, hi, rfl, rfl, hb, hx⟩ := hrel
    clear HXA hba
    by_cases hlt : i < l.length
    · obtain ⟨mb, moff, rfl, hRb, _, hc⟩ := mark_cells HM.out (by omega)
      obtain ⟨q0, q1, q2⟩ := hc i hlt
      rw [← hb.cell (p := ⟨mb, moff + i * 3, none⟩) (hR mb hRb)] at q0
      rw [← hb.cell (p := ⟨mb, moff + i * 3 + 2, none⟩) (hR mb hRb)] at q2
      clear hc q1
      have hbx := hx.out
      unfold entCs at hbx
      obtain ⟨_, _, _, c3, _⟩ := ten_cells hbx
      clear hbx
      have hle := cntIn_lt (E := E) (c := c) (i := i) hl
      have hsu := cntIn_take E l c i hlt
      have HS := Lib.hid hsu
      clear hsu
      generalize cntIn E (l.take i) c = n at HS hle ⊢
      by_cases h1 : l[i].cycle = c
      · have hb1 : (l[i].cycle == c) = true := by simp [h1]
        have H1 := Lib.hid h1
        clear h1
        by_cases h2 : l[i].point = E.count
        · have hb2 : (l[i].point == E.count) = true := by simp [h2]
          have HE : Hid (((n : Int) + 1) = (cntIn E (l.take (i + 1)) c : Nat)) := by
            show ((n : Int) + 1) = (cntIn E (l.take (i + 1)) c : Nat)
            rw [HS.out, if_pos (by simp [inCnt, H1.out, h2])]; rfl
          clear h2
          go_wp2_with fail
          go_quiet (fail)
          go_wp2_with fail
          go_roundw
          case rel => exact ⟨i + 1, by omega, by rw [HE.out], by go_num, below_drewN' _ hb, hx⟩
          case measure => simp [intOf]; omega
        · have hb2 : (l[i].point == E.count) = false := by simp [h2]
          have HE : Hid ((n : Int) = (cntIn E (l.take (i + 1)) c : Nat)) := by
            show (n : Int) = (cntIn E (l.take (i + 1)) c : Nat)
            rw [HS.out, if_neg (by simp [inCnt, h2])]; rfl
          clear h2
          go_wp2_with fail
          go_quiet (fail)
          go_wp2_with fail
          go_roundw
          case rel => exact ⟨i + 1, by omega, by rw [HE.out], by go_num, below_drewN' _ hb, hx⟩
          case measure => simp [intOf]; omega
      · have hb1 : (l[i].cycle == c) = false := by simp [h1]
        have HE : Hid ((n : Int) = (cntIn E (l.take (i + 1)) c : Nat)) := by
          show (n : Int) = (cntIn E (l.take (i + 1)) c : Nat)
          rw [HS.out, if_neg (by simp [inCnt, h1])]; rfl
        clear h1
        go_wp2_with fail
        go_quiet (fail)
        go_wp2_with fail
        go_roundw
        case rel => exact ⟨i + 1, by omega, by rw [HE.out], by go_num, below_drewN' _ hb, hx⟩
        case measure => simp [intOf]; omega
    · have hii : i = l.length := by omega
      subst hii
      rw [List.take_length]
      go_wp2_with fail
      go_ret
      exact ⟨rfl, hb⟩

theorem gapsBad_take {E : EntV} {l : List MarkV} {c : Int} {k : Nat} (hk : k < E.gaps.length) (h : gapBadF E.gaps[k] l c l.length = true) : gapsBadF E l c = true :=
  List.any_eq_true.2 ⟨_, List.getElem_mem hk, h⟩
theorem gapsBad_none {E : EntV} {l : List MarkV} {c : Int} (h : ∀ k (hk : k < E.gaps.length), gapBadF E.gaps[k] l c l.length = false) : gapsBadF E l c = false :=
  List.any_eq_false.2 (fun x hx => by
    obtain ⟨k, hk, rfl⟩ := List.mem_iff_getElem.1 hx
    rw [h k hk]; decide)
def aliveBad (E : EntV) (n : Int) (c : Int) : Bool := decide (0 ≤ E.count ∧ 0 < c ∧ (n < E.mn ∨ E.mx < n))
theorem kindF_1 {E : EntV} {l : List MarkV} {c : Int} (h : aliveBad E (cntIn E l c : Nat) c = true) : kindF E l c = 1 := if_pos (of_decide_eq_true h)
theorem kindF_2 {E : EntV} {l : List MarkV} {c : Int} (h : aliveBad E (cntIn E l c : Nat) c = false) (h2 : gapsBadF E l c = true) : kindF E l c = 2 := by
  unfold kindF
  rw [if_neg (of_decide_eq_false h), if_pos h2]
theorem kindF_3 {E : EntV} {l : List MarkV} {c : Int} (h : aliveBad E (cntIn E l c : Nat) c = false) (h2 : gapsBadF E l c = false) : kindF E l c = if flowBadF E l c l.length = true then 3 else 0 := by
  unfold kindF
  rw [if_neg (of_decide_eq_false h), if_neg (by rw [h2]; decide)]

set_option maxRecDepth 100000 in
set_option maxHeartbeats 2000000 in
theorem kindOf_any (R : Nat → Prop) (E : EntV) (l : List MarkV) (c : Int) (vp vg ve vf vl v : Value) (w : World) (h : EntSl R w E vp vg ve vf vl) (hm : SlOf R w v 3 (l.flatMap markCells) l.length) (hR : ∀ b, R b → b < w.heap.size) (hL : Light E) (hl : l.length ≤ 200) (hok : MarksOk l) :
    Calls Tryd.prog 62 #[.agg (entCs E vp vg ve vf vl), v, .int .i64 c] w fun e w' => e = .returned (.int .i64 (kindF E l c)) ∧ Below w.heap.size w w' := by
  obtain ⟨pa, pc, rfl⟩ := h.p.val
  obtain ⟨ga, gc, rfl⟩ := h.g.val
  obtain ⟨ea, ec, rfl⟩ := h.e.val
  obtain ⟨fa, fc, rfl⟩ := h.f.val
  obtain ⟨la, lc, rfl⟩ := h.l.val
  obtain ⟨ma, mc, rfl⟩ := hm.val
  have H := Lib.hid h
  have HM := Lib.hid hm
  have lg := hL.g
  clear h hm
  have HCnt := Lib.hid (fun W (hB : Below w.heap.size w W) => countIn_any R E l c (.slice pa E.points.length pc) (.slice ga E.gaps.length gc) (.slice ea E.edges.length ec) (.slice fa E.first.length fc) (.slice la E.last.length lc) (.slice ma l.length mc) W (HM.out.below hB hR) (below_lt hR hB) hl)
  have HGap := Lib.hid (fun W (g : GapV) (hB : Below w.heap.size w W) => gapBad_any R g l c (.slice ma l.length mc) W (HM.out.below hB hR) (below_lt hR hB) hl hok)
  have HFl := Lib.hid (fun W (hB : Below w.heap.size w W) => flowBad_any R E l c (.slice pa E.points.length pc) (.slice ga E.gaps.length gc) (.slice ea E.edges.length ec) (.slice fa E.first.length fc) (.slice la E.last.length lc) (.slice ma l.length mc) W (H.out.below hB hR) (HM.out.below hB hR) (below_lt hR hB) hL (by omega))
  unfold entCs at HCnt HFl ⊢
  go_enter Tryd.func62, Tryd.ntmps62
  go_upto_region 2 with fail
  generalize hwa : w.alloc _ = wa
  have hba : Below w.heap.size w wa := by rw [← hwa]; exact (Below.refl _ _).alloc (Nat.le_refl _) _
  have hxa : wa.heap[w.heap.size]? = some (.cells (entCs E (.slice pa E.points.length pc) (.slice ga E.gaps.length gc) (.slice ea E.edges.length ec) (.slice fa E.first.length fc) (.slice la E.last.length lc)) 27) := by rw [← hwa]; exact get_alloc_new w _
  have HXA := Lib.hid hxa
  have HBA := Lib.hid hba
  unfold entCs at hxa
  obtain ⟨c0, c1, c2, c3, c4, c5, c6, c7, c8, c9, cf⟩ := ten_cells hxa
  clear hwa hxa hba cf
  go_wp2_with fail
  refine (HCnt.out wa HBA.out).mono ?_
  rintro e w1 ⟨rfl, b1⟩
  have hb1 := HBA.out.trans (b1.mono HBA.out.size)
  have hx1 := below_get b1 HXA.out (lt_of_get HXA.out)
  have HX1 := Lib.hid hx1
  unfold entCs at hx1
  clear c0 c1 c2 c3 c4 c5 c6 c7 c8 c9 HXA HBA b1
  obtain ⟨c0, c1, c2, c3, c4, c5, c6, c7, c8, c9, cf⟩ := ten_cells hx1
  clear hx1 cf
  have hn200 := cntIn_le E l c
  obtain ⟨n, hn⟩ : ∃ n, n = cntIn E l c := ⟨_, rfl⟩
  rw [← hn] at hn200 ⊢
  have HN := Lib.hid hn
  clear hn
  go_upto_region 2 with fail
  go_cut [33] (fun s wx => s = .bool (aliveBad E (n : Int) c) ∧ w1 = wx)
  case first =>
    by_cases h1 : 0 ≤ E.count
    · by_cases h2 : 0 < c
      · by_cases h3 : (n : Int) < E.mn
        · go_wp2_with fail
          go_meet
          exact ⟨val_bool (by unfold aliveBad; rw [decide_eq_true (by omega)]), rfl⟩
        · by_cases h4 : E.mx < (n : Int)
          · go_wp2_with fail
            go_meet
            exact ⟨val_bool (by unfold aliveBad; rw [decide_eq_true (by omega)]), rfl⟩
          · go_wp2_with fail
            go_meet
            exact ⟨val_bool (by unfold aliveBad; rw [decide_eq_false (by omega)]), rfl⟩
      · go_wp2_with fail
        go_meet
        exact ⟨val_bool (by unfold aliveBad; rw [decide_eq_false (by omega)]), rfl⟩
    · go_wp2_with fail
      go_meet
      exact ⟨val_bool (by unfold aliveBad; rw [decide_eq_false (by omega)]), rfl⟩
  case rest =>
  obtain ⟨rfl, rfl⟩ := hcut
  cases hA : aliveBad E (n : Int) c
  · have hA' := hA
    rw [HN.out] at hA'
    have HA := Lib.hid hA'
    clear hA hA'
    go_wp2_with fail
    go_loopw [8] (fun s8 wr => ∃ k : Nat, k ≤ E.gaps.length ∧ s8 = .int .i64 k ∧ Below w.heap.size w wr ∧ Hid (wr.heap[w.heap.size]? = some (.cells (entCs E (.slice pa E.points.length pc) (.slice ga E.gaps.length gc) (.slice ea E.edges.length ec) (.slice fa E.first.length fc) (.slice la E.last.length lc)) 27)) ∧ Hid (∀ j (hj : j < E.gaps.length), j < k → gapBadF E.gaps[j] l c l.length = false)) (fun s _ => E.gaps.length - (intOf s).toNat)
    case atStart => exact ⟨0, Nat.zero_le _, rfl, hb1, HX1, fun j hj h => by omega⟩
    case round =>
      obtain ⟨k, hk, rfl, hb, hx, hall⟩ := hrel
      clear hb1 HX1 c0 c1 c2 c3 c4 c5 c6 c7 c8 c9
      have hbx := hx.out
      unfold entCs at hbx
      obtain ⟨c0, c1, c2, c3, c4, c5, c6, c7, c8, c9, cf⟩ := ten_cells hbx
      clear hbx cf
      by_cases hlt : k < E.gaps.length
      · obtain ⟨gb, goff, rfl, hRg, _, hcg⟩ := H.out.g.elem (f := gapCells) (fun _ => rfl) (by decide) (by omega)
        have x0 := hcg k hlt 0 _ rfl
        have x1 := hcg k hlt 1 _ rfl
        have x2 := hcg k hlt 2 _ rfl
        have x3 := hcg k hlt 3 _ rfl
        rw [← hb.cell (hR gb hRg)] at x0 x1 x2 x3
        rw [Nat.add_zero] at x0
        have hGk := HGap.out wr E.gaps[k] hb
        have HGk := Lib.hid hGk
        clear hcg hGk
        go_wp2_with fail
        refine HGk.out.mono ?_
        rintro e w2 ⟨rfl, b2⟩
        have hb2 := hb.trans (b2.mono hb.size)
        have hx2 := Lib.hid (below_get b2 hx.out (lt_of_get hx.out))
        clear x0 x1 x2 x3 c0 c1 c2 c3 c4 c5 c6 c7 c8 c9 b2 HGk
        cases hg : gapBadF E.gaps[k] l c l.length
        · have nx : Hid (∀ j (hj : j < E.gaps.length), j < k + 1 → gapBadF E.gaps[j] l c l.length = false) := (show ∀ j (hj : j < E.gaps.length), j < k + 1 → gapBadF E.gaps[j] l c l.length = false from fun j hj h => by
            by_cases hjk : j = k
            · subst hjk; exact hg
            · exact hall.out j hj (by omega))
          clear hg hall
          go_wp2_with fail
          go_roundw
          case rel => exact ⟨k + 1, by omega, by go_num, hb2, hx2, nx⟩
          case measure => simp [intOf]; omega
        · have HF := Lib.hid (kindF_2 HA.out (gapsBad_take hlt hg))
          clear hg hall
          go_wp2_with fail
          go_ret
          exact ⟨ret_int HF.out.symm, hb2⟩
      · have HF := Lib.hid (kindF_3 HA.out (gapsBad_none (fun j hj => hall.out j hj (by omega))))
        have HFw := Lib.hid (HFl.out wr hb)
        clear hall
        go_wp2_with fail
        refine HFw.out.mono ?_
        rintro e w2 ⟨rfl, b2⟩
        have hb2 := hb.trans (b2.mono hb.size)
        cases hg : flowBadF E l c l.length
        · rw [hg, if_neg (by decide)] at HF
          clear hg
          go_wp2_with fail
          go_ret
          exact ⟨ret_int HF.out.symm, hb2⟩
        · rw [hg, if_pos rfl] at HF
          clear hg
          go_wp2_with fail
          go_ret
          exact ⟨ret_int HF.out.symm, hb2⟩
  · rw [HN.out] at hA
    have HF := Lib.hid (kindF_1 hA)
    rw [← HN.out] at hA
    go_wp2_with fail
    go_ret
    exact ⟨ret_int HF.out.symm, hb1⟩
end Go.Proofs.YtkhcepdeppmofaaDoor
