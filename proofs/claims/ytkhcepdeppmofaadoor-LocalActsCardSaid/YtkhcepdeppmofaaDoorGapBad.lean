/- The document's GapBad, walked. -/
import Derived.Test.YtkhcepdeppmofaaDoorMarks
namespace Go.Proofs.YtkhcepdeppmofaaDoor
open Go.RowKit
set_option linter.unusedVariables false

def MarksOk (l : List MarkV) : Prop := ∀ m ∈ l, 0 ≤ m.tick ∧ m.tick ≤ 1099511627776

theorem take_split {l : List MarkV} {i k : Nat} (hk : k < i) (hi : i ≤ l.length) : l.take i = l.take k ++ l[k] :: (l.take i).drop (k + 1) := by
  have h1 : (l.take i).length = i := by simp; omega
  have h2 := List.take_append_drop k (l.take i)
  rw [List.take_take, Nat.min_eq_left (by omega), List.drop_eq_getElem_cons (by omega)] at h2
  have h3 : (l.take i)[k]'(by omega) = l[k] := by simp
  rw [h3] at h2
  exact h2.symm
theorem mem_take_drop {l : List MarkV} {i k : Nat} {P : MarkV → Prop} (h : ∀ j (hj : j < l.length), k ≤ j → j < i → P l[j]) : ∀ m ∈ (l.take i).drop k, P m := by
  intro m hm
  obtain ⟨j, hj, rfl⟩ := List.mem_iff_getElem.1 hm
  simp at hj
  have := h (k + j) (by omega) (by omega) (by omega)
  simpa using this

set_option maxRecDepth 100000 in
set_option maxHeartbeats 2000000 in
theorem gapBad_any (R : Nat → Prop) (g : GapV) (l : List MarkV) (c : Int) (v : Value) (w : World) (h : SlOf R w v 3 (l.flatMap markCells) l.length) (hR : ∀ b, R b → b < w.heap.size) (hl : l.length ≤ 200) (hok : MarksOk l) :
    Calls Tryd.prog 92 #[.agg #[.int .i64 g.fr, .int .i64 g.dst, .int .i64 g.mn, .int .i64 g.mx], v, .int .i64 c] w fun e w' => e = .returned (.bool (gapBadF g l c l.length)) ∧ Below w.heap.size w w' := by
  obtain ⟨ma, mc, rfl⟩ := h.val
  have H := Lib.hid h; clear h
  go_enter Tryd.func92, Tryd.ntmps92
  go_wp2_with fail
  go_loopw [7] (fun s wr => ∃ i : Nat, i ≤ l.length ∧ s = .int .i64 i ∧ Below w.heap.size w wr ∧ Hid (wr.heap[w.heap.size]? = some (.cells #[.int .i64 g.fr, .int .i64 g.dst, .int .i64 g.mn, .int .i64 g.mx] 104)) ∧ Hid (gapBadF g l c i = false)) (fun s _ => l.length - (intOf s).toNat)
  case atStart => exact ⟨0, Nat.zero_le _, rfl, (Below.refl _ _).alloc (Nat.le_refl _) _, get_alloc_new _ _, rfl⟩
  case round =>
    obtain ⟨i, hi, rfl, hb, hx, hg⟩ := hrel
    by_cases hlt : i < l.length
    · obtain ⟨mb, moff, rfl, hRb, _, hc⟩ := mark_cells H.out (by omega)
      obtain ⟨q0, q1, q2⟩ := hc i hlt
      rw [← hb.cell (p := ⟨mb, moff + i * 3, none⟩) (hR mb hRb)] at q0
      rw [← hb.cell (p := ⟨mb, moff + i * 3 + 1, none⟩) (hR mb hRb)] at q1
      rw [← hb.cell (p := ⟨mb, moff + i * 3 + 2, none⟩) (hR mb hRb)] at q2
      have HC := Lib.hid hc
      clear hc
      obtain ⟨x0, x1, x2, x3⟩ := four_cells hx.out
      have hsu := gapBadF_succ g l c i hlt
      rw [hg.out, Bool.false_or] at hsu
      have HS := Lib.hid hsu
      clear hsu
      go_upto_region 4 with fail
      go_cut [32] (fun s wx => s = .bool (!(decide (l[i].cycle = c) && decide (l[i].point = g.dst))) ∧ ∃ q, wr.drewN q = wx)
      case first =>
        by_cases h1 : l[i].cycle = c
        · have hb1 : (l[i].cycle != c) = false := by simp [h1]
          have H1 := Lib.hid h1; clear h1
          by_cases h2 : l[i].point = g.dst
          · have hb2 : (l[i].point != g.dst) = false := by simp [h2]
            have H2 := Lib.hid h2; clear h2
            go_quiet (fail)
            go_wp2_with fail
            go_meet
            exact ⟨val_bool (by rw [decide_eq_true H1.out, decide_eq_true H2.out]; rfl), _, rfl⟩
          · have hb2 : (l[i].point != g.dst) = true := by simp [h2]
            go_quiet (fail)
            go_wp2_with fail
            go_meet
            exact ⟨val_bool (by rw [decide_eq_true H1.out, decide_eq_false h2]; rfl), _, rfl⟩
        · have hb1 : (l[i].cycle != c) = true := by simp [h1]
          go_quiet (fail)
          go_wp2_with fail
          go_meet
          exact ⟨val_bool (by rw [decide_eq_false h1]; rfl), _, rfl⟩
      case rest =>
      obtain ⟨rfl, q, rfl⟩ := hcut
      clear q0 q1 q2 x0 x1 x2 x3
      replace hb := below_drewN' q hb
      replace hx := Lib.hid (get_drewN q hx.out)
      generalize wr.drewN q = w2 at hb hx ⊢
      cases hq : (decide (l[i].cycle = c) && decide (l[i].point = g.dst))
      · have hmb : markBad g (l.take i) l[i] c = false := by rw [markBad, hq]; rfl
        rw [hmb] at HS
        have HQ := Lib.hid hq
        clear hq hmb
        go_wp2_with fail
        go_roundw
        case rel => exact ⟨i + 1, by omega, by go_num, hb, hx, HS⟩
        case measure => simp [intOf]; omega
      · have hmb : markBad g (l.take i) l[i] c = dBad g (lastTick g.fr (l.take i)) l[i].tick := by rw [markBad, hq]; rfl
        rw [hmb] at HS
        have HQ := Lib.hid hq
        clear hq hmb
        go_wp2_with fail
        obtain ⟨wo, rfl⟩ : ∃ wo : World, wo = w2 := ⟨_, rfl⟩
        go_loopw [8] (fun s wx => ∃ k : Nat, k ≤ i ∧ s = .int .i64 ((k : Int) - 1) ∧ Below w.heap.size w wx ∧ Hid (wx.heap[w.heap.size]? = some (.cells #[.int .i64 g.fr, .int .i64 g.dst, .int .i64 g.mn, .int .i64 g.mx] 104)) ∧ Hid (∀ j (hj : j < l.length), k ≤ j → j < i → l[j].point ≠ g.fr)) (fun s _ => ((intOf s) + 1).toNat)
        case atStart => exact ⟨i, Nat.le_refl _, rfl, hb, hx, fun j hj h1 h2 => by omega⟩
        case round =>
          obtain ⟨k, hk, rfl, hb', hx', hall⟩ := hrel
          obtain ⟨x0, x1, x2, x3⟩ := four_cells hx'.out
          cases k with
          | zero =>
            rw [show (((0 : Nat) : Int) - 1) = -1 from rfl]
            have hd : dBad g (lastTick g.fr (l.take i)) l[i].tick = true := by
              rw [lastTick_none]
              · rfl
              · intro m hm
                obtain ⟨j, hj, rfl⟩ := List.mem_iff_getElem.1 hm
                simp at hj
                have := hall.out j (by omega) (by omega) (by omega)
                simpa using this
            have hF : gapBadF g l c l.length = true := gapBadF_mono _ _ _ _ _ (HS.out.trans hd) (by omega)
            have HF := Lib.hid hF
            clear hd hF
            go_wp2_with fail
            go_quiet (fail)
            go_wp2_with fail
            go_ret
            exact ⟨ret_bool HF.out.symm, below_drewN' _ hb'⟩
          | succ m =>
            rw [show (((m + 1 : Nat) : Int) - 1) = (m : Int) from by omega]
            have hmi : m < l.length := by omega
            obtain ⟨q0, q1, q2⟩ := HC.out m hmi
            obtain ⟨p0, p1, p2⟩ := HC.out i hlt
            rw [← hb'.cell (p := ⟨mb, moff + m * 3, none⟩) (hR mb hRb)] at q0
            rw [← hb'.cell (p := ⟨mb, moff + m * 3 + 1, none⟩) (hR mb hRb)] at q1
            rw [← hb'.cell (p := ⟨mb, moff + i * 3 + 1, none⟩) (hR mb hRb)] at p1
            clear q2 p0 p2
            by_cases hp : l[m].point = g.fr
            · have hpb : (l[m].point != g.fr) = false := by simp [hp]
              have HP := Lib.hid hp
              clear hp
              have hd : dBad g (lastTick g.fr (l.take i)) l[i].tick = (decide (l[i].tick - l[m].tick < g.mn) || decide (g.mx < l[i].tick - l[m].tick)) := by
                rw [take_split (k := m) (by omega) hi, lastTick_hit _ _ _ _ HP.out]
                · rfl
                · exact mem_take_drop (fun j hj h1 h2 => hall.out j hj h1 h2)
              rw [hd] at HS
              have t0 := hok l[m] (List.getElem_mem _)
              have t1 := hok l[i] (List.getElem_mem _)
              clear hd
              go_wp2_with fail
              go_quiet (fail)
              go_wp2_with fail
              go_quiet (fail)
              by_cases c1 : l[i].tick - l[m].tick < g.mn
              · have hF : gapBadF g l c l.length = true := gapBadF_mono _ _ _ _ _ (by rw [HS.out, decide_eq_true c1]; rfl) (show i + 1 ≤ l.length by omega)
                have HF := Lib.hid hF
                clear hF
                go_wp2_with fail
                go_ret
                exact ⟨ret_bool HF.out.symm, below_drewN' _ hb'⟩
              · by_cases c2 : g.mx < l[i].tick - l[m].tick
                · have hF : gapBadF g l c l.length = true := gapBadF_mono _ _ _ _ _ (by rw [HS.out, decide_eq_true c2]; simp) (show i + 1 ≤ l.length by omega)
                  have HF := Lib.hid hF
                  clear hF
                  go_wp2_with fail
                  go_ret
                  exact ⟨ret_bool HF.out.symm, below_drewN' _ hb'⟩
                · rw [decide_eq_false c1, decide_eq_false c2] at HS
                  go_wp2_with fail
                  go_roundw
                  case rel => exact ⟨i + 1, by omega, by go_num, below_drewN' _ hb', hx', HS⟩
                  case measure => simp [intOf]; omega
            · have hpb : (l[m].point != g.fr) = true := by simp [hp]
              go_wp2_with fail
              go_quiet (fail)
              go_wp2_with fail
              go_roundw
              case rel =>
                refine ⟨m, by omega, by go_num, below_drewN' _ hb', hx', ?_⟩
                intro j hj h1 h2
                by_cases hjm : j = m
                · subst hjm; exact hp
                · exact hall.out j hj (by omega) h2
              case measure => simp [intOf]
    · have hii : i = l.length := by omega
      subst hii
      go_wp2_with fail
      go_ret
      exact ⟨ret_bool hg.out.symm, hb⟩
end Go.Proofs.YtkhcepdeppmofaaDoor
