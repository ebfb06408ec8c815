/- HeavyEntity: 1 if an entity is too much for a statement, else 0. -/
import Derived.Test.YtkhcepdeppmofaaDoorEnt
namespace Go.Proofs.YtkhcepdeppmofaaDoor
open Go.RowKit
set_option linter.unusedVariables false

def HTop (E : EntV) : Prop := 60 < E.name.size ∨ 30 < E.points.length ∨ 30 < E.gaps.length ∨ 80 < E.edges.length ∨ 30 < E.first.length ∨ 30 < E.last.length
instance (E : EntV) : Decidable (HTop E) := by unfold HTop; infer_instance
def hTopB (E : EntV) : Bool := decide (HTop E)
theorem hTopB_pos {E : EntV} (h : HTop E) : hTopB E = true := decide_eq_true h
theorem hTopB_neg {E : EntV} (h : ¬ HTop E) : hTopB E = false := decide_eq_false h
def Heavy (E : EntV) : Prop := HTop E ∨ ∃ s ∈ E.points, 60 < s.size
instance (E : EntV) : Decidable (Heavy E) := by unfold Heavy; infer_instance
def heavyN (E : EntV) : Int := if Heavy E then 1 else 0
theorem heavyN_pos {E : EntV} (h : Heavy E) : heavyN E = 1 := if_pos h
theorem heavyN_neg {E : EntV} (h : ¬ Heavy E) : heavyN E = 0 := if_neg h
theorem light_of {E : EntV} (h : ¬ Heavy E) : Light E := by
  unfold Heavy HTop at h
  refine ⟨?_, ?_, ?_, ?_, ?_⟩ <;> (apply Nat.le_of_not_lt; intro hh; apply h; omega)

set_option maxHeartbeats 1000000 in
theorem heavyEntity_any (R : Nat → Prop) (E : EntV) (vp vg ve vf vl : Value) (w : World) (h : EntSl R w E vp vg ve vf vl) (hR : ∀ b, R b → b < w.heap.size) :
    Calls Tryd.prog 11 #[.agg (entCs E vp vg ve vf vl)] w fun e w' => e = .returned (.int .i64 (heavyN E)) ∧ Below w.heap.size w w' := by
  obtain ⟨hpl, pa, pc, rfl, hp1, hp2, hp3, hp4⟩ := h.p
  obtain ⟨ga, gc, rfl⟩ := h.g.val
  obtain ⟨ea, ec, rfl⟩ := h.e.val
  obtain ⟨fa, fc, rfl⟩ := h.f.val
  obtain ⟨la, lc, rfl⟩ := h.l.val
  have hn0 : E.points.length ≤ 9223372036854775807 := by unfold maxLen at hp2; omega
  clear h hp1 hp2 hpl
  unfold entCs
  go_enter Tryd.func11, Tryd.ntmps11
  go_upto_region 1 with fail
  go_cut [37] (fun c wx => c = .bool (hTopB E) ∧ wx.cell? ⟨w.heap.size, 2, none⟩ = some (.slice pa E.points.length pc) ∧ Below w.heap.size w wx)
  case first =>
    have C2 : (w.alloc (.cells #[.string E.name, .int .i64 E.tol, .slice pa E.points.length pc, .int .i64 E.count, .int .i64 E.mn, .int .i64 E.mx, .slice ga E.gaps.length gc, .slice ea E.edges.length ec, .slice fa E.first.length fc, .slice la E.last.length lc] 27)).cell? ⟨w.heap.size, 2, none⟩ = some (.slice pa E.points.length pc) ∧ Below w.heap.size w (w.alloc (.cells #[.string E.name, .int .i64 E.tol, .slice pa E.points.length pc, .int .i64 E.count, .int .i64 E.mn, .int .i64 E.mx, .slice ga E.gaps.length gc, .slice ea E.edges.length ec, .slice fa E.first.length fc, .slice la E.last.length lc] 27)) :=
      ⟨(ten_cells (get_alloc_new w _)).2.2.1, (Below.refl _ _).alloc (Nat.le_refl _) _⟩
    have HC := Lib.hid C2; clear C2
    by_cases h1 : (60 : Int) < (E.name.size : Int)
    · go_wp2_with fail
      go_meet
      exact ⟨val_bool (hTopB_pos (show HTop E by unfold HTop; omega)).symm, HC.out⟩
    by_cases h2 : (30 : Int) < (E.points.length : Int)
    · go_wp2_with fail
      go_meet
      exact ⟨val_bool (hTopB_pos (show HTop E by unfold HTop; omega)).symm, HC.out⟩
    by_cases h3 : (30 : Int) < (E.gaps.length : Int)
    · go_wp2_with fail
      go_meet
      exact ⟨val_bool (hTopB_pos (show HTop E by unfold HTop; omega)).symm, HC.out⟩
    by_cases h4 : (80 : Int) < (E.edges.length : Int)
    · go_wp2_with fail
      go_meet
      exact ⟨val_bool (hTopB_pos (show HTop E by unfold HTop; omega)).symm, HC.out⟩
    by_cases h5 : (30 : Int) < (E.first.length : Int)
    · go_wp2_with fail
      go_meet
      exact ⟨val_bool (hTopB_pos (show HTop E by unfold HTop; omega)).symm, HC.out⟩
    by_cases h6 : (30 : Int) < (E.last.length : Int)
    · go_wp2_with fail
      go_meet
      exact ⟨val_bool (hTopB_pos (show HTop E by unfold HTop; omega)).symm, HC.out⟩
    go_wp2_with fail
    go_meet
    exact ⟨val_bool (hTopB_neg (show ¬ HTop E by unfold HTop; omega)).symm, HC.out⟩
  case rest =>
  obtain ⟨rfl, c2, hb⟩ := hcut
  by_cases ht : HTop E
  · rw [hTopB_pos ht]
    go_wp2_with fail
    go_ret
    exact ⟨ret_int (heavyN_pos (.inl ht)).symm, hb⟩
  rw [hTopB_neg ht]
  have hH : Hid (Heavy E ↔ ∃ s ∈ E.points, 60 < s.size) := by show Heavy E ↔ _; simp [Heavy, ht]
  clear ht
  go_wp2_with fail
  go_loop [3] (fun i => ∃ k : Nat, k ≤ E.points.length ∧ i = .int .i64 k ∧ Hid (∀ j (hj : j < k) (hj' : j < E.points.length), ¬ 60 < E.points[j].size)) (fun i => E.points.length - (intOf i).toNat)
  case atStart => exact ⟨0, Nat.zero_le _, rfl, fun j hj => by omega⟩
  case round =>
    obtain ⟨k, hk, rfl, hall⟩ := hrel
    by_cases hlt : k < E.points.length
    · obtain ⟨b, off, rfl, hRb, hbs, hc⟩ := hp4 (by simp [strCells1]; omega)
      have ck : wc.cell? ⟨b, off + k, none⟩ = some (.string E.points[k]) := by
        rw [hb.cell (p := ⟨b, off + k, none⟩) (hR b hRb)]
        exact hc k _ (by simp [strCells1, hlt])
      clear hc hp4 hp3
      by_cases hs : (60 : Int) < (E.points[k].size : Int)
      · go_wp2_with fail
        go_ret
        exact ⟨ret_int (heavyN_pos (hH.out.2 ⟨E.points[k], List.getElem_mem _, by omega⟩)).symm, hb⟩
      · go_wp2_with fail
        go_round
        case rel =>
          refine ⟨k + 1, by omega, by go_num, ?_⟩
          intro j hj hj'
          by_cases hjk : j = k
          · subst hjk; omega
          · exact hall.out j (by omega) hj'
        case measure => simp [intOf]; omega
    · go_wp2_with fail
      go_ret
      refine ⟨ret_int (heavyN_neg ?_).symm, hb⟩
      intro hh
      obtain ⟨s, hs, h60⟩ := hH.out.1 hh
      obtain ⟨j, hj, rfl⟩ := List.mem_iff_getElem.1 hs
      exact hall.out j (by omega) hj h60

/-! ### As a law meets them: the entity in its box, at a law's beginning -/
theorem box_below {w w1 : World} {o : Obj} (b1 : Below (w.alloc o).heap.size (w.alloc o) w1) : Below w.heap.size w w1 ∧ w1.heap[w.heap.size]? = some o :=
  ⟨((Below.refl _ _).alloc (Nat.le_refl _) _).trans (b1.mono (by simp)), below_get b1 (get_alloc_new w o) (by simp)⟩

theorem heavyEntity_x (E : EntV) {pn gn en fn ln : Nat} (pa : Option Addr) (pc : Nat) (ga : Option Addr) (gc : Nat) (ea : Option Addr) (ec : Nat) (fa : Option Addr) (fc : Nat) (la : Option Addr) (lc : Nat) (w0 w : World)
    (h : EntSl (· < w0.heap.size) w0 E (.slice pa pn pc) (.slice ga gn gc) (.slice ea en ec) (.slice fa fn fc) (.slice la ln lc)) (hb : Below w0.heap.size w0 w) :
    Calls Tryd.prog 11 #[.agg #[.string E.name, .int .i64 E.tol, .slice pa pn pc, .int .i64 E.count, .int .i64 E.mn, .int .i64 E.mx, .slice ga gn gc, .slice ea en ec, .slice fa fn fc, .slice la ln lc]] w fun e w' => e = .returned (.int .i64 (heavyN E)) ∧ Below w.heap.size w w' :=
  heavyEntity_any (· < w0.heap.size) E _ _ _ _ _ w (h.keep (Keep.of_below hb) (fun b hb => by omega)) (fun b h => Nat.lt_of_lt_of_le h hb.size)

theorem ownEntity_x (E : EntV) {pn gn en fn ln : Nat} (pa : Option Addr) (pc : Nat) (ga : Option Addr) (gc : Nat) (ea : Option Addr) (ec : Nat) (fa : Option Addr) (fc : Nat) (la : Option Addr) (lc : Nat) (w0 w : World)
    (h : EntSl (· < w0.heap.size) w0 E (.slice pa pn pc) (.slice ga gn gc) (.slice ea en ec) (.slice fa fn fc) (.slice la ln lc)) (hb : Below w0.heap.size w0 w) (hH : ¬ Heavy E) :
    Calls Tryd.prog 14 #[.agg #[.string E.name, .int .i64 E.tol, .slice pa pn pc, .int .i64 E.count, .int .i64 E.mn, .int .i64 E.mx, .slice ga gn gc, .slice ea en ec, .slice fa fn fc, .slice la ln lc]] w fun e w' =>
      ∃ pa pc ga gc ea ec fa fc la lc, e = .returned (.agg #[.string E.name, .int .i64 E.tol, .slice pa E.points.length pc, .int .i64 E.count, .int .i64 E.mn, .int .i64 E.mx, .slice ga E.gaps.length gc, .slice ea E.edges.length ec, .slice fa E.first.length fc, .slice la E.last.length lc]) ∧
        EntSl (fun b => w.heap.size ≤ b) w' E (.slice pa E.points.length pc) (.slice ga E.gaps.length gc) (.slice ea E.edges.length ec) (.slice fa E.first.length fc) (.slice la E.last.length lc) ∧ Below w.heap.size w w' := by
  refine (ownEntity_any (· < w0.heap.size) E _ _ _ _ _ w (h.keep (Keep.of_below hb) (fun b hb => by omega)) (fun b h => Nat.lt_of_lt_of_le h hb.size) (light_of hH)).mono ?_
  rintro e w' ⟨v, rfl, ⟨vp, vg, ve, vf, vl, rfl, hs⟩, hbb⟩
  obtain ⟨pa, pc, rfl⟩ := hs.p.val
  obtain ⟨ga, gc, rfl⟩ := hs.g.val
  obtain ⟨ea, ec, rfl⟩ := hs.e.val
  obtain ⟨fa, fc, rfl⟩ := hs.f.val
  obtain ⟨la, lc, rfl⟩ := hs.l.val
  exact ⟨_, _, _, _, _, _, _, _, _, _, rfl, hs, hbb⟩
end Go.Proofs.YtkhcepdeppmofaaDoor
