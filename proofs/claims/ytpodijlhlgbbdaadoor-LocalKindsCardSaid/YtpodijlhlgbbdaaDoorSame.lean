/- The document's SameInts. -/
import Derived.Test.YtpodijlhlgbbdaaDoorFlow0
import Derived.Deep.QuietTactic
import Derived.BigQuiet
namespace Go.Proofs.YtpodijlhlgbbdaaDoor
open Go.RowKit
set_option linter.unusedVariables false

theorem drewN_drewN (w : World) (a b : Nat) : ∃ c, (w.drewN a).drewN b = w.drewN c := ⟨a + b, World.drewN_drewN w a b⟩

set_option maxHeartbeats 1000000 in
theorem sameInts_any (R : Nat → Prop) (la lb : List Int) (va vb : Value) (w : World) (ha : SlOf R w va 1 (intCells la) la.length) (hb : SlOf R w vb 1 (intCells lb) lb.length) (hn : la.length ≤ 100000) (hn2 : lb.length ≤ 100000) :
    Calls Tryd.prog 29 #[va, vb] w fun e w' => e = .returned (.bool (decide (la = lb))) ∧ ∃ q, w' = w.drewN q := by
  obtain ⟨ao, cap, rfl⟩ := ha.val
  obtain ⟨bo, cap2, rfl⟩ := hb.val
  have HA := Lib.hid ha
  have HB := Lib.hid hb
  clear ha hb
  by_cases hl : la.length = lb.length
  · have hl2 : ((la.length : Int) == (lb.length : Int)) = true := by simp [hl]
    have HL := Lib.hid hl
    clear hl
    go_enter Tryd.func29, Tryd.ntmps29
    go_wp2_with fail
    go_loopw [5] (fun s wr => ∃ i q : Nat, i ≤ la.length ∧ s = .int .i64 i ∧ Hid (∀ j, j < i → la[j]? = lb[j]?) ∧ wr = w.drewN q) (fun s _ => la.length - (intOf s).toNat)
    case atStart => exact ⟨0, 0, Nat.zero_le _, rfl, fun j hj => by omega, rfl⟩
    case round =>
      obtain ⟨i, q, hi, rfl, hall, rfl⟩ := hrel
      by_cases hlt : i < la.length
      · have hlt2 : i < lb.length := by have := HL.out; omega
        obtain ⟨b1, o1, rfl, _, hb1, hc1⟩ := int_cells HA.out (by omega)
        obtain ⟨b2, o2, rfl, _, hb2, hc2⟩ := int_cells HB.out (by omega)
        have q1 := hc1 i hlt
        have q2 := hc2 i hlt2
        clear hc1 hc2
        have hi2 : (i : Int) < (lb.length : Int) := by omega
        by_cases he : la[i] = lb[i]
        · have heb : (la[i] == lb[i]) = true := by simp [he]
          have heb2 : (la[i] != lb[i]) = false := by simp [he]
          have HE := Lib.hid he
          clear he
          go_wp2_with fail
          go_quiet (fail)
          go_wp2_with fail
          go_roundw
          case rel => exact ⟨i + 1, _, by omega, by go_num, (show ∀ j, j < i + 1 → la[j]? = lb[j]? from fun j hj => by
            by_cases hji : j = i
            · subst hji; rw [List.getElem?_eq_getElem hlt, List.getElem?_eq_getElem hlt2, HE.out]
            · exact hall.out j (by omega)), rfl⟩
          case measure => simp [intOf]; omega
        · have heb : (la[i] == lb[i]) = false := by simp [he]
          have heb2 : (la[i] != lb[i]) = true := by simp [he]
          have HE := Lib.hid he
          clear he
          go_wp2_with fail
          go_quiet (fail)
          go_wp2_with fail
          go_ret
          refine ⟨ret_bool (decide_eq_false (fun e => HE.out ?_)).symm, drewN_drewN _ _ _⟩
          subst e; rfl
      · go_wp2_with fail
        go_ret
        refine ⟨ret_bool (decide_eq_true ?_).symm, _, rfl⟩
        apply List.ext_getElem?
        intro j
        by_cases hj : j < la.length
        · exact hall.out j (by omega)
        · rw [List.getElem?_eq_none (by omega), List.getElem?_eq_none (by have := HL.out; omega)]
  · have hl2 : ((la.length : Int) == (lb.length : Int)) = false := by simp; omega
    have HL := Lib.hid hl
    clear hl
    go_enter Tryd.func29, Tryd.ntmps29
    go_wp2_with fail
    go_ret
    exact ⟨ret_bool (decide_eq_false (fun e => HL.out (by rw [e]))).symm, 0, rfl⟩
end Go.Proofs.YtpodijlhlgbbdaaDoor
