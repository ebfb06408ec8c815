/- The document's Has. -/
import Derived.Test.YtkhcepdeppmofaaDoorFlow0
namespace Go.Proofs.YtkhcepdeppmofaaDoor
open Go.RowKit
set_option linter.unusedVariables false

set_option maxHeartbeats 400000 in
theorem hasInts_any (R : Nat → Prop) (l : List Int) (v : Value) (x : Int) (w : World) (h : SlOf R w v 1 (intCells l) l.length) :
    Calls Tryd.prog 84 #[v, .int .i64 x] w fun e w' => e = .returned (.bool (decide (x ∈ l))) ∧ w = w' := by
  obtain ⟨hl, ao, cap, rfl, h1, h2, h3, h4⟩ := h
  have hsl : SlOf R w (.slice ao l.length cap) 1 (intCells l) l.length := ⟨hl, _, _, rfl, h1, h2, h3, h4⟩
  have hn : l.length ≤ 9223372036854775807 := by unfold maxLen at h2; omega
  have H := Lib.hid hsl
  clear hl h1 h2 h3 h4 hsl
  go_enter Tryd.func84, Tryd.ntmps84
  go_wp2_with fail
  go_loop [5] (fun s => ∃ k : Nat, k ≤ l.length ∧ s = .int .i64 k ∧ Hid (∀ j (hj : j < l.length), j < k → l[j] ≠ x)) (fun s => l.length - (intOf s).toNat)
  case atStart => exact ⟨0, Nat.zero_le _, rfl, fun j hj h => by omega⟩
  case round =>
    obtain ⟨k, hk, rfl, hall⟩ := hrel
    by_cases hlt : k < l.length
    · obtain ⟨b, off, rfl, hRb, _, hc⟩ := int_cells H.out (by omega)
      have q := hc k hlt
      clear hc
      by_cases hx : l[k] = x
      · have hxb : (l[k] == x) = true := beq_iff_eq.2 hx
        have HI := Lib.hid (show x ∈ l from hx ▸ List.getElem_mem hlt)
        clear hx
        go_wp2_with fail
        go_ret
        exact ⟨ret_bool (decide_eq_true HI.out).symm, rfl⟩
      · have hxb : (l[k] == x) = false := by simp [hx]
        go_wp2_with fail
        go_round
        case rel =>
          refine ⟨k + 1, by omega, by go_num, fun j hj h => ?_⟩
          by_cases hjk : j = k
          · subst hjk; exact hx
          · exact hall.out j hj (by omega)
        case measure => simp [intOf]; omega
    · have HI := Lib.hid (show x ∉ l from fun h => by
        obtain ⟨j, hj, e⟩ := List.mem_iff_getElem.1 h
        exact hall.out j hj (by omega) e)
      go_wp2_with fail
      go_ret
      exact ⟨ret_bool (decide_eq_false HI.out).symm, rfl⟩
end Go.Proofs.YtkhcepdeppmofaaDoor
