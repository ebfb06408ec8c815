/- laterFit: few reports, not too far from each other. -/
import Derived.Test.YtpodijlhlgbbdaaReps
namespace Go.Proofs.Ytpodijlhlgbbdaa
open Go.RowKit
set_option linter.unusedVariables false

def Fit1 (r : RepV) : Prop := 0 ≤ r.later ∧ r.later ≤ 1073741824
def FitP (l : List RepV) : Prop := (∀ r ∈ l, Fit1 r) ∧ l.length ≤ 100
def fitB (l : List RepV) : Bool := l.all (fun r => decide (0 ≤ r.later) && decide (r.later ≤ 1073741824)) && decide (l.length ≤ 100)
theorem fitB_iff {l : List RepV} : fitB l = true ↔ FitP l := by simp [fitB, FitP, Fit1]
theorem fitB_pos {l : List RepV} (h : FitP l) : fitB l = true := fitB_iff.2 h
theorem fitB_neg {l : List RepV} (h : ¬ FitP l) : fitB l = false := by
  cases hb : fitB l
  · rfl
  · exact absurd (fitB_iff.1 hb) h

set_option maxHeartbeats 1000000 in
theorem laterFit_any (R : Nat → Prop) (l : List RepV) (v : Value) (w : World) (h : SlOf R w v 3 (l.flatMap repCells) l.length) :
    Calls Try.prog 19 #[v] w fun e w' => e = .returned (.bool (fitB l)) ∧ w = w' := by
  obtain ⟨hl, ra, rc, rfl, h1, h2, h3, h4⟩ := h
  have hsl : SlOf R w (.slice ra l.length rc) 3 (l.flatMap repCells) l.length := ⟨hl, _, _, rfl, h1, h2, h3, h4⟩
  have hn : l.length ≤ 9223372036854775807 := by unfold maxLen at h2; omega
  have H := Lib.hid hsl
  clear hl h1 h2 h3 h4 hsl
  go_enter Try.func19, Try.ntmps19
  go_wp2_with fail
  go_loop [3] (fun s => ∃ k : Nat, k ≤ l.length ∧ s = .int .i64 k ∧ Hid (∀ j (hj : j < l.length), j < k → Fit1 l[j])) (fun s => l.length - (intOf s).toNat)
  case atStart => exact ⟨0, Nat.zero_le _, rfl, fun j hj h => by omega⟩
  case round =>
    obtain ⟨k, hk, rfl, hall⟩ := hrel
    by_cases hlt : k < l.length
    · obtain ⟨b, off, rfl, hRb, _, hc⟩ := rep_cells H.out (by omega)
      obtain ⟨q0, q1, q2⟩ := hc k hlt
      clear hc q0 q2
      by_cases c1 : l[k].later < 0
      · have hF := fitB_neg (l := l) (fun hf => by have := (hf.1 l[k] (List.getElem_mem _)).1; omega)
        have HF := Lib.hid hF
        clear hF
        go_wp2_with fail
        go_ret
        exact ⟨ret_bool HF.out.symm, rfl⟩
      · by_cases c2 : 1073741824 < l[k].later
        · have hF := fitB_neg (l := l) (fun hf => by have := (hf.1 l[k] (List.getElem_mem _)).2; omega)
          have HF := Lib.hid hF
          clear hF
          go_wp2_with fail
          go_ret
          exact ⟨ret_bool HF.out.symm, rfl⟩
        · go_wp2_with fail
          go_round
          case rel =>
            refine ⟨k + 1, by omega, by go_num, ?_⟩
            intro j hj hjk
            by_cases hjj : j = k
            · subst hjj; exact ⟨by omega, by omega⟩
            · exact hall.out j hj (by omega)
          case measure => simp [intOf]; omega
    · by_cases c1 : l.length ≤ 100
      · have hF := fitB_pos (l := l) ⟨fun r hr => by obtain ⟨j, hj, rfl⟩ := List.mem_iff_getElem.1 hr; exact hall.out j hj (by omega), c1⟩
        have HF := Lib.hid hF
        clear hF
        go_wp2_with fail
        go_ret
        exact ⟨ret_bool (by rw [HF.out]; exact decide_eq_true (by omega)), rfl⟩
      · have hF := fitB_neg (l := l) (fun hf => c1 hf.2)
        have HF := Lib.hid hF
        clear hF
        go_wp2_with fail
        go_ret
        exact ⟨ret_bool (by rw [HF.out]; exact decide_eq_false (by omega)), rfl⟩
end Go.Proofs.Ytpodijlhlgbbdaa
