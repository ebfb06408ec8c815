/- AliveMany: beyond MaxCount a count stays. -/
import Derived.Test.YtpodijlhlgbbdaaAlive
namespace Go.Proofs.Ytpodijlhlgbbdaa
open Go.RowKit
set_option linter.unusedVariables false

set_option maxHeartbeats 400000 in
theorem counts_any (w : World) : Calls Try.prog 8 #[] w fun e w' => e = .returned (.bool true) ∧ Below w.heap.size w w' := by
  go_enter Try.func8, Try.ntmps8
  go_wp2_with fail
  refine (aliveNew_any _ _ _ _ _ _ _ _ _ _ _ _ _).mono ?_
  rintro e w1 ⟨b, rfl, hb, hh, hbel⟩
  have HH := Lib.hid hh; clear hh
  go_wp2_with fail
  refine (aliveReport_any b _ _ _ _ _ _ HH.out (by decide) (by decide)).mono ?_
  rintro e w2 ⟨rfl, hh2, k2⟩
  have HH2 := Lib.hid hh2; clear hh2
  go_wp2_with fail
  refine (aliveCount_any b _ _ _ _ _ HH2.out).mono ?_
  rintro e w' ⟨rfl, rfl⟩
  rw [show aliveStep (alivePt 0 1) 0 0 = 1 from by decide] at HH2
  rw [show aliveStep (alivePt 0 1) 0 0 = 1 from by decide]
  go_wp2_with fail
  refine (aliveEnd_any b _ _ _ _ _ _ HH2.out).mono ?_
  rintro e w3 ⟨rfl, hh3, k3⟩
  have HH3 := Lib.hid hh3; clear hh3
  rw [show aliveOk (alivePt 0 1) 2 2 1 true = false from by decide]
  go_wp2_with fail
  refine (aliveReport_any b _ _ _ _ _ _ HH3.out (by decide) (by decide)).mono ?_
  rintro e w4 ⟨rfl, hh4, k4⟩
  have HH4 := Lib.hid hh4; clear hh4
  go_wp2_with fail
  refine (aliveReport_any b _ _ _ _ _ _ HH4.out (by decide) (by decide)).mono ?_
  rintro e w5 ⟨rfl, hh5, k5⟩
  have HH5 := Lib.hid hh5; clear hh5
  go_wp2_with fail
  refine (aliveEnd_any b _ _ _ _ _ _ HH5.out).mono ?_
  rintro e w6 ⟨rfl, hh6, k6⟩
  clear hh6
  rw [show aliveOk (alivePt 0 1) 2 2 (aliveStep (alivePt 0 1) (aliveStep (alivePt 0 1) 0 0) 0) true = true from by decide]
  go_wp2_with fail
  go_ret
  refine ⟨rfl, ?_⟩
  have h0 : Below w.heap.size w w1 := ((Below.refl _ _).alloc (Nat.le_refl _) _).trans (hbel.mono (by simp))
  exact h0.trans ((((k2.trans k3).trans (k4.trans k5)).trans k6).below h0.size (by intro k hk; subst hk; simp at hb; omega))

/-- The count behind so many reports. -/
def manyC (k : Nat) : Int := min 1000 (k : Int)

set_option maxHeartbeats 400000 in
theorem aliveMany_out (a0 a1 : Int) (w : World) (h : a0 < 0 ∨ 1000 ≤ a0 ∨ a1 < 0 ∨ 300 < a1) :
    Calls Try.prog 3 #[.int .i64 a0, .int .i64 a1] w fun e w' => e = .returned (.bool true) ∧ Below w.heap.size w w' := by
  go_enter Try.func3, Try.ntmps3
  go_wp2_with fail
  refine (counts_any _).mono ?_
  rintro e w1 ⟨rfl, hb⟩
  by_cases h1 : a0 < 0
  · go_wp2_with fail
    go_ret
    exact ⟨rfl, hb⟩
  by_cases h2 : 1000 ≤ a0
  · go_wp2_with fail
    go_ret
    exact ⟨rfl, hb⟩
  by_cases h3 : a1 < 0
  · go_wp2_with fail
    go_ret
    exact ⟨rfl, hb⟩
  have h4 : 300 < a1 := by omega
  go_wp2_with fail
  go_ret
  exact ⟨rfl, hb⟩

set_option maxHeartbeats 400000 in
theorem aliveMany_in (a0 a1 : Int) (w : World) (h1 : 0 ≤ a0) (h2 : a0 < 1000) (h3 : 0 ≤ a1) (h4 : a1 ≤ 300) :
    Calls Try.prog 3 #[.int .i64 a0, .int .i64 a1] w fun e w' => e = .returned (.bool true) ∧ Below w.heap.size w w' := by
  go_enter Try.func3, Try.ntmps3
  go_wp2_with fail
  refine (counts_any _).mono ?_
  rintro e w1 ⟨rfl, hb⟩
  go_wp2_with fail
  refine (aliveNew_any _ _ _ _ _ _ _ _ _ _ _ _ _).mono ?_
  rintro e w2 ⟨b, rfl, hbb, hh, hbel⟩
  rw [show alivePt 0 1 = 0 from by decide] at hh
  have HH := Lib.hid hh; clear hh
  have hbel2 : Below w.heap.size w w2 := hb.trans (((Below.refl _ _).alloc hb.size _).trans (hbel.mono (by simp; have := hb.size; omega)))
  have hwb : w.heap.size ≤ b := by simp at hbb; have := hb.size; omega
  clear hbel hb hbb
  go_wp2_with fail
  go_loopw [7] (fun i wr => ∃ k : Nat, (k : Int) ≤ 1000 + a1 ∧ i = .int .i64 k ∧ Below w.heap.size w wr ∧ Hid (wr.heap[b]? = some (aliveC 0 0 a0 (manyC k)))) (fun i _ => (1000 + a1 - intOf i).toNat)
  case atStart => exact ⟨0, by omega, rfl, hbel2, HH⟩
  case round =>
    obtain ⟨k, hk, rfl, hbr, hr⟩ := hrel
    by_cases hlt : (k : Int) < 1000 + a1
    · go_wp2_with fail
      refine (aliveReport_any b _ _ _ _ _ _ hr.out (by unfold manyC; omega) (by unfold manyC; omega)).mono ?_
      rintro e w3 ⟨rfl, hh3, k3⟩
      have e3 : aliveStep 0 (manyC k) 0 = manyC (k + 1) := by simp [aliveStep, manyC]; omega
      rw [e3] at hh3
      have HH3 := Lib.hid hh3; clear hh3 e3
      go_wp2_with fail
      go_roundw
      case rel => exact ⟨k + 1, by omega, by go_num, hbr.trans (k3.below hbr.size (by intro j hj; omega)), HH3⟩
      case measure => simp [intOf]; omega
    · go_wp2_with fail
      have hkk : manyC k = 1000 := by unfold manyC; omega
      rw [hkk] at hr
      refine (aliveCount_any b _ _ _ _ _ hr.out).mono ?_
      rintro e w' ⟨rfl, rfl⟩
      go_wp2_with fail
      refine (aliveEnd_any b _ _ _ _ _ _ hr.out).mono ?_
      rintro e w3 ⟨rfl, hh3, k3⟩
      have HH3 := Lib.hid hh3; clear hh3
      rw [show aliveOk 0 0 a0 1000 true = false from by simp [aliveOk]; omega]
      go_wp2_with fail
      refine (aliveEnd_any b _ _ _ _ _ _ HH3.out).mono ?_
      rintro e w4 ⟨rfl, hh4, k4⟩
      clear hh4
      rw [show aliveOk 0 0 a0 0 true = true from by simp [aliveOk]; omega]
      go_wp2_with fail
      go_ret
      exact ⟨rfl, hbr.trans ((k3.trans k4).below hbr.size (by intro j hj; omega))⟩
end Go.Proofs.Ytpodijlhlgbbdaa
