/- DogEarly: who kicks in the closed part is reset; started anew it waits as long as at first. -/
import Derived.Test.YtpodijlhlgbbdabDoorDog2
namespace Go.Proofs.YtpodijlhlgbbdabDoor
open Go.RowKit
set_option linter.unusedVariables false

set_option maxRecDepth 100000 in
set_option maxHeartbeats 4000000 in
theorem dogEarly_any (B : Nat) (sa : Nat → Addr) (c o early : Int) (w : World) (hS : Sents B sa w) :
    Calls Tryd.prog 4 #[.int .i64 c, .int .i64 o, .int .i64 early] w fun e w' => e = .returned (.bool true) ∧ Below w.heap.size w w' := by
  have HS := Lib.hid hS
  have hB := hS.top
  clear hS
  go_enter Tryd.func4, Tryd.ntmps4
  go_wp2_with fail
  refine (barks_any B sa w HS.out).mono ?_
  rintro e w1 ⟨rfl, b1⟩
  by_cases h1 : c < 0
  · go_wp2_with fail
    go_ret
    exact ⟨rfl, b1⟩
  by_cases h2 : 60 < c
  · go_wp2_with fail
    go_ret
    exact ⟨rfl, b1⟩
  by_cases h3 : o < 1
  · go_wp2_with fail
    go_ret
    exact ⟨rfl, b1⟩
  by_cases h4 : 60 < o
  · go_wp2_with fail
    go_ret
    exact ⟨rfl, b1⟩
  by_cases h5 : early < 0
  · go_wp2_with fail
    go_ret
    exact ⟨rfl, b1⟩
  by_cases h6 : c < early
  · go_wp2_with fail
    go_ret
    exact ⟨rfl, b1⟩
  go_wp2_with fail
  refine (dk_new c o w w1 (HS.out.below b1) b1 hB (by omega) (by omega) (by omega) (by omega)).mono ?_
  rintro e w2 ⟨d, rfl, hd2⟩
  have D2 := Lib.hid hd2
  clear hd2
  go_wp2_with fail
  go_loopw [10] (fun s wr => ∃ (r : Nat) (last : Int), r ≤ 2 ∧ s = .int .i64 r ∧ 0 ≤ last ∧ last ≤ (r : Int) * 1000 ∧ Hid (DK B sa w d (dm c o last 0 0) wr)) (fun s _ => 2 - (intOf s).toNat)
  case atStart => exact ⟨0, 0, by decide, rfl, by decide, by decide, D2⟩
  case round =>
    obtain ⟨r, last, hr, rfl, hl0, hl1, hD⟩ := hrel
    clear D2
    by_cases hlt : (r : Int) < 2
    · go_wp2_with fail
      go_loopw [11] (fun s wx => ∃ k : Nat, (k : Int) ≤ early ∧ s = .int .i64 k ∧ Hid (DK B sa w d (dm c o last k 0) wx)) (fun s _ => (early - intOf s).toNat)
      case atStart => exact ⟨0, by omega, rfl, hD⟩
      case round =>
        obtain ⟨k, hk, rfl, hK⟩ := hrel
        clear hD
        have ok : DmOk c o last k 0 := ⟨by omega, by omega, by omega, by omega, hl0, by omega, by omega, by omega, by omega, by omega⟩
        have OK := Lib.hid ok
        clear ok
        by_cases hkn : (k : Int) < early
        · go_wp2_with fail
          refine (dk_tick hK.out OK.out (by omega)).mono ?_
          rintro e w4 ⟨rfl, q4⟩
          have D4 := Lib.hid q4
          clear q4 hK
          go_wp2_with fail
          go_roundw
          case rel => exact ⟨k + 1, by omega, by go_num, D4⟩
          case measure => simp [intOf]; omega
        · have hck : (k : Int) ≤ c := by omega
          go_wp2_with fail
          refine (dk_open hK.out OK.out).mono ?_
          rintro e w3 ⟨rfl, q3⟩
          have D3 := Lib.hid q3
          clear q3 hK
          rw [decide_eq_false (show ¬ c < (k : Int) by omega)]
          go_wp2_with fail
          refine (dk_kick_early D3.out OK.out hck).mono ?_
          rintro e w4 ⟨rfl, q4⟩
          have D4 := Lib.hid q4
          clear q4 D3
          go_wp2_with fail
          refine (dk_coded D4.out 11 (by decide) 11).mono ?_
          rintro e w5 ⟨rfl, q5⟩
          have D5 := Lib.hid q5
          clear q5 D4
          rw [show decide (((11 : Nat) : Int) = 11) = true from by decide]
          go_wp2_with fail
          refine (dogReset_any d _ w5 D5.out.mem).mono ?_
          rintro e w' ⟨rfl, rfl⟩
          go_wp2_with fail
          refine (dogKicks_any d _ w5 D5.out.mem).mono ?_
          rintro e w' ⟨rfl, rfl⟩
          go_wp2_with fail
          refine (dogStart_any d _ w5 D5.out.mem).mono ?_
          rintro e w6 ⟨rfl, q6, k6⟩
          have e6 : dogStart ⟨c, o, last + k, last, true, 0⟩ = dm c o (last + k) 0 0 := by
            show (⟨c, o, last + k, last + k, false, 0⟩ : DogM) = ⟨c, o, last + k + 0, last + k, false, 0⟩
            rw [Int.add_zero]
          rw [e6] at q6
          have D6 := Lib.hid (D5.out.step k6 q6)
          clear q6 k6 D5 e6
          go_wp2_with fail
          go_roundw
          case rel => exact ⟨r + 1, last + k, by omega, by go_num, by omega, by omega, D6⟩
          case measure => simp [intOf]; omega
    · go_wp2_with fail
      go_loopw [12] (fun s wx => ∃ k : Nat, (k : Int) ≤ c + 1 ∧ s = .int .i64 k ∧ Hid (DK B sa w d (dm c o last k 0) wx)) (fun s _ => (c + 1 - intOf s).toNat)
      case atStart => exact ⟨0, by omega, rfl, hD⟩
      case round =>
        obtain ⟨k, hk, rfl, hK⟩ := hrel
        clear hD
        have ok : DmOk c o last k 0 := ⟨by omega, by omega, by omega, by omega, hl0, by omega, by omega, by omega, by omega, by omega⟩
        have OK := Lib.hid ok
        clear ok
        by_cases hkn : (k : Int) ≤ c
        · go_wp2_with fail
          refine (dk_open hK.out OK.out).mono ?_
          rintro e w3 ⟨rfl, q3⟩
          have D3 := Lib.hid q3
          clear q3 hK
          rw [decide_eq_false (show ¬ c < (k : Int) by omega)]
          go_wp2_with fail
          refine (dk_tick D3.out OK.out (by omega)).mono ?_
          rintro e w4 ⟨rfl, q4⟩
          have D4 := Lib.hid q4
          clear q4 D3
          go_wp2_with fail
          go_roundw
          case rel => exact ⟨k + 1, by omega, by go_num, D4⟩
          case measure => simp [intOf]; omega
        · go_wp2_with fail
          refine (dk_open hK.out OK.out).mono ?_
          rintro e w3 ⟨rfl, q3⟩
          have D3 := Lib.hid q3
          clear q3 hK
          rw [decide_eq_true (show c < (k : Int) by omega)]
          go_wp2_with fail
          refine (dk_kick D3.out OK.out (by omega)).mono ?_
          rintro e w4 ⟨rfl, q4⟩
          have D4 := Lib.hid q4
          clear q4 D3
          go_wp2_with fail
          refine (dogKicks_any d _ w4 D4.out.mem).mono ?_
          rintro e w' ⟨rfl, rfl⟩
          rw [show (dm c o (last + k) 0 (0 + 1)).kicks = 1 from rfl]
          go_wp2_with fail
          go_ret
          exact ⟨rfl, D4.out.bel⟩
end Go.Proofs.YtpodijlhlgbbdabDoor
