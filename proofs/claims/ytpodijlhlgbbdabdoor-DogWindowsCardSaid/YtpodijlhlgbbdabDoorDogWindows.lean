/- DogWindows: who kicks in each open window is never reset; who waits one tick more is. -/
import Derived.Test.YtpodijlhlgbbdabDoorDog2
import Derived.Test.YtpodijlhlgbbdabDoorFlow0
namespace Go.Proofs.YtpodijlhlgbbdabDoor
open Go.RowKit
set_option linter.unusedVariables false

set_option maxRecDepth 100000 in
set_option maxHeartbeats 4000000 in
theorem dogWindows_any (B : Nat) (sa : Nat → Addr) (c o : Int) (L : List Int) (v : Value) (w : World) (hS : Sents B sa w) (h : SlOf (· < w.heap.size) w v 1 (intCells L) L.length) :
    Calls Tryd.prog 3 #[.int .i64 c, .int .i64 o, v] w fun e w' => e = .returned (.bool true) ∧ Below w.heap.size w w' := by
  obtain ⟨ao, cap, rfl⟩ := h.val
  have HL := Lib.hid h
  have HS := Lib.hid hS
  have hB := hS.top
  clear h hS
  go_enter Tryd.func3, Tryd.ntmps3
  go_wp2_with fail
  refine (barks_any B sa w HS.out).mono ?_
  rintro e w1 ⟨rfl, b1⟩
  by_cases h1 : c < 0
  · go_wp2_with fail
    go_ret
    exact ⟨rfl, b1⟩
  by_cases h2 : 60 < c
  · go_wp2_with fail
    go_ret
    exact ⟨rfl, b1⟩
  by_cases h3 : o < 1
  · go_wp2_with fail
    go_ret
    exact ⟨rfl, b1⟩
  by_cases h4 : 60 < o
  · go_wp2_with fail
    go_ret
    exact ⟨rfl, b1⟩
  by_cases h5 : 20 < L.length
  · go_wp2_with fail
    go_ret
    exact ⟨rfl, b1⟩
  have hL20 : L.length ≤ 20 := by omega
  go_wp2_with fail
  refine (dk_new c o w w1 (HS.out.below b1) b1 hB (by omega) (by omega) (by omega) (by omega)).mono ?_
  rintro e w2 ⟨d, rfl, hd2⟩
  have D2 := Lib.hid hd2
  clear hd2
  go_wp2_with fail
  go_loopw [10, 11] (fun s10 s11 wr => ∃ (i kc : Nat) (last : Int), i ≤ L.length ∧ kc ≤ i ∧ s11 = .int .i64 i ∧ s10 = .int .i64 kc ∧ 0 ≤ last ∧ last ≤ (i : Int) * 1000 ∧ Hid (DK B sa w d (dm c o last 0 kc) wr)) (fun _ s _ => L.length - (intOf s).toNat)
  case atStart => exact ⟨0, 0, 0, Nat.zero_le _, Nat.zero_le _, rfl, rfl, by decide, by decide, D2⟩
  case round =>
    obtain ⟨i, kc, last, hi, hkc, rfl, rfl, hl0, hl1, hD⟩ := hrel
    clear D2
    by_cases hlt : i < L.length
    · obtain ⟨b, off, rfl, hRb, _, hc⟩ := int_cells HL.out (by omega)
      have q := hc i hlt
      rw [← hD.out.bel.cell (p := ⟨b, off + i, none⟩) hRb] at q
      clear hc
      by_cases hz : L[i] < 0
      · go_wp2_with fail
        go_roundw
        case rel => exact ⟨i + 1, kc, last, by omega, by omega, by go_num, rfl, hl0, by omega, hD⟩
        case measure => simp [intOf]; omega
      · obtain ⟨z, hzz⟩ : ∃ z : Nat, L[i] = z := ⟨L[i].toNat, by omega⟩
        rw [hzz] at q
        clear hz hzz
        have hmod : ((z : Int) % o) < o := Int.emod_lt_of_pos _ (by omega)
        have hmod0 : 0 ≤ ((z : Int) % o) := Int.emod_nonneg _ (by omega)
        go_wp2_with fail
        generalize (z : Int) % o = r at hmod hmod0 ⊢
        go_loopw [13] (fun s wx => ∃ k : Nat, (k : Int) ≤ c + 1 + r ∧ s = .int .i64 k ∧ Hid (DK B sa w d (dm c o last k kc) wx)) (fun s _ => (c + 1 + r - intOf s).toNat)
        case atStart => exact ⟨0, by omega, rfl, hD⟩
        case round =>
          obtain ⟨k, hk, rfl, hK⟩ := hrel
          clear hD
          have ok : DmOk c o last k kc := ⟨by omega, by omega, by omega, by omega, hl0, by omega, by omega, by omega, by omega, by omega⟩
          have OK := Lib.hid ok
          clear ok
          by_cases hkn : (k : Int) < c + 1 + r
          · by_cases hck : c < (k : Int)
            · go_wp2_with fail
              refine (dk_open hK.out OK.out).mono ?_
              rintro e w3 ⟨rfl, q3⟩
              have D3 := Lib.hid q3
              clear q3 hK
              rw [decide_eq_true (show c < (k : Int) by omega)]
              go_wp2_with fail
              refine (dk_tick D3.out OK.out (by omega)).mono ?_
              rintro e w4 ⟨rfl, q4⟩
              have D4 := Lib.hid q4
              clear q4 D3
              go_wp2_with fail
              refine (dogReset_any d _ w4 D4.out.mem).mono ?_
              rintro e w' ⟨rfl, rfl⟩
              rw [show (dm c o last (k + 1) kc).reset = false from rfl]
              go_wp2_with fail
              go_roundw
              case rel => exact ⟨k + 1, by omega, by go_num, D4⟩
              case measure => simp [intOf]; omega
            · have hck' : (k : Int) ≤ c := by omega
              go_wp2_with fail
              refine (dk_open hK.out OK.out).mono ?_
              rintro e w3 ⟨rfl, q3⟩
              have D3 := Lib.hid q3
              clear q3 hK
              rw [decide_eq_false (show ¬ c < (k : Int) by omega)]
              go_wp2_with fail
              refine (dk_tick D3.out OK.out (by omega)).mono ?_
              rintro e w4 ⟨rfl, q4⟩
              have D4 := Lib.hid q4
              clear q4 D3
              go_wp2_with fail
              refine (dogReset_any d _ w4 D4.out.mem).mono ?_
              rintro e w' ⟨rfl, rfl⟩
              rw [show (dm c o last (k + 1) kc).reset = false from rfl]
              go_wp2_with fail
              go_roundw
              case rel => exact ⟨k + 1, by omega, by go_num, D4⟩
              case measure => simp [intOf]; omega
          · have hkk : (k : Int) = c + 1 + r := by omega
            have HK := Lib.hid hkk
            clear hkk
            go_wp2_with fail
            refine (dk_open hK.out OK.out).mono ?_
            rintro e w3 ⟨rfl, q3⟩
            have D3 := Lib.hid q3
            clear q3 hK
            rw [decide_eq_true (show c < (k : Int) by omega)]
            go_wp2_with fail
            refine (dk_kick D3.out OK.out (by omega)).mono ?_
            rintro e w4 ⟨rfl, q4⟩
            have D4 := Lib.hid q4
            clear q4 D3
            go_wp2_with fail
            refine (dogKicks_any d _ w4 D4.out.mem).mono ?_
            rintro e w' ⟨rfl, rfl⟩
            rw [show (dm c o (last + k) 0 (kc + 1)).kicks = (kc : Int) + 1 from rfl]
            go_wp2_with fail
            go_roundw
            case rel => exact ⟨i + 1, kc + 1, last + k, by omega, by omega, by go_num, by go_num, by omega, by omega, D4⟩
            case measure => simp [intOf]; omega
    · go_wp2_with fail
      go_loopw [14] (fun s wx => ∃ k : Nat, (k : Int) ≤ c + o ∧ s = .int .i64 k ∧ Hid (DK B sa w d (dm c o last k kc) wx)) (fun s _ => (c + o - intOf s).toNat)
      case atStart => exact ⟨0, by omega, rfl, hD⟩
      case round =>
        obtain ⟨k, hk, rfl, hK⟩ := hrel
        clear hD
        have ok : DmOk c o last k kc := ⟨by omega, by omega, by omega, by omega, hl0, by omega, by omega, by omega, by omega, by omega⟩
        have OK := Lib.hid ok
        clear ok
        by_cases hkn : (k : Int) < c + o
        · go_wp2_with fail
          refine (dk_tick hK.out OK.out (by omega)).mono ?_
          rintro e w4 ⟨rfl, q4⟩
          have D4 := Lib.hid q4
          clear q4 hK
          go_wp2_with fail
          refine (dogReset_any d _ w4 D4.out.mem).mono ?_
          rintro e w' ⟨rfl, rfl⟩
          rw [show (dm c o last (k + 1) kc).reset = false from rfl]
          go_wp2_with fail
          go_roundw
          case rel => exact ⟨k + 1, by omega, by go_num, D4⟩
          case measure => simp [intOf]; omega
        · go_wp2_with fail
          refine (dk_tick_out hK.out OK.out (by omega)).mono ?_
          rintro e w4 ⟨rfl, m, hm, hmo, q4⟩
          have D4 := Lib.hid q4
          have HM := Lib.hid hm
          have HMO := Lib.hid hmo
          clear q4 hK hm hmo
          go_wp2_with fail
          refine (dogReset_any d _ w4 D4.out.mem).mono ?_
          rintro e w' ⟨rfl, rfl⟩
          rw [HM.out]
          go_wp2_with fail
          refine (dk_tick_reset D4.out HMO.out HM.out).mono ?_
          rintro e w5 ⟨rfl, q5⟩
          have D5 := Lib.hid q5
          clear q5 D4
          go_wp2_with fail
          refine (dk_coded D5.out 11 (by decide) 11).mono ?_
          rintro e w6 ⟨rfl, q6⟩
          have D6 := Lib.hid q6
          clear q6
          rw [show decide (((11 : Nat) : Int) = 11) = true from by decide]
          go_wp2_with fail
          go_ret
          exact ⟨rfl, D6.out.bel⟩
end Go.Proofs.YtpodijlhlgbbdabDoor
