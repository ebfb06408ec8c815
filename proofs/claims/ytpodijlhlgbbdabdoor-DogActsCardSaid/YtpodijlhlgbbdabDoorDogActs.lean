/- DogActs: any acts of any dog: the document's one answers alike. -/
import Derived.Test.YtpodijlhlgbbdabDoorDogRef
import Derived.Test.YtpodijlhlgbbdabDoorFlow0
namespace Go.Proofs.YtpodijlhlgbbdabDoor
open Go.RowKit
set_option linter.unusedVariables false

theorem dogTickE_le (m : DogM) : dogTickE m ≤ 11 := by unfold dogTickE; split; decide; split <;> decide
theorem dogKickE_le (m : DogM) : dogKickE m ≤ 11 := by unfold dogKickE; split <;> decide
theorem dogTick_kicks (m : DogM) : (dogTick m).kicks = m.kicks := by unfold dogTick; split; rfl; split <;> rfl
theorem dogKick_kicks (m : DogM) : (dogKick m).kicks ≤ m.kicks + 1 := by
  unfold dogKick
  split
  · exact Int.le_refl _
  · show m.kicks ≤ m.kicks + 1
    omega

set_option maxRecDepth 100000 in
set_option maxHeartbeats 4000000 in
theorem dogActs_any (B : Nat) (sa : Nat → Addr) (c o : Int) (L : List Int) (v : Value) (w : World) (hS : Sents B sa w) (h : SlOf (· < w.heap.size) w v 1 (intCells L) L.length) :
    Calls Tryd.prog 5 #[.int .i64 c, .int .i64 o, v] w fun e w' => e = .returned (.bool true) ∧ Below w.heap.size w w' := by
  obtain ⟨ao, cap, rfl⟩ := h.val
  have HL := Lib.hid h
  have HS := Lib.hid hS
  have hB := hS.top
  clear h hS
  go_enter Tryd.func5, Tryd.ntmps5
  go_wp2_with fail
  refine (barks_any B sa w HS.out).mono ?_
  rintro e w1 ⟨rfl, b1⟩
  by_cases h5 : 300 < L.length
  · go_wp2_with fail
    go_ret
    exact ⟨rfl, b1⟩
  have hL3 : L.length ≤ 300 := by omega
  have S1 := Lib.hid (HS.out.below b1)
  have B1 := Lib.hid b1
  clear b1
  by_cases h1 : c < 0
  · go_wp2_with fail
    refine (dogNew_out B sa c o w1 S1.out (Or.inl h1)).mono ?_
    rintro e w2 ⟨rfl, b2⟩
    go_wp2_with fail
    refine (coded1_any B sa 2 (by decide) 2 w2 (S1.out.below b2)).mono ?_
    rintro e w3 ⟨rfl, b3⟩
    go_wp2_with fail
    go_ret
    exact ⟨rfl, B1.out.trans (b2.trans (b3.mono b2.size) |>.mono B1.out.size)⟩
  by_cases h2 : 1000 < c
  · go_wp2_with fail
    refine (dogNew_out B sa c o w1 S1.out (Or.inr (Or.inl h2))).mono ?_
    rintro e w2 ⟨rfl, b2⟩
    go_wp2_with fail
    refine (coded1_any B sa 2 (by decide) 2 w2 (S1.out.below b2)).mono ?_
    rintro e w3 ⟨rfl, b3⟩
    go_wp2_with fail
    go_ret
    exact ⟨rfl, B1.out.trans (b2.trans (b3.mono b2.size) |>.mono B1.out.size)⟩
  by_cases h3 : o < 1
  · go_wp2_with fail
    refine (dogNew_out B sa c o w1 S1.out (Or.inr (Or.inr (Or.inl h3)))).mono ?_
    rintro e w2 ⟨rfl, b2⟩
    go_wp2_with fail
    refine (coded1_any B sa 2 (by decide) 2 w2 (S1.out.below b2)).mono ?_
    rintro e w3 ⟨rfl, b3⟩
    go_wp2_with fail
    go_ret
    exact ⟨rfl, B1.out.trans (b2.trans (b3.mono b2.size) |>.mono B1.out.size)⟩
  by_cases h4 : 1000 < o
  · go_wp2_with fail
    refine (dogNew_out B sa c o w1 S1.out (Or.inr (Or.inr (Or.inr h4)))).mono ?_
    rintro e w2 ⟨rfl, b2⟩
    go_wp2_with fail
    refine (coded1_any B sa 2 (by decide) 2 w2 (S1.out.below b2)).mono ?_
    rintro e w3 ⟨rfl, b3⟩
    go_wp2_with fail
    go_ret
    exact ⟨rfl, B1.out.trans (b2.trans (b3.mono b2.size) |>.mono B1.out.size)⟩
  go_wp2_with fail
  refine (dk_new c o w w1 S1.out B1.out hB (by omega) (by omega) (by omega) (by omega)).mono ?_
  rintro e w2 ⟨d, rfl, hd2⟩
  have hdl := hd2.dl
  have hdr : d < w2.heap.size := lt_of_get hd2.mem
  have hwr := hd2.bel.size
  have q1 := hd2.below ((Below.refl _ w2).alloc (Nat.le_refl _) (rdogC ⟨c, o, 0, 0, false, 0⟩))
  have q2 := get_alloc_new w2 (rdogC ⟨c, o, 0, 0, false, 0⟩)
  have D2 := Lib.hid q1
  have R2 : Hid (RDogAt (w2.alloc (rdogC ⟨c, o, 0, 0, false, 0⟩)) w2.heap.size ⟨c, o, 0, 0, false, 0⟩) := q2
  clear hd2 q1 q2
  obtain ⟨m0, hm0⟩ : ∃ m0 : DogM, m0 = dm c o 0 0 0 := ⟨_, rfl⟩
  have ok0 : DogOk m0 := by rw [hm0]; exact ⟨by show 0 ≤ c; omega, by show c ≤ 1000; omega, by show 1 ≤ o; omega, by show o ≤ 1000; omega, by show (0 : Int) ≤ 0; decide, by show (0 : Int) ≤ 0 + 0; decide, by show (0 : Int) + 0 ≤ 1099511627776; decide, by show (0 : Int) ≤ 0; decide, by show (0 : Int) ≤ 1000000; decide⟩
  have hk0 : m0.kicks ≤ 0 := by rw [hm0]; exact Int.le_refl _
  rw [← hm0] at D2
  have e0 : (⟨c, o, 0, 0, false, 0⟩ : DogM) = m0 := by rw [hm0]; rfl
  have R3 : Hid (RDogAt (w2.alloc (rdogC ⟨c, o, 0, 0, false, 0⟩)) w2.heap.size m0) := by rw [← e0]; exact R2
  clear R2 e0 hm0
  unfold rdogC at D2 R3
  go_wp2_with fail
  generalize World.alloc _ _ = w3 at D2 R3 ⊢
  generalize w2.heap.size = r at hdr hwr R3 ⊢
  go_loopw [11] (fun s wr => ∃ (i : Nat) (m : DogM), i ≤ L.length ∧ s = .int .i64 i ∧ DogOk m ∧ m.kicks ≤ (i : Int) ∧ Hid (DK B sa w d m wr) ∧ Hid (RDogAt wr r m)) (fun s _ => L.length - (intOf s).toNat)
  case atStart => exact ⟨0, m0, Nat.zero_le _, rfl, ok0, hk0, D2, R3⟩
  case round =>
    obtain ⟨i, m, hi, rfl, hok, hmk, hD, hR⟩ := hrel
    clear D2 R3 ok0 hk0
    have hdr' : ¬ r = d := by omega
    by_cases hlt : i < L.length
    · obtain ⟨b, off, rfl, hRb, _, hc⟩ := int_cells HL.out (by omega)
      have q := hc i hlt
      rw [← hD.out.bel.cell (p := ⟨b, off + i, none⟩) hRb] at q
      clear hc
      have OK := Lib.hid hok
      clear hok
      by_cases hz1 : L[i] = 1
      · rw [hz1] at q
        go_wp2_with fail
        refine (dogKick_any B sa d m wr hD.out.mem OK.out hD.out.se (by have := hD.out.dl; have := hD.out.bl; omega)).mono ?_
        rintro e w4 ⟨rfl, d4, k4⟩
        have D4 := Lib.hid (hD.out.step k4 d4)
        have R4 := Lib.hid (hR.out.keep k4 (by omega))
        have OK6 := Lib.hid (dogOk_kick OK.out (by omega))
        have MK6 : Hid ((dogKick m).kicks ≤ (i : Int) + 1) := (show (dogKick m).kicks ≤ (i : Int) + 1 from by have := dogKick_kicks m; omega)
        clear d4 k4 hD hR
        go_wp2_with fail
        refine (rKick_any r m w4 R4.out OK.out).mono ?_
        rintro e w5 ⟨rfl, r5, k5⟩
        have D5 := Lib.hid (show DK B sa w d (dogKick m) w5 from ⟨D4.out.mem.keep k5 (by omega), D4.out.se.keep k5 (fun b hb => by have := D4.out.bl; omega), D4.out.bel.trans (k5.below D4.out.bel.size (fun b hb => by omega)), D4.out.dl, D4.out.bl⟩)
        have R5 := Lib.hid r5
        clear r5 k5 D4 R4
        go_wp2_with fail
        refine (coded1_any B sa _ (dogKickE_le m) _ w5 D5.out.se).mono ?_
        rintro e w6 ⟨rfl, b6⟩
        rw [decide_eq_true rfl]
        have D6 := Lib.hid (D5.out.below b6)
        have R6 := Lib.hid (R5.out.below b6)
        clear b6 D5 R5
        obtain ⟨m6, hm6⟩ : ∃ m6 : DogM, m6 = dogKick m := ⟨_, rfl⟩
        rw [← hm6] at D6 R6 OK6 MK6
        clear hm6
        obtain ⟨x0, x1, x2, x3, x4, x5, xf⟩ := rdog_cells R6.out
        go_wp2_with fail
        go_quiet (first | (go_at_call 16; exact Calls.quiet_of (dogOpen_quiet d _ _ (D6.out.mem.drew _) OK6.out)) | (go_at_call 25; exact Calls.quiet_of (rOpen_quiet r _ _ (R6.out.drew _) OK6.out)) | (go_at_call 18; exact quiet_of_eq (dogReset_any d _ _ (D6.out.mem.drew _))) | (go_at_call 26; exact quiet_of_eq (dogNow_any d _ _ (D6.out.mem.drew _))) | (go_at_call 20; exact quiet_of_eq (dogKicks_any d _ _ (D6.out.mem.drew _))))
        go_wp2_with fail
        go_roundw
        case rel => exact ⟨i + 1, m6, by omega, by go_num, OK6.out, by have := MK6.out; omega, D6.out.still (keep_drewM _ _ _), R6.out.drew _⟩
        case measure => simp [intOf]; omega
      · by_cases hz2 : L[i] = 2
        · rw [hz2] at q
          go_wp2_with fail
          refine (dogStart_any d m wr hD.out.mem).mono ?_
          rintro e w4 ⟨rfl, d4, k4⟩
          have D4 := Lib.hid (hD.out.step k4 d4)
          have R4 := Lib.hid (hR.out.keep k4 (by omega))
          have OK6 := Lib.hid (dogOk_start OK.out)
          have MK6 : Hid ((dogStart m).kicks ≤ (i : Int) + 1) := (show (dogStart m).kicks ≤ (i : Int) + 1 from by show m.kicks ≤ _; omega)
          clear d4 k4 hD hR
          obtain ⟨y0, y1, y2, y3, y4, y5, yf⟩ := rdog_cells R4.out
          have D5 : Hid (DK B sa w d (dogStart m) ((w4.setCell ⟨r, 5, none⟩ (.bool false)).setCell ⟨r, 3, none⟩ (.int .i64 m.now))) := by
            have k5 : Keep (· = r) w4 ((w4.setCell ⟨r, 5, none⟩ (.bool false)).setCell ⟨r, 3, none⟩ (.int .i64 m.now)) := (keep_set w4 r 5 _).trans (keep_set _ r 3 _)
            exact (show DK B sa w d (dogStart m) _ from ⟨D4.out.mem.keep k5 (by omega), D4.out.se.keep k5 (fun b hb => by have := D4.out.bl; omega), D4.out.bel.trans (k5.below D4.out.bel.size (fun b hb => by omega)), D4.out.dl, D4.out.bl⟩)
          have R5 : Hid (RDogAt ((w4.setCell ⟨r, 5, none⟩ (.bool false)).setCell ⟨r, 3, none⟩ (.int .i64 m.now)) r (dogStart m)) := (R4.out.set5 false).set3 m.now
          clear D4 R4
          go_wp2_with fail
          generalize World.setCell (World.setCell _ _ _) _ _ = w6 at D5 R5 ⊢
          have D6 := D5
          have R6 := R5
          clear D5 R5 y0 y1 y2 y3 y4 y5 yf
          obtain ⟨m6, hm6⟩ : ∃ m6 : DogM, m6 = dogStart m := ⟨_, rfl⟩
          rw [← hm6] at D6 R6 OK6 MK6
          clear hm6
          obtain ⟨x0, x1, x2, x3, x4, x5, xf⟩ := rdog_cells R6.out
          go_quiet (first | (go_at_call 16; exact Calls.quiet_of (dogOpen_quiet d _ _ (D6.out.mem.drew _) OK6.out)) | (go_at_call 25; exact Calls.quiet_of (rOpen_quiet r _ _ (R6.out.drew _) OK6.out)) | (go_at_call 18; exact quiet_of_eq (dogReset_any d _ _ (D6.out.mem.drew _))) | (go_at_call 26; exact quiet_of_eq (dogNow_any d _ _ (D6.out.mem.drew _))) | (go_at_call 20; exact quiet_of_eq (dogKicks_any d _ _ (D6.out.mem.drew _))))
          go_wp2_with fail
          go_roundw
          case rel => exact ⟨i + 1, m6, by omega, by go_num, OK6.out, by have := MK6.out; omega, D6.out.still (keep_drewM _ _ _), R6.out.drew _⟩
          case measure => simp [intOf]; omega
        · go_wp2_with fail
          refine (dogTick_any B sa d m wr hD.out.mem OK.out hD.out.se).mono ?_
          rintro e w4 ⟨rfl, d4, k4⟩
          have D4 := Lib.hid (hD.out.step k4 d4)
          have R4 := Lib.hid (hR.out.keep k4 (by omega))
          have OK6 := Lib.hid (dogOk_tick OK.out)
          have MK6 : Hid ((dogTick m).kicks ≤ (i : Int) + 1) := (show (dogTick m).kicks ≤ (i : Int) + 1 from by have := dogTick_kicks m; omega)
          clear d4 k4 hD hR
          go_wp2_with fail
          refine (rTick_any r m w4 R4.out OK.out).mono ?_
          rintro e w5 ⟨rfl, r5, k5⟩
          have D5 := Lib.hid (show DK B sa w d (dogTick m) w5 from ⟨D4.out.mem.keep k5 (by omega), D4.out.se.keep k5 (fun b hb => by have := D4.out.bl; omega), D4.out.bel.trans (k5.below D4.out.bel.size (fun b hb => by omega)), D4.out.dl, D4.out.bl⟩)
          have R5 := Lib.hid r5
          clear r5 k5 D4 R4
          go_wp2_with fail
          refine (coded1_any B sa _ (dogTickE_le m) _ w5 D5.out.se).mono ?_
          rintro e w6 ⟨rfl, b6⟩
          rw [decide_eq_true rfl]
          have D6 := Lib.hid (D5.out.below b6)
          have R6 := Lib.hid (R5.out.below b6)
          clear b6 D5 R5
          obtain ⟨m6, hm6⟩ : ∃ m6 : DogM, m6 = dogTick m := ⟨_, rfl⟩
          rw [← hm6] at D6 R6 OK6 MK6
          clear hm6
          obtain ⟨x0, x1, x2, x3, x4, x5, xf⟩ := rdog_cells R6.out
          go_wp2_with fail
          go_quiet (first | (go_at_call 16; exact Calls.quiet_of (dogOpen_quiet d _ _ (D6.out.mem.drew _) OK6.out)) | (go_at_call 25; exact Calls.quiet_of (rOpen_quiet r _ _ (R6.out.drew _) OK6.out)) | (go_at_call 18; exact quiet_of_eq (dogReset_any d _ _ (D6.out.mem.drew _))) | (go_at_call 26; exact quiet_of_eq (dogNow_any d _ _ (D6.out.mem.drew _))) | (go_at_call 20; exact quiet_of_eq (dogKicks_any d _ _ (D6.out.mem.drew _))))
          go_wp2_with fail
          go_roundw
          case rel => exact ⟨i + 1, m6, by omega, by go_num, OK6.out, by have := MK6.out; omega, D6.out.still (keep_drewM _ _ _), R6.out.drew _⟩
          case measure => simp [intOf]; omega
    · go_wp2_with fail
      go_ret
      exact ⟨rfl, hD.out.bel⟩
end Go.Proofs.YtpodijlhlgbbdabDoor
