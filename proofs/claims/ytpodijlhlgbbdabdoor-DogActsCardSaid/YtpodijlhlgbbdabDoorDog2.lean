/- A dog among a statement's memory; the closed fact "barks". -/
import Derived.Test.YtpodijlhlgbbdabDoorDog
namespace Go.Proofs.YtpodijlhlgbbdabDoor
open Go.RowKit
set_option linter.unusedVariables false

structure DK (B : Nat) (sa : Nat → Addr) (w0 : World) (d : Nat) (m : DogM) (w : World) : Prop where
  mem : DogAt w d m
  se : Sents B sa w
  bel : Below w0.heap.size w0 w
  dl : w0.heap.size ≤ d
  bl : B ≤ w0.heap.size
theorem DK.step {B : Nat} {sa : Nat → Addr} {w0 w w' : World} {d : Nat} {m m' : DogM} (h : DK B sa w0 d m w) (k : Keep (· = d) w w') (h' : DogAt w' d m') : DK B sa w0 d m' w' := by
  have h1 := h.dl
  have h2 := h.bl
  exact ⟨h', h.se.keep k (fun b hb => by omega), h.bel.trans (k.below h.bel.size (fun b hb => by omega)), h.dl, h.bl⟩
theorem DK.still {B : Nat} {sa : Nat → Addr} {w0 w w' : World} {d : Nat} {m : DogM} (h : DK B sa w0 d m w) (k : Keep (fun _ => False) w w') : DK B sa w0 d m w' :=
  ⟨h.mem.keep k (fun h => h), h.se.keep k (fun _ h => h.elim), h.bel.trans (k.below h.bel.size (fun _ h => h.elim)), h.dl, h.bl⟩
theorem DK.below {B : Nat} {sa : Nat → Addr} {w0 w w' : World} {d : Nat} {m : DogM} (h : DK B sa w0 d m w) (k : Below w.heap.size w w') : DK B sa w0 d m w' := h.still (below_keep k)

/-- A dog that was kicked, or started, k ticks ago. -/
def dm (c o last k ks : Int) : DogM := ⟨c, o, last + k, last, false, ks⟩
structure DmOk (c o last k ks : Int) : Prop where
  c0 : 0 ≤ c
  c1 : c ≤ 1000
  o0 : 1 ≤ o
  o1 : o ≤ 1000
  l0 : 0 ≤ last
  l1 : last ≤ 1000000000
  k0 : 0 ≤ k
  k1 : k ≤ c + o
  s0 : 0 ≤ ks
  s1 : ks ≤ 100000
theorem DmOk.ok {c o last k ks : Int} (h : DmOk c o last k ks) : DogOk (dm c o last k ks) := by
  obtain ⟨h1, h2, h3, h4, h5, h6, h7, h8, h9, h10⟩ := h
  exact ⟨h1, h2, h3, h4, h5, by show last ≤ last + k; omega, by show last + k ≤ _; omega, h9, by show ks ≤ _; omega⟩

section
variable {B : Nat} {sa : Nat → Addr} {w0 : World} {d : Nat} {c o last k ks : Int} {w : World}
theorem dk_open (h : DK B sa w0 d (dm c o last k ks) w) (ok : DmOk c o last k ks) :
    Calls Tryd.prog 16 #[.pointer (some ⟨d, 0, none⟩)] w fun e w' => e = .returned (.bool (decide (c < k))) ∧ DK B sa w0 d (dm c o last k ks) w' := by
  refine (dogOpen_any d _ w h.mem ok.ok).mono ?_
  rintro e w' ⟨rfl, k1⟩
  refine ⟨ret_bool ?_, h.still k1⟩
  show (!false && decide (c < last + k - last)) = decide (c < k)
  rw [show last + k - last = k from by omega]; rfl
theorem dk_tick (h : DK B sa w0 d (dm c o last k ks) w) (ok : DmOk c o last k ks) (hk : k + 1 ≤ c + o) :
    Calls Tryd.prog 17 #[.pointer (some ⟨d, 0, none⟩)] w fun e w' => e = .returned .nilIface ∧ DK B sa w0 d (dm c o last (k + 1) ks) w' := by
  refine (dogTick_any B sa d _ w h.mem ok.ok h.se).mono ?_
  rintro e w' ⟨rfl, h1, k1⟩
  obtain ⟨q1, q2, q3, q4, q5, q6, q7, q8, q9, q10⟩ := ok
  have hn : ¬ (1099511627776 : Int) ≤ last + k := by omega
  have e1 : dogTickE (dm c o last k ks) = 0 := by
    show (if false = true then 11 else if (1099511627776 : Int) ≤ last + k then 2 else 0) = 0
    rw [if_neg (by decide), if_neg hn]
  have e2 : dogTick (dm c o last k ks) = dm c o last (k + 1) ks := by
    show (if false = true then _ else if (1099511627776 : Int) ≤ last + k then _ else (⟨c, o, last + k + 1, last, decide (c + o < last + k + 1 - last), ks⟩ : DogM)) = ⟨c, o, last + (k + 1), last, false, ks⟩
    rw [if_neg (by decide), if_neg hn, show decide (c + o < last + k + 1 - last) = false from by simp; omega, show last + k + 1 = last + (k + 1) from by omega]
  rw [e1]
  rw [e2] at h1
  exact ⟨rfl, h.step k1 h1⟩
theorem dk_tick_out (h : DK B sa w0 d (dm c o last k ks) w) (ok : DmOk c o last k ks) (hk : k = c + o) :
    Calls Tryd.prog 17 #[.pointer (some ⟨d, 0, none⟩)] w fun e w' => e = .returned .nilIface ∧ ∃ m, m.reset = true ∧ DogOk m ∧ DK B sa w0 d m w' := by
  refine (dogTick_any B sa d _ w h.mem ok.ok h.se).mono ?_
  rintro e w' ⟨rfl, h1, k1⟩
  have ok2 := dogOk_tick ok.ok
  obtain ⟨q1, q2, q3, q4, q5, q6, q7, q8, q9, q10⟩ := ok
  have hn : ¬ (1099511627776 : Int) ≤ last + k := by omega
  have e1 : dogTickE (dm c o last k ks) = 0 := by
    show (if false = true then 11 else if (1099511627776 : Int) ≤ last + k then 2 else 0) = 0
    rw [if_neg (by decide), if_neg hn]
  have e2 : (dogTick (dm c o last k ks)).reset = true := by
    show (if false = true then _ else if (1099511627776 : Int) ≤ last + k then _ else (⟨c, o, last + k + 1, last, decide (c + o < last + k + 1 - last), ks⟩ : DogM)).reset = true
    rw [if_neg (by decide), if_neg hn]
    show decide (c + o < last + k + 1 - last) = true
    simp; omega
  rw [e1]
  exact ⟨rfl, _, e2, ok2, h.step k1 h1⟩
theorem dk_tick_reset {m : DogM} (h : DK B sa w0 d m w) (ok : DogOk m) (hr : m.reset = true) :
    Calls Tryd.prog 17 #[.pointer (some ⟨d, 0, none⟩)] w fun e w' => e = .returned (errv sa 11) ∧ DK B sa w0 d m w' := by
  refine (dogTick_any B sa d _ w h.mem ok h.se).mono ?_
  rintro e w' ⟨rfl, h1, k1⟩
  have e1 : dogTickE m = 11 := by simp [dogTickE, hr]
  have e2 : dogTick m = m := by simp [dogTick, hr]
  rw [e1]
  rw [e2] at h1
  exact ⟨rfl, h.step k1 h1⟩
theorem dk_kick (h : DK B sa w0 d (dm c o last k ks) w) (ok : DmOk c o last k ks) (hk : c < k) :
    Calls Tryd.prog 19 #[.pointer (some ⟨d, 0, none⟩)] w fun e w' => e = .returned .nilIface ∧ DK B sa w0 d (dm c o (last + k) 0 (ks + 1)) w' := by
  have hd := h.dl
  have hb := h.bl
  refine (dogKick_any B sa d _ w h.mem ok.ok h.se (by omega)).mono ?_
  rintro e w' ⟨rfl, h1, k1⟩
  have ho : dogOpen (dm c o last k ks) = true := by
    show (!false && decide (c < last + k - last)) = true
    simp; omega
  rw [dogKickE_yes ho]
  rw [dogKick_yes ho] at h1
  refine ⟨rfl, h.step k1 ?_⟩
  have e : ({ dm c o last k ks with last := (dm c o last k ks).now, kicks := (dm c o last k ks).kicks + 1 } : DogM) = dm c o (last + k) 0 (ks + 1) := by
    show (⟨c, o, last + k, last + k, false, ks + 1⟩ : DogM) = ⟨c, o, last + k + 0, last + k, false, ks + 1⟩
    rw [Int.add_zero]
  rw [← e]; exact h1
theorem dk_kick_early (h : DK B sa w0 d (dm c o last k ks) w) (ok : DmOk c o last k ks) (hk : k ≤ c) :
    Calls Tryd.prog 19 #[.pointer (some ⟨d, 0, none⟩)] w fun e w' => e = .returned (errv sa 11) ∧ DK B sa w0 d ⟨c, o, last + k, last, true, ks⟩ w' := by
  have hd := h.dl
  have hb := h.bl
  refine (dogKick_any B sa d _ w h.mem ok.ok h.se (by omega)).mono ?_
  rintro e w' ⟨rfl, h1, k1⟩
  have ho : dogOpen (dm c o last k ks) = false := by
    show (!false && decide (c < last + k - last)) = false
    simp; omega
  rw [dogKickE_no ho]
  rw [dogKick_no ho] at h1
  exact ⟨rfl, h.step k1 h1⟩
theorem dk_kick_reset {m : DogM} (h : DK B sa w0 d m w) (ok : DogOk m) (hr : m.reset = true) :
    Calls Tryd.prog 19 #[.pointer (some ⟨d, 0, none⟩)] w fun e w' => e = .returned (errv sa 11) ∧ DK B sa w0 d m w' := by
  have hd := h.dl
  have hb := h.bl
  refine (dogKick_any B sa d _ w h.mem ok h.se (by omega)).mono ?_
  rintro e w' ⟨rfl, h1, k1⟩
  have ho : dogOpen m = false := by simp [dogOpen, hr]
  rw [dogKickE_no ho]
  rw [dogKick_no ho] at h1
  refine ⟨rfl, h.step k1 ?_⟩
  have e : ({ m with reset := true } : DogM) = m := by cases m; simp at hr; simp [hr]
  rw [e] at h1; exact h1
theorem dk_coded {m : DogM} (h : DK B sa w0 d m w) (n : Nat) (hn : n ≤ 11) (x : Int) :
    Calls Tryd.prog 21 #[errv sa n, .int .i64 x] w fun e w' => e = .returned (.bool (decide ((n : Int) = x))) ∧ DK B sa w0 d m w' :=
  (coded1_any B sa n hn x w h.se).mono fun e w' ⟨h1, h2⟩ => ⟨h1, h.below h2⟩
theorem dk_new (c o : Int) (w0 w : World) (hS : Sents B sa w) (hb : Below w0.heap.size w0 w) (hB : B ≤ w0.heap.size) (h0 : 0 ≤ c) (h1 : c ≤ 1000) (h2 : 1 ≤ o) (h3 : o ≤ 1000) :
    Calls Tryd.prog 15 #[.int .i64 c, .int .i64 o] w fun e w' => ∃ d, e = .returned (.tuple #[.pointer (some ⟨d, 0, none⟩), .nilIface]) ∧ DK B sa w0 d (dm c o 0 0 0) w' := by
  refine (dogNew_in c o w h0 h1 h2 h3).mono ?_
  rintro e w' ⟨rfl, q1, q2⟩
  exact ⟨_, rfl, q1, hS.below q2, hb.trans (q2.mono hb.size), hb.size, hB⟩
end

set_option maxRecDepth 100000 in
set_option maxHeartbeats 2000000 in
theorem barks_any (B : Nat) (sa : Nat → Addr) (w : World) (hS : Sents B sa w) : Calls Tryd.prog 14 #[] w fun e w' => e = .returned (.bool true) ∧ Below w.heap.size w w' := by
  have HS := Lib.hid hS
  have hB := hS.top
  clear hS
  go_enter Tryd.func14, Tryd.ntmps14
  go_wp2_with fail
  refine (dk_new 1 1 w w HS.out (Below.refl _ _) hB (by decide) (by decide) (by decide) (by decide)).mono ?_
  rintro e w1 ⟨d, rfl, h1⟩
  have H1 := Lib.hid h1; clear h1
  go_wp2_with fail
  refine (dk_open H1.out ⟨by decide, by decide, by decide, by decide, by decide, by decide, by decide, by decide, by decide, by decide⟩).mono ?_
  rintro e w2 ⟨rfl, h2⟩
  rw [show decide ((1 : Int) < 0) = false from by decide]
  have H2 := Lib.hid h2; clear h2
  go_wp2_with fail
  refine (dk_tick H2.out ⟨by decide, by decide, by decide, by decide, by decide, by decide, by decide, by decide, by decide, by decide⟩ (by decide)).mono ?_
  rintro e w3 ⟨rfl, h3⟩
  have H3 := Lib.hid h3; clear h3
  go_wp2_with fail
  refine (dk_open H3.out ⟨by decide, by decide, by decide, by decide, by decide, by decide, by decide, by decide, by decide, by decide⟩).mono ?_
  rintro e w4 ⟨rfl, h4⟩
  rw [show decide ((1 : Int) < 0 + 1) = false from by decide]
  have H4 := Lib.hid h4; clear h4
  go_wp2_with fail
  refine (dk_tick H4.out ⟨by decide, by decide, by decide, by decide, by decide, by decide, by decide, by decide, by decide, by decide⟩ (by decide)).mono ?_
  rintro e w5 ⟨rfl, h5⟩
  have H5 := Lib.hid h5; clear h5
  go_wp2_with fail
  refine (dk_open H5.out ⟨by decide, by decide, by decide, by decide, by decide, by decide, by decide, by decide, by decide, by decide⟩).mono ?_
  rintro e w6 ⟨rfl, h6⟩
  rw [show decide ((1 : Int) < 0 + 1 + 1) = true from by decide]
  have H6 := Lib.hid h6; clear h6
  go_wp2_with fail
  refine (dogTick_any B sa d _ w6 H6.out.mem (DmOk.ok ⟨by decide, by decide, by decide, by decide, by decide, by decide, by decide, by decide, by decide, by decide⟩) H6.out.se).mono ?_
  rintro e w7 ⟨rfl, h7, k7⟩
  have H7 : Hid (DK B sa w d ⟨1, 1, 3, 0, true, 0⟩ w7) := H6.out.step k7 h7
  rw [show errv sa (dogTickE (dm 1 1 0 (0 + 1 + 1) 0)) = .nilIface from rfl]
  clear h7 k7
  go_wp2_with fail
  refine (dogReset_any d _ w7 H7.out.mem).mono ?_
  rintro e w' ⟨rfl, rfl⟩
  go_wp2_with fail
  refine (dk_kick_reset H7.out ⟨by decide, by decide, by decide, by decide, by decide, by decide, by decide, by decide, by decide⟩ rfl).mono ?_
  rintro e w8 ⟨rfl, h8⟩
  have H8 := Lib.hid h8; clear h8
  go_wp2_with fail
  refine (dk_coded H8.out 11 (by decide) 11).mono ?_
  rintro e w9 ⟨rfl, h9⟩
  have H9 := Lib.hid h9; clear h9
  rw [show decide (((11 : Nat) : Int) = 11) = true from by decide]
  go_wp2_with fail
  refine (dogNow_any d _ w9 H9.out.mem).mono ?_
  rintro e w' ⟨rfl, rfl⟩
  go_wp2_with fail
  go_ret
  exact ⟨rfl, H9.out.bel⟩
end Go.Proofs.YtpodijlhlgbbdabDoor
