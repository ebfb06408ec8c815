/- The document's dog. -/
import Derived.Test.YtpodijlhlgbbdabDoorDog2
namespace Go.Proofs.YtpodijlhlgbbdabDoor
open Go.RowKit
set_option linter.unusedVariables false

def rdogC (m : DogM) : Obj := .cells #[.int .i64 m.closed, .int .i64 m.opn, .int .i64 m.now, .int .i64 m.last, .int .i64 m.kicks, .bool m.reset] 36
def RDogAt (w : World) (d : Nat) (m : DogM) : Prop := w.heap[d]? = some (rdogC m)
theorem rdog_cells {w : World} {d : Nat} {m : DogM} (h : RDogAt w d m) :
    w.cell? ⟨d, 0, none⟩ = some (.int .i64 m.closed) ∧ w.cell? ⟨d, 1, none⟩ = some (.int .i64 m.opn) ∧ w.cell? ⟨d, 2, none⟩ = some (.int .i64 m.now) ∧ w.cell? ⟨d, 3, none⟩ = some (.int .i64 m.last) ∧ w.cell? ⟨d, 4, none⟩ = some (.int .i64 m.kicks) ∧ w.cell? ⟨d, 5, none⟩ = some (.bool m.reset) ∧ ∀ o, w.frozen? ⟨d, o, none⟩ = false := by
  unfold RDogAt rdogC at h
  simp [World.cell?, World.frozen?, h]
theorem RDogAt.keep {S : Nat → Prop} {w w' : World} {d : Nat} {m : DogM} (h : RDogAt w d m) (k : Keep S w w') (hS : ¬ S d) : RDogAt w' d m := k.get h hS
theorem RDogAt.below {w w' : World} {d : Nat} {m : DogM} (h : RDogAt w d m) (b : Below w.heap.size w w') : RDogAt w' d m := h.keep (below_keep b) (fun h => h)
theorem RDogAt.set2 {w : World} {d : Nat} {m : DogM} (h : RDogAt w d m) (x : Int) : RDogAt (w.setCell ⟨d, 2, none⟩ (.int .i64 x)) d { m with now := x } := by
  unfold RDogAt rdogC at h ⊢
  rw [get_setCell _ h]; rfl
theorem RDogAt.set3 {w : World} {d : Nat} {m : DogM} (h : RDogAt w d m) (x : Int) : RDogAt (w.setCell ⟨d, 3, none⟩ (.int .i64 x)) d { m with last := x } := by
  unfold RDogAt rdogC at h ⊢
  rw [get_setCell _ h]; rfl
theorem RDogAt.set4 {w : World} {d : Nat} {m : DogM} (h : RDogAt w d m) (x : Int) : RDogAt (w.setCell ⟨d, 4, none⟩ (.int .i64 x)) d { m with kicks := x } := by
  unfold RDogAt rdogC at h ⊢
  rw [get_setCell _ h]; rfl
theorem RDogAt.set5 {w : World} {d : Nat} {m : DogM} (h : RDogAt w d m) (x : Bool) : RDogAt (w.setCell ⟨d, 5, none⟩ (.bool x)) d { m with reset := x } := by
  unfold RDogAt rdogC at h ⊢
  rw [get_setCell _ h]; rfl
theorem RDogAt.drew {w : World} {d : Nat} {m : DogM} (h : RDogAt w d m) (n : Nat) : RDogAt (w.drewN n) d m := h.keep (keep_drewM (fun _ => False) w n) (fun h => h)
theorem DogAt.drew {w : World} {d : Nat} {m : DogM} (h : DogAt w d m) (n : Nat) : DogAt (w.drewN n) d m := h.keep (keep_drewM (fun _ => False) w n) (fun h => h)
theorem quiet_of_eq {P : Program} {f : FuncId} {args : Array Value} {w : World} {n : Nat} {v : Value}
    (h : Calls P f args (w.drewN n) fun e w' => e = .returned v ∧ w.drewN n = w') : Calls P f args (w.drewN n) fun e w'' => e = .returned v ∧ ∃ m, w'' = w.drewN m :=
  h.mono fun _ _ ⟨he, hm⟩ => ⟨he, n, hm.symm⟩

set_option maxHeartbeats 1000000 in
theorem dogOpen_quiet (d : Nat) (m : DogM) (w : World) (h : DogAt w d m) (ok : DogOk m) :
    Calls Tryd.prog 16 #[.pointer (some ⟨d, 0, none⟩)] w fun e w' => e = .returned (.bool (dogOpen m)) ∧ ∃ q, w' = w.drewN q := by
  obtain ⟨c0, c1, c2, c3, c4, c5, cf⟩ := dog_cells h
  obtain ⟨o1, o2, o3, o4, o5, o6, o7, o8, o9⟩ := ok
  have hw := IntWalk.i64_in (m.now - m.last) (by omega)
  unfold dogOpen
  clear h
  cases hr : m.reset
  · rw [hr] at c4
    by_cases ho : m.closed < m.now - m.last
    · go_enter Tryd.func16, Tryd.ntmps16
      go_wp2_with fail
      go_quiet (fail)
      go_wp2_with fail
      go_ret
      exact ⟨ret_bool (by simp [ho]), _, rfl⟩
    · go_enter Tryd.func16, Tryd.ntmps16
      go_wp2_with fail
      go_quiet (fail)
      go_wp2_with fail
      go_ret
      exact ⟨ret_bool (by simp), _, rfl⟩
  · rw [hr] at c4
    go_enter Tryd.func16, Tryd.ntmps16
    go_wp2_with fail
    go_quiet (fail)
    go_wp2_with fail
    go_ret
    exact ⟨ret_bool (by simp), _, rfl⟩

set_option maxHeartbeats 1000000 in
theorem rOpen_quiet (d : Nat) (m : DogM) (w : World) (h : RDogAt w d m) (ok : DogOk m) :
    Calls Tryd.prog 25 #[.pointer (some ⟨d, 0, none⟩)] w fun e w' => e = .returned (.bool (dogOpen m)) ∧ ∃ q, w' = w.drewN q := by
  obtain ⟨c0, c1, c2, c3, c4, c5, cf⟩ := rdog_cells h
  obtain ⟨o1, o2, o3, o4, o5, o6, o7, o8, o9⟩ := ok
  have hw := IntWalk.i64_in (m.last + m.closed) (by omega)
  unfold dogOpen
  clear h
  cases hr : m.reset
  · rw [hr] at c5
    by_cases ho : m.last + m.closed < m.now
    · go_enter Tryd.func25, Tryd.ntmps25
      go_wp2_with fail
      go_quiet (fail)
      go_wp2_with fail
      go_ret
      exact ⟨ret_bool (by simp; omega), _, rfl⟩
    · go_enter Tryd.func25, Tryd.ntmps25
      go_wp2_with fail
      go_quiet (fail)
      go_wp2_with fail
      go_ret
      exact ⟨ret_bool (by simp; omega), _, rfl⟩
  · rw [hr] at c5
    go_enter Tryd.func25, Tryd.ntmps25
    go_wp2_with fail
    go_quiet (fail)
    go_wp2_with fail
    go_ret
    exact ⟨ret_bool (by simp), _, rfl⟩

set_option maxHeartbeats 1000000 in
theorem rTick_any (d : Nat) (m : DogM) (w : World) (h : RDogAt w d m) (ok : DogOk m) :
    Calls Tryd.prog 24 #[.pointer (some ⟨d, 0, none⟩)] w fun e w' => e = .returned (.int .i64 (dogTickE m : Nat)) ∧ RDogAt w' d (dogTick m) ∧ Keep (· = d) w w' := by
  obtain ⟨c0, c1, c2, c3, c4, c5, cf⟩ := rdog_cells h
  obtain ⟨o1, o2, o3, o4, o5, o6, o7, o8, o9⟩ := ok
  have H := Lib.hid h
  clear h
  unfold dogTickE dogTick
  cases hr : m.reset
  · rw [hr] at c5
    by_cases hn : 1099511627776 ≤ m.now
    · rw [if_neg (by decide), if_pos hn, if_neg (by decide), if_pos hn]
      go_enter Tryd.func24, Tryd.ntmps24
      go_wp2_with fail
      go_ret
      exact ⟨rfl, H.out, Keep.refl _ _⟩
    · rw [if_neg (by decide), if_neg hn, if_neg (by decide), if_neg hn]
      have h1 := H.out.set2 (m.now + 1)
      have k1 := keep_set w d 2 (.int .i64 (m.now + 1))
      have H1 := Lib.hid h1
      have K1 := Lib.hid k1
      clear h1 k1 H
      have hw1 := IntWalk.i64_in (m.last + m.closed) (by omega)
      have hw2 := IntWalk.i64_in (m.last + m.closed + m.opn) (by omega)
      go_enter Tryd.func24, Tryd.ntmps24
      go_wp2_with fail
      generalize World.setCell _ _ _ = w1 at H1 K1 ⊢
      obtain ⟨x0, x1, x2, x3, x4, x5, xf⟩ := rdog_cells H1.out
      clear c0 c1 c2 c3 c4 c5 cf
      simp only at x0 x1 x2 x3 x4 x5
      go_quiet (fail)
      by_cases hx : m.last + m.closed + m.opn < m.now + 1
      · go_wp2_with fail
        go_ret
        rw [decide_eq_true (show m.closed + m.opn < m.now + 1 - m.last by omega)]
        exact ⟨rfl, (H1.out.drew _).set5 _, K1.out.trans ((keep_drewM _ _ _).trans (keep_set _ d 5 _))⟩
      · go_wp2_with fail
        go_ret
        rw [decide_eq_false (show ¬ m.closed + m.opn < m.now + 1 - m.last by omega)]
        have e : ({ m with now := m.now + 1, reset := false } : DogM) = { m with now := m.now + 1 } := by rw [← hr]
        rw [e]
        exact ⟨rfl, H1.out.drew _, K1.out.trans (keep_drewM _ _ _)⟩
  · rw [hr] at c5
    rw [if_pos rfl, if_pos rfl]
    go_enter Tryd.func24, Tryd.ntmps24
    go_wp2_with fail
    go_ret
    exact ⟨rfl, H.out, Keep.refl _ _⟩

set_option maxHeartbeats 1000000 in
theorem rKick_any (d : Nat) (m : DogM) (w : World) (h : RDogAt w d m) (ok : DogOk m) :
    Calls Tryd.prog 23 #[.pointer (some ⟨d, 0, none⟩)] w fun e w' => e = .returned (.int .i64 (dogKickE m : Nat)) ∧ RDogAt w' d (dogKick m) ∧ Keep (· = d) w w' := by
  have H := Lib.hid h
  have OK := Lib.hid ok
  have ok0 := ok.k0
  have ok1 := ok.k1
  clear h ok
  go_enter Tryd.func23, Tryd.ntmps23
  go_wp2_with fail
  refine (rOpen_quiet d m w H.out OK.out).mono ?_
  rintro e w1 ⟨rfl, q, rfl⟩
  have h1 := H.out.drew q
  have k1 : Keep (· = d) w (w.drewN q) := keep_drewM _ _ _
  generalize w.drewN q = w1 at h1 k1 ⊢
  obtain ⟨c0, c1, c2, c3, c4, c5, cf⟩ := rdog_cells h1
  have q1 := Lib.hid (h1.set5 true)
  have q2 := Lib.hid ((h1.set3 m.now).set4 (m.kicks + 1))
  have K1 := Lib.hid k1
  clear h1 k1 H OK
  cases ho : dogOpen m
  · go_wp2_with fail
    go_ret
    rw [dogKickE_no ho, dogKick_no ho]
    exact ⟨rfl, q1.out, K1.out.trans (keep_set w1 d 5 _)⟩
  · go_wp2_with fail
    go_ret
    rw [dogKickE_yes ho, dogKick_yes ho]
    exact ⟨rfl, q2.out, (K1.out.trans (keep_set w1 d 3 _)).trans (keep_set _ d 4 _)⟩
end Go.Proofs.YtpodijlhlgbbdabDoor
