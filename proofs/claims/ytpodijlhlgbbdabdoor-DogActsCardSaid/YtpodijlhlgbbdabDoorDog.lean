/- Package dog. -/
import Derived.Test.YtpodijlhlgbbdabDoorSents
import Derived.IntWalk
namespace Go.Proofs.YtpodijlhlgbbdabDoor
open Go.RowKit
set_option linter.unusedVariables false

structure DogM where
  closed : Int
  opn : Int
  now : Int
  last : Int
  reset : Bool
  kicks : Int
structure DogOk (m : DogM) : Prop where
  c0 : 0 ≤ m.closed
  c1 : m.closed ≤ 1000
  o0 : 1 ≤ m.opn
  o1 : m.opn ≤ 1000
  l0 : 0 ≤ m.last
  ln : m.last ≤ m.now
  n1 : m.now ≤ 1099511627776
  k0 : 0 ≤ m.kicks
  k1 : m.kicks ≤ 1000000
def dogOpen (m : DogM) : Bool := !m.reset && decide (m.closed < m.now - m.last)
def dogTickE (m : DogM) : Nat := if m.reset = true then 11 else if 1099511627776 ≤ m.now then 2 else 0
def dogTick (m : DogM) : DogM := if m.reset = true then m else if 1099511627776 ≤ m.now then m else { m with now := m.now + 1, reset := decide (m.closed + m.opn < m.now + 1 - m.last) }
def dogKickE (m : DogM) : Nat := if dogOpen m = true then 0 else 11
def dogKick (m : DogM) : DogM := if dogOpen m = true then { m with last := m.now, kicks := m.kicks + 1 } else { m with reset := true }
def dogStart (m : DogM) : DogM := { m with reset := false, last := m.now }
theorem dogKickE_no {m : DogM} (h : dogOpen m = false) : dogKickE m = 11 := by simp [dogKickE, h]
theorem dogKickE_yes {m : DogM} (h : dogOpen m = true) : dogKickE m = 0 := by simp [dogKickE, h]
theorem dogKick_no {m : DogM} (h : dogOpen m = false) : dogKick m = { m with reset := true } := by simp [dogKick, h]
theorem dogKick_yes {m : DogM} (h : dogOpen m = true) : dogKick m = { m with last := m.now, kicks := m.kicks + 1 } := by simp [dogKick, h]
theorem dogOk_tick {m : DogM} (h : DogOk m) : DogOk (dogTick m) := by
  unfold dogTick
  split
  · exact h
  · split
    · exact h
    · have := h.ln; have := h.n1
      exact ⟨h.c0, h.c1, h.o0, h.o1, h.l0, by show m.last ≤ m.now + 1; omega, by show m.now + 1 ≤ _; omega, h.k0, h.k1⟩
theorem dogOk_kick {m : DogM} (h : DogOk m) (hk : m.kicks + 1 ≤ 1000000) : DogOk (dogKick m) := by
  unfold dogKick
  have := h.l0; have := h.ln; have := h.k0
  split
  · exact ⟨h.c0, h.c1, h.o0, h.o1, by show 0 ≤ m.now; omega, Int.le_refl _, h.n1, by show 0 ≤ m.kicks + 1; omega, hk⟩
  · exact ⟨h.c0, h.c1, h.o0, h.o1, h.l0, h.ln, h.n1, h.k0, h.k1⟩
theorem dogOk_start {m : DogM} (h : DogOk m) : DogOk (dogStart m) := by
  have := h.l0; have := h.ln
  exact ⟨h.c0, h.c1, h.o0, h.o1, by show 0 ≤ m.now; omega, Int.le_refl _, h.n1, h.k0, h.k1⟩

def dogC (m : DogM) : Obj := .cells #[.int .i64 m.closed, .int .i64 m.opn, .int .i64 m.now, .int .i64 m.last, .bool m.reset, .int .i64 m.kicks] 120
def DogAt (w : World) (d : Nat) (m : DogM) : Prop := w.heap[d]? = some (dogC m)
theorem dog_cells {w : World} {d : Nat} {m : DogM} (h : DogAt w d m) :
    w.cell? ⟨d, 0, none⟩ = some (.int .i64 m.closed) ∧ w.cell? ⟨d, 1, none⟩ = some (.int .i64 m.opn) ∧ w.cell? ⟨d, 2, none⟩ = some (.int .i64 m.now) ∧ w.cell? ⟨d, 3, none⟩ = some (.int .i64 m.last) ∧ w.cell? ⟨d, 4, none⟩ = some (.bool m.reset) ∧ w.cell? ⟨d, 5, none⟩ = some (.int .i64 m.kicks) ∧ ∀ o, w.frozen? ⟨d, o, none⟩ = false := by
  unfold DogAt dogC at h
  simp [World.cell?, World.frozen?, h]
theorem DogAt.keep {S : Nat → Prop} {w w' : World} {d : Nat} {m : DogM} (h : DogAt w d m) (k : Keep S w w') (hS : ¬ S d) : DogAt w' d m := k.get h hS
theorem DogAt.set2 {w : World} {d : Nat} {m : DogM} (h : DogAt w d m) (x : Int) : DogAt (w.setCell ⟨d, 2, none⟩ (.int .i64 x)) d { m with now := x } := by
  unfold DogAt dogC at h ⊢
  rw [get_setCell _ h]; rfl
theorem DogAt.set3 {w : World} {d : Nat} {m : DogM} (h : DogAt w d m) (x : Int) : DogAt (w.setCell ⟨d, 3, none⟩ (.int .i64 x)) d { m with last := x } := by
  unfold DogAt dogC at h ⊢
  rw [get_setCell _ h]; rfl
theorem DogAt.set4 {w : World} {d : Nat} {m : DogM} (h : DogAt w d m) (x : Bool) : DogAt (w.setCell ⟨d, 4, none⟩ (.bool x)) d { m with reset := x } := by
  unfold DogAt dogC at h ⊢
  rw [get_setCell _ h]; rfl
theorem DogAt.set5 {w : World} {d : Nat} {m : DogM} (h : DogAt w d m) (x : Int) : DogAt (w.setCell ⟨d, 5, none⟩ (.int .i64 x)) d { m with kicks := x } := by
  unfold DogAt dogC at h ⊢
  rw [get_setCell _ h]; rfl
theorem keep_drewM (S : Nat → Prop) (w : World) (q : Nat) : Keep S w (w.drewN q) := (below_keep (below_drewN' q (Below.refl w.heap.size w))).mono (fun _ _ h => h.elim)

theorem dogNew_in (c o : Int) (w : World) (h0 : 0 ≤ c) (h1 : c ≤ 1000) (h2 : 1 ≤ o) (h3 : o ≤ 1000) :
    Calls Tryd.prog 15 #[.int .i64 c, .int .i64 o] w fun e w' => e = .returned (.tuple #[.pointer (some ⟨w.heap.size, 0, none⟩), .nilIface]) ∧ DogAt w' w.heap.size ⟨c, o, 0, 0, false, 0⟩ ∧ Below w.heap.size w w' := by
  have n1 := Lib.hid (get_alloc_new w (dogC ⟨c, o, 0, 0, false, 0⟩))
  have b1 := Lib.hid ((Below.refl w.heap.size w).alloc (Nat.le_refl _) (dogC ⟨c, o, 0, 0, false, 0⟩))
  go_enter Tryd.func15, Tryd.ntmps15
  go_wp2_with fail
  refine bodyPost_ret (results_tmp2 rfl _ _ _) rfl ?_
  exact ⟨rfl, n1.out, b1.out⟩
theorem dogNew_out (B : Nat) (sa : Nat → Addr) (c o : Int) (w : World) (hS : Sents B sa w) (h : c < 0 ∨ 1000 < c ∨ o < 1 ∨ 1000 < o) :
    Calls Tryd.prog 15 #[.int .i64 c, .int .i64 o] w fun e w' => e = .returned (.tuple #[.pointer none, errv sa 2]) ∧ Below w.heap.size w w' := by
  obtain ⟨g0, g1, g2, g3, g4, g5, g6, g7, g8, g9, g10⟩ := hS.all
  clear hS g0 g2 g3 g4 g5 g6 g7 g8 g9 g10
  by_cases h1 : c < 0
  · clear h
    go_enter Tryd.func15, Tryd.ntmps15
    go_wp2_with fail
    go_quiet (fail)
    go_wp2_with fail
    go_ret2
    exact ⟨rfl, below_drewN' _ (Below.refl _ _)⟩
  by_cases h2 : 1000 < c
  · clear h
    go_enter Tryd.func15, Tryd.ntmps15
    go_wp2_with fail
    go_quiet (fail)
    go_wp2_with fail
    go_ret2
    exact ⟨rfl, below_drewN' _ (Below.refl _ _)⟩
  by_cases h3 : o < 1
  · clear h
    go_enter Tryd.func15, Tryd.ntmps15
    go_wp2_with fail
    go_quiet (fail)
    go_wp2_with fail
    go_ret2
    exact ⟨rfl, below_drewN' _ (Below.refl _ _)⟩
  · have h4 : 1000 < o := by omega
    clear h
    go_enter Tryd.func15, Tryd.ntmps15
    go_wp2_with fail
    go_quiet (fail)
    go_wp2_with fail
    go_ret2
    exact ⟨rfl, below_drewN' _ (Below.refl _ _)⟩

set_option maxHeartbeats 1000000 in
theorem dogOpen_any (d : Nat) (m : DogM) (w : World) (h : DogAt w d m) (ok : DogOk m) :
    Calls Tryd.prog 16 #[.pointer (some ⟨d, 0, none⟩)] w fun e w' => e = .returned (.bool (dogOpen m)) ∧ Keep (fun _ => False) w w' := by
  obtain ⟨c0, c1, c2, c3, c4, c5, cf⟩ := dog_cells h
  obtain ⟨o1, o2, o3, o4, o5, o6, o7, o8, o9⟩ := ok
  have hw := IntWalk.i64_in (m.now - m.last) (by omega)
  unfold dogOpen
  clear h
  cases hr : m.reset
  · rw [hr] at c4
    by_cases ho : m.closed < m.now - m.last
    · go_enter Tryd.func16, Tryd.ntmps16
      go_wp2_with fail
      go_quiet (fail)
      go_wp2_with fail
      go_ret
      exact ⟨ret_bool (by simp [ho]), keep_drewM _ _ _⟩
    · go_enter Tryd.func16, Tryd.ntmps16
      go_wp2_with fail
      go_quiet (fail)
      go_wp2_with fail
      go_ret
      exact ⟨ret_bool (by simp), keep_drewM _ _ _⟩
  · rw [hr] at c4
    go_enter Tryd.func16, Tryd.ntmps16
    go_wp2_with fail
    go_quiet (fail)
    go_wp2_with fail
    go_ret
    exact ⟨ret_bool (by simp), keep_drewM _ _ _⟩

set_option maxHeartbeats 1000000 in
theorem dogTick_any (B : Nat) (sa : Nat → Addr) (d : Nat) (m : DogM) (w : World) (h : DogAt w d m) (ok : DogOk m) (hS : Sents B sa w) :
    Calls Tryd.prog 17 #[.pointer (some ⟨d, 0, none⟩)] w fun e w' => e = .returned (errv sa (dogTickE m)) ∧ DogAt w' d (dogTick m) ∧ Keep (· = d) w w' := by
  obtain ⟨c0, c1, c2, c3, c4, c5, cf⟩ := dog_cells h
  obtain ⟨g0, g1, g2, g3, g4, g5, g6, g7, g8, g9, g10⟩ := hS.all
  obtain ⟨o1, o2, o3, o4, o5, o6, o7, o8, o9⟩ := ok
  have H := Lib.hid h
  clear h hS g0 g2 g3 g4 g5 g6 g7 g8 g9
  unfold dogTickE dogTick
  cases hr : m.reset
  · rw [hr] at c4
    by_cases hn : 1099511627776 ≤ m.now
    · rw [if_neg (by decide), if_pos hn, if_neg (by decide), if_pos hn]
      go_enter Tryd.func17, Tryd.ntmps17
      go_wp2_with fail
      go_ret
      exact ⟨rfl, H.out, Keep.refl _ _⟩
    · rw [if_neg (by decide), if_neg hn, if_neg (by decide), if_neg hn]
      have h1 := H.out.set2 (m.now + 1)
      have k1 := keep_set w d 2 (.int .i64 (m.now + 1))
      have H1 := Lib.hid h1
      have K1 := Lib.hid k1
      clear h1 k1 H
      have hw1 := IntWalk.i64_in (m.now + 1 - m.last) (by omega)
      have hw2 := IntWalk.i64_in (m.closed + m.opn) (by omega)
      go_enter Tryd.func17, Tryd.ntmps17
      go_wp2_with fail
      generalize World.setCell _ _ _ = w1 at H1 K1 ⊢
      obtain ⟨x0, x1, x2, x3, x4, x5, xf⟩ := dog_cells H1.out
      clear c0 c1 c2 c3 c4 c5 cf
      simp only at x0 x1 x2 x3 x4 x5
      go_region
      all_goals
        go_wp2_with fail
        go_ret
        exact ⟨rfl, H1.out.set4 _, (K1.out.trans (keep_set w1 d 4 _)).drew⟩
  · rw [hr] at c4
    rw [if_pos rfl, if_pos rfl]
    go_enter Tryd.func17, Tryd.ntmps17
    go_wp2_with fail
    go_ret
    exact ⟨rfl, H.out, Keep.refl _ _⟩

set_option maxHeartbeats 1000000 in
theorem dogKick_any (B : Nat) (sa : Nat → Addr) (d : Nat) (m : DogM) (w : World) (h : DogAt w d m) (ok : DogOk m) (hS : Sents B sa w) (hd : B ≤ d) :
    Calls Tryd.prog 19 #[.pointer (some ⟨d, 0, none⟩)] w fun e w' => e = .returned (errv sa (dogKickE m)) ∧ DogAt w' d (dogKick m) ∧ Keep (· = d) w w' := by
  have H := Lib.hid h
  have HS := Lib.hid hS
  have OK := Lib.hid ok
  have ok0 := ok.k0
  have ok1 := ok.k1
  clear h hS ok
  go_enter Tryd.func19, Tryd.ntmps19
  go_wp2_with fail
  refine (dogOpen_any d m w H.out OK.out).mono ?_
  rintro e w1 ⟨rfl, k1⟩
  have h1 := H.out.keep k1 (fun h => h)
  have s1 := HS.out.keep k1 (fun _ h => h.elim)
  obtain ⟨c0, c1, c2, c3, c4, c5, cf⟩ := dog_cells h1
  obtain ⟨g0, g1, g2, g3, g4, g5, g6, g7, g8, g9, g10⟩ := s1.all
  have hlt := HS.out.nb.1 10 (by decide)
  have q1 := Lib.hid (h1.set4 true)
  have q2 := Lib.hid ((h1.set3 m.now).set5 (m.kicks + 1))
  have K1 : Hid (Keep (· = d) w w1) := k1.mono (fun _ _ h => h.elim)
  have gk : (w1.setCell ⟨d, 4, none⟩ (.bool true)).cell? ⟨1, 0, none⟩ = some (.iface 285 (.pointer (some (sa 10)))) := by
    rw [(keep_set w1 d 4 (.bool true)).cell (p := ⟨1, 0, none⟩) (World.block_lt_of_cell? _ ⟨1, 0, none⟩ g10) (fun hb => by have : 1 = d := hb; have : 1 < B := hlt; omega)]
    exact g10
  clear h1 s1 g0 g1 g2 g3 g4 g5 g6 g7 g8 g9 k1 H HS OK
  cases ho : dogOpen m
  · go_wp2_with fail
    go_ret
    rw [dogKickE_no ho, dogKick_no ho]
    exact ⟨rfl, q1.out, K1.out.trans (keep_set w1 d 4 _)⟩
  · go_wp2_with fail
    go_ret
    rw [dogKickE_yes ho, dogKick_yes ho]
    exact ⟨rfl, q2.out, (K1.out.trans (keep_set w1 d 3 _)).trans (keep_set _ d 5 _)⟩

theorem dogReset_any (d : Nat) (m : DogM) (w : World) (h : DogAt w d m) : Calls Tryd.prog 18 #[.pointer (some ⟨d, 0, none⟩)] w fun e w' => e = .returned (.bool m.reset) ∧ w = w' := by
  obtain ⟨c0, c1, c2, c3, c4, c5, cf⟩ := dog_cells h
  clear h
  go_enter Tryd.func18, Tryd.ntmps18
  go_wp2_with fail
  go_ret
  exact ⟨rfl, rfl⟩
theorem dogNow_any (d : Nat) (m : DogM) (w : World) (h : DogAt w d m) : Calls Tryd.prog 26 #[.pointer (some ⟨d, 0, none⟩)] w fun e w' => e = .returned (.int .i64 m.now) ∧ w = w' := by
  obtain ⟨c0, c1, c2, c3, c4, c5, cf⟩ := dog_cells h
  clear h
  go_enter Tryd.func26, Tryd.ntmps26
  go_wp2_with fail
  go_ret
  exact ⟨rfl, rfl⟩
theorem dogKicks_any (d : Nat) (m : DogM) (w : World) (h : DogAt w d m) : Calls Tryd.prog 20 #[.pointer (some ⟨d, 0, none⟩)] w fun e w' => e = .returned (.int .i64 m.kicks) ∧ w = w' := by
  obtain ⟨c0, c1, c2, c3, c4, c5, cf⟩ := dog_cells h
  clear h
  go_enter Tryd.func20, Tryd.ntmps20
  go_wp2_with fail
  go_ret
  exact ⟨rfl, rfl⟩
set_option maxHeartbeats 1000000 in
theorem dogStart_any (d : Nat) (m : DogM) (w : World) (h : DogAt w d m) : Calls Tryd.prog 22 #[.pointer (some ⟨d, 0, none⟩)] w fun e w' => e = .returned (.tuple #[]) ∧ DogAt w' d (dogStart m) ∧ Keep (· = d) w w' := by
  obtain ⟨c0, c1, c2, c3, c4, c5, cf⟩ := dog_cells h
  have H := Lib.hid h
  clear h
  unfold dogStart
  go_enter Tryd.func22, Tryd.ntmps22
  go_wp2_with fail
  first | (go_end0; exact ⟨rfl, (H.out.set4 false).set3 m.now, (keep_set w d 4 _).trans (keep_set _ d 3 _)⟩) | (go_region; all_goals (go_end0; first | exact ⟨rfl, (H.out.set4 false).set3 m.now, (keep_set w d 4 _).trans (keep_set _ d 3 _)⟩ | exact ⟨rfl, (H.out.set3 m.now).set4 false, (keep_set w d 3 _).trans (keep_set _ d 4 _)⟩))
end Go.Proofs.YtpodijlhlgbbdabDoor
