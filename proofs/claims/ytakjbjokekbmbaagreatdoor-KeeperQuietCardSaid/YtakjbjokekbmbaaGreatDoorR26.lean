/- Package dog. -/
import Derived.Test.YtakjbjokekbmbaaGreatDoorR03
import Derived.Test.YtakjbjokekbmbaaGreatDoorR25
import Derived.IntWalk
import Derived.Test.YtakjbjokekbmbaaGreatDoorR10
import Derived.Test.YtakjbjokekbmbaaGreatDoorR15
import Derived.BigQuiet
namespace Go.Proofs.YtakjbjokekbmbaaGreatDoor
open Go.RowKit
set_option linter.unusedVariables false

structure DogM where
  closed : Int
  opn : Int
  now : Int
  last : Int
  reset : Bool
  kicks : Int
structure DogOk (m : DogM) : Prop where
  c0 : 0 ≤ m.closed
  c1 : m.closed ≤ 1000
  o0 : 1 ≤ m.opn
  o1 : m.opn ≤ 1000
  l0 : 0 ≤ m.last
  ln : m.last ≤ m.now
  n1 : m.now ≤ 1099511627776
  k0 : 0 ≤ m.kicks
  k1 : m.kicks ≤ 1000000
def dogOpen (m : DogM) : Bool := !m.reset && decide (m.closed < m.now - m.last)
def dogTickE (m : DogM) : Nat := if m.reset = true then 11 else if 1099511627776 ≤ m.now then 2 else 0
def dogTick (m : DogM) : DogM := if m.reset = true then m else if 1099511627776 ≤ m.now then m else { m with now := m.now + 1, reset := decide (m.closed + m.opn < m.now + 1 - m.last) }
def dogKickE (m : DogM) : Nat := if dogOpen m = true then 0 else 11
def dogKick (m : DogM) : DogM := if dogOpen m = true then { m with last := m.now, kicks := m.kicks + 1 } else { m with reset := true }
def dogStart (m : DogM) : DogM := { m with reset := false, last := m.now }
theorem dogKickE_no {m : DogM} (h : dogOpen m = false) : dogKickE m = 11 := by simp [dogKickE, h]
theorem dogKickE_yes {m : DogM} (h : dogOpen m = true) : dogKickE m = 0 := by simp [dogKickE, h]
theorem dogKick_no {m : DogM} (h : dogOpen m = false) : dogKick m = { m with reset := true } := by simp [dogKick, h]
theorem dogKick_yes {m : DogM} (h : dogOpen m = true) : dogKick m = { m with last := m.now, kicks := m.kicks + 1 } := by simp [dogKick, h]
theorem dogOk_tick {m : DogM} (h : DogOk m) : DogOk (dogTick m) := by
  unfold dogTick
  split
  · exact h
  · split
    · exact h
    · have := h.ln; have := h.n1
      exact ⟨h.c0, h.c1, h.o0, h.o1, h.l0, by show m.last ≤ m.now + 1; omega, by show m.now + 1 ≤ _; omega, h.k0, h.k1⟩
theorem dogOk_kick {m : DogM} (h : DogOk m) (hk : m.kicks + 1 ≤ 1000000) : DogOk (dogKick m) := by
  unfold dogKick
  have := h.l0; have := h.ln; have := h.k0
  split
  · exact ⟨h.c0, h.c1, h.o0, h.o1, by show 0 ≤ m.now; omega, Int.le_refl _, h.n1, by show 0 ≤ m.kicks + 1; omega, hk⟩
  · exact ⟨h.c0, h.c1, h.o0, h.o1, h.l0, h.ln, h.n1, h.k0, h.k1⟩
theorem dogOk_start {m : DogM} (h : DogOk m) : DogOk (dogStart m) := by
  have := h.l0; have := h.ln
  exact ⟨h.c0, h.c1, h.o0, h.o1, by show 0 ≤ m.now; omega, Int.le_refl _, h.n1, h.k0, h.k1⟩

def dogC (m : DogM) : Obj := .cells #[.int .i64 m.closed, .int .i64 m.opn, .int .i64 m.now, .int .i64 m.last, .bool m.reset, .int .i64 m.kicks] 81
def DogAt (w : World) (d : Nat) (m : DogM) : Prop := w.heap[d]? = some (dogC m)
theorem dog_cells {w : World} {d : Nat} {m : DogM} (h : DogAt w d m) :
    w.cell? ⟨d, 0, none⟩ = some (.int .i64 m.closed) ∧ w.cell? ⟨d, 1, none⟩ = some (.int .i64 m.opn) ∧ w.cell? ⟨d, 2, none⟩ = some (.int .i64 m.now) ∧ w.cell? ⟨d, 3, none⟩ = some (.int .i64 m.last) ∧ w.cell? ⟨d, 4, none⟩ = some (.bool m.reset) ∧ w.cell? ⟨d, 5, none⟩ = some (.int .i64 m.kicks) ∧ ∀ o, w.frozen? ⟨d, o, none⟩ = false := by
  unfold DogAt dogC at h
  simp [World.cell?, World.frozen?, h]
theorem DogAt.keep {S : Nat → Prop} {w w' : World} {d : Nat} {m : DogM} (h : DogAt w d m) (k : Keep S w w') (hS : ¬ S d) : DogAt w' d m := k.get h hS
theorem DogAt.set2 {w : World} {d : Nat} {m : DogM} (h : DogAt w d m) (x : Int) : DogAt (w.setCell ⟨d, 2, none⟩ (.int .i64 x)) d { m with now := x } := by
  unfold DogAt dogC at h ⊢
  rw [get_setCell _ h]; rfl
theorem DogAt.set3 {w : World} {d : Nat} {m : DogM} (h : DogAt w d m) (x : Int) : DogAt (w.setCell ⟨d, 3, none⟩ (.int .i64 x)) d { m with last := x } := by
  unfold DogAt dogC at h ⊢
  rw [get_setCell _ h]; rfl
theorem DogAt.set4 {w : World} {d : Nat} {m : DogM} (h : DogAt w d m) (x : Bool) : DogAt (w.setCell ⟨d, 4, none⟩ (.bool x)) d { m with reset := x } := by
  unfold DogAt dogC at h ⊢
  rw [get_setCell _ h]; rfl
theorem DogAt.set5 {w : World} {d : Nat} {m : DogM} (h : DogAt w d m) (x : Int) : DogAt (w.setCell ⟨d, 5, none⟩ (.int .i64 x)) d { m with kicks := x } := by
  unfold DogAt dogC at h ⊢
  rw [get_setCell _ h]; rfl
theorem keep_drewD (S : Nat → Prop) (w : World) (q : Nat) : Keep S w (w.drewN q) := (below_keep (below_drewN' q (Below.refl w.heap.size w))).mono (fun _ _ h => h.elim)

theorem dogNew_in (c o : Int) (w : World) (h0 : 0 ≤ c) (h1 : c ≤ 1000) (h2 : 1 ≤ o) (h3 : o ≤ 1000) :
    Calls Tryz.prog 49 #[.int .i64 c, .int .i64 o] w fun e w' => e = .returned (.tuple #[.pointer (some ⟨w.heap.size, 0, none⟩), .nilIface]) ∧ DogAt w' w.heap.size ⟨c, o, 0, 0, false, 0⟩ ∧ Below w.heap.size w w' := by
  have n1 := Lib.hid (get_alloc_new w (dogC ⟨c, o, 0, 0, false, 0⟩))
  have b1 := Lib.hid ((Below.refl w.heap.size w).alloc (Nat.le_refl _) (dogC ⟨c, o, 0, 0, false, 0⟩))
  go_enter Tryz.func49, Tryz.ntmps49
  go_wp2_with fail
  refine bodyPost_ret (results_tmp2 rfl _ _ _) rfl ?_
  exact ⟨rfl, n1.out, b1.out⟩
theorem dogNew_out (B : Nat) (sa : Nat → Addr) (c o : Int) (w : World) (hS : SentsK B sa w) (h : c < 0 ∨ 1000 < c ∨ o < 1 ∨ 1000 < o) :
    Calls Tryz.prog 49 #[.int .i64 c, .int .i64 o] w fun e w' => e = .returned (.tuple #[.pointer none, errv sa 2]) ∧ Below w.heap.size w w' := by
  obtain ⟨g0, g1, g2, g3, g4, g5, g6, g7, g8, g9, g10⟩ := hS.all
  clear hS g0 g2 g3 g4 g5 g6 g7 g8 g9 g10
  by_cases h1 : c < 0
  · clear h
    go_enter Tryz.func49, Tryz.ntmps49
    go_wp2_with fail
    go_quiet (fail)
    go_wp2_with fail
    go_ret2
    exact ⟨rfl, below_drewN' _ (Below.refl _ _)⟩
  by_cases h2 : 1000 < c
  · clear h
    go_enter Tryz.func49, Tryz.ntmps49
    go_wp2_with fail
    go_quiet (fail)
    go_wp2_with fail
    go_ret2
    exact ⟨rfl, below_drewN' _ (Below.refl _ _)⟩
  by_cases h3 : o < 1
  · clear h
    go_enter Tryz.func49, Tryz.ntmps49
    go_wp2_with fail
    go_quiet (fail)
    go_wp2_with fail
    go_ret2
    exact ⟨rfl, below_drewN' _ (Below.refl _ _)⟩
  · have h4 : 1000 < o := by omega
    clear h
    go_enter Tryz.func49, Tryz.ntmps49
    go_wp2_with fail
    go_quiet (fail)
    go_wp2_with fail
    go_ret2
    exact ⟨rfl, below_drewN' _ (Below.refl _ _)⟩

set_option maxHeartbeats 1000000 in
theorem dogOpen_any (d : Nat) (m : DogM) (w : World) (h : DogAt w d m) (ok : DogOk m) :
    Calls Tryz.prog 67 #[.pointer (some ⟨d, 0, none⟩)] w fun e w' => e = .returned (.bool (dogOpen m)) ∧ Keep (fun _ => False) w w' := by
  obtain ⟨c0, c1, c2, c3, c4, c5, cf⟩ := dog_cells h
  obtain ⟨o1, o2, o3, o4, o5, o6, o7, o8, o9⟩ := ok
  have hw := IntWalk.i64_in (m.now - m.last) (by omega)
  unfold dogOpen
  clear h
  cases hr : m.reset
  · rw [hr] at c4
    by_cases ho : m.closed < m.now - m.last
    · go_enter Tryz.func67, Tryz.ntmps67
      go_wp2_with fail
      go_quiet (fail)
      go_wp2_with fail
      go_ret
      exact ⟨ret_bool (by simp [ho]), keep_drewD _ _ _⟩
    · go_enter Tryz.func67, Tryz.ntmps67
      go_wp2_with fail
      go_quiet (fail)
      go_wp2_with fail
      go_ret
      exact ⟨ret_bool (by simp), keep_drewD _ _ _⟩
  · rw [hr] at c4
    go_enter Tryz.func67, Tryz.ntmps67
    go_wp2_with fail
    go_quiet (fail)
    go_wp2_with fail
    go_ret
    exact ⟨ret_bool (by simp), keep_drewD _ _ _⟩

set_option maxHeartbeats 1000000 in
theorem dogTick_any (B : Nat) (sa : Nat → Addr) (d : Nat) (m : DogM) (w : World) (h : DogAt w d m) (ok : DogOk m) (hS : SentsK B sa w) :
    Calls Tryz.prog 40 #[.pointer (some ⟨d, 0, none⟩)] w fun e w' => e = .returned (errv sa (dogTickE m)) ∧ DogAt w' d (dogTick m) ∧ Keep (· = d) w w' := by
  obtain ⟨c0, c1, c2, c3, c4, c5, cf⟩ := dog_cells h
  obtain ⟨g0, g1, g2, g3, g4, g5, g6, g7, g8, g9, g10⟩ := hS.all
  obtain ⟨o1, o2, o3, o4, o5, o6, o7, o8, o9⟩ := ok
  have H := Lib.hid h
  clear h hS g0 g2 g3 g4 g5 g6 g7 g8 g9
  unfold dogTickE dogTick
  cases hr : m.reset
  · rw [hr] at c4
    by_cases hn : 1099511627776 ≤ m.now
    · rw [if_neg (by decide), if_pos hn, if_neg (by decide), if_pos hn]
      go_enter Tryz.func40, Tryz.ntmps40
      go_wp2_with fail
      go_ret
      exact ⟨rfl, H.out, Keep.refl _ _⟩
    · rw [if_neg (by decide), if_neg hn, if_neg (by decide), if_neg hn]
      have h1 := H.out.set2 (m.now + 1)
      have k1 := keep_set w d 2 (.int .i64 (m.now + 1))
      have H1 := Lib.hid h1
      have K1 := Lib.hid k1
      clear h1 k1 H
      have hw1 := IntWalk.i64_in (m.now + 1 - m.last) (by omega)
      have hw2 := IntWalk.i64_in (m.closed + m.opn) (by omega)
      go_enter Tryz.func40, Tryz.ntmps40
      go_wp2_with fail
      generalize World.setCell _ _ _ = w1 at H1 K1 ⊢
      obtain ⟨x0, x1, x2, x3, x4, x5, xf⟩ := dog_cells H1.out
      clear c0 c1 c2 c3 c4 c5 cf
      simp only at x0 x1 x2 x3 x4 x5
      go_region
      all_goals
        go_wp2_with fail
        go_ret
        exact ⟨rfl, H1.out.set4 _, (K1.out.trans (keep_set w1 d 4 _)).drew⟩
  · rw [hr] at c4
    rw [if_pos rfl, if_pos rfl]
    go_enter Tryz.func40, Tryz.ntmps40
    go_wp2_with fail
    go_ret
    exact ⟨rfl, H.out, Keep.refl _ _⟩

set_option maxHeartbeats 1000000 in
theorem dogKick_any (B : Nat) (sa : Nat → Addr) (d : Nat) (m : DogM) (w : World) (h : DogAt w d m) (ok : DogOk m) (hS : SentsK B sa w) (hd : B ≤ d) :
    Calls Tryz.prog 68 #[.pointer (some ⟨d, 0, none⟩)] w fun e w' => e = .returned (errv sa (dogKickE m)) ∧ DogAt w' d (dogKick m) ∧ Keep (· = d) w w' := by
  have H := Lib.hid h
  have HS := Lib.hid hS
  have OK := Lib.hid ok
  have ok0 := ok.k0
  have ok1 := ok.k1
  clear h hS ok
  go_enter Tryz.func68, Tryz.ntmps68
  go_wp2_with fail
  refine (dogOpen_any d m w H.out OK.out).mono ?_
  rintro e w1 ⟨rfl, k1⟩
  have h1 := H.out.keep k1 (fun h => h)
  have s1 := HS.out.keep k1 (fun _ h => h.elim)
  obtain ⟨c0, c1, c2, c3, c4, c5, cf⟩ := dog_cells h1
  obtain ⟨g0, g1, g2, g3, g4, g5, g6, g7, g8, g9, g10⟩ := s1.all
  have hlt := HS.out.nb 10 (by decide)
  have q1 := Lib.hid (h1.set4 true)
  have q2 := Lib.hid ((h1.set3 m.now).set5 (m.kicks + 1))
  have K1 : Hid (Keep (· = d) w w1) := k1.mono (fun _ _ h => h.elim)
  have gk : (w1.setCell ⟨d, 4, none⟩ (.bool true)).cell? ⟨0, 0, none⟩ = some (.iface 299 (.pointer (some (sa 10)))) := by
    rw [(keep_set w1 d 4 (.bool true)).cell (p := ⟨0, 0, none⟩) (World.block_lt_of_cell? _ ⟨0, 0, none⟩ g10) (fun hb => by have : 0 = d := hb; have : 0 < B := hlt; omega)]
    exact g10
  clear h1 s1 g0 g1 g2 g3 g4 g5 g6 g7 g8 g9 k1 H HS OK
  cases ho : dogOpen m
  · go_wp2_with fail
    go_ret
    rw [dogKickE_no ho, dogKick_no ho]
    exact ⟨rfl, q1.out, K1.out.trans (keep_set w1 d 4 _)⟩
  · go_wp2_with fail
    go_ret
    rw [dogKickE_yes ho, dogKick_yes ho]
    exact ⟨rfl, q2.out, (K1.out.trans (keep_set w1 d 3 _)).trans (keep_set _ d 5 _)⟩

theorem dogReset_any (d : Nat) (m : DogM) (w : World) (h : DogAt w d m) : Calls Tryz.prog 36 #[.pointer (some ⟨d, 0, none⟩)] w fun e w' => e = .returned (.bool m.reset) ∧ w = w' := by
  obtain ⟨c0, c1, c2, c3, c4, c5, cf⟩ := dog_cells h
  clear h
  go_enter Tryz.func36, Tryz.ntmps36
  go_wp2_with fail
  go_ret
  exact ⟨rfl, rfl⟩
theorem dogNow_any (d : Nat) (m : DogM) (w : World) (h : DogAt w d m) : Calls Tryz.prog 17 #[.pointer (some ⟨d, 0, none⟩)] w fun e w' => e = .returned (.int .i64 m.now) ∧ w = w' := by
  obtain ⟨c0, c1, c2, c3, c4, c5, cf⟩ := dog_cells h
  clear h
  go_enter Tryz.func17, Tryz.ntmps17
  go_wp2_with fail
  go_ret
  exact ⟨rfl, rfl⟩
theorem dogKicks_any (d : Nat) (m : DogM) (w : World) (h : DogAt w d m) : Calls Tryz.prog 18 #[.pointer (some ⟨d, 0, none⟩)] w fun e w' => e = .returned (.int .i64 m.kicks) ∧ w = w' := by
  obtain ⟨c0, c1, c2, c3, c4, c5, cf⟩ := dog_cells h
  clear h
  go_enter Tryz.func18, Tryz.ntmps18
  go_wp2_with fail
  go_ret
  exact ⟨rfl, rfl⟩
set_option maxHeartbeats 1000000 in
theorem dogStart_any (d : Nat) (m : DogM) (w : World) (h : DogAt w d m) : Calls Tryz.prog 45 #[.pointer (some ⟨d, 0, none⟩)] w fun e w' => e = .returned (.tuple #[]) ∧ DogAt w' d (dogStart m) ∧ Keep (· = d) w w' := by
  obtain ⟨c0, c1, c2, c3, c4, c5, cf⟩ := dog_cells h
  have H := Lib.hid h
  clear h
  unfold dogStart
  go_enter Tryz.func45, Tryz.ntmps45
  go_wp2_with fail
  first | (go_end0; exact ⟨rfl, (H.out.set4 false).set3 m.now, (keep_set w d 4 _).trans (keep_set _ d 3 _)⟩) | (go_region; all_goals (go_end0; first | exact ⟨rfl, (H.out.set4 false).set3 m.now, (keep_set w d 4 _).trans (keep_set _ d 3 _)⟩ | exact ⟨rfl, (H.out.set3 m.now).set4 false, (keep_set w d 3 _).trans (keep_set _ d 4 _)⟩))
end Go.Proofs.YtakjbjokekbmbaaGreatDoor

/- Package keeper, plain: what a watch holds, and what its calls make of it. -/
namespace Go.Proofs.YtakjbjokekbmbaaGreatDoor
open Go.RowKit
set_option linter.unusedVariables false

structure KpM where
  C : ConfV
  D : DogM
  m : CM
  L : List RecV
  dead : Bool
  A : List (Option LocM)
  sn : Int
  st : St

def kpE0 : EntV := ⟨ByteArray.empty, 0, [], 0, 0, 0, [], [], [], []⟩
def kpEnt (M : KpM) (j : Nat) : EntV := M.C.ents.getD j kpE0
def kpGet (M : KpM) (j : Nat) : Option LocM := M.A.getD j none
def kpSet (M : KpM) (j : Nat) (a : Option LocM) : KpM := { M with A := M.A.set j a }
/-- Is all there? -/
def kpOn (M : KpM) : Nat := if M.m.off = true then 8 else if M.D.reset = true then 11 else 0
def kpAsk (M : KpM) (i : Int) : Nat := if kpOn M ≠ 0 then kpOn M else if i < 0 ∨ (M.A.length : Int) ≤ i then 5 else 0
def kpBegin (M : KpM) (i : Int) : Nat × KpM := if kpAsk M i ≠ 0 then (kpAsk M i, M) else match kpGet M i.toNat with
  | none => (0, kpSet M i.toNat (some (locBegin (kpEnt M i.toNat))))
  | some _ => (10, M)
def kpStop (M : KpM) (i : Int) : Nat × KpM := if kpAsk M i ≠ 0 then (kpAsk M i, M) else match kpGet M i.toNat with
  | none => (9, M)
  | some _ => (0, kpSet M i.toNat none)
def kpReport (M : KpM) (i p : Int) : Nat × KpM := if kpAsk M i ≠ 0 then (kpAsk M i, M) else match kpGet M i.toNat with
  | none => (9, M)
  | some a => if p < 0 ∨ ((kpEnt M i.toNat).points.length : Int) ≤ p then (5, M) else (0, kpSet M i.toNat (some (locReport (kpEnt M i.toNat) a p M.D.now)))

def idleS : ByteArray := ⟨#[105, 100, 108, 101]⟩
def kpStat : Option LocM → ByteArray
  | none => idleS
  | some a => locStatus a
/-- One entity's end of a cycle. -/
def kpEnd1 (M : KpM) (j : Nat) : Nat × KpM := match kpGet M j with
  | none => (0, M)
  | some a => if locNow (kpEnt M j) a = true then
      ((ringApp M.m M.L M.dead j (locKind (kpEnt M j) a) M.D.now).1, { kpSet M j (some (locEnd (kpEnt M j) a)) with m := (ringApp M.m M.L M.dead j (locKind (kpEnt M j) a) M.D.now).2.2.1, L := (ringApp M.m M.L M.dead j (locKind (kpEnt M j) a) M.D.now).2.2.2.1, dead := (ringApp M.m M.L M.dead j (locKind (kpEnt M j) a) M.D.now).2.2.2.2 })
    else (0, kpSet M j (some (locEnd (kpEnt M j) a)))
def kpEndN (M : KpM) : Nat → Nat × KpM
  | 0 => (0, M)
  | j + 1 => if (kpEndN M j).1 ≠ 0 then kpEndN M j else kpEnd1 (kpEndN M j).2 j
/-- All of them told; a kick where there may be one. -/
def kpTot (M : KpM) : KpM := { M with sn := (St.next M.C.delay M.sn M.st (M.A.map kpStat)).1, st := (St.next M.C.delay M.sn M.st (M.A.map kpStat)).2 }
def kpKick (M : KpM) : KpM := if M.st ≠ .stopped ∧ dogOpen M.D = true then { M with D := dogKick M.D } else M
def kpEnd (M : KpM) : Nat × KpM := if (kpEndN M M.A.length).1 ≠ 0 then kpEndN M M.A.length else (0, kpKick (kpTot (kpEndN M M.A.length).2))
def kpDog (M : KpM) : KpM := { M with D := dogTick M.D }
def kpTick (M : KpM) : Nat × KpM := if kpOn M ≠ 0 then (kpOn M, M) else if dogTickE M.D ≠ 0 then (dogTickE M.D, kpDog M) else if (dogTick M.D).reset = true then (11, kpDog M)
  else if (dogTick M.D).now % M.C.cycle = 0 then kpEnd (kpDog M) else (0, kpDog M)
def kpTicks (M : KpM) : Nat → Nat × KpM
  | 0 => (0, M)
  | k + 1 => if (kpTicks M k).1 ≠ 0 then kpTicks M k else kpTick (kpTicks M k).2
/-- Opened anew: on its bytes. -/
def kpOpen (C : ConfV) (D : DogM) (m : CM) : KpM := ⟨C, D, m, recsOf m.bs, false, List.replicate C.ents.length none, 0, .ok⟩
def kpBoot (M : KpM) : Nat × KpM := if kpOn M = 0 then (10, M) else (0, kpOpen M.C (dogStart M.D) ⟨M.m.bs, false, -1, M.m.wr⟩)
def kpState (M : KpM) : ByteArray := if M.m.off = true then ⟨#[111, 102, 102]⟩ else if M.D.reset = true then ⟨#[114, 101, 115, 101, 116]⟩ else ⟨#[111, 110]⟩

/-! ### Bounds -/
/-- T: of ticks, and acts. -/
structure KpOk (M : KpM) (T : Nat) : Prop where
  bound : boundC M.C = false
  small : ∀ E ∈ M.C.ents, Light E
  dog : DogOk M.D
  now : M.D.now ≤ T
  kicks : M.D.kicks ≤ T
  cm : CMOk M.m (200 * T)
  len : M.m.bs.length = 4096
  An : M.A.length = M.C.ents.length
  run : ∀ a, some a ∈ M.A → 0 ≤ a.run ∧ a.run ≤ T
  tin : TInv M.C.delay M.sn M.st
  log : ∃ D, RInv M.m.bs D ∧ D.length ≤ 8 * T ∧ M.L = lastR D
  dead : M.dead = true → M.m.off = true
  t : T ≤ 100000
theorem KpOk.up {M : KpM} {T T' : Nat} (h : KpOk M T) (hT : T ≤ T') (h2 : T' ≤ 100000) : KpOk M T' := by
  obtain ⟨D, d1, d2, d3⟩ := h.log
  refine ⟨h.bound, h.small, h.dog, by have := h.now; omega, by have := h.kicks; omega, h.cm.mono (by omega), h.len, h.An, fun a ha => ?_, h.tin, ⟨D, d1, by omega, d3⟩, h.dead, h2⟩
  have := h.run a ha
  omega
theorem boundC_parts {C : ConfV} (h : boundC C = false) : 0 ≤ C.closed ∧ C.closed ≤ 1000 ∧ 1 ≤ C.opn ∧ C.opn ≤ 1000 ∧ 1 ≤ C.cycle ∧ C.cycle ≤ 100 ∧ 0 ≤ C.delay ∧ C.delay ≤ 20 ∧ C.ents.length ≤ 8 := by
  unfold boundC at h
  rw [decide_eq_false_iff_not] at h
  omega
theorem KpOk.an8 {M : KpM} {T : Nat} (h : KpOk M T) : M.A.length ≤ 8 := by
  have := boundC_parts h.bound
  have := h.An
  omega
theorem KpOk.l8 {M : KpM} {T : Nat} (h : KpOk M T) : M.L.length ≤ 8 ∧ (lastZ M.L).seq ≤ 8 * T := by
  obtain ⟨D, d1, d2, d3⟩ := h.log
  rw [d3, lastZ_lastR (fun j hj => (d1.seq j hj).1), lastR_len]
  omega
theorem kpGet_mem {M : KpM} {j : Nat} {a : LocM} (h : kpGet M j = some a) : j < M.A.length ∧ some a ∈ M.A := by
  unfold kpGet at h
  rw [List.getD_eq_getElem?_getD] at h
  by_cases hj : j < M.A.length
  · rw [List.getElem?_eq_getElem hj] at h
    have e : M.A[j] = some a := h
    exact ⟨hj, by rw [← e]; exact List.getElem_mem hj⟩
  · rw [List.getElem?_eq_none (by omega)] at h
    cases h
theorem KpOk.set {M : KpM} {T : Nat} (h : KpOk M T) {j : Nat} {a : Option LocM} (ha : ∀ x, a = some x → 0 ≤ x.run ∧ x.run ≤ T) : KpOk (kpSet M j a) T := by
  refine ⟨h.bound, h.small, h.dog, h.now, h.kicks, h.cm, h.len, ?_, fun x hx => ?_, h.tin, h.log, h.dead, h.t⟩
  · show (M.A.set j a).length = _
    rw [List.length_set]; exact h.An
  · have hx' : some x ∈ M.A.set j a := hx
    rcases List.mem_or_eq_of_mem_set hx' with h1 | h1
    · exact h.run x h1
    · exact ha x h1.symm
theorem locRun_bd {E : EntV} {a : LocM} {T : Nat} (h : 0 ≤ a.run ∧ a.run ≤ T) : 0 ≤ (locEnd E a).run ∧ (locEnd E a).run ≤ T + 1 := by
  show 0 ≤ locRun E a ∧ locRun E a ≤ _
  unfold locRun
  split <;> omega
theorem kpBegin_ok {M : KpM} {T : Nat} (h : KpOk M T) (i : Int) : KpOk (kpBegin M i).2 T := by
  unfold kpBegin
  split
  · exact h
  · split
    · exact h.set (fun x hx => by obtain rfl := Option.some.inj hx; simp [locBegin])
    · exact h
theorem kpStop_ok {M : KpM} {T : Nat} (h : KpOk M T) (i : Int) : KpOk (kpStop M i).2 T := by
  unfold kpStop
  split
  · exact h
  · split
    · exact h
    · exact h.set (fun x hx => by cases hx)
theorem kpReport_ok {M : KpM} {T : Nat} (h : KpOk M T) (i p : Int) : KpOk (kpReport M i p).2 T := by
  unfold kpReport
  split
  · exact h
  · split
    · exact h
    · rename_i a ha
      split
      · exact h
      · exact h.set (fun x hx => by obtain rfl := Option.some.inj hx; exact h.run a (kpGet_mem ha).2)
/-- An append to a log whose power is there. -/
theorem ringApp_on {m : CM} {L D : List RecV} {dead : Bool} {kk : Int} {e k t : Int} (d1 : RInv m.bs D) (d2 : D.length ≤ 4000000) (d3 : L = lastR D) (hd : dead = false) (ho : m.off = false) (hc : CMOk m kk) (hl : m.bs.length = 4096) (hok : appOk e k t = true) :
    ∃ m' L' dd r D', ringApp m L dead e k t = (r.1, r.2, m', L', dd) ∧ CMOk m' (kk + 18) ∧ m'.bs.length = 4096 ∧ (dd = true → m'.off = true) ∧ (r.1 = 0 → m'.off = false) ∧ (r.1 = 0 ∨ r.1 = 8) ∧ RInv m'.bs D' ∧ L' = lastR D' ∧ D'.length ≤ D.length + 1 ∧
      (m.cut = -1 → r = ((0 : Nat), nextRec D e k t) ∧ D' = D ++ [nextRec D e k t] ∧ m'.cut = -1) := by
  have hs := fun j hj => (d1.seq j hj).1
  have hz := lastZ_lastR hs
  have hr := recNew_lastR hs e k t
  have hx : RecOk (nextRec D e k t) := by
    have := of_decide_eq_true hok
    exact ⟨by show 1 ≤ D.length + 1; omega, by show D.length + 1 < _; omega, by show e.toNat < _; omega, by show k.toNat < _; omega, by show t.toNat < _; omega⟩
  have hp := put_step d1 hc.c0 ho (rfl : (nextRec D e k t).seq = D.length + 1) hx
  have hu := fun hc => put_uncut (nextRec D e k t) hc ho d1.len
  have hok2 := put_ok (nextRec D e k t) hc
  unfold ringApp
  rw [hd, d3, if_neg (by decide), hok, if_neg (by decide), if_neg (by rw [hz]; omega), hr, lastR_snoc]
  obtain ⟨_, hl2, h1 | h1⟩ := hp
  · refine ⟨_, lastR (D ++ [nextRec D e k t]), false, (0, nextRec D e k t), D ++ [nextRec D e k t], by rw [if_pos h1.1], hok2, by rw [hl2, hl], (fun hh => by cases hh), fun _ => h1.2.1, .inl rfl, h1.2.2, rfl, by simp, fun hc => ⟨rfl, rfl, (hu hc).2⟩⟩
  · refine ⟨_, lastR D, true, (8, ⟨0, 0, 0, 0⟩), D, by rw [if_neg (by omega), h1.1], hok2, by rw [hl2, hl], fun _ => h1.2.1, (fun hh => by cases hh), .inr rfl, h1.2.2, rfl, by omega, fun hc => ?_⟩
    have := (hu hc).1
    omega

/-! ### The end of a cycle, bounded -/
theorem locKind_bd (E : EntV) (a : LocM) : 0 ≤ locKind E a ∧ locKind E a ≤ 3 := by
  unfold locKind
  split
  · decide
  · split
    · decide
    · split <;> decide
structure KpMid (M0 : KpM) (T k : Nat) (M : KpM) : Prop where
  eC : M.C = M0.C
  eD : M.D = M0.D
  es : M.sn = M0.sn
  et : M.st = M0.st
  eA : M.A.length = M0.A.length
  cm : CMOk M.m (200 * T + 18 * k)
  len : M.m.bs.length = 4096
  run : ∀ j a, kpGet M j = some a → 0 ≤ a.run ∧ a.run ≤ (if j < k then (T : Int) + 1 else T)
  log : ∃ D, RInv M.m.bs D ∧ D.length ≤ 8 * T + k ∧ M.L = lastR D
  dead : M.dead = true → M.m.off = true
theorem KpMid.up {M0 M : KpM} {T k : Nat} (h : KpMid M0 T k M) : KpMid M0 T (k + 1) M := by
  obtain ⟨D, d1, d2, d3⟩ := h.log
  refine ⟨h.eC, h.eD, h.es, h.et, h.eA, h.cm.mono (by omega), h.len, fun j a ha => ?_, ⟨D, d1, by omega, d3⟩, h.dead⟩
  have := h.run j a ha
  refine ⟨this.1, ?_⟩
  by_cases hj : j < k
  · rw [if_pos hj] at this; rw [if_pos (by omega)]; exact this.2
  · rw [if_neg hj] at this
    split
    · omega
    · exact this.2
theorem kpGet_setG {M : KpM} {j i : Nat} {a : Option LocM} (hj : j < M.A.length) : kpGet (kpSet M j a) i = if i = j then a else kpGet M i := by
  unfold kpGet kpSet
  rw [List.getD_eq_getElem?_getD, List.getD_eq_getElem?_getD, List.getElem?_set]
  by_cases e : i = j
  · subst e; rw [if_pos rfl, if_pos hj, if_pos rfl]; rfl
  · rw [if_neg (fun h => e h.symm), if_neg e]
theorem kpEnd1_none {M : KpM} {j : Nat} (h : kpGet M j = none) : kpEnd1 M j = (0, M) := by unfold kpEnd1; rw [h]
theorem kpEnd1_not {M : KpM} {j : Nat} {a : LocM} (h : kpGet M j = some a) (hn : ¬ locNow (kpEnt M j) a = true) : kpEnd1 M j = (0, kpSet M j (some (locEnd (kpEnt M j) a))) := by
  unfold kpEnd1; rw [h]; exact if_neg hn
theorem kpEnd1_now {M : KpM} {j : Nat} {a : LocM} {r : Nat × RecV × CM × List RecV × Bool} (h : kpGet M j = some a) (hn : locNow (kpEnt M j) a = true) (hr : ringApp M.m M.L M.dead j (locKind (kpEnt M j) a) M.D.now = r) :
    kpEnd1 M j = (r.1, { kpSet M j (some (locEnd (kpEnt M j) a)) with m := r.2.2.1, L := r.2.2.2.1, dead := r.2.2.2.2 }) := by
  subst hr; unfold kpEnd1; rw [h]; exact if_pos hn
theorem kpEnd1_mid {M0 M : KpM} {T j : Nat} (h : KpMid M0 T j M) (hT : T ≤ 100000) (hj : j < M.A.length) (h8 : M.A.length ≤ 8) (ho : M.m.off = false) (hn0 : 0 ≤ M.D.now) (hn1 : M.D.now ≤ 1099511627776) :
    KpMid M0 T (j + 1) (kpEnd1 M j).2 ∧ ((kpEnd1 M j).1 = 0 → (kpEnd1 M j).2.m.off = false) ∧ ((kpEnd1 M j).1 = 0 ∨ (kpEnd1 M j).1 = 8) := by
  cases ha : kpGet M j with
  | none => rw [kpEnd1_none ha]; exact ⟨h.up, fun _ => ho, .inl rfl⟩
  | some a =>
    have hr := h.run j a ha
    rw [if_neg (by omega)] at hr
    have hm := h.up
    have hrun : ∀ i b, (if i = j then some (locEnd (kpEnt M j) a) else kpGet M i) = some b → 0 ≤ b.run ∧ b.run ≤ (if i < j + 1 then (T : Int) + 1 else T) := fun i b hb => by
      by_cases e : i = j
      · rw [if_pos e] at hb
        obtain rfl := Option.some.inj hb
        rw [if_pos (by omega)]
        exact locRun_bd hr
      · rw [if_neg e] at hb
        exact hm.run i b hb
    have hs : KpMid M0 T (j + 1) (kpSet M j (some (locEnd (kpEnt M j) a))) := ⟨h.eC, h.eD, h.es, h.et, by show (M.A.set j _).length = _; rw [List.length_set]; exact h.eA, hm.cm, hm.len, fun i b hb => hrun i b (by rw [← hb, kpGet_setG hj]), hm.log, hm.dead⟩
    by_cases hnow : locNow (kpEnt M j) a = true
    · obtain ⟨D, d1, d2, d3⟩ := h.log
      have hd : M.dead = false := by
        cases hh : M.dead
        · rfl
        · have := h.dead hh
          rw [ho] at this; cases this
      have hk := locKind_bd (kpEnt M j) a
      obtain ⟨m', L', dd, r, D', e1, e2, e3, e4, e5, e6, e7, e8, e9, _⟩ := ringApp_on (e := (j : Int)) (k := locKind (kpEnt M j) a) (t := M.D.now) d1 (by omega) d3 hd ho h.cm h.len (decide_eq_true (by omega))
      rw [kpEnd1_now ha hnow e1]
      refine ⟨⟨h.eC, h.eD, h.es, h.et, by show (M.A.set j _).length = _; rw [List.length_set]; exact h.eA, e2.mono (by omega), e3, fun i b hb => hrun i b (by rw [← hb]; exact (kpGet_setG hj).symm), ⟨D', e7, by omega, e8⟩, e4⟩, e5, e6⟩
    · rw [kpEnd1_not ha hnow]; exact ⟨hs, fun _ => ho, .inl rfl⟩
theorem kpEndN_mid {M : KpM} {T : Nat} (h : KpOk M T) (ho : M.m.off = false) : ∀ k, k ≤ M.A.length → KpMid M T k (kpEndN M k).2 ∧ ((kpEndN M k).1 = 0 → (kpEndN M k).2.m.off = false) ∧ ((kpEndN M k).1 = 0 ∨ (kpEndN M k).1 = 8)
  | 0, _ => by
    refine ⟨⟨rfl, rfl, rfl, rfl, rfl, h.cm.mono (by omega), h.len, fun j a ha => ?_, ?_, h.dead⟩, fun _ => ho, .inl rfl⟩
    · have := h.run a (kpGet_mem ha).2
      rw [if_neg (by omega)]; exact this
    · obtain ⟨D, d1, d2, d3⟩ := h.log
      exact ⟨D, d1, by omega, d3⟩
  | k + 1, hk => by
    obtain ⟨h1, h2, h3⟩ := kpEndN_mid h ho k (by omega)
    have hd := h.dog
    unfold kpEndN
    by_cases he : (kpEndN M k).1 ≠ 0
    · rw [if_pos he]
      exact ⟨h1.up, fun hh => absurd hh he, h3⟩
    · rw [if_neg he]
      have h8 := h.an8
      exact kpEnd1_mid h1 h.t (by rw [h1.eA]; omega) (by rw [h1.eA]; exact h8) (h2 (by omega)) (by rw [h1.eD]; have := hd.l0; have := hd.ln; omega) (by rw [h1.eD]; exact hd.n1)
theorem KpMid.ok {M0 M : KpM} {T k : Nat} (h : KpMid M0 T k M) (h0 : KpOk M0 T) (hk : k ≤ 8) (hT : T + 1 ≤ 100000) : KpOk M (T + 1) := by
  obtain ⟨D, d1, d2, d3⟩ := h.log
  refine ⟨by rw [h.eC]; exact h0.bound, by rw [h.eC]; exact h0.small, by rw [h.eD]; exact h0.dog, by rw [h.eD]; have := h0.now; omega, by rw [h.eD]; have := h0.kicks; omega, h.cm.mono (by omega), h.len, by rw [h.eA, h.eC]; exact h0.An, fun a ha => ?_, by rw [h.eC, h.es, h.et]; exact h0.tin, ⟨D, d1, by omega, d3⟩, h.dead, hT⟩
  obtain ⟨j, hj, e⟩ := List.mem_iff_getElem.1 ha
  have hg : kpGet M j = some a := by
    unfold kpGet
    rw [List.getD_eq_getElem?_getD, List.getElem?_eq_getElem hj, e]; rfl
  have := h.run j a hg
  refine ⟨this.1, ?_⟩
  have h2 := this.2
  split at h2 <;> omega
theorem kpTot_ok {M : KpM} {T : Nat} (h : KpOk M T) : KpOk (kpTot M) T :=
  ⟨h.bound, h.small, h.dog, h.now, h.kicks, h.cm, h.len, h.An, h.run, h.tin.next _, h.log, h.dead, h.t⟩
/-- T: kicks are fewer than ticks. -/
theorem kpKick_ok {M : KpM} {T : Nat} (h : KpOk M (T + 1)) (hk : M.D.kicks ≤ T) : KpOk (kpKick M) (T + 1) := by
  unfold kpKick
  split
  · rename_i hh
    have ht := h.t
    refine ⟨h.bound, h.small, dogOk_kick h.dog (by omega), ?_, ?_, h.cm, h.len, h.An, h.run, h.tin, h.log, h.dead, h.t⟩
    · show (dogKick M.D).now ≤ _
      rw [dogKick_yes hh.2]; exact h.now
    · show (dogKick M.D).kicks ≤ _
      rw [dogKick_yes hh.2]
      show M.D.kicks + 1 ≤ _
      omega
  · exact h
theorem kpEnd_ok {M : KpM} {T : Nat} (h : KpOk M T) (ho : M.m.off = false) (hT : T + 1 ≤ 100000) : KpOk (kpEnd M).2 (T + 1) := by
  obtain ⟨h1, h2, h3⟩ := kpEndN_mid h ho M.A.length (Nat.le_refl _)
  have h4 := h1.ok h h.an8 hT
  unfold kpEnd
  split
  · exact h4
  · refine kpKick_ok (kpTot_ok h4) ?_
    show (kpEndN M M.A.length).2.D.kicks ≤ _
    rw [h1.eD]; exact h.kicks
theorem kpDog_ok {M : KpM} {T : Nat} (h : KpOk M T) (hT : T + 1 ≤ 100000) (he : dogTickE M.D = 0) : KpOk (kpDog M) (T + 1) ∧ (dogTick M.D).now = M.D.now + 1 ∧ (dogTick M.D).kicks = M.D.kicks := by
  have hr : M.D.reset = false := by
    cases hh : M.D.reset
    · rfl
    · unfold dogTickE at he; rw [hh] at he; simp at he
  have hn : ¬ 1099511627776 ≤ M.D.now := fun hh => by unfold dogTickE at he; rw [hr, if_neg (by decide), if_pos hh] at he; cases he
  have e1 : (dogTick M.D).now = M.D.now + 1 := by unfold dogTick; rw [hr, if_neg (by decide), if_neg hn]
  have e2 : (dogTick M.D).kicks = M.D.kicks := by unfold dogTick; rw [hr, if_neg (by decide), if_neg hn]
  have hu := h.up (Nat.le_succ T) hT
  refine ⟨⟨h.bound, h.small, dogOk_tick h.dog, ?_, ?_, hu.cm, h.len, h.An, hu.run, h.tin, hu.log, h.dead, hT⟩, e1, e2⟩
  · show (dogTick M.D).now ≤ _
    rw [e1]; have := h.now; omega
  · show (dogTick M.D).kicks ≤ _
    rw [e2]; have := h.kicks; omega
theorem kpTick_ok {M : KpM} {T : Nat} (h : KpOk M T) (hT : T + 2 ≤ 100000) : KpOk (kpTick M).2 (T + 2) := by
  unfold kpTick
  split
  · exact h.up (by omega) hT
  · rename_i hon
    by_cases he : dogTickE M.D = 0
    · rw [if_neg (by omega)]
      obtain ⟨h1, _, _⟩ := kpDog_ok h (by omega) he
      split
      · exact h1.up (by omega) hT
      · split
        · refine kpEnd_ok h1 ?_ hT
          show M.m.off = false
          cases hh : M.m.off
          · rfl
          · exfalso; apply hon; unfold kpOn; rw [if_pos hh]; decide
        · exact h1.up (by omega) hT
    · rw [if_pos he]
      have hd := h.dog
      have hn := h.now
      have ht := h.t
      unfold dogTickE at he
      have hr : M.D.reset = true := by
        cases hh : M.D.reset
        · rw [hh, if_neg (by decide), if_neg (by omega)] at he; exact absurd rfl he
        · rfl
      have hu := h.up (Nat.le_add_right T 2) hT
      have e : kpDog M = M := by unfold kpDog dogTick; rw [hr, if_pos rfl]
      rw [e]; exact hu
theorem kpTicks_ok {M : KpM} {T : Nat} (h : KpOk M T) : ∀ k, T + 2 * k ≤ 100000 → KpOk (kpTicks M k).2 (T + 2 * k)
  | 0, _ => h
  | k + 1, hk => by
    have ih := kpTicks_ok h k (by omega)
    unfold kpTicks
    split
    · exact ih.up (by omega) hk
    · exact (kpTick_ok ih (by omega)).up (by omega) hk
theorem neg1_le : (-1 : Int) ≤ -1 ∧ (-1 : Int) ≤ 9223372036854775807 := by omega
theorem tInv_ok {d : Int} (h : 0 ≤ d) : TInv d 0 .ok := ⟨by omega, h, fun _ => rfl, fun hh => by cases hh⟩
theorem kpOpen_L (C : ConfV) (D : DogM) (m : CM) : (kpOpen C D m).L = recsOf m.bs := by simp only [kpOpen]
theorem kpOpen_dead (C : ConfV) (D : DogM) (m : CM) : (kpOpen C D m).dead = false := rfl
theorem kpOpen_ok {C : ConfV} {D : DogM} {m : CM} {E : List RecV} {T : Nat} (h1 : boundC C = false) (h2 : ∀ E ∈ C.ents, Light E) (h3 : DogOk D) (h4 : D.now ≤ T) (h5 : D.kicks ≤ T) (h6 : CMOk m (200 * T)) (h7 : m.bs.length = 4096) (h8 : RInv m.bs E) (h9 : E.length ≤ 8 * T) (h10 : T ≤ 100000) : KpOk (kpOpen C D m) T := by
  have hb := boundC_parts h1
  have hti : TInv C.delay 0 .ok := tInv_ok (by omega)
  refine ⟨h1, h2, h3, h4, h5, h6, h7, by simp [kpOpen], fun a ha => ?_, hti, ⟨E, h8, h9, ?_⟩, fun hh => ?_, h10⟩
  · have : some a ∈ List.replicate C.ents.length (none : Option LocM) := ha
    rw [List.mem_replicate] at this
    cases this.2
  · have hr := rinv_recs h8
    rw [kpOpen_L]
    unfold lastR
    exact hr
  · rw [kpOpen_dead] at hh
    exact absurd hh (by decide)
theorem kpBoot_ok {M : KpM} {T : Nat} (h : KpOk M T) : KpOk (kpBoot M).2 T := by
  unfold kpBoot
  split
  · exact h
  · obtain ⟨D, d1, d2, d3⟩ := h.log
    have hc : CMOk ⟨M.m.bs, false, -1, M.m.wr⟩ (200 * T) := ⟨neg1_le.1, neg1_le.2, h.cm.w0, h.cm.w1⟩
    exact kpOpen_ok h.bound h.small (dogOk_start h.dog) h.now h.kicks hc h.len d1 d2 h.t
theorem cutM_ok' {m : CM} {k n : Int} (h : CMOk m k) (hn : n ≤ 9223372036854775807) : CMOk (cutM m n) k := by
  unfold cutM
  split
  · exact h
  · split
    · exact h
    · exact ⟨by show -1 ≤ n; omega, hn, h.w0, h.w1⟩
theorem kpCut_ok {M : KpM} {T : Nat} (h : KpOk M T) {n : Int} (hn : n ≤ 9223372036854775807) : KpOk { M with m := cutM M.m n } T := by
  have e1 : (cutM M.m n).bs = M.m.bs := by unfold cutM; split <;> (try split) <;> rfl
  have e2 : M.m.off = true → (cutM M.m n).off = true := fun ho => by unfold cutM; rw [if_pos ho]; split <;> exact ho
  obtain ⟨D, d1, d2, d3⟩ := h.log
  exact ⟨h.bound, h.small, h.dog, h.now, h.kicks, cutM_ok' h.cm hn, by show (cutM M.m n).bs.length = _; rw [e1]; exact h.len, h.An, h.run, h.tin, ⟨D, by show RInv (cutM M.m n).bs D; rw [e1]; exact d1, d2, d3⟩, fun hd => e2 (h.dead hd), h.t⟩
end Go.Proofs.YtakjbjokekbmbaaGreatDoor

/- Package keeper: a watch's memory. A number tells to whom a block belongs: 0 to nobody of them, 1 the keeper, 2 its dog, 3 and 4 the cells and their row, 5 and 6 the log and its row, 7 total, 8 the config, 9 the row of locals, 10 + 2 j local j, 11 + 2 j its watch. -/
namespace Go.Proofs.YtakjbjokekbmbaaGreatDoor
open Go.RowKit
set_option linter.unusedVariables false

structure KpX where
  d : Nat
  rb : Nat
  cap : Nat
  rg : Nat
  tb : Nat
  lv : Value
  ve : Value
  vl : Value
  X : List EntX
  ls : List Nat

/-- From w to w': blocks of the numbers N alone have turned, new ones are numbered. -/
structure Stp (o o' : Nat → Nat) (N : Nat → Prop) (w0 w w' : World) : Prop where
  kp : Keep (fun b => N (o b)) w w'
  agree : ∀ b, b < w.heap.size → o' b = o b
  low : ∀ b, o' b ≠ 0 → w0.heap.size ≤ b ∧ b < w'.heap.size
  bel : Below w0.heap.size w0 w'
def Low (o : Nat → Nat) (w0 w : World) : Prop := ∀ b, o b ≠ 0 → w0.heap.size ≤ b ∧ b < w.heap.size
/-- Blocks from a up to b are numbered anew. -/
def ext (o : Nat → Nat) (a b n : Nat) : Nat → Nat := fun x => if a ≤ x ∧ x < b then n else o x
theorem ext_old {o : Nat → Nat} {a b n x : Nat} (h : x < a) : ext o a b n x = o x := if_neg (by omega)
theorem ext_new {o : Nat → Nat} {a b n x : Nat} (h : a ≤ x) (h2 : x < b) : ext o a b n x = n := if_pos ⟨h, h2⟩
theorem Stp.same {o : Nat → Nat} {N : Nat → Prop} {w0 w w' : World} (lo : Low o w0 w) (bl : Below w0.heap.size w0 w) (k : Keep (fun b => N (o b)) w w') (hN : ¬ N 0) : Stp o o N w0 w w' :=
  ⟨k, fun _ _ => rfl, fun b hb => ⟨(lo b hb).1, Nat.lt_of_lt_of_le (lo b hb).2 k.size⟩, bl.trans (k.below bl.size (fun b hb => by
    have : o b ≠ 0 := fun e => by rw [e] at hb; exact hN hb
    exact (lo b this).1))⟩
theorem Stp.new {o : Nat → Nat} {N : Nat → Prop} {w0 w w' : World} {n : Nat} (lo : Low o w0 w) (bl : Below w0.heap.size w0 w) (k : Keep (fun b => N (o b)) w w') (hN : ¬ N 0) : Stp o (ext o w.heap.size w'.heap.size n) N w0 w w' := by
  have hs := bl.size
  have hk := k.size
  refine ⟨k, fun b hb => ext_old hb, fun b hb => ?_, (Stp.same lo bl k hN).bel⟩
  by_cases h : w.heap.size ≤ b ∧ b < w'.heap.size
  · omega
  · unfold ext at hb
    rw [if_neg h] at hb
    have := lo b hb
    omega
section
variable {o o' : Nat → Nat} {N : Nat → Prop} {w0 w w' : World}
theorem Stp.lo (s : Stp o o' N w0 w w') : Low o' w0 w' := s.low
theorem Stp.get (s : Stp o o' N w0 w w') {b n : Nat} {x : Obj} (hb : w.heap[b]? = some x) (hn : o b = n) (h : ¬ N n) : w'.heap[b]? = some x := s.kp.get hb (by rw [hn]; exact h)
theorem Stp.eq (s : Stp o o' N w0 w w') (lo : Low o w0 w) {b n : Nat} (h : o b = n) (hn : n ≠ 0) : o' b = n := by rw [s.agree b (lo b (by rw [h]; exact hn)).2, h]
theorem Stp.sl (s : Stp o o' N w0 w w') {n : Nat} {v : Value} {sz k : Nat} {cs : List Value} (hl : SlOf (fun b => o b = n) w v sz cs k) (hn : ¬ N n) : SlOf (fun b => o' b = n) w' v sz cs k := by
  obtain ⟨hl, ao, cap, hv, h1, h2, h3, h4⟩ := hl
  refine ⟨hl, ao, cap, hv, h1, h2, h3, fun hp => ?_⟩
  obtain ⟨b, off, ha, hR, hb, hc⟩ := h4 hp
  exact ⟨b, off, ha, by show o' b = n; rw [s.agree b hb]; exact hR, Nat.lt_of_lt_of_le hb s.kp.size, fun k u hu => by rw [s.kp.cell hb (by simp only [hR]; exact hn)]; exact hc k u hu⟩
theorem Stp.ents (s : Stp o o' N w0 w w') {n : Nat} {v : Value} {X : List EntX} (h : EntsSl (fun b => o b = n) w v X) (hn : ¬ N n) : EntsSl (fun b => o' b = n) w' v X :=
  ⟨s.sl h.row hn, fun x hx => ⟨s.sl (h.each x hx).p hn, s.sl (h.each x hx).g hn, s.sl (h.each x hx).e hn, s.sl (h.each x hx).f hn, s.sl (h.each x hx).l hn⟩⟩
theorem Stp.cells (s : Stp o o' N w0 w w') {c rb : Nat} {ao : Option Addr} {cap : Nat} {m : CM} (h : CellsAt w c rb ao cap m) (h3 : o c = 3) (h4 : o rb = 4) (n3 : ¬ N 3) (n4 : ¬ N 4) : CellsAt w' c rb ao cap m :=
  h.keep s.kp (fun b hb => ⟨fun e => by subst e; rw [h3] at hb; exact n3 hb, fun e => by subst e; rw [h4] at hb; exact n4 hb⟩)
end

/-- Local j: idle, or watched. -/
def LocIs (l s t : Nat) (x : EntX) (w : World) : Option LocM → Prop
  | none => w.heap[l]? = some (locC none x.E x.p x.g x.e x.f x.l)
  | some m => LocAt l s t x.E x.p x.g x.e x.f x.l m w
theorem LocAt.le {l s t : Nat} {E : EntV} {vp vg ve vf vl : Value} {m : LocM} {w : World} (h : LocAt l s t E vp vg ve vf vl m w) : t ≤ w.heap.size := by
  obtain ⟨⟨wb, a, g, f, ro, base, lo, hi, h1, h2⟩, ho⟩ := h
  exact h2.top
theorem Stp.loc {o o' : Nat → Nat} {N : Nat → Prop} {w0 w w' : World} (s : Stp o o' N w0 w w') {l a t n : Nat} {x : EntX} {m : Option LocM} (h : LocIs l a t x w m) (hl : o l = 10 + 2 * n) (hw : ∀ b, a ≤ b → b < t → o b = 11 + 2 * n) (n1 : ¬ N (10 + 2 * n)) (n2 : ¬ N (11 + 2 * n)) : LocIs l a t x w' m := by
  cases m with
  | none => exact s.get h hl n1
  | some m => exact h.keep s.kp (by rw [hl]; exact n1) (fun b h1 h2 => by rw [hw b h1 h2]; exact n2)
theorem LocIs.own {o o' : Nat → Nat} {N : Nat → Prop} {w0 w w' : World} (s : Stp o o' N w0 w w') {l a t n : Nat} {x : EntX} {m : Option LocM} (h : LocIs l a t x w m) (hw : ∀ b, a ≤ b → b < t → o b = 11 + 2 * n) : ∃ a' t', (∀ b, a' ≤ b → b < t' → o' b = 11 + 2 * n) ∧ (LocIs l a t x w' m → LocIs l a' t' x w' m) := by
  cases m with
  | none => exact ⟨0, 0, fun b _ h => by omega, fun h => h⟩
  | some m => exact ⟨a, t, fun b h1 h2 => by rw [s.agree b (Nat.lt_of_lt_of_le h2 (LocAt.le h)), hw b h1 h2], fun h => h⟩

def ptrCs (l : List Nat) : List Value := l.map fun b => .pointer (some ⟨b, 0, none⟩)
def kpC (d : Nat) (C : ConfV) (ve : Value) (c : Nat) (vlog vl vt : Value) (txt : ByteArray) : Obj :=
  .cells #[.pointer (some ⟨d, 0, none⟩), .int .i64 C.closed, .int .i64 C.opn, .int .i64 C.cycle, .int .i64 C.delay, ve, .pointer (some ⟨c, 0, none⟩), vlog, vl, vt, .string txt] 57
theorem kp_cells {w : World} {kb d : Nat} {C : ConfV} {ve : Value} {c : Nat} {vlog vl vt : Value} {txt : ByteArray} (h : w.heap[kb]? = some (kpC d C ve c vlog vl vt txt)) :
    w.cell? ⟨kb, 0, none⟩ = some (.pointer (some ⟨d, 0, none⟩)) ∧ w.cell? ⟨kb, 1, none⟩ = some (.int .i64 C.closed) ∧ w.cell? ⟨kb, 2, none⟩ = some (.int .i64 C.opn) ∧ w.cell? ⟨kb, 3, none⟩ = some (.int .i64 C.cycle) ∧ w.cell? ⟨kb, 4, none⟩ = some (.int .i64 C.delay) ∧ w.cell? ⟨kb, 5, none⟩ = some ve ∧
    w.cell? ⟨kb, 6, none⟩ = some (.pointer (some ⟨c, 0, none⟩)) ∧ w.cell? ⟨kb, 7, none⟩ = some vlog ∧ w.cell? ⟨kb, 8, none⟩ = some vl ∧ w.cell? ⟨kb, 9, none⟩ = some vt ∧ w.cell? ⟨kb, 10, none⟩ = some (.string txt) ∧ ∀ o, w.frozen? ⟨kb, o, none⟩ = false := by
  unfold kpC at h
  simp [World.cell?, World.frozen?, h]

/-- The watch but for its log, its locals, its total. -/
structure KpB (B : Nat) (sa : Nat → Addr) (w0 : World) (kb c : Nat) (x : KpX) (C : ConfV) (D : DogM) (m : CM) (o : Nat → Nat) (w : World) : Prop where
  se : SentsK B sa w
  bel : Below w0.heap.size w0 w
  bl : B ≤ w0.heap.size
  low : Low o w0 w
  dog : DogAt w x.d D
  mem : CellsAt w c x.rb (some ⟨x.rb, 0, none⟩) x.cap m
  ents : EntsSl (fun b => o b = 8) w x.ve x.X
  xe : C.ents = x.X.map EntX.E
  ok : o kb = 1
  od : o x.d = 2
  oc : o c = 3
  orb : o x.rb = 4
theorem KpB.stp {B : Nat} {sa : Nat → Addr} {w0 : World} {kb c : Nat} {x : KpX} {C : ConfV} {D : DogM} {m : CM} {o o' : Nat → Nat} {N : Nat → Prop} {w w' : World} (h : KpB B sa w0 kb c x C D m o w) (s : Stp o o' N w0 w w')
    (hse : SentsK B sa w') (h8 : ¬ N 8) {D' : DogM} {m' : CM} (hd : DogAt w' x.d D') (hm : CellsAt w' c x.rb (some ⟨x.rb, 0, none⟩) x.cap m') : KpB B sa w0 kb c x C D' m' o' w' :=
  ⟨hse, s.bel, h.bl, s.low, hd, hm, s.ents h.ents h8, h.xe, s.eq h.low h.ok (by decide), s.eq h.low h.od (by decide), s.eq h.low h.oc (by decide), s.eq h.low h.orb (by decide)⟩
theorem KpB.re {B : Nat} {sa : Nat → Addr} {w0 : World} {kb c : Nat} {x : KpX} {C : ConfV} {D : DogM} {m : CM} {o : Nat → Nat} {w : World} (h : KpB B sa w0 kb c x C D m o w) (rg tb : Nat) (lv vl : Value) (ls : List Nat) :
    KpB B sa w0 kb c ⟨x.d, x.rb, x.cap, rg, tb, lv, x.ve, vl, x.X, ls⟩ C D m o w := ⟨h.se, h.bel, h.bl, h.low, h.dog, h.mem, h.ents, h.xe, h.ok, h.od, h.oc, h.orb⟩
theorem KpB.sen {B : Nat} {sa : Nat → Addr} {w0 : World} {kb c : Nat} {x : KpX} {C : ConfV} {D : DogM} {m : CM} {o o' : Nat → Nat} {N : Nat → Prop} {w w' : World} (h : KpB B sa w0 kb c x C D m o w) (s : Stp o o' N w0 w w') (h0 : ¬ N 0) : SentsK B sa w' :=
  h.se.keep s.kp (fun b hN => by
      have : o b ≠ 0 := fun e => by rw [e] at hN; exact h0 hN
      exact Nat.le_trans h.bl (h.low b this).1)
theorem KpB.keep {B : Nat} {sa : Nat → Addr} {w0 : World} {kb c : Nat} {x : KpX} {C : ConfV} {D : DogM} {m : CM} {o o' : Nat → Nat} {N : Nat → Prop} {w w' : World} (h : KpB B sa w0 kb c x C D m o w) (s : Stp o o' N w0 w w')
    (hse : SentsK B sa w') (h8 : ¬ N 8) (h2 : ¬ N 2) (h3 : ¬ N 3) (h4 : ¬ N 4) : KpB B sa w0 kb c x C D m o' w' :=
  h.stp s hse h8 (s.get h.dog h.od h2) (s.cells h.mem h.oc h.orb h3 h4)

structure KpIn (B : Nat) (sa : Nat → Addr) (w0 : World) (kb c : Nat) (txt : ByteArray) (x : KpX) (M : KpM) (o : Nat → Nat) (w : World) : Prop where
  b : KpB B sa w0 kb c x M.C M.D M.m o w
  box : w.heap[kb]? = some (kpC x.d M.C x.ve c (.pointer (some ⟨x.rg, 0, none⟩)) x.vl (.pointer (some ⟨x.tb, 0, none⟩)) txt)
  rbox : w.heap[x.rg]? = some (ringC c x.lv M.dead)
  rrow : SlOf (fun b => o b = 6) w x.lv 4 (M.L.flatMap recCells) M.L.length
  lrow : SlOf (fun b => o b = 9) w x.vl 1 (ptrCs x.ls) x.ls.length
  ll : x.ls.length = x.X.length ∧ M.A.length = x.X.length
  loc : ∀ (j l : Nat) (e : EntX), x.ls[j]? = some l → x.X[j]? = some e → o l = 10 + 2 * j ∧ ∃ a t, (∀ b, a ≤ b → b < t → o b = 11 + 2 * j) ∧ LocIs l a t e w (kpGet M j)
  tot : TotalAt w x.tb M.C.delay M.sn M.st
  org : o x.rg = 5
  ot : o x.tb = 7
section
variable {B : Nat} {sa : Nat → Addr} {w0 : World} {kb c : Nat} {txt : ByteArray} {x : KpX} {M : KpM} {o o' : Nat → Nat} {N : Nat → Prop} {w w' : World}
theorem KpIn.len (h : KpIn B sa w0 kb c txt x M o w) : x.ls.length = M.A.length ∧ M.C.ents.length = M.A.length := by
  have := h.ll
  have h2 := congrArg List.length h.b.xe
  rw [List.length_map] at h2
  omega
theorem Stp.locs (s : Stp o o' N w0 w w') (h : KpIn B sa w0 kb c txt x M o w) {j l : Nat} {e : EntX} (h1 : x.ls[j]? = some l) (h2 : x.X[j]? = some e) (n1 : ¬ N (10 + 2 * j)) (n2 : ¬ N (11 + 2 * j)) :
    o' l = 10 + 2 * j ∧ ∃ a t, (∀ b, a ≤ b → b < t → o' b = 11 + 2 * j) ∧ LocIs l a t e w' (kpGet M j) := by
  obtain ⟨q1, a, t, q2, q3⟩ := h.loc j l e h1 h2
  obtain ⟨a', t', r1, r2⟩ := LocIs.own s q3 q2
  exact ⟨s.eq h.b.low q1 (by omega), a', t', r1, r2 (s.loc q3 q1 q2 n1 n2)⟩
/-- What has turned is none of the watch's. -/
theorem KpIn.far {T : Nat → Prop} (h : KpIn B sa w0 kb c txt x M o w) (k : Keep T w w') (hT : ∀ b, b < w.heap.size → T b → o b = 0 ∧ w0.heap.size ≤ b) : KpIn B sa w0 kb c txt x M o w' := by
  have s : Stp o o (fun n => n = 0) w0 w w' := ⟨k.mono (fun b hb h => (hT b hb h).1), fun _ _ => rfl, fun b hb => ⟨(h.b.low b hb).1, Nat.lt_of_lt_of_le (h.b.low b hb).2 k.size⟩,
    h.b.bel.trans ((k.mono (fun b hb h => (hT b hb h).2) : Keep (fun b => w0.heap.size ≤ b) w w').below h.b.bel.size (fun b hb => hb))⟩
  have hse : SentsK B sa w' := h.b.se.keep (k.mono (fun b hb h => (hT b hb h).2) : Keep (fun b => w0.heap.size ≤ b) w w') (fun b hb => Nat.le_trans h.b.bl hb)
  exact ⟨h.b.keep s hse (by decide) (by decide) (by decide) (by decide), s.get h.box h.b.ok (by decide), s.get h.rbox h.org (by decide), s.sl h.rrow (by decide), s.sl h.lrow (by decide), h.ll,
    fun j l e h1 h2 => s.locs h h1 h2 (by omega) (by omega), s.get h.tot h.ot (by decide), h.org, h.ot⟩
theorem KpIn.below (h : KpIn B sa w0 kb c txt x M o w) (b : Below w.heap.size w w') : KpIn B sa w0 kb c txt x M o w' := h.far (below_keep b) (fun _ _ h => h.elim)
theorem KpIn.dog' (h : KpIn B sa w0 kb c txt x M o w) {D' : DogM} (k : Keep (· = x.d) w w') (hd : DogAt w' x.d D') : KpIn B sa w0 kb c txt x { M with D := D' } o w' := by
  have s : Stp o o (fun n => n = 2) w0 w w' := Stp.same h.b.low h.b.bel (k.mono (fun b hb e => by rw [e]; exact h.b.od)) (by decide)
  exact ⟨h.b.stp s (h.b.sen s (by decide)) (by decide) hd (s.cells h.b.mem h.b.oc h.b.orb (by decide) (by decide)), s.get h.box h.b.ok (by decide), s.get h.rbox h.org (by decide), s.sl h.rrow (by decide), s.sl h.lrow (by decide), h.ll,
    fun j l e h1 h2 => s.locs h h1 h2 (by omega) (by omega), s.get h.tot h.ot (by decide), h.org, h.ot⟩
theorem KpIn.cell' (h : KpIn B sa w0 kb c txt x M o w) {m' : CM} (k : Keep (· = c) w w') (hm : CellsAt w' c x.rb (some ⟨x.rb, 0, none⟩) x.cap m') : KpIn B sa w0 kb c txt x { M with m := m' } o w' := by
  have s : Stp o o (fun n => n = 3) w0 w w' := Stp.same h.b.low h.b.bel (k.mono (fun b hb e => by rw [e]; exact h.b.oc)) (by decide)
  exact ⟨h.b.stp s (h.b.sen s (by decide)) (by decide) (s.get h.b.dog h.b.od (by decide)) hm, s.get h.box h.b.ok (by decide), s.get h.rbox h.org (by decide), s.sl h.rrow (by decide), s.sl h.lrow (by decide), h.ll,
    fun j l e h1 h2 => s.locs h h1 h2 (by omega) (by omega), s.get h.tot h.ot (by decide), h.org, h.ot⟩
theorem KpIn.tot' (h : KpIn B sa w0 kb c txt x M o w) {sn' : Int} {st' : St} (k : Keep (· = x.tb) w w') (ht : TotalAt w' x.tb M.C.delay sn' st') : KpIn B sa w0 kb c txt x { M with sn := sn', st := st' } o w' := by
  have s : Stp o o (fun n => n = 7) w0 w w' := Stp.same h.b.low h.b.bel (k.mono (fun b hb e => by rw [e]; exact h.ot)) (by decide)
  exact ⟨h.b.keep s (h.b.sen s (by decide)) (by decide) (by decide) (by decide) (by decide), s.get h.box h.b.ok (by decide), s.get h.rbox h.org (by decide), s.sl h.rrow (by decide), s.sl h.lrow (by decide), h.ll,
    fun j l e h1 h2 => s.locs h h1 h2 (by omega) (by omega), ht, h.org, h.ot⟩

theorem SlOf.reR {R R' : Nat → Prop} {w : World} {v : Value} {sz n : Nat} {cs : List Value} (h : SlOf R w v sz cs n) (hd : ∀ b, v.ownBlock = some b → 0 < cs.length → R' b) : SlOf R' w v sz cs n := by
  obtain ⟨hl, ao, cap, hv, h1, h2, h3, h4⟩ := h
  refine ⟨hl, ao, cap, hv, h1, h2, h3, fun hp => ?_⟩
  obtain ⟨b, off, ha, hR, hb, hc⟩ := h4 hp
  exact ⟨b, off, ha, hd b (by rw [hv, ha]; rfl) hp, hb, hc⟩
theorem SlOf.inR {R : Nat → Prop} {w : World} {v : Value} {sz n : Nat} {cs : List Value} (h : SlOf R w v sz cs n) {b : Nat} (hb : v.ownBlock = some b) (hp : 0 < cs.length) : R b ∧ b < w.heap.size := by
  obtain ⟨hl, ao, cap, hv, h1, h2, h3, h4⟩ := h
  obtain ⟨b', off, ha, hR, hl, _⟩ := h4 hp
  rw [hv, ha] at hb
  obtain rfl := Option.some.inj hb
  exact ⟨hR, hl⟩
theorem SlOf.many {R : Nat → Prop} {w : World} {v : Value} {sz n : Nat} {cs : List Value} (h : SlOf R w v sz cs n) {S : Nat → Prop} {w' : World} {sz' n' : Nat} {cs' : List Value} (h' : SlOf S w' v sz' cs' n') : n = n' := by
  obtain ⟨_, ao, cap, hv, _⟩ := h
  obtain ⟨_, ao', cap', hv', _⟩ := h'
  rw [hv] at hv'
  injection hv'

/-- A log's contract asks this. -/
theorem KpIn.rst (h : KpIn B sa w0 kb c txt x M o w) : RSt B sa w0 x.rg c x.rb x.cap M.m M.dead M.L x.lv w := by
  have h3 := h.b.oc
  have h4 := h.b.orb
  have h5 := h.org
  refine ⟨⟨h.rbox, h.rrow.mono (fun b hb => ?_)⟩, h.b.mem, h.b.se, h.b.bel, (h.b.low c (by omega)).1, (h.b.low x.rb (by omega)).1, (h.b.low x.rg (by omega)).1, h.b.bl, fun e => ?_, fun e => ?_⟩
  · have hb' : o b = 6 := hb
    refine ⟨fun e => ?_, fun e => ?_, fun e => ?_⟩
    · rw [e] at hb'; omega
    · rw [e] at hb'; omega
    · rw [e] at hb'; omega
  · rw [e] at h5; omega
  · rw [e] at h5; omega
/-- How a call's memory may have turned. -/
structure Fr (o o' : Nat → Nat) (w w' : World) : Prop where
  kp : Keep (fun b => o b ≠ 0) w w'
  agree : ∀ b, b < w.heap.size → o' b = o b
theorem Fr.refl (o : Nat → Nat) (w : World) : Fr o o w w := ⟨Keep.refl _ _, fun _ _ => rfl⟩
theorem Fr.trans {o1 o2 o3 : Nat → Nat} {w1 w2 w3 : World} (h : Fr o1 o2 w1 w2) (k : Fr o2 o3 w2 w3) : Fr o1 o3 w1 w3 :=
  ⟨h.kp.step k.kp (fun b hb hl => by rw [← h.agree b hl]; exact hb), fun b hb => by rw [k.agree b (Nat.lt_of_lt_of_le hb h.kp.size), h.agree b hb]⟩
theorem Fr.below (o : Nat → Nat) {w w' : World} (b : Below w.heap.size w w') : Fr o o w w' := ⟨(below_keep b).mono (fun _ _ h => h.elim), fun _ _ => rfl⟩
theorem Stp.fr (s : Stp o o' N w0 w w') (h0 : ¬ N 0) : Fr o o' w w' := ⟨s.kp.mono (fun b _ hb e => by rw [e] at hb; exact h0 hb), s.agree⟩
theorem Fr.of {T : Nat → Prop} (k : Keep T w w') (hT : ∀ b, T b → o b ≠ 0) : Fr o o w w' := ⟨k.mono (fun b _ hb => hT b hb), fun _ _ => rfl⟩

theorem KpIn.app (h : KpIn B sa w0 kb c txt x M o w) {m' : CM} {dead' : Bool} {L' : List RecV} {lv' : Value} (h' : RSt B sa w0 x.rg c x.rb x.cap m' dead' L' lv' w')
    (k : Keep (fun b => b = c ∨ b = x.rb ∨ b = x.rg ∨ w.heap.size ≤ b) w w') (hv : lv' = x.lv ∨ NewV w w' lv') :
    ∃ o', KpIn B sa w0 kb c txt { x with lv := lv' } { M with m := m', dead := dead', L := L' } o' w' ∧ Fr o o' w w' := by
  have s : Stp o (ext o w.heap.size w'.heap.size 6) (fun n => n = 3 ∨ n = 4 ∨ n = 5) w0 w w' := Stp.new h.b.low h.b.bel (k.mono (fun b hb e => by
    rcases e with e | e | e | e
    · rw [e]; exact .inl h.b.oc
    · rw [e]; exact .inr (.inl h.b.orb)
    · rw [e]; exact .inr (.inr h.org)
    · omega)) (by decide)
  refine ⟨_, ⟨(h.b.stp s (h.b.sen s (by decide)) (by decide) (s.get h.b.dog h.b.od (by decide)) h'.mem).re _ _ _ _ _, s.get h.box h.b.ok (by decide), h'.ring.box, h'.ring.row.reR (fun b hb hp => ?_), s.sl h.lrow (by decide), h.ll,
    fun j l e h1 h2 => s.locs h h1 h2 (by omega) (by omega), s.get h.tot h.ot (by decide), s.eq h.b.low h.org (by decide), s.eq h.b.low h.ot (by decide)⟩, s.fr (by decide)⟩
  rcases hv with hv | hv
  · have hm := h.rrow.many (hv ▸ h'.ring.row)
    have hp' : 0 < (M.L.flatMap recCells).length := by rw [flat_recs] at hp ⊢; omega
    rw [hv] at hb
    exact s.eq h.b.low (h.rrow.inR hb hp').1 (by decide)
  · have := hv b hb
    exact ext_new this.1 this.2

theorem kpGet_set {M : KpM} {j i : Nat} {a : Option LocM} (hj : j < M.A.length) : kpGet (kpSet M j a) i = if i = j then a else kpGet M i := by
  unfold kpGet kpSet
  rw [List.getD_eq_getElem?_getD, List.getD_eq_getElem?_getD, List.getElem?_set]
  by_cases e : i = j
  · subst e; rw [if_pos rfl, if_pos hj, if_pos rfl]; rfl
  · rw [if_neg (fun h => e h.symm), if_neg e]
theorem getElem?_lt' {α : Type} {l : List α} {j : Nat} {y : α} (h : l[j]? = some y) : j < l.length := (List.getElem?_eq_some_iff.1 h).1
theorem KpIn.ne (h : KpIn B sa w0 kb c txt x M o w) {j i l l' : Nat} {e e' : EntX} (h1 : x.ls[j]? = some l) (h2 : x.X[j]? = some e) (h3 : x.ls[i]? = some l') (h4 : x.X[i]? = some e') (hl : l = l') : i = j := by
  have := (h.loc j l e h1 h2).1
  have := (h.loc i l' e' h3 h4).1
  subst hl
  omega
theorem KpIn.locset (h : KpIn B sa w0 kb c txt x M o w) {j l : Nat} {e : EntX} (h1 : x.ls[j]? = some l) (h2 : x.X[j]? = some e) {a : Option LocM} (s : Stp o o' N w0 w w') (n0 : ¬ N 0) (hN : ∀ n, N n → n = 10 + 2 * j ∨ n = 11 + 2 * j)
    (hl : ∃ p t, (∀ b, p ≤ b → b < t → o' b = 11 + 2 * j) ∧ LocIs l p t e w' a) : KpIn B sa w0 kb c txt x (kpSet M j a) o' w' := by
  have hf : ∀ n, n < 10 → ¬ N n := fun n hn hh => by have := hN n hh; omega
  refine ⟨h.b.keep s (h.b.sen s n0) (hf _ (by decide)) (hf _ (by decide)) (hf _ (by decide)) (hf _ (by decide)), s.get h.box h.b.ok (hf _ (by decide)), s.get h.rbox h.org (hf _ (by decide)), s.sl h.rrow (hf _ (by decide)), s.sl h.lrow (hf _ (by decide)), ?_,
    fun i l' e' h3 h4 => ?_, s.get h.tot h.ot (hf _ (by decide)), s.eq h.b.low h.org (by decide), s.eq h.b.low h.ot (by decide)⟩
  · refine ⟨h.ll.1, ?_⟩
    show (M.A.set j a).length = _
    rw [List.length_set]; exact h.ll.2
  · have hj : j < M.A.length := by have := getElem?_lt' h2; have := h.ll; omega
    rw [kpGet_set hj]
    by_cases e1 : i = j
    · subst e1
      rw [h1] at h3; rw [h2] at h4
      obtain rfl := Option.some.inj h3
      obtain rfl := Option.some.inj h4
      rw [if_pos rfl]
      exact ⟨s.eq h.b.low (h.loc i l e h1 h2).1 (by omega), hl⟩
    · rw [if_neg e1]
      exact s.locs h h3 h4 (fun hh => by have := hN _ hh; omega) (fun hh => by have := hN _ hh; omega)
theorem KpIn.watch (h : KpIn B sa w0 kb c txt x M o w) {j l p t : Nat} {e : EntX} (h1 : x.ls[j]? = some l) (h2 : x.X[j]? = some e) (hw : ∀ b, p ≤ b → b < t → o b = 11 + 2 * j) {a : LocM}
    (k : Keep (fun b => p ≤ b ∧ b < t) w w') (hl : LocAt l p t e.E e.p e.g e.e e.f e.l a w') : KpIn B sa w0 kb c txt x (kpSet M j (some a)) o w' ∧ Fr o o w w' := by
  have s : Stp o o (fun n => n = 11 + 2 * j) w0 w w' := Stp.same h.b.low h.b.bel (k.mono (fun b hb e => hw b e.1 e.2)) (by omega)
  exact ⟨h.locset h1 h2 s (by omega) (fun n hn => .inr hn) ⟨p, t, hw, hl⟩, s.fr (by omega)⟩
theorem KpIn.stop (h : KpIn B sa w0 kb c txt x M o w) {j l : Nat} {e : EntX} (h1 : x.ls[j]? = some l) (h2 : x.X[j]? = some e)
    (k : Keep (· = l) w w') (hl : w'.heap[l]? = some (locC none e.E e.p e.g e.e e.f e.l)) : KpIn B sa w0 kb c txt x (kpSet M j none) o w' ∧ Fr o o w w' := by
  have s : Stp o o (fun n => n = 10 + 2 * j) w0 w w' := Stp.same h.b.low h.b.bel (k.mono (fun b hb e => by rw [e]; exact (h.loc j l _ h1 h2).1)) (by omega)
  exact ⟨h.locset h1 h2 s (by omega) (fun n hn => .inl hn) ⟨0, 0, fun b _ h => by omega, hl⟩, s.fr (by omega)⟩
theorem KpIn.begin (h : KpIn B sa w0 kb c txt x M o w) {j l t : Nat} {e : EntX} (h1 : x.ls[j]? = some l) (h2 : x.X[j]? = some e) {a : LocM}
    (k : Keep (· = l) w w') (hl : LocAt l w.heap.size t e.E e.p e.g e.e e.f e.l a w') : ∃ o', KpIn B sa w0 kb c txt x (kpSet M j (some a)) o' w' ∧ Fr o o' w w' := by
  have s : Stp o (ext o w.heap.size w'.heap.size (11 + 2 * j)) (fun n => n = 10 + 2 * j) w0 w w' := Stp.new h.b.low h.b.bel (k.mono (fun b hb e => by rw [e]; exact (h.loc j l _ h1 h2).1)) (by omega)
  exact ⟨_, h.locset h1 h2 s (by omega) (fun n hn => .inl hn) ⟨w.heap.size, t, fun b h3 h4 => ext_new h3 (Nat.lt_of_lt_of_le h4 hl.le), hl⟩, s.fr (by omega)⟩
end
end Go.Proofs.YtakjbjokekbmbaaGreatDoor

/- Package keeper: on, entity, Begin, Stop, Report. -/
namespace Go.Proofs.YtakjbjokekbmbaaGreatDoor
open Go.RowKit
set_option linter.unusedVariables false

section
variable {B : Nat} {sa : Nat → Addr} {w0 : World} {kb c : Nat} {txt : ByteArray} {x : KpX} {M : KpM} {o : Nat → Nat} {w : World}
set_option maxHeartbeats 1000000 in
theorem kpOn_any (h : KpIn B sa w0 kb c txt x M o w) : Calls Tryz.prog 39 #[.pointer (some ⟨kb, 0, none⟩)] w fun e w' => e = .returned (errv sa (kpOn M)) ∧ w = w' := by
  obtain ⟨k0, k1, k2, k3, k4, k5, k6, k7, k8, k9, k10, kf⟩ := kp_cells h.box
  obtain ⟨_, _, _, _, _, _, _, s7, _, _, s10⟩ := h.b.se.all
  have HP := Lib.hid (cellsPower_any c x.rb _ x.cap M.m w h.b.mem)
  have HR := Lib.hid (dogReset_any x.d M.D w h.b.dog)
  clear h k1 k2 k3 k4 k5 k7 k8 k9 k10 kf
  unfold kpOn
  cases hx : M.m.off
  · rw [hx] at HP
    cases hr : M.D.reset
    · rw [hr] at HR
      go_enter Tryz.func39, Tryz.ntmps39
      go_wp2_with fail
      refine HP.out.mono ?_
      rintro e w1 ⟨rfl, rfl⟩
      go_wp2_with fail
      refine HR.out.mono ?_
      rintro e w1 ⟨rfl, rfl⟩
      go_wp2_with fail
      go_ret
      exact ⟨rfl, rfl⟩
    · rw [hr] at HR
      go_enter Tryz.func39, Tryz.ntmps39
      go_wp2_with fail
      refine HP.out.mono ?_
      rintro e w1 ⟨rfl, rfl⟩
      go_wp2_with fail
      refine HR.out.mono ?_
      rintro e w1 ⟨rfl, rfl⟩
      go_wp2_with fail
      go_ret
      exact ⟨rfl, rfl⟩
  · rw [hx] at HP
    go_enter Tryz.func39, Tryz.ntmps39
    go_wp2_with fail
    refine HP.out.mono ?_
    rintro e w1 ⟨rfl, rfl⟩
    go_wp2_with fail
    go_ret
    exact ⟨rfl, rfl⟩

/-- Where the locals' row lies. -/
theorem KpIn.row (h : KpIn B sa w0 kb c txt x M o w) : ∃ ao cap, x.vl = .slice ao M.A.length cap ∧ M.A.length ≤ cap ∧ cap ≤ maxLen ∧
    ∀ j, j < M.A.length → ∃ b off l e, ao = some ⟨b, off, none⟩ ∧ w.cell? ⟨b, off + j, none⟩ = some (.pointer (some ⟨l, 0, none⟩)) ∧ x.ls[j]? = some l ∧ x.X[j]? = some e ∧ kpEnt M j = e.E := by
  have hl := h.len
  have hx := h.ll
  have he := h.b.xe
  obtain ⟨h0, ao, cap, hv, h1, h2, h3, h4⟩ := h.lrow
  refine ⟨ao, cap, by rw [hv, hl.1], by omega, h2, fun j hj => ?_⟩
  have hp : (ptrCs x.ls).length = x.ls.length := by simp [ptrCs]
  obtain ⟨b, off, ha, _, _, hc⟩ := h4 (by omega)
  have g1 : x.ls[j]? = some x.ls[j] := List.getElem?_eq_getElem (by omega)
  have g2 : x.X[j]? = some (x.X[j]'(by omega)) := List.getElem?_eq_getElem (by omega)
  refine ⟨b, off, x.ls[j], x.X[j]'(by omega), ha, hc j _ ?_, g1, g2, ?_⟩
  · unfold ptrCs
    rw [List.getElem?_map, g1]; rfl
  · unfold kpEnt
    rw [he, List.getD_eq_getElem?_getD, List.getElem?_map, g2]; rfl

set_option maxHeartbeats 1000000 in
theorem kpEntity_bad (h : KpIn B sa w0 kb c txt x M o w) (i : Int) (hi : kpAsk M i ≠ 0) :
    Calls Tryz.prog 32 #[.pointer (some ⟨kb, 0, none⟩), .int .i64 i] w fun e w' => e = .returned (.tuple #[.pointer none, errv sa (kpAsk M i)]) ∧ Below w.heap.size w w' := by
  obtain ⟨k0, k1, k2, k3, k4, k5, k6, k7, k8, k9, k10, kf⟩ := kp_cells h.box
  obtain ⟨_, _, _, _, s4, _⟩ := h.b.se.all
  obtain ⟨ao, cap, hv, hc1, hc2, _⟩ := h.row
  rw [hv] at k8
  have HO := Lib.hid (kpOn_any h)
  clear h hv k0 k1 k2 k3 k4 k5 k6 k7 k9 k10 kf
  unfold kpAsk at hi ⊢
  by_cases h0 : kpOn M = 0
  · rw [h0] at HO
    rw [h0, if_neg (by decide)] at hi ⊢
    by_cases hb : i < 0 ∨ (M.A.length : Int) ≤ i
    · rw [if_pos hb]
      clear hi h0
      by_cases hn : i < 0
      · clear hb
        go_enter Tryz.func32, Tryz.ntmps32
        go_wp2_with fail
        refine HO.out.mono ?_
        rintro e w1 ⟨rfl, rfl⟩
        rw [errv_zero]
        go_wp2_with fail
        go_quiet (fail)
        go_wp2_with fail
        go_ret2
        exact ⟨rfl, below_drewN' _ (Below.refl _ _)⟩
      · have hb' : (M.A.length : Int) ≤ i := by omega
        clear hb
        go_enter Tryz.func32, Tryz.ntmps32
        go_wp2_with fail
        refine HO.out.mono ?_
        rintro e w1 ⟨rfl, rfl⟩
        rw [errv_zero]
        go_wp2_with fail
        go_quiet (fail)
        go_wp2_with fail
        go_ret2
        exact ⟨rfl, below_drewN' _ (Below.refl _ _)⟩
    · rw [if_neg hb] at hi
      exact absurd rfl hi
  · rw [if_pos h0]
    obtain ⟨q, hq⟩ : ∃ q, kpOn M = q + 1 := ⟨kpOn M - 1, by omega⟩
    rw [hq] at HO ⊢
    clear hi h0
    go_enter Tryz.func32, Tryz.ntmps32
    go_wp2_with fail
    refine HO.out.mono ?_
    rintro e w1 ⟨rfl, rfl⟩
    rw [errv_succ]
    go_wp2_with fail
    go_ret2
    exact ⟨rfl, Below.refl _ _⟩

set_option maxHeartbeats 1000000 in
theorem kpEntity_ok (h : KpIn B sa w0 kb c txt x M o w) (i : Int) (hi : ¬ kpAsk M i ≠ 0) :
    Calls Tryz.prog 32 #[.pointer (some ⟨kb, 0, none⟩), .int .i64 i] w fun e w' => ∃ l y, e = .returned (.tuple #[.pointer (some ⟨l, 0, none⟩), .nilIface]) ∧ x.ls[i.toNat]? = some l ∧ x.X[i.toNat]? = some y ∧ kpEnt M i.toNat = y.E ∧ w = w' := by
  obtain ⟨k0, k1, k2, k3, k4, k5, k6, k7, k8, k9, k10, kf⟩ := kp_cells h.box
  obtain ⟨ao, cap, hv, hc1, hc2, hr⟩ := h.row
  rw [hv] at k8
  have HO := Lib.hid (kpOn_any h)
  unfold kpAsk at hi
  by_cases h0 : kpOn M = 0
  · rw [h0] at HO
    rw [h0, if_neg (by decide)] at hi
    by_cases hb : i < 0 ∨ (M.A.length : Int) ≤ i
    · rw [if_pos hb] at hi
      exact absurd (by decide) hi
    · obtain ⟨n, rfl⟩ := Int.eq_ofNat_of_zero_le (show 0 ≤ i by omega)
      have hn : n < M.A.length := by omega
      obtain ⟨b, off, l, y, rfl, q1, q2, q3, q4⟩ := hr n hn
      have Q := Lib.hid (show x.ls[((n : Int)).toNat]? = some l ∧ x.X[((n : Int)).toNat]? = some y ∧ kpEnt M ((n : Int)).toNat = y.E by rw [Int.toNat_natCast]; exact ⟨q2, q3, q4⟩)
      have hn2 : (n : Int) < M.A.length := by omega
      clear h hv hb hi h0 q2 q3 q4 hr k0 k1 k2 k3 k4 k5 k6 k7 k9 k10 kf
      go_enter Tryz.func32, Tryz.ntmps32
      go_wp2_with fail
      refine HO.out.mono ?_
      rintro e w1 ⟨rfl, rfl⟩
      rw [errv_zero]
      go_wp2_with fail
      go_ret2
      exact ⟨l, y, rfl, Q.out.1, Q.out.2.1, Q.out.2.2, rfl⟩
  · rw [if_pos h0] at hi
    exact absurd h0 hi
end
end Go.Proofs.YtakjbjokekbmbaaGreatDoor
