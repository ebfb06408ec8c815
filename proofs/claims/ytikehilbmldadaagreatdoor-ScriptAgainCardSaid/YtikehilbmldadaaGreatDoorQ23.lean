import Derived.Test.YtikehilbmldadaaGreatDoorQ01
import Derived.Test.YtikehilbmldadaaGreatDoorQ22
import Derived.IntWalk
import Derived.Test.YtikehilbmldadaaGreatDoorQ07
import Derived.Test.YtikehilbmldadaaGreatDoorQ08
import Derived.Test.YtikehilbmldadaaGreatDoorQ12
import Derived.Lib.Strings
import Derived.Lib.Slices
import Derived.Lib.Walk
import Derived.Lib.Builder
import Derived.Lib.AppendStr
import Derived.Lib.UnsafeStr
import Derived.Laws.Externs
import Derived.Laws.IdiomCopy
import Derived.Test.YtikehilbmldadaaGreatDoorShelf
import Derived.Lib.AppendIntMem
import Derived.Deep.RegionHeld3
import Derived.Shelf.Strings.SplitCore
import Derived.Lib.SplitLaws
import Derived.Deep.DeepCutAuto
set_option maxHeartbeats 4000000
set_option maxRecDepth 100000
namespace Go.Proofs.YtikehilbmldadaaGreatDoor
open Go.RowKit
set_option linter.unusedVariables false
structure DogM where
  closed : Int
  opn : Int
  now : Int
  last : Int
  reset : Bool
  kicks : Int
structure DogOk (m : DogM) : Prop where
  c0 : 0 ≤ m.closed
  c1 : m.closed ≤ 1000
  o0 : 1 ≤ m.opn
  o1 : m.opn ≤ 1000
  l0 : 0 ≤ m.last
  ln : m.last ≤ m.now
  n1 : m.now ≤ 1099511627776
  k0 : 0 ≤ m.kicks
  k1 : m.kicks ≤ 1000000
def dogOpen (m : DogM) : Bool := !m.reset && decide (m.closed < m.now - m.last)
def dogTickE (m : DogM) : Nat := if m.reset = true then 11 else if 1099511627776 ≤ m.now then 2 else 0
def dogTick (m : DogM) : DogM := if m.reset = true then m else if 1099511627776 ≤ m.now then m else { m with now := m.now + 1, reset := decide (m.closed + m.opn < m.now + 1 - m.last) }
def dogKickE (m : DogM) : Nat := if dogOpen m = true then 0 else 11
def dogKick (m : DogM) : DogM := if dogOpen m = true then { m with last := m.now, kicks := m.kicks + 1 } else { m with reset := true }
def dogStart (m : DogM) : DogM := { m with reset := false, last := m.now }
theorem dogKickE_no {m : DogM} (h : dogOpen m = false) : dogKickE m = 11 := by simp [dogKickE, h]
theorem dogKickE_yes {m : DogM} (h : dogOpen m = true) : dogKickE m = 0 := by simp [dogKickE, h]
theorem dogKick_no {m : DogM} (h : dogOpen m = false) : dogKick m = { m with reset := true } := by simp [dogKick, h]
theorem dogKick_yes {m : DogM} (h : dogOpen m = true) : dogKick m = { m with last := m.now, kicks := m.kicks + 1 } := by simp [dogKick, h]
theorem dogOk_tick {m : DogM} (h : DogOk m) : DogOk (dogTick m) := by
  unfold dogTick
  split
  · exact h
  · split
    · exact h
    · have := h.ln; have := h.n1
      exact ⟨h.c0, h.c1, h.o0, h.o1, h.l0, by show m.last ≤ m.now + 1; omega, by show m.now + 1 ≤ _; omega, h.k0, h.k1⟩
theorem dogOk_kick {m : DogM} (h : DogOk m) (hk : m.kicks + 1 ≤ 1000000) : DogOk (dogKick m) := by
  unfold dogKick
  have := h.l0; have := h.ln; have := h.k0
  split
  · exact ⟨h.c0, h.c1, h.o0, h.o1, by show 0 ≤ m.now; omega, Int.le_refl _, h.n1, by show 0 ≤ m.kicks + 1; omega, hk⟩
  · exact ⟨h.c0, h.c1, h.o0, h.o1, h.l0, h.ln, h.n1, h.k0, h.k1⟩
theorem dogOk_start {m : DogM} (h : DogOk m) : DogOk (dogStart m) := by
  have := h.l0; have := h.ln
  exact ⟨h.c0, h.c1, h.o0, h.o1, by show 0 ≤ m.now; omega, Int.le_refl _, h.n1, h.k0, h.k1⟩
def dogC (m : DogM) : Obj := .cells #[.int .i64 m.closed, .int .i64 m.opn, .int .i64 m.now, .int .i64 m.last, .bool m.reset, .int .i64 m.kicks] 116
def DogAt (w : World) (d : Nat) (m : DogM) : Prop := w.heap[d]? = some (dogC m)
theorem dog_cells {w : World} {d : Nat} {m : DogM} (h : DogAt w d m) :
    w.cell? ⟨d, 0, none⟩ = some (.int .i64 m.closed) ∧ w.cell? ⟨d, 1, none⟩ = some (.int .i64 m.opn) ∧ w.cell? ⟨d, 2, none⟩ = some (.int .i64 m.now) ∧ w.cell? ⟨d, 3, none⟩ = some (.int .i64 m.last) ∧ w.cell? ⟨d, 4, none⟩ = some (.bool m.reset) ∧ w.cell? ⟨d, 5, none⟩ = some (.int .i64 m.kicks) ∧ ∀ o, w.frozen? ⟨d, o, none⟩ = false := by
  unfold DogAt dogC at h
  simp [World.cell?, World.frozen?, h]
theorem DogAt.keep {S : Nat → Prop} {w w' : World} {d : Nat} {m : DogM} (h : DogAt w d m) (k : Keep S w w') (hS : ¬ S d) : DogAt w' d m := k.get h hS
theorem DogAt.set2 {w : World} {d : Nat} {m : DogM} (h : DogAt w d m) (x : Int) : DogAt (w.setCell ⟨d, 2, none⟩ (.int .i64 x)) d { m with now := x } := by
  unfold DogAt dogC at h ⊢
  rw [get_setCell _ h]; rfl
theorem DogAt.set3 {w : World} {d : Nat} {m : DogM} (h : DogAt w d m) (x : Int) : DogAt (w.setCell ⟨d, 3, none⟩ (.int .i64 x)) d { m with last := x } := by
  unfold DogAt dogC at h ⊢
  rw [get_setCell _ h]; rfl
theorem DogAt.set4 {w : World} {d : Nat} {m : DogM} (h : DogAt w d m) (x : Bool) : DogAt (w.setCell ⟨d, 4, none⟩ (.bool x)) d { m with reset := x } := by
  unfold DogAt dogC at h ⊢
  rw [get_setCell _ h]; rfl
theorem DogAt.set5 {w : World} {d : Nat} {m : DogM} (h : DogAt w d m) (x : Int) : DogAt (w.setCell ⟨d, 5, none⟩ (.int .i64 x)) d { m with kicks := x } := by
  unfold DogAt dogC at h ⊢
  rw [get_setCell _ h]; rfl
theorem keep_drewD (S : Nat → Prop) (w : World) (q : Nat) : Keep S w (w.drewN q) := (below_keep (below_drewN' q (Below.refl w.heap.size w))).mono (fun _ _ h => h.elim)
theorem dogNew_in (c o : Int) (w : World) (h0 : 0 ≤ c) (h1 : c ≤ 1000) (h2 : 1 ≤ o) (h3 : o ≤ 1000) :
    Calls Tryz.prog 74 #[.int .i64 c, .int .i64 o] w fun e w' => e = .returned (.tuple #[.pointer (some ⟨w.heap.size, 0, none⟩), .nilIface]) ∧ DogAt w' w.heap.size ⟨c, o, 0, 0, false, 0⟩ ∧ Below w.heap.size w w' := by
  have n1 := Lib.hid (get_alloc_new w (dogC ⟨c, o, 0, 0, false, 0⟩))
  have b1 := Lib.hid ((Below.refl w.heap.size w).alloc (Nat.le_refl _) (dogC ⟨c, o, 0, 0, false, 0⟩))
  go_enter Tryz.func74, Tryz.ntmps74
  go_wp2_with fail
  refine bodyPost_ret (results_tmp2 rfl _ _ _) rfl ?_
  exact ⟨rfl, n1.out, b1.out⟩
theorem dogOpen_any (d : Nat) (m : DogM) (w : World) (h : DogAt w d m) (ok : DogOk m) :
    Calls Tryz.prog 156 #[.pointer (some ⟨d, 0, none⟩)] w fun e w' => e = .returned (.bool (dogOpen m)) ∧ Keep (fun _ => False) w w' := by
  obtain ⟨c0, c1, c2, c3, c4, c5, cf⟩ := dog_cells h
  obtain ⟨o1, o2, o3, o4, o5, o6, o7, o8, o9⟩ := ok
  have hw := IntWalk.i64_in (m.now - m.last) (by omega)
  unfold dogOpen
  clear h
  cases hr : m.reset
  · rw [hr] at c4
    by_cases ho : m.closed < m.now - m.last
    · go_enter Tryz.func156, Tryz.ntmps156
      go_wp2_with fail
      go_quiet (fail)
      go_wp2_with fail
      go_ret
      exact ⟨ret_bool (by simp [ho]), keep_drewD _ _ _⟩
    · go_enter Tryz.func156, Tryz.ntmps156
      go_wp2_with fail
      go_quiet (fail)
      go_wp2_with fail
      go_ret
      exact ⟨ret_bool (by simp), keep_drewD _ _ _⟩
  · rw [hr] at c4
    go_enter Tryz.func156, Tryz.ntmps156
    go_wp2_with fail
    go_quiet (fail)
    go_wp2_with fail
    go_ret
    exact ⟨ret_bool (by simp), keep_drewD _ _ _⟩
theorem dogTick_any (B : Nat) (sa : Nat → Addr) (d : Nat) (m : DogM) (w : World) (h : DogAt w d m) (ok : DogOk m) (hS : SentsK B sa w) :
    Calls Tryz.prog 84 #[.pointer (some ⟨d, 0, none⟩)] w fun e w' => e = .returned (errv sa (dogTickE m)) ∧ DogAt w' d (dogTick m) ∧ Keep (· = d) w w' := by
  obtain ⟨c0, c1, c2, c3, c4, c5, cf⟩ := dog_cells h
  obtain ⟨g0, g1, g2, g3, g4, g5, g6, g7, g8, g9, g10⟩ := hS.all
  obtain ⟨o1, o2, o3, o4, o5, o6, o7, o8, o9⟩ := ok
  have H := Lib.hid h
  clear h hS g0 g2 g3 g4 g5 g6 g7 g8 g9
  unfold dogTickE dogTick
  cases hr : m.reset
  · rw [hr] at c4
    by_cases hn : 1099511627776 ≤ m.now
    · rw [if_neg (by decide), if_pos hn, if_neg (by decide), if_pos hn]
      go_enter Tryz.func84, Tryz.ntmps84
      go_wp2_with fail
      go_ret
      exact ⟨rfl, H.out, Keep.refl _ _⟩
    · rw [if_neg (by decide), if_neg hn, if_neg (by decide), if_neg hn]
      have h1 := H.out.set2 (m.now + 1)
      have k1 := keep_set w d 2 (.int .i64 (m.now + 1))
      have H1 := Lib.hid h1
      have K1 := Lib.hid k1
      clear h1 k1 H
      have hw1 := IntWalk.i64_in (m.now + 1 - m.last) (by omega)
      have hw2 := IntWalk.i64_in (m.closed + m.opn) (by omega)
      go_enter Tryz.func84, Tryz.ntmps84
      go_wp2_with fail
      generalize World.setCell _ _ _ = w1 at H1 K1 ⊢
      obtain ⟨x0, x1, x2, x3, x4, x5, xf⟩ := dog_cells H1.out
      clear c0 c1 c2 c3 c4 c5 cf
      simp only at x0 x1 x2 x3 x4 x5
      go_region
      all_goals
        go_wp2_with fail
        go_ret
        exact ⟨rfl, H1.out.set4 _, (K1.out.trans (keep_set w1 d 4 _)).drew⟩
  · rw [hr] at c4
    rw [if_pos rfl, if_pos rfl]
    go_enter Tryz.func84, Tryz.ntmps84
    go_wp2_with fail
    go_ret
    exact ⟨rfl, H.out, Keep.refl _ _⟩
theorem dogKick_any (B : Nat) (sa : Nat → Addr) (d : Nat) (m : DogM) (w : World) (h : DogAt w d m) (ok : DogOk m) (hS : SentsK B sa w) (hd : B ≤ d) :
    Calls Tryz.prog 157 #[.pointer (some ⟨d, 0, none⟩)] w fun e w' => e = .returned (errv sa (dogKickE m)) ∧ DogAt w' d (dogKick m) ∧ Keep (· = d) w w' := by
  have H := Lib.hid h
  have HS := Lib.hid hS
  have OK := Lib.hid ok
  have ok0 := ok.k0
  have ok1 := ok.k1
  clear h hS ok
  go_enter Tryz.func157, Tryz.ntmps157
  go_wp2_with fail
  refine (dogOpen_any d m w H.out OK.out).mono ?_
  rintro e w1 ⟨rfl, k1⟩
  have h1 := H.out.keep k1 (fun h => h)
  have s1 := HS.out.keep k1 (fun _ h => h.elim)
  obtain ⟨c0, c1, c2, c3, c4, c5, cf⟩ := dog_cells h1
  obtain ⟨g0, g1, g2, g3, g4, g5, g6, g7, g8, g9, g10⟩ := s1.all
  have hlt := HS.out.nb 10 (by decide)
  have q1 := Lib.hid (h1.set4 true)
  have q2 := Lib.hid ((h1.set3 m.now).set5 (m.kicks + 1))
  have K1 : Hid (Keep (· = d) w w1) := k1.mono (fun _ _ h => h.elim)
  have gk : (w1.setCell ⟨d, 4, none⟩ (.bool true)).cell? ⟨10, 0, none⟩ = some (.iface 372 (.pointer (some (sa 10)))) := by
    rw [(keep_set w1 d 4 (.bool true)).cell (p := ⟨10, 0, none⟩) (World.block_lt_of_cell? _ ⟨10, 0, none⟩ g10) (fun hb => by have : 10 = d := hb; have : 10 < B := hlt; omega)]
    exact g10
  clear h1 s1 g0 g1 g2 g3 g4 g5 g6 g7 g8 g9 k1 H HS OK
  cases ho : dogOpen m
  · go_wp2_with fail
    go_ret
    rw [dogKickE_no ho, dogKick_no ho]
    exact ⟨rfl, q1.out, K1.out.trans (keep_set w1 d 4 _)⟩
  · go_wp2_with fail
    go_ret
    rw [dogKickE_yes ho, dogKick_yes ho]
    exact ⟨rfl, q2.out, (K1.out.trans (keep_set w1 d 3 _)).trans (keep_set _ d 5 _)⟩
theorem dogReset_any (d : Nat) (m : DogM) (w : World) (h : DogAt w d m) : Calls Tryz.prog 53 #[.pointer (some ⟨d, 0, none⟩)] w fun e w' => e = .returned (.bool m.reset) ∧ w = w' := by
  obtain ⟨c0, c1, c2, c3, c4, c5, cf⟩ := dog_cells h
  clear h
  go_enter Tryz.func53, Tryz.ntmps53
  go_wp2_with fail
  go_ret
  exact ⟨rfl, rfl⟩
theorem dogNow_any (d : Nat) (m : DogM) (w : World) (h : DogAt w d m) : Calls Tryz.prog 26 #[.pointer (some ⟨d, 0, none⟩)] w fun e w' => e = .returned (.int .i64 m.now) ∧ w = w' := by
  obtain ⟨c0, c1, c2, c3, c4, c5, cf⟩ := dog_cells h
  clear h
  go_enter Tryz.func26, Tryz.ntmps26
  go_wp2_with fail
  go_ret
  exact ⟨rfl, rfl⟩
theorem dogKicks_any (d : Nat) (m : DogM) (w : World) (h : DogAt w d m) : Calls Tryz.prog 27 #[.pointer (some ⟨d, 0, none⟩)] w fun e w' => e = .returned (.int .i64 m.kicks) ∧ w = w' := by
  obtain ⟨c0, c1, c2, c3, c4, c5, cf⟩ := dog_cells h
  clear h
  go_enter Tryz.func27, Tryz.ntmps27
  go_wp2_with fail
  go_ret
  exact ⟨rfl, rfl⟩
theorem dogStart_any (d : Nat) (m : DogM) (w : World) (h : DogAt w d m) : Calls Tryz.prog 188 #[.pointer (some ⟨d, 0, none⟩)] w fun e w' => e = .returned (.tuple #[]) ∧ DogAt w' d (dogStart m) ∧ Keep (· = d) w w' := by
  obtain ⟨c0, c1, c2, c3, c4, c5, cf⟩ := dog_cells h
  have H := Lib.hid h
  clear h
  unfold dogStart
  go_enter Tryz.func188, Tryz.ntmps188
  go_wp2_with fail
  first | (go_end0; exact ⟨rfl, (H.out.set4 false).set3 m.now, (keep_set w d 4 _).trans (keep_set _ d 3 _)⟩) | (go_region; all_goals (go_end0; first | exact ⟨rfl, (H.out.set4 false).set3 m.now, (keep_set w d 4 _).trans (keep_set _ d 3 _)⟩ | exact ⟨rfl, (H.out.set3 m.now).set4 false, (keep_set w d 3 _).trans (keep_set _ d 4 _)⟩))
structure KpM where
  C : ConfV
  D : DogM
  m : CM
  L : List RecV
  dead : Bool
  A : List (Option LocM)
  sn : Int
  st : St
def kpE0 : EntV := ⟨ByteArray.empty, 0, [], 0, 0, 0, [], [], [], []⟩
def kpEnt (M : KpM) (j : Nat) : EntV := M.C.ents.getD j kpE0
def kpGet (M : KpM) (j : Nat) : Option LocM := M.A.getD j none
def kpSet (M : KpM) (j : Nat) (a : Option LocM) : KpM := { M with A := M.A.set j a }
def kpOn (M : KpM) : Nat := if M.m.off = true then 8 else if M.D.reset = true then 11 else 0
def kpAsk (M : KpM) (i : Int) : Nat := if kpOn M ≠ 0 then kpOn M else if i < 0 ∨ (M.A.length : Int) ≤ i then 5 else 0
def kpBegin (M : KpM) (i : Int) : Nat × KpM := if kpAsk M i ≠ 0 then (kpAsk M i, M) else match kpGet M i.toNat with
  | none => (0, kpSet M i.toNat (some (locBegin (kpEnt M i.toNat))))
  | some _ => (10, M)
def kpStop (M : KpM) (i : Int) : Nat × KpM := if kpAsk M i ≠ 0 then (kpAsk M i, M) else match kpGet M i.toNat with
  | none => (9, M)
  | some _ => (0, kpSet M i.toNat none)
def kpReport (M : KpM) (i p : Int) : Nat × KpM := if kpAsk M i ≠ 0 then (kpAsk M i, M) else match kpGet M i.toNat with
  | none => (9, M)
  | some a => if p < 0 ∨ ((kpEnt M i.toNat).points.length : Int) ≤ p then (5, M) else (0, kpSet M i.toNat (some (locReport (kpEnt M i.toNat) a p M.D.now)))
def idleS : ByteArray := ⟨#[105, 100, 108, 101]⟩
def kpStat : Option LocM → ByteArray
  | none => idleS
  | some a => locStatus a
def kpEnd1 (M : KpM) (j : Nat) : Nat × KpM := match kpGet M j with
  | none => (0, M)
  | some a => if locNow (kpEnt M j) a = true then
      ((ringApp M.m M.L M.dead j (locKind (kpEnt M j) a) M.D.now).1, { kpSet M j (some (locEnd (kpEnt M j) a)) with m := (ringApp M.m M.L M.dead j (locKind (kpEnt M j) a) M.D.now).2.2.1, L := (ringApp M.m M.L M.dead j (locKind (kpEnt M j) a) M.D.now).2.2.2.1, dead := (ringApp M.m M.L M.dead j (locKind (kpEnt M j) a) M.D.now).2.2.2.2 })
    else (0, kpSet M j (some (locEnd (kpEnt M j) a)))
def kpEndN (M : KpM) : Nat → Nat × KpM
  | 0 => (0, M)
  | j + 1 => if (kpEndN M j).1 ≠ 0 then kpEndN M j else kpEnd1 (kpEndN M j).2 j
def kpTot (M : KpM) : KpM := { M with sn := (St.next M.C.delay M.sn M.st (M.A.map kpStat)).1, st := (St.next M.C.delay M.sn M.st (M.A.map kpStat)).2 }
def kpKick (M : KpM) : KpM := if M.st ≠ .stopped ∧ dogOpen M.D = true then { M with D := dogKick M.D } else M
def kpEnd (M : KpM) : Nat × KpM := if (kpEndN M M.A.length).1 ≠ 0 then kpEndN M M.A.length else (0, kpKick (kpTot (kpEndN M M.A.length).2))
def kpDog (M : KpM) : KpM := { M with D := dogTick M.D }
def kpTick (M : KpM) : Nat × KpM := if kpOn M ≠ 0 then (kpOn M, M) else if dogTickE M.D ≠ 0 then (dogTickE M.D, kpDog M) else if (dogTick M.D).reset = true then (11, kpDog M)
  else if (dogTick M.D).now % M.C.cycle = 0 then kpEnd (kpDog M) else (0, kpDog M)
def kpTicks (M : KpM) : Nat → Nat × KpM
  | 0 => (0, M)
  | k + 1 => if (kpTicks M k).1 ≠ 0 then kpTicks M k else kpTick (kpTicks M k).2
def kpOpen (C : ConfV) (D : DogM) (m : CM) : KpM := ⟨C, D, m, recsOf m.bs, false, List.replicate C.ents.length none, 0, .ok⟩
def kpBoot (M : KpM) : Nat × KpM := if kpOn M = 0 then (10, M) else (0, kpOpen M.C (dogStart M.D) ⟨M.m.bs, false, -1, M.m.wr⟩)
def kpState (M : KpM) : ByteArray := if M.m.off = true then ⟨#[111, 102, 102]⟩ else if M.D.reset = true then ⟨#[114, 101, 115, 101, 116]⟩ else ⟨#[111, 110]⟩
structure KpOk (M : KpM) (T : Nat) : Prop where
  bound : boundC M.C = false
  small : ∀ E ∈ M.C.ents, Light E
  dog : DogOk M.D
  now : M.D.now ≤ T
  kicks : M.D.kicks ≤ T
  cm : CMOk M.m (200 * T)
  len : M.m.bs.length = 4096
  An : M.A.length = M.C.ents.length
  run : ∀ a, some a ∈ M.A → 0 ≤ a.run ∧ a.run ≤ T
  tin : TInv M.C.delay M.sn M.st
  log : ∃ D, RInv M.m.bs D ∧ D.length ≤ 8 * T ∧ M.L = lastR D
  dead : M.dead = true → M.m.off = true
  t : T ≤ 400000
theorem KpOk.up {M : KpM} {T T' : Nat} (h : KpOk M T) (hT : T ≤ T') (h2 : T' ≤ 400000) : KpOk M T' := by
  obtain ⟨D, d1, d2, d3⟩ := h.log
  refine ⟨h.bound, h.small, h.dog, by have := h.now; omega, by have := h.kicks; omega, h.cm.mono (by omega), h.len, h.An, fun a ha => ?_, h.tin, ⟨D, d1, by omega, d3⟩, h.dead, h2⟩
  have := h.run a ha
  omega
theorem boundC_parts {C : ConfV} (h : boundC C = false) : 0 ≤ C.closed ∧ C.closed ≤ 1000 ∧ 1 ≤ C.opn ∧ C.opn ≤ 1000 ∧ 1 ≤ C.cycle ∧ C.cycle ≤ 100 ∧ 0 ≤ C.delay ∧ C.delay ≤ 20 ∧ C.ents.length ≤ 8 := by
  unfold boundC at h
  rw [decide_eq_false_iff_not] at h
  omega
theorem KpOk.an8 {M : KpM} {T : Nat} (h : KpOk M T) : M.A.length ≤ 8 := by
  have := boundC_parts h.bound
  have := h.An
  omega
theorem KpOk.l8 {M : KpM} {T : Nat} (h : KpOk M T) : M.L.length ≤ 8 ∧ (lastZ M.L).seq ≤ 8 * T := by
  obtain ⟨D, d1, d2, d3⟩ := h.log
  rw [d3, lastZ_lastR (fun j hj => (d1.seq j hj).1), lastR_len]
  omega
theorem kpGet_mem {M : KpM} {j : Nat} {a : LocM} (h : kpGet M j = some a) : j < M.A.length ∧ some a ∈ M.A := by
  unfold kpGet at h
  rw [List.getD_eq_getElem?_getD] at h
  by_cases hj : j < M.A.length
  · rw [List.getElem?_eq_getElem hj] at h
    have e : M.A[j] = some a := h
    exact ⟨hj, by rw [← e]; exact List.getElem_mem hj⟩
  · rw [List.getElem?_eq_none (by omega)] at h
    cases h
theorem KpOk.set {M : KpM} {T : Nat} (h : KpOk M T) {j : Nat} {a : Option LocM} (ha : ∀ x, a = some x → 0 ≤ x.run ∧ x.run ≤ T) : KpOk (kpSet M j a) T := by
  refine ⟨h.bound, h.small, h.dog, h.now, h.kicks, h.cm, h.len, ?_, fun x hx => ?_, h.tin, h.log, h.dead, h.t⟩
  · show (M.A.set j a).length = _
    rw [List.length_set]; exact h.An
  · have hx' : some x ∈ M.A.set j a := hx
    rcases List.mem_or_eq_of_mem_set hx' with h1 | h1
    · exact h.run x h1
    · exact ha x h1.symm
theorem locRun_bd {E : EntV} {a : LocM} {T : Nat} (h : 0 ≤ a.run ∧ a.run ≤ T) : 0 ≤ (locEnd E a).run ∧ (locEnd E a).run ≤ T + 1 := by
  show 0 ≤ locRun E a ∧ locRun E a ≤ _
  unfold locRun
  split <;> omega
theorem kpBegin_ok {M : KpM} {T : Nat} (h : KpOk M T) (i : Int) : KpOk (kpBegin M i).2 T := by
  unfold kpBegin
  split
  · exact h
  · split
    · exact h.set (fun x hx => by obtain rfl := Option.some.inj hx; simp [locBegin])
    · exact h
theorem kpStop_ok {M : KpM} {T : Nat} (h : KpOk M T) (i : Int) : KpOk (kpStop M i).2 T := by
  unfold kpStop
  split
  · exact h
  · split
    · exact h
    · exact h.set (fun x hx => by cases hx)
theorem kpReport_ok {M : KpM} {T : Nat} (h : KpOk M T) (i p : Int) : KpOk (kpReport M i p).2 T := by
  unfold kpReport
  split
  · exact h
  · split
    · exact h
    · rename_i a ha
      split
      · exact h
      · exact h.set (fun x hx => by obtain rfl := Option.some.inj hx; exact h.run a (kpGet_mem ha).2)
theorem ringApp_on {m : CM} {L D : List RecV} {dead : Bool} {kk : Int} {e k t : Int} (d1 : RInv m.bs D) (d2 : D.length ≤ 4000000) (d3 : L = lastR D) (hd : dead = false) (ho : m.off = false) (hc : CMOk m kk) (hl : m.bs.length = 4096) (hok : appOk e k t = true) :
    ∃ m' L' dd r D', ringApp m L dead e k t = (r.1, r.2, m', L', dd) ∧ CMOk m' (kk + 18) ∧ m'.bs.length = 4096 ∧ (dd = true → m'.off = true) ∧ (r.1 = 0 → m'.off = false) ∧ (r.1 = 0 ∨ r.1 = 8) ∧ RInv m'.bs D' ∧ L' = lastR D' ∧ D'.length ≤ D.length + 1 ∧
      (m.cut = -1 → r = ((0 : Nat), nextRec D e k t) ∧ D' = D ++ [nextRec D e k t] ∧ m'.cut = -1) := by
  have hs := fun j hj => (d1.seq j hj).1
  have hz := lastZ_lastR hs
  have hr := recNew_lastR hs e k t
  have hx : RecOk (nextRec D e k t) := by
    have := of_decide_eq_true hok
    exact ⟨by show 1 ≤ D.length + 1; omega, by show D.length + 1 < _; omega, by show e.toNat < _; omega, by show k.toNat < _; omega, by show t.toNat < _; omega⟩
  have hp := put_step d1 hc.c0 ho (rfl : (nextRec D e k t).seq = D.length + 1) hx
  have hu := fun hc => put_uncut (nextRec D e k t) hc ho d1.len
  have hok2 := put_ok (nextRec D e k t) hc
  unfold ringApp
  rw [hd, d3, if_neg (by decide), hok, if_neg (by decide), if_neg (by rw [hz]; omega), hr, lastR_snoc]
  obtain ⟨_, hl2, h1 | h1⟩ := hp
  · refine ⟨_, lastR (D ++ [nextRec D e k t]), false, (0, nextRec D e k t), D ++ [nextRec D e k t], by rw [if_pos h1.1], hok2, by rw [hl2, hl], (fun hh => by cases hh), fun _ => h1.2.1, .inl rfl, h1.2.2, rfl, by simp, fun hc => ⟨rfl, rfl, (hu hc).2⟩⟩
  · refine ⟨_, lastR D, true, (8, ⟨0, 0, 0, 0⟩), D, by rw [if_neg (by omega), h1.1], hok2, by rw [hl2, hl], fun _ => h1.2.1, (fun hh => by cases hh), .inr rfl, h1.2.2, rfl, by omega, fun hc => ?_⟩
    have := (hu hc).1
    omega
theorem locKind_bd (E : EntV) (a : LocM) : 0 ≤ locKind E a ∧ locKind E a ≤ 3 := by
  unfold locKind
  split
  · decide
  · split
    · decide
    · split <;> decide
structure KpMid (M0 : KpM) (T k : Nat) (M : KpM) : Prop where
  eC : M.C = M0.C
  eD : M.D = M0.D
  es : M.sn = M0.sn
  et : M.st = M0.st
  eA : M.A.length = M0.A.length
  cm : CMOk M.m (200 * T + 18 * k)
  len : M.m.bs.length = 4096
  run : ∀ j a, kpGet M j = some a → 0 ≤ a.run ∧ a.run ≤ (if j < k then (T : Int) + 1 else T)
  log : ∃ D, RInv M.m.bs D ∧ D.length ≤ 8 * T + k ∧ M.L = lastR D
  dead : M.dead = true → M.m.off = true
theorem KpMid.up {M0 M : KpM} {T k : Nat} (h : KpMid M0 T k M) : KpMid M0 T (k + 1) M := by
  obtain ⟨D, d1, d2, d3⟩ := h.log
  refine ⟨h.eC, h.eD, h.es, h.et, h.eA, h.cm.mono (by omega), h.len, fun j a ha => ?_, ⟨D, d1, by omega, d3⟩, h.dead⟩
  have := h.run j a ha
  refine ⟨this.1, ?_⟩
  by_cases hj : j < k
  · rw [if_pos hj] at this; rw [if_pos (by omega)]; exact this.2
  · rw [if_neg hj] at this
    split
    · omega
    · exact this.2
theorem kpGet_setG {M : KpM} {j i : Nat} {a : Option LocM} (hj : j < M.A.length) : kpGet (kpSet M j a) i = if i = j then a else kpGet M i := by
  unfold kpGet kpSet
  rw [List.getD_eq_getElem?_getD, List.getD_eq_getElem?_getD, List.getElem?_set]
  by_cases e : i = j
  · subst e; rw [if_pos rfl, if_pos hj, if_pos rfl]; rfl
  · rw [if_neg (fun h => e h.symm), if_neg e]
theorem kpEnd1_none {M : KpM} {j : Nat} (h : kpGet M j = none) : kpEnd1 M j = (0, M) := by unfold kpEnd1; rw [h]
theorem kpEnd1_not {M : KpM} {j : Nat} {a : LocM} (h : kpGet M j = some a) (hn : ¬ locNow (kpEnt M j) a = true) : kpEnd1 M j = (0, kpSet M j (some (locEnd (kpEnt M j) a))) := by
  unfold kpEnd1; rw [h]; exact if_neg hn
theorem kpEnd1_now {M : KpM} {j : Nat} {a : LocM} {r : Nat × RecV × CM × List RecV × Bool} (h : kpGet M j = some a) (hn : locNow (kpEnt M j) a = true) (hr : ringApp M.m M.L M.dead j (locKind (kpEnt M j) a) M.D.now = r) :
    kpEnd1 M j = (r.1, { kpSet M j (some (locEnd (kpEnt M j) a)) with m := r.2.2.1, L := r.2.2.2.1, dead := r.2.2.2.2 }) := by
  subst hr; unfold kpEnd1; rw [h]; exact if_pos hn
theorem kpEnd1_mid {M0 M : KpM} {T j : Nat} (h : KpMid M0 T j M) (hT : T ≤ 400000) (hj : j < M.A.length) (h8 : M.A.length ≤ 8) (ho : M.m.off = false) (hn0 : 0 ≤ M.D.now) (hn1 : M.D.now ≤ 1099511627776) :
    KpMid M0 T (j + 1) (kpEnd1 M j).2 ∧ ((kpEnd1 M j).1 = 0 → (kpEnd1 M j).2.m.off = false) ∧ ((kpEnd1 M j).1 = 0 ∨ (kpEnd1 M j).1 = 8) := by
  cases ha : kpGet M j with
  | none => rw [kpEnd1_none ha]; exact ⟨h.up, fun _ => ho, .inl rfl⟩
  | some a =>
    have hr := h.run j a ha
    rw [if_neg (by omega)] at hr
    have hm := h.up
    have hrun : ∀ i b, (if i = j then some (locEnd (kpEnt M j) a) else kpGet M i) = some b → 0 ≤ b.run ∧ b.run ≤ (if i < j + 1 then (T : Int) + 1 else T) := fun i b hb => by
      by_cases e : i = j
      · rw [if_pos e] at hb
        obtain rfl := Option.some.inj hb
        rw [if_pos (by omega)]
        exact locRun_bd hr
      · rw [if_neg e] at hb
        exact hm.run i b hb
    have hs : KpMid M0 T (j + 1) (kpSet M j (some (locEnd (kpEnt M j) a))) := ⟨h.eC, h.eD, h.es, h.et, by show (M.A.set j _).length = _; rw [List.length_set]; exact h.eA, hm.cm, hm.len, fun i b hb => hrun i b (by rw [← hb, kpGet_setG hj]), hm.log, hm.dead⟩
    by_cases hnow : locNow (kpEnt M j) a = true
    · obtain ⟨D, d1, d2, d3⟩ := h.log
      have hd : M.dead = false := by
        cases hh : M.dead
        · rfl
        · have := h.dead hh
          rw [ho] at this; cases this
      have hk := locKind_bd (kpEnt M j) a
      obtain ⟨m', L', dd, r, D', e1, e2, e3, e4, e5, e6, e7, e8, e9, _⟩ := ringApp_on (e := (j : Int)) (k := locKind (kpEnt M j) a) (t := M.D.now) d1 (by omega) d3 hd ho h.cm h.len (decide_eq_true (by omega))
      rw [kpEnd1_now ha hnow e1]
      refine ⟨⟨h.eC, h.eD, h.es, h.et, by show (M.A.set j _).length = _; rw [List.length_set]; exact h.eA, e2.mono (by omega), e3, fun i b hb => hrun i b (by rw [← hb]; exact (kpGet_setG hj).symm), ⟨D', e7, by omega, e8⟩, e4⟩, e5, e6⟩
    · rw [kpEnd1_not ha hnow]; exact ⟨hs, fun _ => ho, .inl rfl⟩
theorem kpEndN_mid {M : KpM} {T : Nat} (h : KpOk M T) (ho : M.m.off = false) : ∀ k, k ≤ M.A.length → KpMid M T k (kpEndN M k).2 ∧ ((kpEndN M k).1 = 0 → (kpEndN M k).2.m.off = false) ∧ ((kpEndN M k).1 = 0 ∨ (kpEndN M k).1 = 8)
  | 0, _ => by
    refine ⟨⟨rfl, rfl, rfl, rfl, rfl, h.cm.mono (by omega), h.len, fun j a ha => ?_, ?_, h.dead⟩, fun _ => ho, .inl rfl⟩
    · have := h.run a (kpGet_mem ha).2
      rw [if_neg (by omega)]; exact this
    · obtain ⟨D, d1, d2, d3⟩ := h.log
      exact ⟨D, d1, by omega, d3⟩
  | k + 1, hk => by
    obtain ⟨h1, h2, h3⟩ := kpEndN_mid h ho k (by omega)
    have hd := h.dog
    unfold kpEndN
    by_cases he : (kpEndN M k).1 ≠ 0
    · rw [if_pos he]
      exact ⟨h1.up, fun hh => absurd hh he, h3⟩
    · rw [if_neg he]
      have h8 := h.an8
      exact kpEnd1_mid h1 h.t (by rw [h1.eA]; omega) (by rw [h1.eA]; exact h8) (h2 (by omega)) (by rw [h1.eD]; have := hd.l0; have := hd.ln; omega) (by rw [h1.eD]; exact hd.n1)
theorem KpMid.ok {M0 M : KpM} {T k : Nat} (h : KpMid M0 T k M) (h0 : KpOk M0 T) (hk : k ≤ 8) (hT : T + 1 ≤ 400000) : KpOk M (T + 1) := by
  obtain ⟨D, d1, d2, d3⟩ := h.log
  refine ⟨by rw [h.eC]; exact h0.bound, by rw [h.eC]; exact h0.small, by rw [h.eD]; exact h0.dog, by rw [h.eD]; have := h0.now; omega, by rw [h.eD]; have := h0.kicks; omega, h.cm.mono (by omega), h.len, by rw [h.eA, h.eC]; exact h0.An, fun a ha => ?_, by rw [h.eC, h.es, h.et]; exact h0.tin, ⟨D, d1, by omega, d3⟩, h.dead, hT⟩
  obtain ⟨j, hj, e⟩ := List.mem_iff_getElem.1 ha
  have hg : kpGet M j = some a := by
    unfold kpGet
    rw [List.getD_eq_getElem?_getD, List.getElem?_eq_getElem hj, e]; rfl
  have := h.run j a hg
  refine ⟨this.1, ?_⟩
  have h2 := this.2
  split at h2 <;> omega
theorem kpTot_ok {M : KpM} {T : Nat} (h : KpOk M T) : KpOk (kpTot M) T :=
  ⟨h.bound, h.small, h.dog, h.now, h.kicks, h.cm, h.len, h.An, h.run, h.tin.next _, h.log, h.dead, h.t⟩
theorem kpKick_ok {M : KpM} {T : Nat} (h : KpOk M (T + 1)) (hk : M.D.kicks ≤ T) : KpOk (kpKick M) (T + 1) := by
  unfold kpKick
  split
  · rename_i hh
    have ht := h.t
    refine ⟨h.bound, h.small, dogOk_kick h.dog (by omega), ?_, ?_, h.cm, h.len, h.An, h.run, h.tin, h.log, h.dead, h.t⟩
    · show (dogKick M.D).now ≤ _
      rw [dogKick_yes hh.2]; exact h.now
    · show (dogKick M.D).kicks ≤ _
      rw [dogKick_yes hh.2]
      show M.D.kicks + 1 ≤ _
      omega
  · exact h
theorem kpEnd_ok {M : KpM} {T : Nat} (h : KpOk M T) (ho : M.m.off = false) (hT : T + 1 ≤ 400000) : KpOk (kpEnd M).2 (T + 1) := by
  obtain ⟨h1, h2, h3⟩ := kpEndN_mid h ho M.A.length (Nat.le_refl _)
  have h4 := h1.ok h h.an8 hT
  unfold kpEnd
  split
  · exact h4
  · refine kpKick_ok (kpTot_ok h4) ?_
    show (kpEndN M M.A.length).2.D.kicks ≤ _
    rw [h1.eD]; exact h.kicks
theorem kpDog_ok {M : KpM} {T : Nat} (h : KpOk M T) (hT : T + 1 ≤ 400000) (he : dogTickE M.D = 0) : KpOk (kpDog M) (T + 1) ∧ (dogTick M.D).now = M.D.now + 1 ∧ (dogTick M.D).kicks = M.D.kicks := by
  have hr : M.D.reset = false := by
    cases hh : M.D.reset
    · rfl
    · unfold dogTickE at he; rw [hh] at he; simp at he
  have hn : ¬ 1099511627776 ≤ M.D.now := fun hh => by unfold dogTickE at he; rw [hr, if_neg (by decide), if_pos hh] at he; cases he
  have e1 : (dogTick M.D).now = M.D.now + 1 := by unfold dogTick; rw [hr, if_neg (by decide), if_neg hn]
  have e2 : (dogTick M.D).kicks = M.D.kicks := by unfold dogTick; rw [hr, if_neg (by decide), if_neg hn]
  have hu := h.up (Nat.le_succ T) hT
  refine ⟨⟨h.bound, h.small, dogOk_tick h.dog, ?_, ?_, hu.cm, h.len, h.An, hu.run, h.tin, hu.log, h.dead, hT⟩, e1, e2⟩
  · show (dogTick M.D).now ≤ _
    rw [e1]; have := h.now; omega
  · show (dogTick M.D).kicks ≤ _
    rw [e2]; have := h.kicks; omega
theorem kpTick_ok {M : KpM} {T : Nat} (h : KpOk M T) (hT : T + 2 ≤ 400000) : KpOk (kpTick M).2 (T + 2) := by
  unfold kpTick
  split
  · exact h.up (by omega) hT
  · rename_i hon
    by_cases he : dogTickE M.D = 0
    · rw [if_neg (by omega)]
      obtain ⟨h1, _, _⟩ := kpDog_ok h (by omega) he
      split
      · exact h1.up (by omega) hT
      · split
        · refine kpEnd_ok h1 ?_ hT
          show M.m.off = false
          cases hh : M.m.off
          · rfl
          · exfalso; apply hon; unfold kpOn; rw [if_pos hh]; decide
        · exact h1.up (by omega) hT
    · rw [if_pos he]
      have hd := h.dog
      have hn := h.now
      have ht := h.t
      unfold dogTickE at he
      have hr : M.D.reset = true := by
        cases hh : M.D.reset
        · rw [hh, if_neg (by decide), if_neg (by omega)] at he; exact absurd rfl he
        · rfl
      have hu := h.up (Nat.le_add_right T 2) hT
      have e : kpDog M = M := by unfold kpDog dogTick; rw [hr, if_pos rfl]
      rw [e]; exact hu
theorem kpTicks_ok {M : KpM} {T : Nat} (h : KpOk M T) : ∀ k, T + 2 * k ≤ 400000 → KpOk (kpTicks M k).2 (T + 2 * k)
  | 0, _ => h
  | k + 1, hk => by
    have ih := kpTicks_ok h k (by omega)
    unfold kpTicks
    split
    · exact ih.up (by omega) hk
    · exact (kpTick_ok ih (by omega)).up (by omega) hk
theorem neg1_le : (-1 : Int) ≤ -1 ∧ (-1 : Int) ≤ 9223372036854775807 := by omega
theorem tInv_ok {d : Int} (h : 0 ≤ d) : TInv d 0 .ok := ⟨by omega, h, fun _ => rfl, fun hh => by cases hh⟩
theorem kpOpen_L (C : ConfV) (D : DogM) (m : CM) : (kpOpen C D m).L = recsOf m.bs := by simp only [kpOpen]
theorem kpOpen_dead (C : ConfV) (D : DogM) (m : CM) : (kpOpen C D m).dead = false := rfl
theorem kpOpen_ok {C : ConfV} {D : DogM} {m : CM} {E : List RecV} {T : Nat} (h1 : boundC C = false) (h2 : ∀ E ∈ C.ents, Light E) (h3 : DogOk D) (h4 : D.now ≤ T) (h5 : D.kicks ≤ T) (h6 : CMOk m (200 * T)) (h7 : m.bs.length = 4096) (h8 : RInv m.bs E) (h9 : E.length ≤ 8 * T) (h10 : T ≤ 400000) : KpOk (kpOpen C D m) T := by
  have hb := boundC_parts h1
  have hti : TInv C.delay 0 .ok := tInv_ok (by omega)
  refine ⟨h1, h2, h3, h4, h5, h6, h7, by simp [kpOpen], fun a ha => ?_, hti, ⟨E, h8, h9, ?_⟩, fun hh => ?_, h10⟩
  · have : some a ∈ List.replicate C.ents.length (none : Option LocM) := ha
    rw [List.mem_replicate] at this
    cases this.2
  · have hr := rinv_recs h8
    rw [kpOpen_L]
    unfold lastR
    exact hr
  · rw [kpOpen_dead] at hh
    exact absurd hh (by decide)
theorem kpBoot_ok {M : KpM} {T : Nat} (h : KpOk M T) : KpOk (kpBoot M).2 T := by
  unfold kpBoot
  split
  · exact h
  · obtain ⟨D, d1, d2, d3⟩ := h.log
    have hc : CMOk ⟨M.m.bs, false, -1, M.m.wr⟩ (200 * T) := ⟨neg1_le.1, neg1_le.2, h.cm.w0, h.cm.w1⟩
    exact kpOpen_ok h.bound h.small (dogOk_start h.dog) h.now h.kicks hc h.len d1 d2 h.t
theorem cutM_ok' {m : CM} {k n : Int} (h : CMOk m k) (hn : n ≤ 9223372036854775807) : CMOk (cutM m n) k := by
  unfold cutM
  split
  · exact h
  · split
    · exact h
    · exact ⟨by show -1 ≤ n; omega, hn, h.w0, h.w1⟩
theorem kpCut_ok {M : KpM} {T : Nat} (h : KpOk M T) {n : Int} (hn : n ≤ 9223372036854775807) : KpOk { M with m := cutM M.m n } T := by
  have e1 : (cutM M.m n).bs = M.m.bs := by unfold cutM; split <;> (try split) <;> rfl
  have e2 : M.m.off = true → (cutM M.m n).off = true := fun ho => by unfold cutM; rw [if_pos ho]; split <;> exact ho
  obtain ⟨D, d1, d2, d3⟩ := h.log
  exact ⟨h.bound, h.small, h.dog, h.now, h.kicks, cutM_ok' h.cm hn, by show (cutM M.m n).bs.length = _; rw [e1]; exact h.len, h.An, h.run, h.tin, ⟨D, by show RInv (cutM M.m n).bs D; rw [e1]; exact d1, d2, d3⟩, fun hd => e2 (h.dead hd), h.t⟩
theorem Tryz.sizePage : (Tryz.prog.info? 121).map (·.size) = some 2 := by kernel_rfl
theorem Tryz.liesPage : liesAt Tryz.prog Tryz.prog.depth 123 (2 / Tryz.prog.cellsOf 123) 0 121 1 = true := by kernel_rfl
theorem Tryz.infoByteP : (Tryz.prog.info? 5).map (fun i => (i.zero, i.size, i.bytes)) = some (some (.int .u8 0), 1, 1) := by kernel_rfl
theorem Tryz.cellsByteP : Tryz.prog.cellsOf 5 = 1 := by kernel_rfl
def ByteObj : Obj → Prop
  | .cells _ t _ => t = 5
  | _ => False
structure Oth (b : Nat) (w w' : World) : Prop where
  os : w'.os = w.os
  tape : w'.tape = w.tape
  output : w'.output = w.output
  size : w.heap.size ≤ w'.heap.size
  block : ∀ k o, w.heap[k]? = some o → k ≠ b → ¬ ByteObj o → w'.heap[k]? = some o
theorem Oth.refl (b : Nat) (w : World) : Oth b w w := ⟨rfl, rfl, rfl, Nat.le_refl _, fun _ _ h _ _ => h⟩
theorem Oth.trans {b : Nat} {u v w : World} (h : Oth b u v) (k : Oth b v w) : Oth b u w :=
  ⟨k.os.trans h.os, k.tape.trans h.tape, k.output.trans h.output, Nat.le_trans h.size k.size, fun i o hi hb ho => k.block i o (h.block i o hi hb ho) hb ho⟩
theorem Oth.set {b : Nat} {w : World} (o : Nat) (u : Value) : Oth b w (w.setCell ⟨b, o, none⟩ u) := by
  have k := keep_set w b o u
  exact ⟨k.os, k.tape, k.output, k.size, fun i x hi hb _ => k.get hi hb⟩
theorem Oth.below {b : Nat} {w w' : World} (h : Below w.heap.size w w') : Oth b w w' := ⟨h.os, h.tape, h.output, h.size, fun i o hi _ _ => below_get h hi (lt_of_get hi)⟩
theorem Oth.grown {b : Nat} {w w' : World} {B n : Nat} {v : Value} {xs : List Value} (hown : w.ownsRow B 5 1 v n xs) (g : w.grownBy w' v.ownBlock) : Oth b w w' := by
  have k := Keep.of_grown g
  refine ⟨k.os, k.tape, k.output, k.size, fun i x hi _ hx => k.get hi (fun e => ?_)⟩
  rcases hown.2 with ⟨rfl, _⟩ | ⟨q, cap, cur, rfl, _, hq, _⟩
  · cases e
  · have : i = q := Option.some.inj e
    subst this
    rw [hq] at hi
    obtain rfl := Option.some.inj hi
    exact hx rfl
def PgU (B b : Nat) (l : List UInt8) (w : World) : Prop := Lib.BuilderAt 123 5 B b (.pointer (some ⟨b, 0, none⟩)) (Lib.byteCells l) w
def Pg (B b : Nat) (l : List UInt8) (w : World) : Prop := Lib.IsBuilder 123 5 B b (Lib.byteCells l) w
theorem PgU.pg {B b : Nat} {l : List UInt8} {w : World} (h : PgU B b l w) : Pg B b l w := .inr h
theorem Pg.at_ {B b : Nat} {l : List UInt8} {w : World} (h : Pg B b l w) : ∃ p, Lib.BuilderAt 123 5 B b p (Lib.byteCells l) w := by
  rcases h with h | h
  · exact ⟨_, h⟩
  · exact ⟨_, h⟩
theorem builderAt_below {T e : TypeId} {B b : Nat} {p : Value} {bs : List Value} {w w' : World} (h : Lib.BuilderAt T e B b p bs w) (k : Below w.heap.size w w') : Lib.BuilderAt T e B b p bs w' := by
  obtain ⟨hB, v, hb, hown, hne⟩ := h
  exact ⟨hB, v, below_get k hb (lt_of_get hb), ownsRow_keep' hown (below_keep k) (fun _ _ _ h => h), hne⟩
theorem Pg.below {B b : Nat} {l : List UInt8} {w w' : World} (h : Pg B b l w) (k : Below w.heap.size w w') : Pg B b l w' := by
  rcases h with h | h
  · exact .inl (builderAt_below h k)
  · exact .inr (builderAt_below h k)
theorem Pg.lt {B b : Nat} {l : List UInt8} {w : World} (h : Pg B b l w) : B ≤ b ∧ b < w.heap.size := by
  obtain ⟨p, h⟩ := h.at_
  exact ⟨h.1, h.lt⟩
theorem copyCheck_used (b : Nat) (w : World) (h0 : w.cell? ⟨b, 0, none⟩ = some (.pointer (some ⟨b, 0, none⟩))) :
    Calls Tryz.prog 168 #[.pointer (some ⟨b, 0, none⟩)] w fun e w' => e = .returned (.tuple #[]) ∧ w = w' := by
  obtain ⟨j, hj, _⟩ := Option.map_eq_some_iff.1 Tryz.sizePage
  go_enter Tryz.func168, Tryz.ntmps168
  go_wp2
  rw [Lib.run_neq_ptr_same w _ Tryz.underlying119 hj]
  go_wp2
  go_end0
  exact ⟨rfl, rfl⟩
theorem copyCheck_fresh (b : Nat) (w : World) (h0 : w.cell? ⟨b, 0, none⟩ = some (.pointer none)) (hsh : w.shape? b = some (123, 2)) (hfz : w.frozen? ⟨b, 0, none⟩ = false) :
    Calls Tryz.prog 168 #[.pointer (some ⟨b, 0, none⟩)] w fun e w' => e = .returned (.tuple #[]) ∧ w.setCell ⟨b, 0, none⟩ (.pointer (some ⟨b, 0, none⟩)) = w' := by
  obtain ⟨j, hj, hjs⟩ := Option.map_eq_some_iff.1 Tryz.sizePage
  go_enter Tryz.func168, Tryz.ntmps168
  go_wp2
  rw [Lib.run_to_unsafe w ⟨b, 0, none⟩ Tryz.underlying119 Tryz.underlying225 hj (by rw [hjs]; decide) hsh (Nat.zero_lt_succ 1)]
  simp only [Result.andThen]
  rw [Oper.upon_value]
  go_wp2
  rw [run_callFunc_extern Tryz.func215 (by kernel_rfl) (by kernel_rfl) (by kernel_rfl) (e := Extern.AbiNoEscape.same) (by kernel_rfl)]
  rw [Lib.run_noEscape]
  simp only [Result.andThen]
  rw [Oper.upon_value]
  go_wp2
  rw [Lib.run_from_unsafe w ⟨b, 0, none⟩ Tryz.underlying225 Tryz.underlying119 hj hsh Tryz.liesPage]
  simp only [Result.andThen]
  rw [Oper.upon_value]
  go_wp2
  go_end0
  exact ⟨rfl, rfl⟩
theorem copyCheck_any (B b : Nat) (l : List UInt8) (w : World) (h : Pg B b l w) :
    Calls Tryz.prog 168 #[.pointer (some ⟨b, 0, none⟩)] w fun e w' => e = .returned (.tuple #[]) ∧ PgU B b l w' ∧ Below B w w' ∧ Oth b w w' := by
  rcases h with h | h
  · refine (copyCheck_fresh b w h.cell0 h.shape h.frozen0).mono ?_
    rintro e w' ⟨rfl, rfl⟩
    exact ⟨rfl, h.used _, (Below.refl B w).setCell (p := ⟨b, 0, none⟩) h.1 _, Oth.set _ _⟩
  · refine (copyCheck_used b w h.cell0).mono ?_
    rintro e w' ⟨rfl, rfl⟩
    exact ⟨rfl, h, Below.refl B _, Oth.refl _ _⟩
theorem writeByte_any (B b : Nat) (l : List UInt8) (c : UInt8) (w : World) (h : Pg B b l w) (hlen : l.length + 1 ≤ 1000000000) (hBw : B ≤ w.heap.size) :
    Calls Tryz.prog 98 #[.pointer (some ⟨b, 0, none⟩), .int .u8 (c.toNat : Int)] w fun e w' => e = .returned .nilIface ∧ Pg B b (l ++ [c]) w' ∧ Below B w w' ∧ Oth b w w' := by
  obtain ⟨i0, hi, hz0, hz1, hz2⟩ := info_parts Tryz.infoByteP
  have HCk := Lib.hid (copyCheck_any B b l w h)
  clear h
  go_enter Tryz.func98, Tryz.ntmps98
  go_wp2_with fail
  refine HCk.out.mono ?_
  rintro e w1 ⟨rfl, h1, hb1, ho1⟩
  obtain ⟨hB, v, hbk, hown, hne⟩ := h1
  have hnl : (Lib.byteCells l).length = l.length := Lib.byteCells_length l
  rw [hnl] at hown
  have c0 : w1.cell? ⟨b, 0, none⟩ = some (.pointer (some ⟨b, 0, none⟩)) := by rw [Lib.cell_of_heap hbk]; rfl
  have c1 : w1.cell? ⟨b, 1, none⟩ = some v := by rw [Lib.cell_of_heap hbk]; rfl
  have hs1 := hb1.size
  have HO1 := Lib.hid hown
  have HH1 := Lib.hid ho1
  have HB1 := Lib.hid hb1
  have HBK := Lib.hid hbk
  have HNE := Lib.hid hne
  clear hown ho1 hb1 hbk hne HCk hnl
  go_wp2_with (at_builtin; refine wpList_append_own _ rfl (.tmp 11) (.tmp 13) 85 rfl B 5 i0 (.int .u8 0) 1 1 Tryz.underlying85 hi hz0 hz1 hz2 rfl (by decide) _ l.length _ rfl (HO1.out.alloc _) ⟨w1.heap.size, 0, none⟩ 1 1 [.int .u8 (c.toNat : Int)] rfl rfl (by exact new_cells _ [.int .u8 (c.toNat : Int)] _) (by intro u hu; simp at hu; subst hu; rfl) (by unfold maxLen; omega) (by omega) (by simp; omega) ?_)
  intro v' w2 hown' hgrow hnil
  have hlt := lt_of_get HBK.out
  have hb2 : w2.heap[b]? = some (.cells #[.pointer (some ⟨b, 0, none⟩), v] 123 (0, 0)) := by
    rw [hgrow.block b (by simp; omega) (fun e => HNE.out e.symm), Lib.alloc_old w1 _ b hlt]
    exact HBK.out
  have d0 : w2.cell? ⟨b, 0, none⟩ = some (.pointer (some ⟨b, 0, none⟩)) := by rw [Lib.cell_of_heap hb2]; rfl
  have d1 : w2.cell? ⟨b, 1, none⟩ = some v := by rw [Lib.cell_of_heap hb2]; rfl
  have f1 : w2.frozen? ⟨b, 1, none⟩ = false := Lib.frozen_of_heap hb2 1
  obtain ⟨g, cap, rfl⟩ : ∃ g cap, v' = .slice (some ⟨g, 0, none⟩) (l.length + 1) cap := by
    rcases hown'.2 with ⟨_, h0⟩ | ⟨g, cap, cur, hv, _⟩
    · omega
    · exact ⟨g, cap, hv⟩
  have hbc : Lib.byteCells (l ++ [c]) = Lib.byteCells l ++ [.int .u8 (c.toNat : Int)] := by rw [Lib.byteCells_append]; rfl
  have fin1 : Pg B b (l ++ [c]) (w2.setCell ⟨b, 1, none⟩ (.slice (some ⟨g, 0, none⟩) (l.length + 1) cap)) := by
    refine .inr (Lib.BuilderAt.put (T := 123) (e := 5) hB hb2 (bs' := Lib.byteCells (l ++ [c])) ?_ (by decide))
    rw [Lib.byteCells_length, hbc, List.length_append]
    exact hown'
  have hal : Below w1.heap.size w1 (w1.alloc (.cells #[.int .u8 (c.toNat : Int)] 5)) := (Below.refl _ _).alloc (Nat.le_refl _) _
  have fin2 : Below B w (w2.setCell ⟨b, 1, none⟩ (.slice (some ⟨g, 0, none⟩) (l.length + 1) cap)) :=
    ((HB1.out.alloc (by omega) _).grown hgrow (by simp; omega) (fun k hk => (HO1.out.lt k hk).1)).setCell (p := ⟨b, 1, none⟩) hB _
  have fin3 : Oth b w (w2.setCell ⟨b, 1, none⟩ (.slice (some ⟨g, 0, none⟩) (l.length + 1) cap)) :=
    ((HH1.out.trans (Oth.below hal)).trans (Oth.grown (HO1.out.alloc _) hgrow)).trans (Oth.set _ _)
  have F1 := Lib.hid fin1
  have F2 := Lib.hid fin2
  have F3 := Lib.hid fin3
  clear fin1 fin2 fin3 hal hbc hown' hgrow hnil hb2 HBK
  go_wp2_with fail
  go_ret
  exact ⟨rfl, F1.out, F2.out, F3.out⟩
theorem writeString_any (B b : Nat) (l : List UInt8) (s : ByteArray) (w : World) (h : Pg B b l w) (hlen : l.length + s.size ≤ 1000000000) (hBw : B ≤ w.heap.size) :
    Calls Tryz.prog 99 #[.pointer (some ⟨b, 0, none⟩), .string s] w fun e w' => e = .returned (.tuple #[.int .i64 s.size, .nilIface]) ∧ Pg B b (l ++ s.data.toList) w' ∧ Below B w w' ∧ Oth b w w' := by
  obtain ⟨i0, hi, hz0, hz1, hz2⟩ := info_parts Tryz.infoByteP
  have HCk := Lib.hid (copyCheck_any B b l w h)
  clear h
  go_enter Tryz.func99, Tryz.ntmps99
  go_wp2_with fail
  refine HCk.out.mono ?_
  rintro e w1 ⟨rfl, h1, hb1, ho1⟩
  obtain ⟨hB, v, hbk, hown, hne⟩ := h1
  have hnl : (Lib.byteCells l).length = l.length := Lib.byteCells_length l
  rw [hnl] at hown
  have c0 : w1.cell? ⟨b, 0, none⟩ = some (.pointer (some ⟨b, 0, none⟩)) := by rw [Lib.cell_of_heap hbk]; rfl
  have c1 : w1.cell? ⟨b, 1, none⟩ = some v := by rw [Lib.cell_of_heap hbk]; rfl
  have hs1 := hb1.size
  have HO1 := Lib.hid hown
  have HH1 := Lib.hid ho1
  have HB1 := Lib.hid hb1
  have HBK := Lib.hid hbk
  have HNE := Lib.hid hne
  clear hown ho1 hb1 hbk hne HCk hnl
  go_wp2_with (at_builtin; refine Lib.wpList_append_own_string _ rfl (.tmp 12) (.tmp 13) 85 9 rfl B 5 i0 Tryz.underlying85 Tryz.underlying9 hi hz0 hz1 hz2 _ l.length _ rfl HO1.out s rfl (by unfold maxLen; omega) (by omega) (by omega) ?_)
  intro v' w2 hown' hgrow hnil
  have hlt := lt_of_get HBK.out
  have hb2 : w2.heap[b]? = some (.cells #[.pointer (some ⟨b, 0, none⟩), v] 123 (0, 0)) := by
    rw [hgrow.block b hlt (fun e => HNE.out e.symm)]
    exact HBK.out
  have d0 : w2.cell? ⟨b, 0, none⟩ = some (.pointer (some ⟨b, 0, none⟩)) := by rw [Lib.cell_of_heap hb2]; rfl
  have d1 : w2.cell? ⟨b, 1, none⟩ = some v := by rw [Lib.cell_of_heap hb2]; rfl
  have f1 : w2.frozen? ⟨b, 1, none⟩ = false := Lib.frozen_of_heap hb2 1
  obtain ⟨ao, n', cap, rfl⟩ : ∃ ao n' cap, v' = .slice ao n' cap := by
    rcases hown'.2 with ⟨hv, _⟩ | ⟨g, cap, cur, hv, _⟩
    · exact ⟨_, _, _, hv⟩
    · exact ⟨_, _, _, hv⟩
  have hbc : Lib.byteCells (l ++ s.data.toList) = Lib.byteCells l ++ Lib.strCells s := by rw [Lib.byteCells_append]; rfl
  have F1 : Hid (Pg B b (l ++ s.data.toList) (w2.setCell ⟨b, 1, none⟩ (.slice ao n' cap))) := by
    refine .inr (Lib.BuilderAt.put (T := 123) (e := 5) hB hb2 (bs' := Lib.byteCells (l ++ s.data.toList)) ?_ (by decide))
    rw [Lib.byteCells_length, hbc, List.length_append]
    have e : s.data.toList.length = s.size := by rw [Array.length_toList]; rfl
    rw [e]
    exact hown'
  have F2 : Hid (Below B w (w2.setCell ⟨b, 1, none⟩ (.slice ao n' cap))) :=
    (HB1.out.grown hgrow (by omega) (fun k hk => (HO1.out.lt k hk).1)).setCell (p := ⟨b, 1, none⟩) hB _
  have F3 : Hid (Oth b w (w2.setCell ⟨b, 1, none⟩ (.slice ao n' cap))) := (HH1.out.trans (Oth.grown HO1.out hgrow)).trans (Oth.set _ _)
  clear hbc hown' hgrow hnil hb2 HBK
  go_wp2_with fail
  go_ret2
  exact ⟨rfl, F1.out, F2.out, F3.out⟩
def TabB (B : Nat) (w : World) : Prop := Lib.TabBelow Tryz.prog B w "internal/strconv.uint64pow10" .u64 Lib.pow10Tab
theorem TabB.low {B C : Nat} {w w' : World} (h : TabB B w) (b : Below C w w') (hC : B ≤ C) : TabB B w' := fun W hW => h W ((b.mono hC).trans hW)
theorem grow_below (w : World) (k : Nat) (os : Array Obj) : Below w.heap.size w (Sort.grow (w.drewN k) os) := by
  refine ⟨rfl, rfl, rfl, ?_, fun i hi => ?_⟩
  · show w.heap.size ≤ (w.heap ++ os).size
    rw [Array.size_append]; omega
  · show (w.heap ++ os)[i]? = w.heap[i]?
    rw [Array.getElem?_append_left hi]
theorem itoa_any (B : Nat) (n : Int) (w : World) (hT : TabB B w) (h0 : -9223372036854775808 ≤ n) (h1 : n ≤ 9223372036854775807) :
    Calls Tryz.prog 100 #[.int .i64 n] w fun e w' => e = .returned (.string ⟨(Lib.itoa n).toArray⟩) ∧ Below w.heap.size w w' := by
  refine (Tryz.strconv_Itoa n h0 h1 w (hT w (Below.refl _ _))).mono ?_
  rintro e w' ⟨rfl, k, os, rfl⟩
  exact ⟨rfl, grow_below w k os⟩
inductive W1 where
  | str (s : ByteArray)
  | num (n : Int)
def wordB : W1 → List UInt8
  | .str s => s.data.toList
  | .num n => Lib.itoa n
def cellW : W1 → Value
  | .str s => .iface 9 (.string s)
  | .num n => .iface 3 (.int .i64 n)
def W1Ok : W1 → Prop
  | .str _ => True
  | .num n => -9223372036854775808 ≤ n ∧ n ≤ 9223372036854775807
def sepB (i : Nat) (x : W1) : List UInt8 := if i = 0 then wordB x else 32 :: wordB x
def upB (ws : List W1) (k : Nat) : List UInt8 := (List.range k).flatMap (fun i => sepB i (ws.getD i (.num 0)))
def lineB (ws : List W1) : List UInt8 := upB ws ws.length ++ [10]
theorem upB_succ (ws : List W1) (k : Nat) (hk : k < ws.length) : upB ws (k + 1) = upB ws k ++ sepB k ws[k] := by
  unfold upB
  rw [List.range_succ, List.flatMap_append]
  simp [hk]
theorem upB_le (ws : List W1) : ∀ (m k : Nat), (upB ws k).length ≤ (upB ws (k + m)).length
  | 0, k => Nat.le_refl _
  | m + 1, k => by
    refine Nat.le_trans (upB_le ws m k) ?_
    show _ ≤ (upB ws (k + m + 1)).length
    unfold upB
    rw [List.range_succ, List.flatMap_append, List.length_append]
    omega
theorem upB_line (ws : List W1) {k : Nat} (hk : k ≤ ws.length) : (upB ws k).length < (lineB ws).length := by
  have := upB_le ws (ws.length - k) k
  rw [show k + (ws.length - k) = ws.length by omega] at this
  unfold lineB
  rw [List.length_append, List.length_singleton]
  omega
theorem Tryz.taStr (s : ByteArray) (W : World) : (Instr.typeAssert (.iface 9 (.string s)) 20 9 true).run Tryz.prog W = .ok (.tuple #[.string s, .bool true]) W := by kernel_rfl
theorem Tryz.taIntS (n : Int) (W : World) : (Instr.typeAssert (.iface 3 (.int .i64 n)) 20 9 true).run Tryz.prog W = .ok (.tuple #[.string ByteArray.empty, .bool false]) W := by kernel_rfl
theorem Tryz.taInt (n : Int) (W : World) : (Instr.typeAssert (.iface 3 (.int .i64 n)) 20 3 true).run Tryz.prog W = .ok (.tuple #[.int .i64 n, .bool true]) W := by kernel_rfl
structure PG (B b : Nat) (l : List UInt8) (w0 w : World) : Prop where
  pg : Pg B b l w
  bel : Below B w0 w
  oth : Oth b w0 w
theorem PG.on {B b : Nat} {l l' : List UInt8} {w0 w w' : World} (h : PG B b l w0 w) (p : Pg B b l' w') (b1 : Below B w w') (o : Oth b w w') : PG B b l' w0 w' := ⟨p, h.bel.trans b1, h.oth.trans o⟩
theorem PG.below {B b : Nat} {l : List UInt8} {w0 w w' : World} (h : PG B b l w0 w) (k : Below w.heap.size w w') : PG B b l w0 w' := by
  have hl := h.pg.lt
  exact ⟨h.pg.below k, h.bel.trans (k.mono (by omega)), h.oth.trans (Oth.below k)⟩
theorem any_not_byte (cs : Array Value) : ¬ ByteObj (.cells cs 20) := by
  show ¬ (20 = 5)
  decide
theorem row_at {w : World} {wb : Nat} {ws : List W1} {T : TypeId} (h : w.heap[wb]? = some (.cells (ws.map cellW).toArray T)) (k : Nat) (hk : k < ws.length) : w.cell? ⟨wb, k, none⟩ = some (cellW ws[k]) := by
  rw [cell_of_row w wb k _ _ _ h]
  simp [hk]
theorem pageLine_any (B b : Nat) (l : List UInt8) (ws : List W1) (wb : Nat) (w : World) (h : Pg B b l w) (hB : B ≤ w.heap.size) (hT : TabB B w) (hok : ∀ x ∈ ws, W1Ok x) (hv : w.heap[wb]? = some (.cells (ws.map cellW).toArray 20)) (hne : wb ≠ b) (hlen : l.length + (lineB ws).length ≤ 1000000) (hn : ws.length ≤ 1000) :
    Calls Tryz.prog 58 #[.pointer (some ⟨b, 0, none⟩), .slice (some ⟨wb, 0, none⟩) ws.length ws.length] w fun e w' => e = .returned (.tuple #[]) ∧ PG B b (l ++ lineB ws) w w' := by
  have HV := Lib.hid hv
  have HT := Lib.hid hT
  have HOK := Lib.hid hok
  have HLN := Lib.hid hlen
  have hP0 : PG B b (l ++ upB ws 0) w w := by
    rw [show upB ws 0 = [] from rfl, List.append_nil]
    exact ⟨h, Below.refl _ _, Oth.refl _ _⟩
  have HP0 := Lib.hid hP0
  have ta1 := Tryz.taStr
  have ta2 := Tryz.taIntS
  have ta3 := Tryz.taInt
  clear h hv hT hok hlen hP0
  go_enter Tryz.func58, Tryz.ntmps58
  go_wp2_with fail
  go_loopw [10] (fun s wr => ∃ k : Nat, k ≤ ws.length ∧ s = .int .i64 k ∧ Hid (PG B b (l ++ upB ws k) w wr)) (fun s _ => ws.length - (intOf s).toNat)
  case atStart => exact ⟨0, Nat.zero_le _, rfl, HP0⟩
  case round =>
    obtain ⟨k, hk, rfl, hp⟩ := hrel
    clear HP0
    by_cases hlt : k < ws.length
    · have q := row_at (hp.out.oth.block _ _ HV.out hne (any_not_byte _)) k hlt
      have HUP := Lib.hid (upB_succ ws k hlt)
      have HBw := Lib.hid hB
      have hwo := HOK.out ws[k] (List.getElem_mem hlt)
      cases hw : ws[k] with
      | str s =>
        rw [hw] at q HUP
        unfold cellW at q
        clear hw hwo
        by_cases hk0 : k = 0
        · have hkz : ¬ (0 : Int) < (k : Int) := by omega
          have e0 : sepB k (.str s) = wordB (.str s) := if_pos hk0
          rw [e0] at HUP
          clear hk0 e0
          go_wp2_with fail
          have HWs := Lib.hid (fun W (l' : List UInt8) (hp : Pg B b l' W) (hl : l'.length + s.size ≤ 1000000000) (hBW : B ≤ W.heap.size) => writeString_any B b l' s W hp hl hBW)
          refine (HWs.out _ _ hp.out.pg (by have := HLN.out; have := upB_line ws (k := k + 1) hlt; rw [HUP.out] at this; have e : s.data.toList.length = s.size := (by rw [Array.length_toList]; rfl); simp only [List.length_append, wordB] at this ⊢; (try simp only [List.length_cons, List.length_nil] at this ⊢); omega) (Nat.le_trans HBw.out hp.out.bel.size)).mono ?_
          rintro e w3 ⟨rfl, p3, b3, o3⟩
          have nx := Lib.hid (show PG B b (l ++ upB ws (k + 1)) w w3 from by
            have h3 := hp.out.on p3 b3 o3
            rw [HUP.out]
            simpa [wordB, List.append_assoc] using h3)
          clear p3 b3 o3 hp
          go_wp2_with fail
          go_roundw
          case rel => exact ⟨k + 1, by omega, by go_num, nx⟩
          case measure => simp [intOf]; omega
        · have hkz : (0 : Int) < (k : Int) := by omega
          have e0 : sepB k (.str s) = 32 :: wordB (.str s) := if_neg hk0
          rw [e0] at HUP
          have HWb := Lib.hid (writeByte_any B b _ 32 wr hp.out.pg (by have := HLN.out; have := upB_line ws hk; rw [List.length_append]; omega) (Nat.le_trans hB hp.out.bel.size))
          clear hk0 e0
          go_wp2_with fail
          refine HWb.out.mono ?_
          rintro e w2 ⟨rfl, p2, b2, o2⟩
          have hp2 := Lib.hid (hp.out.on p2 b2 o2)
          clear p2 b2 o2 HWb
          go_wp2_with fail
          have HWs := Lib.hid (fun W (l' : List UInt8) (hp : Pg B b l' W) (hl : l'.length + s.size ≤ 1000000000) (hBW : B ≤ W.heap.size) => writeString_any B b l' s W hp hl hBW)
          refine (HWs.out _ _ hp2.out.pg (by have := HLN.out; have := upB_line ws (k := k + 1) hlt; rw [HUP.out] at this; have e : s.data.toList.length = s.size := (by rw [Array.length_toList]; rfl); simp only [List.length_append, wordB] at this ⊢; (try simp only [List.length_cons, List.length_nil] at this ⊢); omega) (Nat.le_trans HBw.out hp2.out.bel.size)).mono ?_
          rintro e w3 ⟨rfl, p3, b3, o3⟩
          have nx := Lib.hid (show PG B b (l ++ upB ws (k + 1)) w w3 from by
            have h3 := hp2.out.on p3 b3 o3
            rw [HUP.out]
            simpa [wordB, List.append_assoc] using h3)
          clear p3 b3 o3 hp2
          go_wp2_with fail
          go_roundw
          case rel => exact ⟨k + 1, by omega, by go_num, nx⟩
          case measure => simp [intOf]; omega
      | num n =>
        rw [hw] at q HUP hwo
        unfold cellW at q
        have HON : Hid (-9223372036854775808 ≤ n ∧ n ≤ 9223372036854775807) := hwo
        clear hw hwo
        by_cases hk0 : k = 0
        · have hkz : ¬ (0 : Int) < (k : Int) := by omega
          have e0 : sepB k (.num n) = wordB (.num n) := if_pos hk0
          rw [e0] at HUP
          clear hk0 e0
          have HIt := Lib.hid (fun W (hB : Below B w W) => itoa_any B n W (HT.out.low hB (Nat.le_refl _)) HON.out.1 HON.out.2)
          have HWs := Lib.hid (fun W (l' : List UInt8) (hp : Pg B b l' W) (hl : l'.length + (⟨(Lib.itoa n).toArray⟩ : ByteArray).size ≤ 1000000000) (hBW : B ≤ W.heap.size) => writeString_any B b l' ⟨(Lib.itoa n).toArray⟩ W hp hl hBW)
          have hlz := Lib.hid (show ((l ++ upB ws k) : List UInt8).length + (⟨(Lib.itoa n).toArray⟩ : ByteArray).size ≤ 1000000000 from by have := HLN.out; have := upB_line ws (k := k + 1) hlt; rw [HUP.out] at this; have e : (⟨(Lib.itoa n).toArray⟩ : ByteArray).size = (Lib.itoa n).length := (by simp [ByteArray.size]); rw [e]; simp only [List.length_append, wordB] at this ⊢; (try simp only [List.length_cons, List.length_nil] at this ⊢); omega)
          obtain ⟨S, hS⟩ : ∃ S : ByteArray, S = ⟨(Lib.itoa n).toArray⟩ := ⟨_, rfl⟩
          rw [← hS] at HIt HWs hlz
          have HSS := Lib.hid hS
          clear hS
          go_upto_region 11 with fail
          go_region_held3 (fun w' => True)
            (exact trivial)
            (first | (go_at_call 100; refine (HIt.out _ ?_).mono ?_; (repeat (first | exact hp.out.bel | refine Below.drew ?_)); rintro e wI ⟨rfl, b2⟩; have g2 : Below wr.heap.size wr wI := (by repeat (first | exact b2 | refine Below.drew ?_ | refine Below.trans ?_ b2 | exact Below.refl _ _))) | (go_at_call 99; refine (HWs.out _ (l ++ upB ws k) ?_ hlz.out ?_).mono ?_; (repeat (first | exact (hp.out.below g2).pg | refine Pg.below ?_ ((Below.refl _ _).drew) | exact Nat.le_trans HBw.out (hp.out.below g2).bel.size)); rintro e w3 ⟨rfl, p3, b3, o3⟩))
          all_goals
            have nx := Lib.hid (show PG B b (l ++ upB ws (k + 1)) w w3 from by
              have h3 := (hp.out.below g2).on p3 b3 o3
              rw [HUP.out]
              rw [HSS.out] at h3
              simpa [wordB, List.append_assoc] using h3)
            clear p3 b3 o3 g2
            go_wp2_with fail
            go_roundw
            case rel => exact ⟨k + 1, by omega, by go_num, nx⟩
            case measure => simp [intOf]; omega
        · have hkz : (0 : Int) < (k : Int) := by omega
          have e0 : sepB k (.num n) = 32 :: wordB (.num n) := if_neg hk0
          rw [e0] at HUP
          have HWb := Lib.hid (writeByte_any B b _ 32 wr hp.out.pg (by have := HLN.out; have := upB_line ws hk; rw [List.length_append]; omega) (Nat.le_trans hB hp.out.bel.size))
          clear hk0 e0
          go_wp2_with fail
          refine HWb.out.mono ?_
          rintro e w2 ⟨rfl, p2, b2, o2⟩
          have hp2 := Lib.hid (hp.out.on p2 b2 o2)
          clear p2 b2 o2 HWb
          have HIt := Lib.hid (fun W (hB : Below B w W) => itoa_any B n W (HT.out.low hB (Nat.le_refl _)) HON.out.1 HON.out.2)
          have HWs := Lib.hid (fun W (l' : List UInt8) (hp : Pg B b l' W) (hl : l'.length + (⟨(Lib.itoa n).toArray⟩ : ByteArray).size ≤ 1000000000) (hBW : B ≤ W.heap.size) => writeString_any B b l' ⟨(Lib.itoa n).toArray⟩ W hp hl hBW)
          have hlz := Lib.hid (show ((l ++ upB ws k ++ [32]) : List UInt8).length + (⟨(Lib.itoa n).toArray⟩ : ByteArray).size ≤ 1000000000 from by have := HLN.out; have := upB_line ws (k := k + 1) hlt; rw [HUP.out] at this; have e : (⟨(Lib.itoa n).toArray⟩ : ByteArray).size = (Lib.itoa n).length := (by simp [ByteArray.size]); rw [e]; simp only [List.length_append, wordB] at this ⊢; (try simp only [List.length_cons, List.length_nil] at this ⊢); omega)
          obtain ⟨S, hS⟩ : ∃ S : ByteArray, S = ⟨(Lib.itoa n).toArray⟩ := ⟨_, rfl⟩
          rw [← hS] at HIt HWs hlz
          have HSS := Lib.hid hS
          clear hS
          go_upto_region 11 with fail
          go_region_held3 (fun w' => True)
            (exact trivial)
            (first | (go_at_call 100; refine (HIt.out _ ?_).mono ?_; (repeat (first | exact hp2.out.bel | refine Below.drew ?_)); rintro e wI ⟨rfl, b2⟩; have g2 : Below w2.heap.size w2 wI := (by repeat (first | exact b2 | refine Below.drew ?_ | refine Below.trans ?_ b2 | exact Below.refl _ _))) | (go_at_call 99; refine (HWs.out _ (l ++ upB ws k ++ [32]) ?_ hlz.out ?_).mono ?_; (repeat (first | exact (hp2.out.below g2).pg | refine Pg.below ?_ ((Below.refl _ _).drew) | exact Nat.le_trans HBw.out (hp2.out.below g2).bel.size)); rintro e w3 ⟨rfl, p3, b3, o3⟩))
          all_goals
            have nx := Lib.hid (show PG B b (l ++ upB ws (k + 1)) w w3 from by
              have h3 := (hp2.out.below g2).on p3 b3 o3
              rw [HUP.out]
              rw [HSS.out] at h3
              simpa [wordB, List.append_assoc] using h3)
            clear p3 b3 o3 g2
            go_wp2_with fail
            go_roundw
            case rel => exact ⟨k + 1, by omega, by go_num, nx⟩
            case measure => simp [intOf]; omega
    · have hkk : k = ws.length := by omega
      have HWb := Lib.hid (writeByte_any B b _ 10 wr hp.out.pg (by have := HLN.out; have := upB_line ws hk; rw [List.length_append]; omega) (Nat.le_trans hB hp.out.bel.size))
      have HKK := Lib.hid hkk
      clear hkk
      go_wp2_with fail
      refine HWb.out.mono ?_
      rintro e w2 ⟨rfl, p2, b2, o2⟩
      have hp2 := Lib.hid (hp.out.on p2 b2 o2)
      clear p2 b2 o2 HWb
      go_wp2_with fail
      go_end0
      refine ⟨rfl, ?_⟩
      have := hp2.out
      rw [HKK.out, List.append_assoc] at this
      exact this
def strV (l : List UInt8) : ByteArray := ⟨l.toArray⟩
theorem strV_append (a b : List UInt8) : strV a ++ strV b = strV (a ++ b) := by
  apply ByteArray.ext
  rw [ByteArray.data_append]
  simp [strV]
theorem strV_data (l : List UInt8) : (strV l).data.toList = l := by simp [strV]
theorem strV_size (l : List UInt8) : (strV l).size = l.length := by simp [strV, ByteArray.size]
theorem strV_of (s : ByteArray) : strV s.data.toList = s := by simp [strV]
theorem run_bytes_strV (w : World) (rb off cap : Nat) (l : List UInt8) (h : ∀ j (hj : j < l.length), w.cell? ⟨rb, off + j, none⟩ = some (.int .u8 (l[j].toNat : Int))) :
    (convert 85 9 (.slice (some ⟨rb, off, none⟩) l.length cap)).run Tryz.prog w = .ok (.string (strV l)) w :=
  run_convert_bytes_back w 85 9 5 ⟨rb, off, none⟩ cap l Tryz.underlying85 Tryz.underlying5 Tryz.underlying9 (fun j hj => by rw [addr_add]; exact h j hj)
theorem rByteV_any (n : Int) (w : World) : Calls Tryz.prog 162 #[.int .i64 n] w fun e w' => e = .returned (.string (strV [UInt8.ofNat (n % 256).toNat])) ∧ Below w.heap.size w w' := by
  obtain ⟨x, hx⟩ : ∃ x, x = UInt8.ofNat (n % 256).toNat := ⟨_, rfl⟩
  have hx2 : n % 256 = (x.toNat : Int) := by
    rw [hx, UInt8.toNat_ofNat', Nat.mod_eq_of_lt (by omega)]; omega
  have hb : Below w.heap.size w (w.alloc (.cells #[.int .u8 (x.toNat : Int)] 5)) := (Below.refl _ _).alloc (Nat.le_refl _) _
  have hn := get_alloc_new w (.cells #[.int .u8 (x.toNat : Int)] 5)
  have hcv : (convert 85 9 (.slice (some ⟨w.heap.size, 0, none⟩) 1 1)).run Tryz.prog (w.alloc (.cells #[.int .u8 (x.toNat : Int)] 5)) = .ok (.string (strV [x])) (w.alloc (.cells #[.int .u8 (x.toNat : Int)] 5)) := run_bytes_strV (w.alloc (.cells #[.int .u8 (x.toNat : Int)] 5)) w.heap.size 0 1 [x] (fun j hj => by
    have : j = 0 := by simpa using hj
    subst this
    unfold World.cell?
    simp only [Nat.zero_add]
    rw [hn]; rfl)
  rw [← hx]
  have HB := Lib.hid hb
  clear hx hb hn
  go_enter Tryz.func162, Tryz.ntmps162
  go_wp2_with fail
  go_ret
  exact ⟨rfl, HB.out⟩
theorem dec_bigV {u : Nat} (h : ¬ u < 10) : Lib.decDigits u = Lib.decDigits (u / 10) ++ [UInt8.ofNat (48 + u % 10)] := by rw [Lib.decDigits, dif_neg h]
theorem rBelow_any (k : Nat) : ∀ (u : Nat) (w : World), u < 10 ^ k → u ≤ 9223372036854775807 → 1 ≤ k → k ≤ 20 → Calls Tryz.prog 96 #[.int .i64 (-(u : Int))] w fun e w' => e = .returned (.string (strV (Lib.decDigits u))) ∧ (Lib.decDigits u).length ≤ k ∧ Below w.heap.size w w' := by
  induction k with
  | zero => intro u w _ _ h; omega
  | succ k ih =>
    intro u w hk hu _ hk20
    by_cases h10 : u < 10
    · have hB := Lib.hid (rByteV_any (48 + (u : Int)) w)
      rw [show UInt8.ofNat ((48 + (u : Int)) % 256).toNat = UInt8.ofNat (48 + u) by congr 1; omega, ← Lib.decDigits_one h10] at hB
      have HL : Hid ((Lib.decDigits u).length ≤ k + 1) := (show (Lib.decDigits u).length ≤ k + 1 from by rw [Lib.decDigits_one h10]; simp)
      have h1 : -(10 : Int) < -(u : Int) := by omega
      clear hk h10
      go_enter Tryz.func96, Tryz.ntmps96
      go_wp2_with fail
      refine hB.out.mono ?_
      rintro e w2 ⟨rfl, b2⟩
      go_wp2_with fail
      go_ret
      exact ⟨rfl, HL.out, b2⟩
    · obtain ⟨q, hq⟩ : ∃ q, q = u / 10 := ⟨_, rfl⟩
      obtain ⟨r, hr⟩ : ∃ r, r = u % 10 := ⟨_, rfl⟩
      have hk1 : 1 ≤ k := by
        rcases Nat.eq_zero_or_pos k with h0 | h0
        · subst h0; simp at hk; omega
        · exact h0
      have hqk : q < 10 ^ k := by
        rw [Nat.pow_succ] at hk
        rw [hq]; omega
      have HA := Lib.hid (ih q w hqk (by omega) hk1 (by omega))
      have HB : Hid (∀ W, Calls Tryz.prog 162 #[.int .i64 (48 + (r : Int))] W fun e w' => e = .returned (.string (strV [UInt8.ofNat (48 + r)])) ∧ Below W.heap.size W w') := (show _ from fun W => by
        have := rByteV_any (48 + (r : Int)) W
        rw [show UInt8.ofNat ((48 + (r : Int)) % 256).toNat = UInt8.ofNat (48 + r) by congr 1; omega] at this
        exact this)
      have HD := Lib.hid (dec_bigV h10)
      rw [← hq, ← hr] at HD
      have h1 : ¬ -(10 : Int) < -(u : Int) := by omega
      have e1 : (-(u : Int)).tdiv 10 = -(q : Int) := by rw [Int.neg_tdiv, Int.tdiv_eq_ediv_of_nonneg (by omega)]; omega
      have e2 : (-(u : Int)).tmod 10 = -(r : Int) := by rw [Int.neg_tmod, Int.tmod_eq_emod_of_nonneg (by omega)]; omega
      have hr10 : (r : Int) < 10 := by omega
      have e3 : wrap64 (-(q : Int)) = -(q : Int) := IntWalk.wrap64_in _ (by omega)
      have e4 : wrap64 (-(r : Int)) = -(r : Int) := IntWalk.wrap64_in _ (by omega)
      obtain ⟨d, hd⟩ : ∃ d, d = UInt8.ofNat (48 + r) := ⟨_, rfl⟩
      rw [← hd] at HB HD
      have hz1 : (strV [d]).size = 1 := by rw [strV_size]; rfl
      clear hd
      clear hk h10 hq hr hqk ih
      go_enter Tryz.func96, Tryz.ntmps96
      go_wp2_with fail
      refine HA.out.mono ?_
      rintro e w2 ⟨rfl, hl, b2⟩
      have HL := Lib.hid hl
      obtain ⟨n, hn⟩ : ∃ n, (strV (Lib.decDigits q)).size = n := ⟨_, rfl⟩
      have hn20 : n ≤ 20 := by rw [← hn, strV_size]; omega
      clear hl
      go_wp2_with fail
      refine (HB.out _).mono ?_
      rintro e w3 ⟨rfl, b3⟩
      go_wp2_with fail
      go_ret
      refine ⟨by rw [strV_append, ← HD.out]; rfl, ?_, b2.trans (b3.mono b2.size)⟩
      rw [HD.out, List.length_append]
      have := HL.out
      simp only [List.length_singleton]
      omega
theorem itoa_nat (u : Nat) : Lib.itoa (u : Int) = Lib.decDigits u := Lib.itoa_nonneg u
theorem rDecimal_any (n : Int) (h0 : 0 ≤ n) (h1 : n ≤ 1099511627776) (w : World) : Calls Tryz.prog 56 #[.int .i64 n] w fun e w' => e = .returned (.string (strV (Lib.itoa n))) ∧ Below w.heap.size w w' := by
  obtain ⟨u, rfl⟩ : ∃ u : Nat, n = u := ⟨n.toNat, by omega⟩
  have h13 : u < 10 ^ 13 := Nat.lt_of_le_of_lt (show u ≤ 1099511627776 by omega) (by decide)
  have HB := Lib.hid (rBelow_any 13 u w h13 (by omega) (by decide) (by decide))
  rw [itoa_nat]
  have e3 : wrap64 (-(u : Int)) = -(u : Int) := IntWalk.wrap64_in _ (by omega)
  clear h1 h13
  go_enter Tryz.func56, Tryz.ntmps56
  go_wp2_with fail
  refine HB.out.mono ?_
  rintro e w2 ⟨rfl, -, b2⟩
  go_wp2_with fail
  go_ret
  exact ⟨rfl, b2⟩
def piecesB (c : UInt8) (s : ByteArray) : List ByteArray := Lib.splitB ⟨#[c]⟩ 0 (Lib.countB s ⟨#[c]⟩) s
theorem pieces_len (c : UInt8) (s : ByteArray) : (piecesB c s).length = Lib.countB s ⟨#[c]⟩ + 1 := Lib.splitB_all ⟨#[c]⟩ (Nat.le_refl 1) 0 _ s rfl
theorem genSplit_one (s : ByteArray) (c : UInt8) (w : World) (hs : s.size < 4294967281) :
    Calls Tryz.prog 108 #[.string s, .string ⟨#[c]⟩, .int .i64 0, .int .i64 (-1)] w fun e w' =>
      e = .returned (.slice (some ⟨w.heap.size, 0, none⟩) (piecesB c s).length (piecesB c s).length) ∧ w' = w.alloc (.cells ((piecesB c s).map Value.string).toArray 9) := by
  have hle := Lib.countB_le ⟨#[c]⟩ (Nat.le_refl 1) s.size s (Nat.le_refl _)
  have hl := pieces_len c s
  have k := Any.strings_genSplit_core Tryz.lays221 (by kernel_rfl) s ⟨#[c]⟩ 0 (-1) (Lib.countB s ⟨#[c]⟩ + 1) w hs (Nat.le_refl 1) (Nat.zero_le _)
    (fun x cc hx => (Tryz.strings_Index_one x c _).mono fun e w' ⟨he, hw⟩ => ⟨by rw [he]; show _ = Ending.returned (Value.int .i64 (Lib.index x.data.toList [c])); rw [Lib.index_one], hw⟩)
    ((Tryz.strings_Count_one s c w).mono fun e w' ⟨he, hw⟩ => ⟨by
      rw [he]
      show _ = Ending.returned (Value.int .i64 ((Lib.count s.data.toList [c] : Nat) : Int))
      rw [Lib.count_one]
      rfl, hw⟩)
    (by decide) (by decide) (by rw [if_pos (by decide)]; omega)
  rw [Nat.add_sub_cancel, show Lib.splitB ⟨#[c]⟩ 0 (Lib.countB s ⟨#[c]⟩) s = piecesB c s from rfl, ← hl, Lib.cellsOf_full] at k
  exact k
theorem split_one (s : ByteArray) (c : UInt8) (w : World) (hs : s.size < 4294967281) :
    Calls Tryz.prog 71 #[.string s, .string ⟨#[c]⟩] w fun e w' =>
      e = .returned (.slice (some ⟨w.heap.size, 0, none⟩) (piecesB c s).length (piecesB c s).length) ∧ w' = w.alloc (.cells ((piecesB c s).map Value.string).toArray 9) := by
  have HC := Lib.hid (genSplit_one s c w hs)
  obtain ⟨n, hn⟩ : ∃ n, n = (piecesB c s).length := ⟨_, rfl⟩
  rw [← hn] at HC ⊢
  clear hn hs
  go_enter Tryz.func71, Tryz.ntmps71
  go_wp2_with fail
  refine HC.out.mono ?_
  rintro e w1 ⟨rfl, hw⟩
  have HW := Lib.hid hw
  clear hw HC
  go_wp2_with fail
  go_ret
  exact ⟨rfl, HW.out⟩
end Go.Proofs.YtikehilbmldadaaGreatDoor
