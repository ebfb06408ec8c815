/- The document's ConfigText, whole (made by mkct.py). -/
import Derived.Test.YtakjbjokekbmbaaGreatDoorQ30
import Derived.Test.YtakjbjokekbmbaaGreatDoorQ31
import Derived.Test.YtakjbjokekbmbaaGreatDoorQ29
import Derived.Test.YtakjbjokekbmbaaGreatDoorQ26
import Derived.BigQuiet
import Derived.Test.YtakjbjokekbmbaaGreatDoorQ03
import Derived.Laws.AppendOwn
namespace Go.Proofs.YtakjbjokekbmbaaGreatDoor
open Go.RowKit
set_option linter.unusedVariables false

theorem head_text (C : ConfV) : headB C = [119, 105, 110, 100, 111, 119, 32] ++ Lib.itoa C.closed ++ [32] ++ Lib.itoa C.opn ++ [10, 99, 121, 99, 108, 101, 32] ++ Lib.itoa C.cycle ++ [10, 100, 101, 108, 97, 121, 32] ++ Lib.itoa C.delay ++ [10] := by
  simp [headB, headL, lineB, upB, sepB, wordB, winB, cycB, delB, List.range_succ]
end Go.Proofs.YtakjbjokekbmbaaGreatDoor

/- KeeperQuiet: a quiet config's text is short: it is read as it was written. -/
namespace Go.Proofs.YtakjbjokekbmbaaGreatDoor
open Go.RowKit
set_option linter.unusedVariables false

structure QuietE (E : EntV) : Prop where
  c : E.count = -1
  g : E.gaps = []
  e : E.edges = []
  f : E.first = []
  l : E.last = []
theorem pnt_small {L : List ByteArray} (h : ∀ s ∈ L, s.size ≤ 12) : (linesB (L.map pntL)).length ≤ 19 * L.length := by
  have h1 := kflat_mul (fun s => lineB (pntL s)) 19 L (fun s hs => by
    have := h s hs
    rw [dsize] at this
    rw [line_pnt, List.length_append, List.length_append]
    simp only [List.length_cons, List.length_nil]
    omega)
  unfold linesB
  rw [List.flatMap_map]
  exact h1
theorem quiet_ent {E : EntV} (h : EntGood E) (q : QuietE E) : (linesB (entLn E)).length ≤ 400 := by
  have hc : cntLn E = [] := by unfold cntLn; rw [if_neg (by rw [q.c]; decide)]
  have h1 := pnt_small h.ps
  have h2 := h.pl
  have h3 := h.name
  rw [dsize] at h3
  have h4 := h.tol
  have h5 := itoa_len E.tol h4.1 (by omega)
  rw [ent_lines, hc, q.g, q.e, q.f, q.l, line_ent]
  simp only [List.length_append, List.length_cons, List.length_nil, List.map_nil, linesB, List.flatMap_nil] at h1 ⊢
  omega
theorem quiet_text {C : ConfV} (hC : confF C = (0, -1)) (hq : ∀ E ∈ C.ents, QuietE E) : (textB C).length ≤ 8000 := by
  have hb := (confF_parts hC).1
  unfold boundC at hb
  rw [decide_eq_false_iff_not] at hb
  have h1 := kflat_mul (fun E => linesB (entLn E)) 400 C.ents (fun E hE => by
    have hqE := hq E hE
    obtain ⟨i, hi, rfl⟩ := List.getElem_of_mem hE
    have := (confF_parts hC).2.2 i hi
    rw [entAt_at hi] at this
    exact quiet_ent (good_of this) hqE)
  have h2 : C.ents.length ≤ 8 := by omega
  have h3 := Nat.mul_le_mul_left 400 h2
  have i1 := itoa_len C.closed (by omega) (by omega)
  have i2 := itoa_len C.opn (by omega) (by omega)
  have i3 := itoa_len C.cycle (by omega) (by omega)
  have i4 := itoa_len C.delay (by omega) (by omega)
  unfold textB
  rw [head_text]
  simp only [List.length_append, List.length_cons, List.length_nil]
  omega
end Go.Proofs.YtakjbjokekbmbaaGreatDoor

/- KeeperQuiet's plain law: a watch of quiet entities alone, tick by tick. -/
namespace Go.Proofs.YtakjbjokekbmbaaGreatDoor
open Go.RowKit
set_option linter.unusedVariables false

/-- What a quiet entity's watch holds. -/
structure QuietL (a : LocM) : Prop where
  x : a.exp = false
  r : a.run = 0
  g : a.gs = []
  b : a.gbad = false
  f : a.fbad = false
structure QOk (C : ConfV) : Prop where
  bound : boundC C = false
  cyc : C.cycle ≤ C.opn
  q : ∀ E ∈ C.ents, QuietE E
  tol : ∀ E ∈ C.ents, 0 ≤ E.tol
/-- All but the dog. -/
structure QB (C : ConfV) (M : KpM) : Prop where
  eC : M.C = C
  off : M.m.off = false
  L : M.L = []
  A : ∀ a, some a ∈ M.A → QuietL a
  An : M.A.length = C.ents.length
  sn : M.sn = 0
  st : M.st = .ok
def qDog (C : ConfV) (n : Nat) : DogM := ⟨C.closed, C.opn, n, (dogK C.closed.toNat C.cycle.toNat n).1, false, (dogK C.closed.toNat C.cycle.toNat n).2⟩
/-- Behind n ticks. -/
structure QAt (C : ConfV) (M : KpM) (n : Nat) : Prop where
  b : QB C M
  D : M.D = qDog C n
theorem QAt.on {C : ConfV} {M : KpM} {n : Nat} (h : QAt C M n) : kpOn M = 0 := by
  unfold kpOn
  rw [h.b.off, h.D]; rfl
theorem quiet_begin {E : EntV} (h : QuietE E) : QuietL (locBegin E) := ⟨rfl, rfl, by simp [locBegin, h.g], rfl, rfl⟩
theorem quiet_kind {E : EntV} (h : QuietE E) {a : LocM} (ha : QuietL a) : locKind E a = 0 := by
  have h1 : aliveOk (locPt E) E.mn E.mx a.cnt a.whole = true := by
    unfold aliveOk locPt alivePt
    rw [if_pos (.inl (by rw [h.c]; decide))]
    simp
  unfold locKind
  rw [h1, ha.b, ha.f]
  simp
theorem quiet_run {E : EntV} (h : QuietE E) {a : LocM} (ha : QuietL a) : locRun E a = 0 := by unfold locRun; rw [if_pos (quiet_kind h ha)]
theorem quiet_end {E : EntV} (h : QuietE E) (ht : 0 ≤ E.tol) {a : LocM} (ha : QuietL a) : QuietL (locEnd E a) ∧ locNow E a = false := by
  have hr := quiet_run h ha
  have hd : decide (E.tol < locRun E a) = false := by rw [hr]; simp; omega
  exact ⟨⟨by simp [locEnd, ha.x, hd], hr, ha.g, rfl, rfl⟩, by simp [locNow, hd]⟩
theorem kpEnt_mem {M : KpM} {j : Nat} (h : j < M.C.ents.length) : kpEnt M j ∈ M.C.ents := by
  unfold kpEnt
  rw [List.getD_eq_getElem?_getD, List.getElem?_eq_getElem h]
  exact List.getElem_mem h
section
variable {C : ConfV} {M : KpM} {n : Nat}
theorem QB.set (h : QB C M) {j : Nat} {a : Option LocM} (ha : ∀ x, a = some x → QuietL x) : QB C (kpSet M j a) := by
  refine ⟨h.eC, h.off, h.L, fun x hx => ?_, ?_, h.sn, h.st⟩
  · rcases List.mem_or_eq_of_mem_set (show some x ∈ M.A.set j a from hx) with h1 | h1
    · exact h.A x h1
    · exact ha x h1.symm
  · show (M.A.set j a).length = _
    rw [List.length_set]; exact h.An
theorem QB.ask (h : QB C M) {i : Int} (hi : ¬ kpAsk M i ≠ 0) : i.toNat < C.ents.length := by
  unfold kpAsk at hi
  have hn := h.An
  split at hi
  · rename_i h0
    exact absurd h0 hi
  · split at hi
    · exact absurd (by decide) hi
    · omega
theorem QB.begin (h : QB C M) (q : QOk C) (i : Int) : QB C (kpBegin M i).2 := by
  unfold kpBegin
  split
  · exact h
  · rename_i hi
    have hl := h.ask hi
    have hm := kpEnt_mem (M := M) (j := i.toNat) (by rw [h.eC]; exact hl)
    rw [h.eC] at hm
    split
    · exact h.set (fun x hx => by obtain rfl := Option.some.inj hx; exact quiet_begin (q.q _ hm))
    · exact h
theorem kpBegin_D (M : KpM) (i : Int) : (kpBegin M i).2.D = M.D := by unfold kpBegin; split; rfl; split <;> rfl
theorem kpEnd1_D (M : KpM) (j : Nat) : (kpEnd1 M j).2.D = M.D := by
  unfold kpEnd1
  split
  · rfl
  · split <;> rfl
theorem kpEndN_D (M : KpM) : ∀ k, (kpEndN M k).2.D = M.D
  | 0 => rfl
  | k + 1 => by
    unfold kpEndN
    split
    · exact kpEndN_D M k
    · rw [kpEnd1_D]; exact kpEndN_D M k
theorem QAt.begin (h : QAt C M n) (q : QOk C) (i : Int) : QAt C (kpBegin M i).2 n := ⟨h.b.begin q i, by rw [kpBegin_D]; exact h.D⟩
theorem QB.end1 (h : QB C M) (q : QOk C) {j : Nat} (hj : j < C.ents.length) : (kpEnd1 M j).1 = 0 ∧ QB C (kpEnd1 M j).2 := by
  unfold kpEnd1
  cases ha : kpGet M j with
  | none => exact ⟨rfl, h⟩
  | some a =>
    have hm := kpEnt_mem (M := M) (j := j) (by rw [h.eC]; exact hj)
    rw [h.eC] at hm
    have he := quiet_end (q.q _ hm) (q.tol _ hm) (h.A a (kpGet_mem ha).2)
    have hf : ¬ locNow (kpEnt M j) a = true := by rw [he.2]; decide
    show (if locNow (kpEnt M j) a = true then _ else _ : Nat × KpM).1 = 0 ∧ QB C (if locNow (kpEnt M j) a = true then _ else _ : Nat × KpM).2
    rw [if_neg hf]
    exact ⟨rfl, h.set (fun x hx => by obtain rfl := Option.some.inj hx; exact he.1)⟩
theorem QB.endN (h : QB C M) (q : QOk C) : ∀ k, k ≤ C.ents.length → (kpEndN M k).1 = 0 ∧ QB C (kpEndN M k).2
  | 0, _ => ⟨rfl, h⟩
  | k + 1, hk => by
    obtain ⟨h1, h2⟩ := h.endN q k (by omega)
    unfold kpEndN
    rw [if_neg (by rw [h1]; decide)]
    exact h2.end1 q (by omega)
theorem quiet_stat {a : Option LocM} (h : ∀ x, a = some x → QuietL x) : kpStat a = idleS ∨ kpStat a = St.ok.str := by
  cases a with
  | none => exact .inl rfl
  | some x =>
    have hx := h x rfl
    right
    show locStatus x = _
    unfold locStatus
    rw [hx.x, hx.r]; rfl
theorem quiet_has {l : List (Option LocM)} (h : ∀ a, some a ∈ l → QuietL a) : hasStr (l.map kpStat) St.expired.str = false ∧ hasStr (l.map kpStat) St.failed.str = false := by
  have hq : ∀ s ∈ l.map kpStat, s = idleS ∨ s = St.ok.str := fun s hs => by
    obtain ⟨a, ha, rfl⟩ := List.mem_map.1 hs
    exact quiet_stat (fun x hx => h x (hx ▸ ha))
  constructor
  · unfold hasStr
    rw [List.any_eq_false]
    intro s hs
    rcases hq s hs with rfl | rfl <;> decide +kernel
  · unfold hasStr
    rw [List.any_eq_false]
    intro s hs
    rcases hq s hs with rfl | rfl <;> decide +kernel
theorem QB.tot (h : QB C M) : QB C (kpTot M) := by
  have hs := quiet_has h.A
  have e : St.next M.C.delay M.sn M.st (M.A.map kpStat) = (0, .ok) := by
    rw [h.st, h.sn]
    unfold St.next
    simp only [hs.1, hs.2]
    rfl
  exact ⟨h.eC, h.off, h.L, h.A, h.An, by show (St.next _ _ _ _).1 = _; rw [e], by show (St.next _ _ _ _).2 = _; rw [e]⟩
theorem QB.dogD (h : QB C M) (D : DogM) : QB C { M with D := D } := ⟨h.eC, h.off, h.L, h.A, h.An, h.sn, h.st⟩
/-- One tick. -/
theorem QAt.tick (h : QAt C M n) (q : QOk C) (hn : n ≤ 1000000) : (kpTick M).1 = 0 ∧ QAt C (kpTick M).2 (n + 1) := by
  have hb := boundC_parts q.bound
  have hcy := q.cyc
  have hs := dogK_safe (closed := C.closed.toNat) (opn := C.opn.toNat) (cycle := C.cycle.toNat) (by omega) (by omega) n
  have hD := h.D
  obtain ⟨K, hK⟩ : ∃ K, dogK C.closed.toNat C.cycle.toNat n = K := ⟨_, rfl⟩
  have hKn : dogK C.closed.toNat C.cycle.toNat (n + 1) = if (n + 1) % C.cycle.toNat = 0 ∧ C.closed.toNat < n + 1 - K.1 then (n + 1, K.2 + 1) else K := by rw [dogK, hK]
  unfold qDog at hD
  rw [hK] at hD hs
  have e0 : dogTickE M.D = 0 := by
    rw [hD]
    unfold dogTickE
    rw [if_neg Bool.false_ne_true, if_neg (by show ¬ (1099511627776 ≤ (n : Int)); omega)]
  have e1 : dogTick M.D = ⟨C.closed, C.opn, (n : Int) + 1, K.1, false, K.2⟩ := by
    rw [hD]
    unfold dogTick
    rw [if_neg Bool.false_ne_true, if_neg (by show ¬ (1099511627776 ≤ (n : Int)); omega)]
    have : decide (C.closed + C.opn < (n : Int) + 1 - (K.1 : Int)) = false := by
      rw [decide_eq_false_iff_not]; omega
    simp only [this]
  have hmod : ((n : Int) + 1) % C.cycle = 0 ↔ (n + 1) % C.cycle.toNat = 0 := by
    have : ((n + 1 : Nat) : Int) % ((C.cycle.toNat : Nat) : Int) = (((n + 1) % C.cycle.toNat : Nat) : Int) := rfl
    rw [Int.toNat_of_nonneg (by omega)] at this
    have e : ((n + 1 : Nat) : Int) = (n : Int) + 1 := by omega
    rw [e] at this
    omega
  unfold kpTick
  rw [h.on, if_neg (by decide), e0, if_neg (by decide), e1, if_neg Bool.false_ne_true]
  by_cases hc : ((n : Int) + 1) % M.C.cycle = 0
  · rw [if_pos hc]
    rw [h.b.eC] at hc
    have hAn : (kpDog M).A.length = C.ents.length := h.b.An
    have hN := (show QB C (kpDog M) from h.b.dogD _).endN q (kpDog M).A.length (by rw [hAn]; exact Nat.le_refl _)
    have hNd := kpEndN_D (kpDog M) (kpDog M).A.length
    obtain ⟨r, hr⟩ : ∃ r, kpEndN (kpDog M) (kpDog M).A.length = r := ⟨_, rfl⟩
    unfold kpEnd
    rw [hr] at hN hNd ⊢
    rw [if_neg (by rw [hN.1]; decide)]
    have ht := hN.2.tot
    have hD2 : (kpTot r.2).D = ⟨C.closed, C.opn, (n : Int) + 1, K.1, false, K.2⟩ := by
      show r.2.D = _
      rw [hNd]; exact e1
    refine ⟨rfl, ?_⟩
    show QAt C (kpKick (kpTot r.2)) (n + 1)
    unfold kpKick
    have hst : (kpTot r.2).st = .ok := ht.st
    by_cases ho : dogOpen (kpTot r.2).D = true
    · rw [if_pos ⟨by rw [hst]; decide, ho⟩]
      refine ⟨ht.dogD _, ?_⟩
      show dogKick (kpTot r.2).D = _
      rw [dogKick_yes ho, hD2]
      rw [hD2] at ho
      have : C.closed < (n : Int) + 1 - K.1 := by simpa [dogOpen] using ho
      unfold qDog
      rw [hKn, if_pos ⟨hmod.1 hc, by omega⟩]
      simp
    · rw [if_neg (fun hh => ho hh.2)]
      refine ⟨ht, ?_⟩
      rw [hD2]
      rw [hD2] at ho
      have : ¬ C.closed < (n : Int) + 1 - K.1 := by simpa [dogOpen] using ho
      unfold qDog
      rw [hKn, if_neg (fun hh => this (by have := hh.2; omega))]
      simp
  · rw [if_neg hc]
    rw [h.b.eC] at hc
    refine ⟨rfl, h.b.dogD _, ?_⟩
    show dogTick M.D = _
    unfold qDog
    rw [e1, hKn, if_neg (fun hh => hc (hmod.2 hh.1))]
    simp
theorem QAt.ticks (h : QAt C M n) (q : QOk C) : ∀ k, n + k ≤ 1000000 → (kpTicks M k).1 = 0 ∧ QAt C (kpTicks M k).2 (n + k)
  | 0, _ => ⟨rfl, h⟩
  | k + 1, hk => by
    obtain ⟨h1, h2⟩ := h.ticks q k (by omega)
    unfold kpTicks
    rw [if_neg (by rw [h1]; decide)]
    exact h2.tick q (by omega)
theorem qAt_new (q : QOk C) {m : CM} (hm : m.off = false) (hr : recsOf m.bs = []) : QAt C (kpOpen C ⟨C.closed, C.opn, 0, 0, false, 0⟩ m) 0 := by
  refine ⟨⟨rfl, hm, by rw [kpOpen_L]; exact hr, fun a ha => ?_, by simp [kpOpen], rfl, rfl⟩, ?_⟩
  · have : some a ∈ List.replicate C.ents.length (none : Option LocM) := ha
    rw [List.mem_replicate] at this
    cases this.2
  · rfl
end
end Go.Proofs.YtakjbjokekbmbaaGreatDoor

/- Package keeper: a watch's memory. A number tells to whom a block belongs: 0 to nobody of them, 1 the keeper, 2 its dog, 3 and 4 the cells and their row, 5 and 6 the log and its row, 7 total, 8 the config, 9 the row of locals, 10 + 2 j local j, 11 + 2 j its watch. -/
namespace Go.Proofs.YtakjbjokekbmbaaGreatDoor
open Go.RowKit
set_option linter.unusedVariables false

structure KpX where
  d : Nat
  rb : Nat
  cap : Nat
  rg : Nat
  tb : Nat
  lv : Value
  ve : Value
  vl : Value
  X : List EntX
  ls : List Nat

/-- From w to w': blocks of the numbers N alone have turned, new ones are numbered. -/
structure Stp (o o' : Nat → Nat) (N : Nat → Prop) (w0 w w' : World) : Prop where
  kp : Keep (fun b => N (o b)) w w'
  agree : ∀ b, b < w.heap.size → o' b = o b
  low : ∀ b, o' b ≠ 0 → w0.heap.size ≤ b ∧ b < w'.heap.size
  bel : Below w0.heap.size w0 w'
def Low (o : Nat → Nat) (w0 w : World) : Prop := ∀ b, o b ≠ 0 → w0.heap.size ≤ b ∧ b < w.heap.size
/-- Blocks from a up to b are numbered anew. -/
def ext (o : Nat → Nat) (a b n : Nat) : Nat → Nat := fun x => if a ≤ x ∧ x < b then n else o x
theorem ext_old {o : Nat → Nat} {a b n x : Nat} (h : x < a) : ext o a b n x = o x := if_neg (by omega)
theorem ext_new {o : Nat → Nat} {a b n x : Nat} (h : a ≤ x) (h2 : x < b) : ext o a b n x = n := if_pos ⟨h, h2⟩
theorem Stp.same {o : Nat → Nat} {N : Nat → Prop} {w0 w w' : World} (lo : Low o w0 w) (bl : Below w0.heap.size w0 w) (k : Keep (fun b => N (o b)) w w') (hN : ¬ N 0) : Stp o o N w0 w w' :=
  ⟨k, fun _ _ => rfl, fun b hb => ⟨(lo b hb).1, Nat.lt_of_lt_of_le (lo b hb).2 k.size⟩, bl.trans (k.below bl.size (fun b hb => by
    have : o b ≠ 0 := fun e => by rw [e] at hb; exact hN hb
    exact (lo b this).1))⟩
theorem Stp.new {o : Nat → Nat} {N : Nat → Prop} {w0 w w' : World} {n : Nat} (lo : Low o w0 w) (bl : Below w0.heap.size w0 w) (k : Keep (fun b => N (o b)) w w') (hN : ¬ N 0) : Stp o (ext o w.heap.size w'.heap.size n) N w0 w w' := by
  have hs := bl.size
  have hk := k.size
  refine ⟨k, fun b hb => ext_old hb, fun b hb => ?_, (Stp.same lo bl k hN).bel⟩
  by_cases h : w.heap.size ≤ b ∧ b < w'.heap.size
  · omega
  · unfold ext at hb
    rw [if_neg h] at hb
    have := lo b hb
    omega
section
variable {o o' : Nat → Nat} {N : Nat → Prop} {w0 w w' : World}
theorem Stp.lo (s : Stp o o' N w0 w w') : Low o' w0 w' := s.low
theorem Stp.get (s : Stp o o' N w0 w w') {b n : Nat} {x : Obj} (hb : w.heap[b]? = some x) (hn : o b = n) (h : ¬ N n) : w'.heap[b]? = some x := s.kp.get hb (by rw [hn]; exact h)
theorem Stp.eq (s : Stp o o' N w0 w w') (lo : Low o w0 w) {b n : Nat} (h : o b = n) (hn : n ≠ 0) : o' b = n := by rw [s.agree b (lo b (by rw [h]; exact hn)).2, h]
theorem Stp.sl (s : Stp o o' N w0 w w') {n : Nat} {v : Value} {sz k : Nat} {cs : List Value} (hl : SlOf (fun b => o b = n) w v sz cs k) (hn : ¬ N n) : SlOf (fun b => o' b = n) w' v sz cs k := by
  obtain ⟨hl, ao, cap, hv, h1, h2, h3, h4⟩ := hl
  refine ⟨hl, ao, cap, hv, h1, h2, h3, fun hp => ?_⟩
  obtain ⟨b, off, ha, hR, hb, hc⟩ := h4 hp
  exact ⟨b, off, ha, by show o' b = n; rw [s.agree b hb]; exact hR, Nat.lt_of_lt_of_le hb s.kp.size, fun k u hu => by rw [s.kp.cell hb (by simp only [hR]; exact hn)]; exact hc k u hu⟩
theorem Stp.ents (s : Stp o o' N w0 w w') {n : Nat} {v : Value} {X : List EntX} (h : EntsSl (fun b => o b = n) w v X) (hn : ¬ N n) : EntsSl (fun b => o' b = n) w' v X :=
  ⟨s.sl h.row hn, fun x hx => ⟨s.sl (h.each x hx).p hn, s.sl (h.each x hx).g hn, s.sl (h.each x hx).e hn, s.sl (h.each x hx).f hn, s.sl (h.each x hx).l hn⟩⟩
theorem Stp.cells (s : Stp o o' N w0 w w') {c rb : Nat} {ao : Option Addr} {cap : Nat} {m : CM} (h : CellsAt w c rb ao cap m) (h3 : o c = 3) (h4 : o rb = 4) (n3 : ¬ N 3) (n4 : ¬ N 4) : CellsAt w' c rb ao cap m :=
  h.keep s.kp (fun b hb => ⟨fun e => by subst e; rw [h3] at hb; exact n3 hb, fun e => by subst e; rw [h4] at hb; exact n4 hb⟩)
end

/-- Local j: idle, or watched. -/
def LocIs (l s t : Nat) (x : EntX) (w : World) : Option LocM → Prop
  | none => w.heap[l]? = some (locC none x.E x.p x.g x.e x.f x.l)
  | some m => LocAt l s t x.E x.p x.g x.e x.f x.l m w
theorem LocAt.le {l s t : Nat} {E : EntV} {vp vg ve vf vl : Value} {m : LocM} {w : World} (h : LocAt l s t E vp vg ve vf vl m w) : t ≤ w.heap.size := by
  obtain ⟨⟨wb, a, g, f, ro, base, lo, hi, h1, h2⟩, ho⟩ := h
  exact h2.top
theorem Stp.loc {o o' : Nat → Nat} {N : Nat → Prop} {w0 w w' : World} (s : Stp o o' N w0 w w') {l a t n : Nat} {x : EntX} {m : Option LocM} (h : LocIs l a t x w m) (hl : o l = 10 + 2 * n) (hw : ∀ b, a ≤ b → b < t → o b = 11 + 2 * n) (n1 : ¬ N (10 + 2 * n)) (n2 : ¬ N (11 + 2 * n)) : LocIs l a t x w' m := by
  cases m with
  | none => exact s.get h hl n1
  | some m => exact h.keep s.kp (by rw [hl]; exact n1) (fun b h1 h2 => by rw [hw b h1 h2]; exact n2)
theorem LocIs.own {o o' : Nat → Nat} {N : Nat → Prop} {w0 w w' : World} (s : Stp o o' N w0 w w') {l a t n : Nat} {x : EntX} {m : Option LocM} (h : LocIs l a t x w m) (hw : ∀ b, a ≤ b → b < t → o b = 11 + 2 * n) : ∃ a' t', (∀ b, a' ≤ b → b < t' → o' b = 11 + 2 * n) ∧ (LocIs l a t x w' m → LocIs l a' t' x w' m) := by
  cases m with
  | none => exact ⟨0, 0, fun b _ h => by omega, fun h => h⟩
  | some m => exact ⟨a, t, fun b h1 h2 => by rw [s.agree b (Nat.lt_of_lt_of_le h2 (LocAt.le h)), hw b h1 h2], fun h => h⟩

def ptrCs (l : List Nat) : List Value := l.map fun b => .pointer (some ⟨b, 0, none⟩)
def kpC (d : Nat) (C : ConfV) (ve : Value) (c : Nat) (vlog vl vt : Value) (txt : ByteArray) : Obj :=
  .cells #[.pointer (some ⟨d, 0, none⟩), .int .i64 C.closed, .int .i64 C.opn, .int .i64 C.cycle, .int .i64 C.delay, ve, .pointer (some ⟨c, 0, none⟩), vlog, vl, vt, .string txt] 57
theorem kp_cells {w : World} {kb d : Nat} {C : ConfV} {ve : Value} {c : Nat} {vlog vl vt : Value} {txt : ByteArray} (h : w.heap[kb]? = some (kpC d C ve c vlog vl vt txt)) :
    w.cell? ⟨kb, 0, none⟩ = some (.pointer (some ⟨d, 0, none⟩)) ∧ w.cell? ⟨kb, 1, none⟩ = some (.int .i64 C.closed) ∧ w.cell? ⟨kb, 2, none⟩ = some (.int .i64 C.opn) ∧ w.cell? ⟨kb, 3, none⟩ = some (.int .i64 C.cycle) ∧ w.cell? ⟨kb, 4, none⟩ = some (.int .i64 C.delay) ∧ w.cell? ⟨kb, 5, none⟩ = some ve ∧
    w.cell? ⟨kb, 6, none⟩ = some (.pointer (some ⟨c, 0, none⟩)) ∧ w.cell? ⟨kb, 7, none⟩ = some vlog ∧ w.cell? ⟨kb, 8, none⟩ = some vl ∧ w.cell? ⟨kb, 9, none⟩ = some vt ∧ w.cell? ⟨kb, 10, none⟩ = some (.string txt) ∧ ∀ o, w.frozen? ⟨kb, o, none⟩ = false := by
  unfold kpC at h
  simp [World.cell?, World.frozen?, h]

/-- The watch but for its log, its locals, its total. -/
structure KpB (B : Nat) (sa : Nat → Addr) (w0 : World) (kb c : Nat) (x : KpX) (C : ConfV) (D : DogM) (m : CM) (o : Nat → Nat) (w : World) : Prop where
  se : SentsK B sa w
  bel : Below w0.heap.size w0 w
  bl : B ≤ w0.heap.size
  low : Low o w0 w
  dog : DogAt w x.d D
  mem : CellsAt w c x.rb (some ⟨x.rb, 0, none⟩) x.cap m
  ents : EntsSl (fun b => o b = 8) w x.ve x.X
  xe : C.ents = x.X.map EntX.E
  ok : o kb = 1
  od : o x.d = 2
  oc : o c = 3
  orb : o x.rb = 4
theorem KpB.stp {B : Nat} {sa : Nat → Addr} {w0 : World} {kb c : Nat} {x : KpX} {C : ConfV} {D : DogM} {m : CM} {o o' : Nat → Nat} {N : Nat → Prop} {w w' : World} (h : KpB B sa w0 kb c x C D m o w) (s : Stp o o' N w0 w w')
    (hse : SentsK B sa w') (h8 : ¬ N 8) {D' : DogM} {m' : CM} (hd : DogAt w' x.d D') (hm : CellsAt w' c x.rb (some ⟨x.rb, 0, none⟩) x.cap m') : KpB B sa w0 kb c x C D' m' o' w' :=
  ⟨hse, s.bel, h.bl, s.low, hd, hm, s.ents h.ents h8, h.xe, s.eq h.low h.ok (by decide), s.eq h.low h.od (by decide), s.eq h.low h.oc (by decide), s.eq h.low h.orb (by decide)⟩
theorem KpB.re {B : Nat} {sa : Nat → Addr} {w0 : World} {kb c : Nat} {x : KpX} {C : ConfV} {D : DogM} {m : CM} {o : Nat → Nat} {w : World} (h : KpB B sa w0 kb c x C D m o w) (rg tb : Nat) (lv vl : Value) (ls : List Nat) :
    KpB B sa w0 kb c ⟨x.d, x.rb, x.cap, rg, tb, lv, x.ve, vl, x.X, ls⟩ C D m o w := ⟨h.se, h.bel, h.bl, h.low, h.dog, h.mem, h.ents, h.xe, h.ok, h.od, h.oc, h.orb⟩
theorem KpB.sen {B : Nat} {sa : Nat → Addr} {w0 : World} {kb c : Nat} {x : KpX} {C : ConfV} {D : DogM} {m : CM} {o o' : Nat → Nat} {N : Nat → Prop} {w w' : World} (h : KpB B sa w0 kb c x C D m o w) (s : Stp o o' N w0 w w') (h0 : ¬ N 0) : SentsK B sa w' :=
  h.se.keep s.kp (fun b hN => by
      have : o b ≠ 0 := fun e => by rw [e] at hN; exact h0 hN
      exact Nat.le_trans h.bl (h.low b this).1)
theorem KpB.keep {B : Nat} {sa : Nat → Addr} {w0 : World} {kb c : Nat} {x : KpX} {C : ConfV} {D : DogM} {m : CM} {o o' : Nat → Nat} {N : Nat → Prop} {w w' : World} (h : KpB B sa w0 kb c x C D m o w) (s : Stp o o' N w0 w w')
    (hse : SentsK B sa w') (h8 : ¬ N 8) (h2 : ¬ N 2) (h3 : ¬ N 3) (h4 : ¬ N 4) : KpB B sa w0 kb c x C D m o' w' :=
  h.stp s hse h8 (s.get h.dog h.od h2) (s.cells h.mem h.oc h.orb h3 h4)

structure KpIn (B : Nat) (sa : Nat → Addr) (w0 : World) (kb c : Nat) (txt : ByteArray) (x : KpX) (M : KpM) (o : Nat → Nat) (w : World) : Prop where
  b : KpB B sa w0 kb c x M.C M.D M.m o w
  box : w.heap[kb]? = some (kpC x.d M.C x.ve c (.pointer (some ⟨x.rg, 0, none⟩)) x.vl (.pointer (some ⟨x.tb, 0, none⟩)) txt)
  rbox : w.heap[x.rg]? = some (ringC c x.lv M.dead)
  rrow : SlOf (fun b => o b = 6) w x.lv 4 (M.L.flatMap recCells) M.L.length
  lrow : SlOf (fun b => o b = 9) w x.vl 1 (ptrCs x.ls) x.ls.length
  ll : x.ls.length = x.X.length ∧ M.A.length = x.X.length
  loc : ∀ (j l : Nat) (e : EntX), x.ls[j]? = some l → x.X[j]? = some e → o l = 10 + 2 * j ∧ ∃ a t, (∀ b, a ≤ b → b < t → o b = 11 + 2 * j) ∧ LocIs l a t e w (kpGet M j)
  tot : TotalAt w x.tb M.C.delay M.sn M.st
  org : o x.rg = 5
  ot : o x.tb = 7
section
variable {B : Nat} {sa : Nat → Addr} {w0 : World} {kb c : Nat} {txt : ByteArray} {x : KpX} {M : KpM} {o o' : Nat → Nat} {N : Nat → Prop} {w w' : World}
theorem KpIn.len (h : KpIn B sa w0 kb c txt x M o w) : x.ls.length = M.A.length ∧ M.C.ents.length = M.A.length := by
  have := h.ll
  have h2 := congrArg List.length h.b.xe
  rw [List.length_map] at h2
  omega
theorem Stp.locs (s : Stp o o' N w0 w w') (h : KpIn B sa w0 kb c txt x M o w) {j l : Nat} {e : EntX} (h1 : x.ls[j]? = some l) (h2 : x.X[j]? = some e) (n1 : ¬ N (10 + 2 * j)) (n2 : ¬ N (11 + 2 * j)) :
    o' l = 10 + 2 * j ∧ ∃ a t, (∀ b, a ≤ b → b < t → o' b = 11 + 2 * j) ∧ LocIs l a t e w' (kpGet M j) := by
  obtain ⟨q1, a, t, q2, q3⟩ := h.loc j l e h1 h2
  obtain ⟨a', t', r1, r2⟩ := LocIs.own s q3 q2
  exact ⟨s.eq h.b.low q1 (by omega), a', t', r1, r2 (s.loc q3 q1 q2 n1 n2)⟩
/-- What has turned is none of the watch's. -/
theorem KpIn.far {T : Nat → Prop} (h : KpIn B sa w0 kb c txt x M o w) (k : Keep T w w') (hT : ∀ b, b < w.heap.size → T b → o b = 0 ∧ w0.heap.size ≤ b) : KpIn B sa w0 kb c txt x M o w' := by
  have s : Stp o o (fun n => n = 0) w0 w w' := ⟨k.mono (fun b hb h => (hT b hb h).1), fun _ _ => rfl, fun b hb => ⟨(h.b.low b hb).1, Nat.lt_of_lt_of_le (h.b.low b hb).2 k.size⟩,
    h.b.bel.trans ((k.mono (fun b hb h => (hT b hb h).2) : Keep (fun b => w0.heap.size ≤ b) w w').below h.b.bel.size (fun b hb => hb))⟩
  have hse : SentsK B sa w' := h.b.se.keep (k.mono (fun b hb h => (hT b hb h).2) : Keep (fun b => w0.heap.size ≤ b) w w') (fun b hb => Nat.le_trans h.b.bl hb)
  exact ⟨h.b.keep s hse (by decide) (by decide) (by decide) (by decide), s.get h.box h.b.ok (by decide), s.get h.rbox h.org (by decide), s.sl h.rrow (by decide), s.sl h.lrow (by decide), h.ll,
    fun j l e h1 h2 => s.locs h h1 h2 (by omega) (by omega), s.get h.tot h.ot (by decide), h.org, h.ot⟩
theorem KpIn.below (h : KpIn B sa w0 kb c txt x M o w) (b : Below w.heap.size w w') : KpIn B sa w0 kb c txt x M o w' := h.far (below_keep b) (fun _ _ h => h.elim)
theorem KpIn.dog' (h : KpIn B sa w0 kb c txt x M o w) {D' : DogM} (k : Keep (· = x.d) w w') (hd : DogAt w' x.d D') : KpIn B sa w0 kb c txt x { M with D := D' } o w' := by
  have s : Stp o o (fun n => n = 2) w0 w w' := Stp.same h.b.low h.b.bel (k.mono (fun b hb e => by rw [e]; exact h.b.od)) (by decide)
  exact ⟨h.b.stp s (h.b.sen s (by decide)) (by decide) hd (s.cells h.b.mem h.b.oc h.b.orb (by decide) (by decide)), s.get h.box h.b.ok (by decide), s.get h.rbox h.org (by decide), s.sl h.rrow (by decide), s.sl h.lrow (by decide), h.ll,
    fun j l e h1 h2 => s.locs h h1 h2 (by omega) (by omega), s.get h.tot h.ot (by decide), h.org, h.ot⟩
theorem KpIn.cell' (h : KpIn B sa w0 kb c txt x M o w) {m' : CM} (k : Keep (· = c) w w') (hm : CellsAt w' c x.rb (some ⟨x.rb, 0, none⟩) x.cap m') : KpIn B sa w0 kb c txt x { M with m := m' } o w' := by
  have s : Stp o o (fun n => n = 3) w0 w w' := Stp.same h.b.low h.b.bel (k.mono (fun b hb e => by rw [e]; exact h.b.oc)) (by decide)
  exact ⟨h.b.stp s (h.b.sen s (by decide)) (by decide) (s.get h.b.dog h.b.od (by decide)) hm, s.get h.box h.b.ok (by decide), s.get h.rbox h.org (by decide), s.sl h.rrow (by decide), s.sl h.lrow (by decide), h.ll,
    fun j l e h1 h2 => s.locs h h1 h2 (by omega) (by omega), s.get h.tot h.ot (by decide), h.org, h.ot⟩
theorem KpIn.tot' (h : KpIn B sa w0 kb c txt x M o w) {sn' : Int} {st' : St} (k : Keep (· = x.tb) w w') (ht : TotalAt w' x.tb M.C.delay sn' st') : KpIn B sa w0 kb c txt x { M with sn := sn', st := st' } o w' := by
  have s : Stp o o (fun n => n = 7) w0 w w' := Stp.same h.b.low h.b.bel (k.mono (fun b hb e => by rw [e]; exact h.ot)) (by decide)
  exact ⟨h.b.keep s (h.b.sen s (by decide)) (by decide) (by decide) (by decide) (by decide), s.get h.box h.b.ok (by decide), s.get h.rbox h.org (by decide), s.sl h.rrow (by decide), s.sl h.lrow (by decide), h.ll,
    fun j l e h1 h2 => s.locs h h1 h2 (by omega) (by omega), ht, h.org, h.ot⟩

theorem SlOf.reR {R R' : Nat → Prop} {w : World} {v : Value} {sz n : Nat} {cs : List Value} (h : SlOf R w v sz cs n) (hd : ∀ b, v.ownBlock = some b → 0 < cs.length → R' b) : SlOf R' w v sz cs n := by
  obtain ⟨hl, ao, cap, hv, h1, h2, h3, h4⟩ := h
  refine ⟨hl, ao, cap, hv, h1, h2, h3, fun hp => ?_⟩
  obtain ⟨b, off, ha, hR, hb, hc⟩ := h4 hp
  exact ⟨b, off, ha, hd b (by rw [hv, ha]; rfl) hp, hb, hc⟩
theorem SlOf.inR {R : Nat → Prop} {w : World} {v : Value} {sz n : Nat} {cs : List Value} (h : SlOf R w v sz cs n) {b : Nat} (hb : v.ownBlock = some b) (hp : 0 < cs.length) : R b ∧ b < w.heap.size := by
  obtain ⟨hl, ao, cap, hv, h1, h2, h3, h4⟩ := h
  obtain ⟨b', off, ha, hR, hl, _⟩ := h4 hp
  rw [hv, ha] at hb
  obtain rfl := Option.some.inj hb
  exact ⟨hR, hl⟩
theorem SlOf.many {R : Nat → Prop} {w : World} {v : Value} {sz n : Nat} {cs : List Value} (h : SlOf R w v sz cs n) {S : Nat → Prop} {w' : World} {sz' n' : Nat} {cs' : List Value} (h' : SlOf S w' v sz' cs' n') : n = n' := by
  obtain ⟨_, ao, cap, hv, _⟩ := h
  obtain ⟨_, ao', cap', hv', _⟩ := h'
  rw [hv] at hv'
  injection hv'

/-- A log's contract asks this. -/
theorem KpIn.rst (h : KpIn B sa w0 kb c txt x M o w) : RSt B sa w0 x.rg c x.rb x.cap M.m M.dead M.L x.lv w := by
  have h3 := h.b.oc
  have h4 := h.b.orb
  have h5 := h.org
  refine ⟨⟨h.rbox, h.rrow.mono (fun b hb => ?_)⟩, h.b.mem, h.b.se, h.b.bel, (h.b.low c (by omega)).1, (h.b.low x.rb (by omega)).1, (h.b.low x.rg (by omega)).1, h.b.bl, fun e => ?_, fun e => ?_⟩
  · have hb' : o b = 6 := hb
    refine ⟨fun e => ?_, fun e => ?_, fun e => ?_⟩
    · rw [e] at hb'; omega
    · rw [e] at hb'; omega
    · rw [e] at hb'; omega
  · rw [e] at h5; omega
  · rw [e] at h5; omega
/-- How a call's memory may have turned. -/
structure Fr (o o' : Nat → Nat) (w w' : World) : Prop where
  kp : Keep (fun b => o b ≠ 0) w w'
  agree : ∀ b, b < w.heap.size → o' b = o b
theorem Fr.refl (o : Nat → Nat) (w : World) : Fr o o w w := ⟨Keep.refl _ _, fun _ _ => rfl⟩
theorem Fr.trans {o1 o2 o3 : Nat → Nat} {w1 w2 w3 : World} (h : Fr o1 o2 w1 w2) (k : Fr o2 o3 w2 w3) : Fr o1 o3 w1 w3 :=
  ⟨h.kp.step k.kp (fun b hb hl => by rw [← h.agree b hl]; exact hb), fun b hb => by rw [k.agree b (Nat.lt_of_lt_of_le hb h.kp.size), h.agree b hb]⟩
theorem Fr.below (o : Nat → Nat) {w w' : World} (b : Below w.heap.size w w') : Fr o o w w' := ⟨(below_keep b).mono (fun _ _ h => h.elim), fun _ _ => rfl⟩
theorem Stp.fr (s : Stp o o' N w0 w w') (h0 : ¬ N 0) : Fr o o' w w' := ⟨s.kp.mono (fun b _ hb e => by rw [e] at hb; exact h0 hb), s.agree⟩
theorem Fr.of {T : Nat → Prop} (k : Keep T w w') (hT : ∀ b, T b → o b ≠ 0) : Fr o o w w' := ⟨k.mono (fun b _ hb => hT b hb), fun _ _ => rfl⟩

theorem KpIn.app (h : KpIn B sa w0 kb c txt x M o w) {m' : CM} {dead' : Bool} {L' : List RecV} {lv' : Value} (h' : RSt B sa w0 x.rg c x.rb x.cap m' dead' L' lv' w')
    (k : Keep (fun b => b = c ∨ b = x.rb ∨ b = x.rg ∨ w.heap.size ≤ b) w w') (hv : lv' = x.lv ∨ NewV w w' lv') :
    ∃ o', KpIn B sa w0 kb c txt { x with lv := lv' } { M with m := m', dead := dead', L := L' } o' w' ∧ Fr o o' w w' := by
  have s : Stp o (ext o w.heap.size w'.heap.size 6) (fun n => n = 3 ∨ n = 4 ∨ n = 5) w0 w w' := Stp.new h.b.low h.b.bel (k.mono (fun b hb e => by
    rcases e with e | e | e | e
    · rw [e]; exact .inl h.b.oc
    · rw [e]; exact .inr (.inl h.b.orb)
    · rw [e]; exact .inr (.inr h.org)
    · omega)) (by decide)
  refine ⟨_, ⟨(h.b.stp s (h.b.sen s (by decide)) (by decide) (s.get h.b.dog h.b.od (by decide)) h'.mem).re _ _ _ _ _, s.get h.box h.b.ok (by decide), h'.ring.box, h'.ring.row.reR (fun b hb hp => ?_), s.sl h.lrow (by decide), h.ll,
    fun j l e h1 h2 => s.locs h h1 h2 (by omega) (by omega), s.get h.tot h.ot (by decide), s.eq h.b.low h.org (by decide), s.eq h.b.low h.ot (by decide)⟩, s.fr (by decide)⟩
  rcases hv with hv | hv
  · have hm := h.rrow.many (hv ▸ h'.ring.row)
    have hp' : 0 < (M.L.flatMap recCells).length := by rw [flat_recs] at hp ⊢; omega
    rw [hv] at hb
    exact s.eq h.b.low (h.rrow.inR hb hp').1 (by decide)
  · have := hv b hb
    exact ext_new this.1 this.2

theorem kpGet_set {M : KpM} {j i : Nat} {a : Option LocM} (hj : j < M.A.length) : kpGet (kpSet M j a) i = if i = j then a else kpGet M i := by
  unfold kpGet kpSet
  rw [List.getD_eq_getElem?_getD, List.getD_eq_getElem?_getD, List.getElem?_set]
  by_cases e : i = j
  · subst e; rw [if_pos rfl, if_pos hj, if_pos rfl]; rfl
  · rw [if_neg (fun h => e h.symm), if_neg e]
theorem getElem?_lt' {α : Type} {l : List α} {j : Nat} {y : α} (h : l[j]? = some y) : j < l.length := (List.getElem?_eq_some_iff.1 h).1
theorem KpIn.ne (h : KpIn B sa w0 kb c txt x M o w) {j i l l' : Nat} {e e' : EntX} (h1 : x.ls[j]? = some l) (h2 : x.X[j]? = some e) (h3 : x.ls[i]? = some l') (h4 : x.X[i]? = some e') (hl : l = l') : i = j := by
  have := (h.loc j l e h1 h2).1
  have := (h.loc i l' e' h3 h4).1
  subst hl
  omega
theorem KpIn.locset (h : KpIn B sa w0 kb c txt x M o w) {j l : Nat} {e : EntX} (h1 : x.ls[j]? = some l) (h2 : x.X[j]? = some e) {a : Option LocM} (s : Stp o o' N w0 w w') (n0 : ¬ N 0) (hN : ∀ n, N n → n = 10 + 2 * j ∨ n = 11 + 2 * j)
    (hl : ∃ p t, (∀ b, p ≤ b → b < t → o' b = 11 + 2 * j) ∧ LocIs l p t e w' a) : KpIn B sa w0 kb c txt x (kpSet M j a) o' w' := by
  have hf : ∀ n, n < 10 → ¬ N n := fun n hn hh => by have := hN n hh; omega
  refine ⟨h.b.keep s (h.b.sen s n0) (hf _ (by decide)) (hf _ (by decide)) (hf _ (by decide)) (hf _ (by decide)), s.get h.box h.b.ok (hf _ (by decide)), s.get h.rbox h.org (hf _ (by decide)), s.sl h.rrow (hf _ (by decide)), s.sl h.lrow (hf _ (by decide)), ?_,
    fun i l' e' h3 h4 => ?_, s.get h.tot h.ot (hf _ (by decide)), s.eq h.b.low h.org (by decide), s.eq h.b.low h.ot (by decide)⟩
  · refine ⟨h.ll.1, ?_⟩
    show (M.A.set j a).length = _
    rw [List.length_set]; exact h.ll.2
  · have hj : j < M.A.length := by have := getElem?_lt' h2; have := h.ll; omega
    rw [kpGet_set hj]
    by_cases e1 : i = j
    · subst e1
      rw [h1] at h3; rw [h2] at h4
      obtain rfl := Option.some.inj h3
      obtain rfl := Option.some.inj h4
      rw [if_pos rfl]
      exact ⟨s.eq h.b.low (h.loc i l e h1 h2).1 (by omega), hl⟩
    · rw [if_neg e1]
      exact s.locs h h3 h4 (fun hh => by have := hN _ hh; omega) (fun hh => by have := hN _ hh; omega)
theorem KpIn.watch (h : KpIn B sa w0 kb c txt x M o w) {j l p t : Nat} {e : EntX} (h1 : x.ls[j]? = some l) (h2 : x.X[j]? = some e) (hw : ∀ b, p ≤ b → b < t → o b = 11 + 2 * j) {a : LocM}
    (k : Keep (fun b => p ≤ b ∧ b < t) w w') (hl : LocAt l p t e.E e.p e.g e.e e.f e.l a w') : KpIn B sa w0 kb c txt x (kpSet M j (some a)) o w' ∧ Fr o o w w' := by
  have s : Stp o o (fun n => n = 11 + 2 * j) w0 w w' := Stp.same h.b.low h.b.bel (k.mono (fun b hb e => hw b e.1 e.2)) (by omega)
  exact ⟨h.locset h1 h2 s (by omega) (fun n hn => .inr hn) ⟨p, t, hw, hl⟩, s.fr (by omega)⟩
theorem KpIn.begin (h : KpIn B sa w0 kb c txt x M o w) {j l t : Nat} {e : EntX} (h1 : x.ls[j]? = some l) (h2 : x.X[j]? = some e) {a : LocM}
    (k : Keep (· = l) w w') (hl : LocAt l w.heap.size t e.E e.p e.g e.e e.f e.l a w') : ∃ o', KpIn B sa w0 kb c txt x (kpSet M j (some a)) o' w' ∧ Fr o o' w w' := by
  have s : Stp o (ext o w.heap.size w'.heap.size (11 + 2 * j)) (fun n => n = 10 + 2 * j) w0 w w' := Stp.new h.b.low h.b.bel (k.mono (fun b hb e => by rw [e]; exact (h.loc j l _ h1 h2).1)) (by omega)
  exact ⟨_, h.locset h1 h2 s (by omega) (fun n hn => .inl hn) ⟨w.heap.size, t, fun b h3 h4 => ext_new h3 (Nat.lt_of_lt_of_le h4 hl.le), hl⟩, s.fr (by omega)⟩
end
end Go.Proofs.YtakjbjokekbmbaaGreatDoor

/- Package keeper: on, entity, Begin, Stop, Report. -/
namespace Go.Proofs.YtakjbjokekbmbaaGreatDoor
open Go.RowKit
set_option linter.unusedVariables false

section
variable {B : Nat} {sa : Nat → Addr} {w0 : World} {kb c : Nat} {txt : ByteArray} {x : KpX} {M : KpM} {o : Nat → Nat} {w : World}
set_option maxHeartbeats 1000000 in
theorem kpOn_any (h : KpIn B sa w0 kb c txt x M o w) : Calls Tryz.prog 39 #[.pointer (some ⟨kb, 0, none⟩)] w fun e w' => e = .returned (errv sa (kpOn M)) ∧ w = w' := by
  obtain ⟨k0, k1, k2, k3, k4, k5, k6, k7, k8, k9, k10, kf⟩ := kp_cells h.box
  obtain ⟨_, _, _, _, _, _, _, s7, _, _, s10⟩ := h.b.se.all
  have HP := Lib.hid (cellsPower_any c x.rb _ x.cap M.m w h.b.mem)
  have HR := Lib.hid (dogReset_any x.d M.D w h.b.dog)
  clear h k1 k2 k3 k4 k5 k7 k8 k9 k10 kf
  unfold kpOn
  cases hx : M.m.off
  · rw [hx] at HP
    cases hr : M.D.reset
    · rw [hr] at HR
      go_enter Tryz.func39, Tryz.ntmps39
      go_wp2_with fail
      refine HP.out.mono ?_
      rintro e w1 ⟨rfl, rfl⟩
      go_wp2_with fail
      refine HR.out.mono ?_
      rintro e w1 ⟨rfl, rfl⟩
      go_wp2_with fail
      go_ret
      exact ⟨rfl, rfl⟩
    · rw [hr] at HR
      go_enter Tryz.func39, Tryz.ntmps39
      go_wp2_with fail
      refine HP.out.mono ?_
      rintro e w1 ⟨rfl, rfl⟩
      go_wp2_with fail
      refine HR.out.mono ?_
      rintro e w1 ⟨rfl, rfl⟩
      go_wp2_with fail
      go_ret
      exact ⟨rfl, rfl⟩
  · rw [hx] at HP
    go_enter Tryz.func39, Tryz.ntmps39
    go_wp2_with fail
    refine HP.out.mono ?_
    rintro e w1 ⟨rfl, rfl⟩
    go_wp2_with fail
    go_ret
    exact ⟨rfl, rfl⟩

/-- Where the locals' row lies. -/
theorem KpIn.row (h : KpIn B sa w0 kb c txt x M o w) : ∃ ao cap, x.vl = .slice ao M.A.length cap ∧ M.A.length ≤ cap ∧ cap ≤ maxLen ∧
    ∀ j, j < M.A.length → ∃ b off l e, ao = some ⟨b, off, none⟩ ∧ w.cell? ⟨b, off + j, none⟩ = some (.pointer (some ⟨l, 0, none⟩)) ∧ x.ls[j]? = some l ∧ x.X[j]? = some e ∧ kpEnt M j = e.E := by
  have hl := h.len
  have hx := h.ll
  have he := h.b.xe
  obtain ⟨h0, ao, cap, hv, h1, h2, h3, h4⟩ := h.lrow
  refine ⟨ao, cap, by rw [hv, hl.1], by omega, h2, fun j hj => ?_⟩
  have hp : (ptrCs x.ls).length = x.ls.length := by simp [ptrCs]
  obtain ⟨b, off, ha, _, _, hc⟩ := h4 (by omega)
  have g1 : x.ls[j]? = some x.ls[j] := List.getElem?_eq_getElem (by omega)
  have g2 : x.X[j]? = some (x.X[j]'(by omega)) := List.getElem?_eq_getElem (by omega)
  refine ⟨b, off, x.ls[j], x.X[j]'(by omega), ha, hc j _ ?_, g1, g2, ?_⟩
  · unfold ptrCs
    rw [List.getElem?_map, g1]; rfl
  · unfold kpEnt
    rw [he, List.getD_eq_getElem?_getD, List.getElem?_map, g2]; rfl

set_option maxHeartbeats 1000000 in
theorem kpEntity_bad (h : KpIn B sa w0 kb c txt x M o w) (i : Int) (hi : kpAsk M i ≠ 0) :
    Calls Tryz.prog 32 #[.pointer (some ⟨kb, 0, none⟩), .int .i64 i] w fun e w' => e = .returned (.tuple #[.pointer none, errv sa (kpAsk M i)]) ∧ Below w.heap.size w w' := by
  obtain ⟨k0, k1, k2, k3, k4, k5, k6, k7, k8, k9, k10, kf⟩ := kp_cells h.box
  obtain ⟨_, _, _, _, s4, _⟩ := h.b.se.all
  obtain ⟨ao, cap, hv, hc1, hc2, _⟩ := h.row
  rw [hv] at k8
  have HO := Lib.hid (kpOn_any h)
  clear h hv k0 k1 k2 k3 k4 k5 k6 k7 k9 k10 kf
  unfold kpAsk at hi ⊢
  by_cases h0 : kpOn M = 0
  · rw [h0] at HO
    rw [h0, if_neg (by decide)] at hi ⊢
    by_cases hb : i < 0 ∨ (M.A.length : Int) ≤ i
    · rw [if_pos hb]
      clear hi h0
      by_cases hn : i < 0
      · clear hb
        go_enter Tryz.func32, Tryz.ntmps32
        go_wp2_with fail
        refine HO.out.mono ?_
        rintro e w1 ⟨rfl, rfl⟩
        rw [errv_zero]
        go_wp2_with fail
        go_quiet (fail)
        go_wp2_with fail
        go_ret2
        exact ⟨rfl, below_drewN' _ (Below.refl _ _)⟩
      · have hb' : (M.A.length : Int) ≤ i := by omega
        clear hb
        go_enter Tryz.func32, Tryz.ntmps32
        go_wp2_with fail
        refine HO.out.mono ?_
        rintro e w1 ⟨rfl, rfl⟩
        rw [errv_zero]
        go_wp2_with fail
        go_quiet (fail)
        go_wp2_with fail
        go_ret2
        exact ⟨rfl, below_drewN' _ (Below.refl _ _)⟩
    · rw [if_neg hb] at hi
      exact absurd rfl hi
  · rw [if_pos h0]
    obtain ⟨q, hq⟩ : ∃ q, kpOn M = q + 1 := ⟨kpOn M - 1, by omega⟩
    rw [hq] at HO ⊢
    clear hi h0
    go_enter Tryz.func32, Tryz.ntmps32
    go_wp2_with fail
    refine HO.out.mono ?_
    rintro e w1 ⟨rfl, rfl⟩
    rw [errv_succ]
    go_wp2_with fail
    go_ret2
    exact ⟨rfl, Below.refl _ _⟩

set_option maxHeartbeats 1000000 in
theorem kpEntity_ok (h : KpIn B sa w0 kb c txt x M o w) (i : Int) (hi : ¬ kpAsk M i ≠ 0) :
    Calls Tryz.prog 32 #[.pointer (some ⟨kb, 0, none⟩), .int .i64 i] w fun e w' => ∃ l y, e = .returned (.tuple #[.pointer (some ⟨l, 0, none⟩), .nilIface]) ∧ x.ls[i.toNat]? = some l ∧ x.X[i.toNat]? = some y ∧ kpEnt M i.toNat = y.E ∧ w = w' := by
  obtain ⟨k0, k1, k2, k3, k4, k5, k6, k7, k8, k9, k10, kf⟩ := kp_cells h.box
  obtain ⟨ao, cap, hv, hc1, hc2, hr⟩ := h.row
  rw [hv] at k8
  have HO := Lib.hid (kpOn_any h)
  unfold kpAsk at hi
  by_cases h0 : kpOn M = 0
  · rw [h0] at HO
    rw [h0, if_neg (by decide)] at hi
    by_cases hb : i < 0 ∨ (M.A.length : Int) ≤ i
    · rw [if_pos hb] at hi
      exact absurd (by decide) hi
    · obtain ⟨n, rfl⟩ := Int.eq_ofNat_of_zero_le (show 0 ≤ i by omega)
      have hn : n < M.A.length := by omega
      obtain ⟨b, off, l, y, rfl, q1, q2, q3, q4⟩ := hr n hn
      have Q := Lib.hid (show x.ls[((n : Int)).toNat]? = some l ∧ x.X[((n : Int)).toNat]? = some y ∧ kpEnt M ((n : Int)).toNat = y.E by rw [Int.toNat_natCast]; exact ⟨q2, q3, q4⟩)
      have hn2 : (n : Int) < M.A.length := by omega
      clear h hv hb hi h0 q2 q3 q4 hr k0 k1 k2 k3 k4 k5 k6 k7 k9 k10 kf
      go_enter Tryz.func32, Tryz.ntmps32
      go_wp2_with fail
      refine HO.out.mono ?_
      rintro e w1 ⟨rfl, rfl⟩
      rw [errv_zero]
      go_wp2_with fail
      go_ret2
      exact ⟨l, y, rfl, Q.out.1, Q.out.2.1, Q.out.2.2, rfl⟩
  · rw [if_pos h0] at hi
    exact absurd h0 hi
end
end Go.Proofs.YtakjbjokekbmbaaGreatDoor

/- Package keeper: Begin, Stop, Report, and what it tells. -/
namespace Go.Proofs.YtakjbjokekbmbaaGreatDoor
open Go.RowKit
set_option linter.unusedVariables false

section
variable {B : Nat} {sa : Nat → Addr} {w0 : World} {kb c : Nat} {txt : ByteArray} {x : KpX} {M : KpM} {o : Nat → Nat} {w : World} {T : Nat}
/-- What a call leaves: an error by its number, the watch as its model, memory beside it as it was. -/
def KpPost (B : Nat) (sa : Nat → Addr) (w0 : World) (kb c : Nat) (txt : ByteArray) (r : Nat × KpM) (o : Nat → Nat) (w : World) (e : Ending) (w' : World) : Prop :=
  e = .returned (errv sa r.1) ∧ ∃ x' o', KpIn B sa w0 kb c txt x' r.2 o' w' ∧ Fr o o' w w'
theorem KpIn.light (h : KpIn B sa w0 kb c txt x M o w) (hO : KpOk M T) {j : Nat} {y : EntX} (hy : x.X[j]? = some y) : Light y.E ∧ EntSl (fun b => o b = 8) w y.E y.p y.g y.e y.f y.l := by
  have hm := List.mem_of_getElem? hy
  exact ⟨hO.small _ (by rw [h.b.xe]; exact List.mem_map_of_mem hm), h.b.ents.each y hm⟩
theorem KpIn.in8 (h : KpIn B sa w0 kb c txt x M o w) : ∀ b, (fun b => o b = 8) b → b < w.heap.size := fun b hb => (h.b.low b (by have : o b = 8 := hb; omega)).2

set_option maxHeartbeats 1000000 in
theorem kpBegin_any (h : KpIn B sa w0 kb c txt x M o w) (hO : KpOk M T) (i : Int) :
    Calls Tryz.prog 11 #[.pointer (some ⟨kb, 0, none⟩), .int .i64 i] w (KpPost B sa w0 kb c txt (kpBegin M i) o w) := by
  unfold KpPost
  have H := Lib.hid h
  have HOk := Lib.hid hO
  by_cases hi : kpAsk M i ≠ 0
  · have HE := Lib.hid (kpEntity_bad h i hi)
    unfold kpBegin
    rw [if_pos hi]
    obtain ⟨q, hq⟩ : ∃ q, kpAsk M i = q + 1 := ⟨kpAsk M i - 1, by omega⟩
    rw [hq] at HE ⊢
    clear h hO hi hq
    go_enter Tryz.func11, Tryz.ntmps11
    go_wp2_with fail
    refine HE.out.mono ?_
    rintro e w1 ⟨rfl, b1⟩
    rw [errv_succ]
    go_wp2_with fail
    go_ret
    exact ⟨rfl, x, o, H.out.below b1, Fr.below o b1⟩
  · have HE := Lib.hid (kpEntity_ok h i hi)
    unfold kpBegin
    rw [if_neg hi]
    have s9 := h.b.se.gl 9 (by decide)
    clear h hO hi
    cases ha : kpGet M i.toNat with
    | none =>
      have HA := Lib.hid ha
      clear ha
      go_enter Tryz.func11, Tryz.ntmps11
      go_wp2_with fail
      refine HE.out.mono ?_
      rintro e w1 ⟨l, y, rfl, q1, q2, q3, rfl⟩
      obtain ⟨p1, a, t, p2, p3⟩ := H.out.loc _ l y q1 q2
      rw [HA.out] at p3
      obtain ⟨hL, hS⟩ := H.out.light HOk.out q2
      have HB := Lib.hid (localBegin_any _ l y.E y.p y.g y.e y.f y.l w p3 hS H.out.in8 hL)
      have Q := Lib.hid (And.intro q1 (And.intro q2 q3))
      clear p1 p2 p3 hL hS q1 q2 q3
      go_wp2_with fail
      refine HB.out.mono ?_
      rintro e w2 ⟨rfl, t', r1, r2⟩
      obtain ⟨o', z1, z2⟩ := H.out.begin Q.out.1 Q.out.2.1 r2 r1
      rw [← Q.out.2.2] at z1
      have Z := Lib.hid (And.intro z1 z2)
      clear r1 r2 z1 z2
      go_wp2_with fail
      go_ret
      exact ⟨rfl, x, o', Z.out.1, Z.out.2⟩
    | some m =>
      have HA := Lib.hid ha
      clear ha
      go_enter Tryz.func11, Tryz.ntmps11
      go_wp2_with fail
      refine HE.out.mono ?_
      rintro e w1 ⟨l, y, rfl, q1, q2, q3, rfl⟩
      obtain ⟨p1, a, t, p2, p3⟩ := H.out.loc _ l y q1 q2
      rw [HA.out] at p3
      have HB := Lib.hid (localBegin_held l a t y.E y.p y.g y.e y.f y.l _ m w p3 s9)
      clear p1 p2 p3 q1 q2 q3
      go_wp2_with fail
      refine HB.out.mono ?_
      rintro e w2 ⟨rfl, rfl⟩
      go_wp2_with fail
      go_ret
      exact ⟨rfl, x, o, H.out, Fr.refl _ _⟩

end
end Go.Proofs.YtakjbjokekbmbaaGreatDoor

/- append onto a row of one's own that does not begin at its block's first cell. -/
namespace Go.Proofs.YtakjbjokekbmbaaGreatDoor
open Go.RowKit
set_option linter.unusedVariables false

theorem run_append_room_off {P : Program} (w : World) (t ty e : TypeId) (i : TypeInfo) (ht : P.underlying t = some (.slice e)) (hi : P.info? e = some i)
    (g off sLen sCap : Nat) (cur : Array Value) (hg : w.heap[g]? = some (.cells cur e (0, 0)))
    (a : Addr) (m c : Nat) (news : List Value) (hl : news.length = m * i.size) (hnews : ∀ j u, news[j]? = some u → w.cell? (a.add j) = some u) (h1 : ∀ u ∈ news, u.oneCell' = true)
    (hroom : sLen + m ≤ sCap) (hfit : off + sLen * i.size + news.length ≤ cur.size) :
    (Builtin.append_ #[t, t] ty #[.slice (some ⟨g, off, none⟩) sLen sCap, .slice (some a) m c]).run P w =
      .ok (.slice (some ⟨g, off, none⟩) (sLen + m) sCap) (w.setRow g (cur.toList.take (off + sLen * i.size) ++ news ++ cur.toList.drop (off + sLen * i.size + news.length)).toArray) := by
  have hf := run_firstCells_some (P := P) w i.size m a m c news hl hnews
  have hst := run_storeCells_at P g (off + sLen * i.size) e news 0 cur w hg (by simpa using hfit) h1
  simp only [Nat.add_zero] at hst
  simp [Builtin.append_, run_underlying ht, sizeOf, typeInfo, hi, Builtin.lenOf, hroom, hf, addr_add, hst]

/-- A row of one's own, wherever it begins in its block. -/
def OwnAt (w : World) (base : Nat) (e : TypeId) (size : Nat) (v : Value) (n : Nat) (xs : List Value) : Prop :=
  xs.length = n * size ∧
  ((v = .slice none 0 0 ∧ n = 0) ∨
   ∃ g off cap cur, v = .slice (some ⟨g, off, none⟩) n cap ∧ base ≤ g ∧ w.heap[g]? = some (.cells cur e (0, 0)) ∧ n ≤ cap ∧ cap ≤ maxLen ∧ off + cap * size ≤ cur.size ∧ (cur.toList.drop off).take (n * size) = xs)
section
variable {w w' : World} {base : Nat} {e : TypeId} {size : Nat} {v : Value} {n : Nat} {xs : List Value}
theorem OwnAt.of_owns (h : w.ownsRow base e size v n xs) : OwnAt w base e size v n xs := by
  refine ⟨h.1, ?_⟩
  rcases h.2 with hn | ⟨g, cap, cur, h1, h2, h3, h4, h5, h6, h7⟩
  · exact .inl hn
  · exact .inr ⟨g, 0, cap, cur, h1, h2, h3, h4, h5, by omega, by simpa using h7⟩
theorem OwnAt.lt (h : OwnAt w base e size v n xs) : ∀ k, v.ownBlock = some k → base ≤ k ∧ k < w.heap.size := by
  intro k hk
  rcases h.2 with ⟨rfl, _⟩ | ⟨g, off, cap, cur, rfl, h2, h3, _⟩
  · cases hk
  · obtain rfl := Option.some.inj hk
    exact ⟨h2, lt_of_get h3⟩
theorem OwnAt.keep {S : Nat → Prop} (h : OwnAt w base e size v n xs) (k : Keep S w w') (hS : ∀ b, v.ownBlock = some b → ¬ S b) : OwnAt w' base e size v n xs := by
  refine ⟨h.1, ?_⟩
  rcases h.2 with hn | ⟨g, off, cap, cur, rfl, h2, h3, rest⟩
  · exact .inl hn
  · exact .inr ⟨g, off, cap, cur, rfl, h2, k.get h3 (hS g rfl), rest⟩
theorem OwnAt.later (h : OwnAt w base e size v n xs) (b : Below w.heap.size w w') : OwnAt w' base e size v n xs :=
  h.keep (Keep.of_below b) (fun b hb => by have := (h.lt b hb).2; omega)
theorem OwnAt.slOf (h : OwnAt w base e size v n xs) : SlOf (fun b => base ≤ b ∧ v.ownBlock = some b) w v size xs n := by
  refine ⟨h.1, ?_⟩
  rcases h.2 with ⟨rfl, rfl⟩ | ⟨g, off, cap, cur, rfl, h2, h3, h4, h5, h6, h7⟩
  · exact ⟨none, 0, rfl, Nat.le_refl _, by simp [maxLen], fun _ => rfl, fun hp => by have := h.1; omega⟩
  · refine ⟨_, cap, rfl, h4, h5, (fun h => by cases h), fun hp => ⟨g, off, rfl, ⟨h2, rfl⟩, lt_of_get h3, fun k u hu => ?_⟩⟩
    have hk : k < xs.length := (List.getElem?_eq_some_iff.1 hu).1
    rw [← h7, List.getElem?_take_of_lt (by rw [h.1] at hk; exact hk), List.getElem?_drop] at hu
    simp only [World.cell?, h3]
    simpa using hu
theorem OwnAt.val (h : OwnAt w base e size v n xs) : ∃ ao cap, v = .slice ao n cap := by
  rcases h.2 with ⟨rfl, rfl⟩ | ⟨g, off, cap, cur, rfl, _⟩
  · exact ⟨_, _, rfl⟩
  · exact ⟨_, _, rfl⟩
theorem OwnAt.cells {g off cap : Nat} (h : OwnAt w base e size (.slice (some ⟨g, off, none⟩) n cap) n xs) : ∀ j u, xs[j]? = some u → w.cell? ((⟨g, off, none⟩ : Addr).add j) = some u := by
  intro j u hu
  rcases h.2 with ⟨h, _⟩ | ⟨g', off', cap', cur, hv, h2, h3, h4, h5, h6, h7⟩
  · cases h
  · obtain ⟨e1, _, _⟩ := Value.slice.inj hv
    obtain ⟨rfl, rfl, _⟩ := Addr.mk.inj (Option.some.inj e1)
    have hk : j < xs.length := (List.getElem?_eq_some_iff.1 hu).1
    rw [← h7, List.getElem?_take_of_lt (by rw [h.1] at hk; exact hk), List.getElem?_drop] at hu
    rw [addr_add]
    simp only [World.cell?, h3]
    simpa using hu
end

theorem run_append_off {P : Program} (w : World) (base : Nat) (t ty e : TypeId) (i : TypeInfo) (z : Value) (size bytes : Nat) (ht : P.underlying t = some (.slice e)) (hi : P.info? e = some i) (hz : i.zero = some z)
    (hsize : i.size = size) (hby : i.bytes = bytes) (hzs : z.cells.size = size) (hsz : 0 < size)
    (v : Value) (n : Nat) (xs : List Value) (hown : OwnAt w base e size v n xs)
    (a : Addr) (m c : Nat) (news : List Value) (hl : news.length = m * size) (hnews : ∀ j u, news[j]? = some u → w.cell? (a.add j) = some u) (h1 : ∀ u ∈ news, u.oneCell' = true)
    (h63 : n + m ≤ maxLen) (hbytes : (n + m) * bytes ≤ 140737488355328) (hbase : base ≤ w.heap.size) :
    ∃ v' w', (Builtin.append_ #[t, t] ty #[v, .slice (some a) m c]).run P w = .ok v' w' ∧ OwnAt w' base e size v' (n + m) (xs ++ news) ∧ w.grownBy w' v.ownBlock ∧ (v'.ownBlock = v.ownBlock ∨ ∀ b, v'.ownBlock = some b → w.heap.size ≤ b) := by
  rcases hown.2 with hv | ⟨g, off, cap, cur, rfl, hbg, hg, hnc, hcm, hcs, htake⟩
  · obtain ⟨rfl, rfl⟩ := hv
    have ho : w.ownsRow base e size (.slice none 0 0) 0 xs := ⟨hown.1, .inl ⟨rfl, rfl⟩⟩
    obtain ⟨v', w', hr, h2, h3, _⟩ := run_append_own (P := P) w base t ty e i z size bytes ht hi hz hsize hby hzs hsz _ 0 xs ho a m c news hl hnews h1 h63 hbytes hbase
    refine ⟨v', w', hr, .of_owns h2, h3, .inr (fun b hb => ?_)⟩
    have hx : xs = [] := List.eq_nil_of_length_eq_zero (by simpa using hown.1)
    subst hx
    have ho2 : w.ownsRow w.heap.size e size (.slice none 0 0) 0 [] := World.ownsRow_nil _ _ _ _
    obtain ⟨v2, w2, hr2, h22, _⟩ := run_append_own (P := P) w w.heap.size t ty e i z size bytes ht hi hz hsize hby hzs hsz _ 0 [] ho2 a m c news hl hnews h1 h63 hbytes (Nat.le_refl _)
    rw [hr] at hr2
    injection hr2 with e1 e2
    subst e1
    exact (h22.lt b hb).1
  · subst hsize
    subst hby
    have hlen : (xs ++ news).length = (n + m) * i.size := by rw [List.length_append, hown.1, hl, Nat.add_mul]
    by_cases hroom : n + m ≤ cap
    · have hmul : (n + m) * i.size ≤ cap * i.size := Nat.mul_le_mul_right _ hroom
      have hfit : off + n * i.size + news.length ≤ cur.size := by rw [hl]; rw [Nat.add_mul] at hmul; omega
      have hr := run_append_room_off (P := P) w t ty e i ht hi g off n cap cur hg a m c news hl hnews h1 hroom hfit
      refine ⟨_, _, hr, ⟨hlen, .inr ⟨g, off, cap, _, rfl, hbg, setRow_heap w g cur _ e _ hg, hroom, hcm, ?_, ?_⟩⟩, ⟨rfl, rfl, rfl, by simp, fun k _ hk => setRow_other w g k _ (fun e => hk (by simp [Value.ownBlock, e]))⟩, .inl rfl⟩
      · simp only [List.size_toArray, List.length_append, List.length_take, List.length_drop, Array.length_toList]
        omega
      · have ho : off ≤ cur.toList.length := by rw [Array.length_toList]; omega
        have e1 : cur.toList.take (off + n * i.size) = cur.toList.take off ++ xs := by rw [← htake, ← List.take_add]
        rw [e1, List.toList_toArray]
        simp only [List.append_assoc]
        rw [List.drop_append_of_le_length (by rw [List.length_take]; omega), List.drop_eq_nil_of_le (by rw [List.length_take]; omega), List.nil_append, ← List.append_assoc, ← hlen]
        exact List.take_left
    · have hsmall : n + m ≤ 9223372036854775807 := by simp only [maxLen] at h63; omega
      have hr := run_append_grow (P := P) w t ty e i z ht hi hz ⟨g, off, none⟩ n cap xs hown.1 hown.cells a m c news hl hnews (by omega) (by omega) (growslice_fits (by omega) hbytes)
      have hge := grownCap_ge w (n + m) cap e
      have hcm : grownCap w (n + m) cap e ≤ maxLen := grownCap_le_maxLen w (n + m) cap e h63
      refine ⟨_, _, hr, .of_owns ⟨hlen, .inr ⟨w.heap.size, _, _, rfl, hbase, heap_alloc_new w.drew _, hge, hcm, ?_, ?_⟩⟩, ⟨rfl, rfl, rfl, by simp, fun k hk _ => Below.heap_alloc _ _ _ hk⟩, .inr (fun b hb => by obtain rfl := Option.some.inj hb; exact Nat.le_refl _)⟩
      · simp only [Array.size_append, List.size_toArray, size_zeroCells, hzs, hown.1, hl, ← Nat.add_mul]
        congr 1
        omega
      · simp only [Array.toList_append, List.append_assoc]
        rw [← List.append_assoc, ← hlen]
        exact List.take_left

theorem wpList_append_off {P : Program} {w : World} {ops : Array Oper} {rest : List Oper} {o : Oper} {a : Act} {Q : Exit → Act → World → Prop} (hgd : o.guard = none) (s x : Operand) (t : TypeId)
    (ho : o.op = .call { callee := .builtin .append, args := #[s, x], argTypes := #[t, t] })
    (base : Nat) (e : TypeId) (i : TypeInfo) (z : Value) (size bytes : Nat) (ht : P.underlying t = some (.slice e)) (hi : P.info? e = some i) (hz : i.zero = some z)
    (hsize : i.size = size) (hby : i.bytes = bytes) (hzs : z.cells.size = size) (hsz : 0 < size)
    (v : Value) (n : Nat) (xs : List Value) (hs : a.eval s = v) (hown : OwnAt w base e size v n xs)
    (ad : Addr) (m c : Nat) (news : List Value) (hx : a.eval x = .slice (some ad) m c) (hl : news.length = m * size) (hnews : ∀ j u, news[j]? = some u → w.cell? (ad.add j) = some u) (h1 : ∀ u ∈ news, u.oneCell' = true)
    (h63 : n + m ≤ maxLen) (hbytes : (n + m) * bytes ≤ 140737488355328) (hbase : base ≤ w.heap.size)
    (h : ∀ ao cap w', OwnAt w' base e size (.slice ao (n + m) cap) (n + m) (xs ++ news) → w.grownBy w' v.ownBlock → ((Value.slice ao (n + m) cap).ownBlock = v.ownBlock ∨ ∀ b, (Value.slice ao (n + m) cap).ownBlock = some b → w.heap.size ≤ b) → wpList P ops Q rest (a.put o.dst (.slice ao (n + m) cap)) w') :
    wpList P ops Q (o :: rest) a w := by
  refine wpList_plain hgd fun _ hK => ?_
  obtain ⟨v', w', hr, ho', hg, hst⟩ := run_append_off (P := P) w base t o.type e i z size bytes ht hi hz hsize hby hzs hsz v n xs hown ad m c news hl hnews h1 h63 hbytes hbase
  obtain ⟨ao, cap, rfl⟩ := ho'.val
  unfold Oper.wp execOp
  simp only [ho, resolve, invoke, builtin, Sem.run_bind, Sem.run_pure, Result.andThen_ok, List.map_toArray, List.map_cons, List.map_nil, hs, hx, hr]
  exact hK _ _ (h ao cap w' ho' hg hst)

theorem step_append_off {P : Program} {w : World} {ops : Array Oper} {o : Oper} {a : Act} {K : Act → World → Prop} {Q : Exit → Act → World → Prop} {E : Prop} (hgd : o.guard = none) (s x : Operand) (t : TypeId)
    (ho : o.op = .call { callee := .builtin .append, args := #[s, x], argTypes := #[t, t] })
    (base : Nat) (e : TypeId) (i : TypeInfo) (z : Value) (size bytes : Nat) (ht : P.underlying t = some (.slice e)) (hi : P.info? e = some i) (hz : i.zero = some z)
    (hsize : i.size = size) (hby : i.bytes = bytes) (hzs : z.cells.size = size) (hsz : 0 < size)
    (v : Value) (n : Nat) (xs : List Value) (hs : a.eval s = v) (hown : OwnAt w base e size v n xs)
    (ad : Addr) (m c : Nat) (news : List Value) (hx : a.eval x = .slice (some ad) m c) (hl : news.length = m * size) (hnews : ∀ j u, news[j]? = some u → w.cell? (ad.add j) = some u) (h1 : ∀ u ∈ news, u.oneCell' = true)
    (h63 : n + m ≤ maxLen) (hbytes : (n + m) * bytes ≤ 140737488355328) (hbase : base ≤ w.heap.size)
    (h : ∀ ao cap w', OwnAt w' base e size (.slice ao (n + m) cap) (n + m) (xs ++ news) → w.grownBy w' v.ownBlock → ((Value.slice ao (n + m) cap).ownBlock = v.ownBlock ∨ ∀ b, (Value.slice ao (n + m) cap).ownBlock = some b → w.heap.size ≤ b) → K (a.put o.dst (.slice ao (n + m) cap)) w') :
    if Region.wanted o (yielded ops a.tmps) = true then Oper.wp P o a w K Q else E := by
  have hw : Region.wanted o (yielded ops a.tmps) = true := by simp [Region.wanted, hgd]
  rw [if_pos hw]
  obtain ⟨v', w', hr, ho', hg, hst⟩ := run_append_off (P := P) w base t o.type e i z size bytes ht hi hz hsize hby hzs hsz v n xs hown ad m c news hl hnews h1 h63 hbytes hbase
  obtain ⟨ao, cap, rfl⟩ := ho'.val
  unfold Oper.wp execOp
  simp only [ho, resolve, invoke, builtin, Sem.run_bind, Sem.run_pure, Result.andThen_ok, List.map_toArray, List.map_cons, List.map_nil, hs, hx, hr]
  exact h ao cap w' ho' hg hst
end Go.Proofs.YtakjbjokekbmbaaGreatDoor
