import Derived.Test.YtikehilbmldadaaGreatDoorQ43
import Derived.Test.YtikehilbmldadaaGreatDoorQ39
import Derived.Test.YtikehilbmldadaaGreatDoorQ38
import Derived.Test.YtikehilbmldadaaGreatDoorQ23
import Derived.Test.YtikehilbmldadaaGreatDoorQ41
namespace Go.Proofs.YtikehilbmldadaaGreatDoor
open Go.RowKit
set_option linter.unusedVariables false
theorem head_text (C : ConfV) : headB C = [119, 105, 110, 100, 111, 119, 32] ++ Lib.itoa C.closed ++ [32] ++ Lib.itoa C.opn ++ [10, 99, 121, 99, 108, 101, 32] ++ Lib.itoa C.cycle ++ [10, 100, 101, 108, 97, 121, 32] ++ Lib.itoa C.delay ++ [10] := by
  simp [headB, headL, lineB, upB, sepB, wordB, winB, cycB, delB, List.range_succ]
end Go.Proofs.YtikehilbmldadaaGreatDoor
namespace Go.Proofs.YtikehilbmldadaaGreatDoor
open Go.RowKit
set_option linter.unusedVariables false
structure QuietE (E : EntV) : Prop where
  c : E.count = -1
  g : E.gaps = []
  e : E.edges = []
  f : E.first = []
  l : E.last = []
theorem pnt_small {L : List ByteArray} (h : ∀ s ∈ L, s.size ≤ 12) : (linesB (L.map pntL)).length ≤ 19 * L.length := by
  have h1 := kflat_mul (fun s => lineB (pntL s)) 19 L (fun s hs => by
    have := h s hs
    rw [dsize] at this
    rw [line_pnt, List.length_append, List.length_append]
    simp only [List.length_cons, List.length_nil]
    omega)
  unfold linesB
  rw [List.flatMap_map]
  exact h1
theorem quiet_ent {E : EntV} (h : EntGood E) (q : QuietE E) : (linesB (entLn E)).length ≤ 400 := by
  have hc : cntLn E = [] := by unfold cntLn; rw [if_neg (by rw [q.c]; decide)]
  have h1 := pnt_small h.ps
  have h2 := h.pl
  have h3 := h.name
  rw [dsize] at h3
  have h4 := h.tol
  have h5 := itoa_len E.tol h4.1 (by omega)
  rw [ent_lines, hc, q.g, q.e, q.f, q.l, line_ent]
  simp only [List.length_append, List.length_cons, List.length_nil, List.map_nil, linesB, List.flatMap_nil] at h1 ⊢
  omega
theorem quiet_text {C : ConfV} (hC : confF C = (0, -1)) (hq : ∀ E ∈ C.ents, QuietE E) : (textB C).length ≤ 8000 := by
  have hb := (confF_parts hC).1
  unfold boundC at hb
  rw [decide_eq_false_iff_not] at hb
  have h1 := kflat_mul (fun E => linesB (entLn E)) 400 C.ents (fun E hE => by
    have hqE := hq E hE
    obtain ⟨i, hi, rfl⟩ := List.getElem_of_mem hE
    have := (confF_parts hC).2.2 i hi
    rw [entAt_at hi] at this
    exact quiet_ent (good_of this) hqE)
  have h2 : C.ents.length ≤ 8 := by omega
  have h3 := Nat.mul_le_mul_left 400 h2
  have i1 := itoa_len C.closed (by omega) (by omega)
  have i2 := itoa_len C.opn (by omega) (by omega)
  have i3 := itoa_len C.cycle (by omega) (by omega)
  have i4 := itoa_len C.delay (by omega) (by omega)
  unfold textB
  rw [head_text]
  simp only [List.length_append, List.length_cons, List.length_nil]
  omega
end Go.Proofs.YtikehilbmldadaaGreatDoor
namespace Go.Proofs.YtikehilbmldadaaGreatDoor
open Go.RowKit
set_option linter.unusedVariables false
structure QuietL (a : LocM) : Prop where
  x : a.exp = false
  r : a.run = 0
  g : a.gs = []
  b : a.gbad = false
  f : a.fbad = false
structure QOk (C : ConfV) : Prop where
  bound : boundC C = false
  cyc : C.cycle ≤ C.opn
  q : ∀ E ∈ C.ents, QuietE E
  tol : ∀ E ∈ C.ents, 0 ≤ E.tol
structure QB (C : ConfV) (M : KpM) : Prop where
  eC : M.C = C
  off : M.m.off = false
  L : M.L = []
  A : ∀ a, some a ∈ M.A → QuietL a
  An : M.A.length = C.ents.length
  sn : M.sn = 0
  st : M.st = .ok
def qDog (C : ConfV) (n : Nat) : DogM := ⟨C.closed, C.opn, n, (dogK C.closed.toNat C.cycle.toNat n).1, false, (dogK C.closed.toNat C.cycle.toNat n).2⟩
structure QAt (C : ConfV) (M : KpM) (n : Nat) : Prop where
  b : QB C M
  D : M.D = qDog C n
theorem QAt.on {C : ConfV} {M : KpM} {n : Nat} (h : QAt C M n) : kpOn M = 0 := by
  unfold kpOn
  rw [h.b.off, h.D]; rfl
theorem quiet_begin {E : EntV} (h : QuietE E) : QuietL (locBegin E) := ⟨rfl, rfl, by simp [locBegin, h.g], rfl, rfl⟩
theorem quiet_kind {E : EntV} (h : QuietE E) {a : LocM} (ha : QuietL a) : locKind E a = 0 := by
  have h1 : aliveOk (locPt E) E.mn E.mx a.cnt a.whole = true := by
    unfold aliveOk locPt alivePt
    rw [if_pos (.inl (by rw [h.c]; decide))]
    simp
  unfold locKind
  rw [h1, ha.b, ha.f]
  simp
theorem quiet_run {E : EntV} (h : QuietE E) {a : LocM} (ha : QuietL a) : locRun E a = 0 := by unfold locRun; rw [if_pos (quiet_kind h ha)]
theorem quiet_end {E : EntV} (h : QuietE E) (ht : 0 ≤ E.tol) {a : LocM} (ha : QuietL a) : QuietL (locEnd E a) ∧ locNow E a = false := by
  have hr := quiet_run h ha
  have hd : decide (E.tol < locRun E a) = false := by rw [hr]; simp; omega
  exact ⟨⟨by simp [locEnd, ha.x, hd], hr, ha.g, rfl, rfl⟩, by simp [locNow, hd]⟩
theorem kpEnt_mem {M : KpM} {j : Nat} (h : j < M.C.ents.length) : kpEnt M j ∈ M.C.ents := by
  unfold kpEnt
  rw [List.getD_eq_getElem?_getD, List.getElem?_eq_getElem h]
  exact List.getElem_mem h
section
variable {C : ConfV} {M : KpM} {n : Nat}
theorem QB.set (h : QB C M) {j : Nat} {a : Option LocM} (ha : ∀ x, a = some x → QuietL x) : QB C (kpSet M j a) := by
  refine ⟨h.eC, h.off, h.L, fun x hx => ?_, ?_, h.sn, h.st⟩
  · rcases List.mem_or_eq_of_mem_set (show some x ∈ M.A.set j a from hx) with h1 | h1
    · exact h.A x h1
    · exact ha x h1.symm
  · show (M.A.set j a).length = _
    rw [List.length_set]; exact h.An
theorem QB.ask (h : QB C M) {i : Int} (hi : ¬ kpAsk M i ≠ 0) : i.toNat < C.ents.length := by
  unfold kpAsk at hi
  have hn := h.An
  split at hi
  · rename_i h0
    exact absurd h0 hi
  · split at hi
    · exact absurd (by decide) hi
    · omega
theorem QB.begin (h : QB C M) (q : QOk C) (i : Int) : QB C (kpBegin M i).2 := by
  unfold kpBegin
  split
  · exact h
  · rename_i hi
    have hl := h.ask hi
    have hm := kpEnt_mem (M := M) (j := i.toNat) (by rw [h.eC]; exact hl)
    rw [h.eC] at hm
    split
    · exact h.set (fun x hx => by obtain rfl := Option.some.inj hx; exact quiet_begin (q.q _ hm))
    · exact h
theorem QB.stop (h : QB C M) (i : Int) : QB C (kpStop M i).2 := by
  unfold kpStop
  split
  · exact h
  · split
    · exact h
    · exact h.set (fun x hx => by cases hx)
theorem kpBegin_D (M : KpM) (i : Int) : (kpBegin M i).2.D = M.D := by unfold kpBegin; split; rfl; split <;> rfl
theorem kpStop_D (M : KpM) (i : Int) : (kpStop M i).2.D = M.D := by unfold kpStop; split; rfl; split <;> rfl
theorem kpEnd1_D (M : KpM) (j : Nat) : (kpEnd1 M j).2.D = M.D := by
  unfold kpEnd1
  split
  · rfl
  · split <;> rfl
theorem kpEndN_D (M : KpM) : ∀ k, (kpEndN M k).2.D = M.D
  | 0 => rfl
  | k + 1 => by
    unfold kpEndN
    split
    · exact kpEndN_D M k
    · rw [kpEnd1_D]; exact kpEndN_D M k
theorem QAt.begin (h : QAt C M n) (q : QOk C) (i : Int) : QAt C (kpBegin M i).2 n := ⟨h.b.begin q i, by rw [kpBegin_D]; exact h.D⟩
theorem QAt.stop (h : QAt C M n) (i : Int) : QAt C (kpStop M i).2 n := ⟨h.b.stop i, by rw [kpStop_D]; exact h.D⟩
theorem QB.end1 (h : QB C M) (q : QOk C) {j : Nat} (hj : j < C.ents.length) : (kpEnd1 M j).1 = 0 ∧ QB C (kpEnd1 M j).2 := by
  unfold kpEnd1
  cases ha : kpGet M j with
  | none => exact ⟨rfl, h⟩
  | some a =>
    have hm := kpEnt_mem (M := M) (j := j) (by rw [h.eC]; exact hj)
    rw [h.eC] at hm
    have he := quiet_end (q.q _ hm) (q.tol _ hm) (h.A a (kpGet_mem ha).2)
    have hf : ¬ locNow (kpEnt M j) a = true := by rw [he.2]; decide
    show (if locNow (kpEnt M j) a = true then _ else _ : Nat × KpM).1 = 0 ∧ QB C (if locNow (kpEnt M j) a = true then _ else _ : Nat × KpM).2
    rw [if_neg hf]
    exact ⟨rfl, h.set (fun x hx => by obtain rfl := Option.some.inj hx; exact he.1)⟩
theorem QB.endN (h : QB C M) (q : QOk C) : ∀ k, k ≤ C.ents.length → (kpEndN M k).1 = 0 ∧ QB C (kpEndN M k).2
  | 0, _ => ⟨rfl, h⟩
  | k + 1, hk => by
    obtain ⟨h1, h2⟩ := h.endN q k (by omega)
    unfold kpEndN
    rw [if_neg (by rw [h1]; decide)]
    exact h2.end1 q (by omega)
theorem quiet_stat {a : Option LocM} (h : ∀ x, a = some x → QuietL x) : kpStat a = idleS ∨ kpStat a = St.ok.str := by
  cases a with
  | none => exact .inl rfl
  | some x =>
    have hx := h x rfl
    right
    show locStatus x = _
    unfold locStatus
    rw [hx.x, hx.r]; rfl
theorem quiet_has {l : List (Option LocM)} (h : ∀ a, some a ∈ l → QuietL a) : hasStr (l.map kpStat) St.expired.str = false ∧ hasStr (l.map kpStat) St.failed.str = false := by
  have hq : ∀ s ∈ l.map kpStat, s = idleS ∨ s = St.ok.str := fun s hs => by
    obtain ⟨a, ha, rfl⟩ := List.mem_map.1 hs
    exact quiet_stat (fun x hx => h x (hx ▸ ha))
  constructor
  · unfold hasStr
    rw [List.any_eq_false]
    intro s hs
    rcases hq s hs with rfl | rfl <;> decide +kernel
  · unfold hasStr
    rw [List.any_eq_false]
    intro s hs
    rcases hq s hs with rfl | rfl <;> decide +kernel
theorem QB.tot (h : QB C M) : QB C (kpTot M) := by
  have hs := quiet_has h.A
  have e : St.next M.C.delay M.sn M.st (M.A.map kpStat) = (0, .ok) := by
    rw [h.st, h.sn]
    unfold St.next
    simp only [hs.1, hs.2]
    rfl
  exact ⟨h.eC, h.off, h.L, h.A, h.An, by show (St.next _ _ _ _).1 = _; rw [e], by show (St.next _ _ _ _).2 = _; rw [e]⟩
theorem QB.dogD (h : QB C M) (D : DogM) : QB C { M with D := D } := ⟨h.eC, h.off, h.L, h.A, h.An, h.sn, h.st⟩
theorem QAt.tick (h : QAt C M n) (q : QOk C) (hn : n ≤ 1000000) : (kpTick M).1 = 0 ∧ QAt C (kpTick M).2 (n + 1) := by
  have hb := boundC_parts q.bound
  have hcy := q.cyc
  have hs := dogK_safe (closed := C.closed.toNat) (opn := C.opn.toNat) (cycle := C.cycle.toNat) (by omega) (by omega) n
  have hD := h.D
  obtain ⟨K, hK⟩ : ∃ K, dogK C.closed.toNat C.cycle.toNat n = K := ⟨_, rfl⟩
  have hKn : dogK C.closed.toNat C.cycle.toNat (n + 1) = if (n + 1) % C.cycle.toNat = 0 ∧ C.closed.toNat < n + 1 - K.1 then (n + 1, K.2 + 1) else K := by rw [dogK, hK]
  unfold qDog at hD
  rw [hK] at hD hs
  have e0 : dogTickE M.D = 0 := by
    rw [hD]
    unfold dogTickE
    rw [if_neg Bool.false_ne_true, if_neg (by show ¬ (1099511627776 ≤ (n : Int)); omega)]
  have e1 : dogTick M.D = ⟨C.closed, C.opn, (n : Int) + 1, K.1, false, K.2⟩ := by
    rw [hD]
    unfold dogTick
    rw [if_neg Bool.false_ne_true, if_neg (by show ¬ (1099511627776 ≤ (n : Int)); omega)]
    have : decide (C.closed + C.opn < (n : Int) + 1 - (K.1 : Int)) = false := by
      rw [decide_eq_false_iff_not]; omega
    simp only [this]
  have hmod : ((n : Int) + 1) % C.cycle = 0 ↔ (n + 1) % C.cycle.toNat = 0 := by
    have : ((n + 1 : Nat) : Int) % ((C.cycle.toNat : Nat) : Int) = (((n + 1) % C.cycle.toNat : Nat) : Int) := rfl
    rw [Int.toNat_of_nonneg (by omega)] at this
    have e : ((n + 1 : Nat) : Int) = (n : Int) + 1 := by omega
    rw [e] at this
    omega
  unfold kpTick
  rw [h.on, if_neg (by decide), e0, if_neg (by decide), e1, if_neg Bool.false_ne_true]
  by_cases hc : ((n : Int) + 1) % M.C.cycle = 0
  · rw [if_pos hc]
    rw [h.b.eC] at hc
    have hAn : (kpDog M).A.length = C.ents.length := h.b.An
    have hN := (show QB C (kpDog M) from h.b.dogD _).endN q (kpDog M).A.length (by rw [hAn]; exact Nat.le_refl _)
    have hNd := kpEndN_D (kpDog M) (kpDog M).A.length
    obtain ⟨r, hr⟩ : ∃ r, kpEndN (kpDog M) (kpDog M).A.length = r := ⟨_, rfl⟩
    unfold kpEnd
    rw [hr] at hN hNd ⊢
    rw [if_neg (by rw [hN.1]; decide)]
    have ht := hN.2.tot
    have hD2 : (kpTot r.2).D = ⟨C.closed, C.opn, (n : Int) + 1, K.1, false, K.2⟩ := by
      show r.2.D = _
      rw [hNd]; exact e1
    refine ⟨rfl, ?_⟩
    show QAt C (kpKick (kpTot r.2)) (n + 1)
    unfold kpKick
    have hst : (kpTot r.2).st = .ok := ht.st
    by_cases ho : dogOpen (kpTot r.2).D = true
    · rw [if_pos ⟨by rw [hst]; decide, ho⟩]
      refine ⟨ht.dogD _, ?_⟩
      show dogKick (kpTot r.2).D = _
      rw [dogKick_yes ho, hD2]
      rw [hD2] at ho
      have : C.closed < (n : Int) + 1 - K.1 := by simpa [dogOpen] using ho
      unfold qDog
      rw [hKn, if_pos ⟨hmod.1 hc, by omega⟩]
      simp
    · rw [if_neg (fun hh => ho hh.2)]
      refine ⟨ht, ?_⟩
      rw [hD2]
      rw [hD2] at ho
      have : ¬ C.closed < (n : Int) + 1 - K.1 := by simpa [dogOpen] using ho
      unfold qDog
      rw [hKn, if_neg (fun hh => this (by have := hh.2; omega))]
      simp
  · rw [if_neg hc]
    rw [h.b.eC] at hc
    refine ⟨rfl, h.b.dogD _, ?_⟩
    show dogTick M.D = _
    unfold qDog
    rw [e1, hKn, if_neg (fun hh => hc (hmod.2 hh.1))]
    simp
theorem QAt.ticks (h : QAt C M n) (q : QOk C) : ∀ k, n + k ≤ 1000000 → (kpTicks M k).1 = 0 ∧ QAt C (kpTicks M k).2 (n + k)
  | 0, _ => ⟨rfl, h⟩
  | k + 1, hk => by
    obtain ⟨h1, h2⟩ := h.ticks q k (by omega)
    unfold kpTicks
    rw [if_neg (by rw [h1]; decide)]
    exact h2.tick q (by omega)
theorem qAt_new (q : QOk C) {m : CM} (hm : m.off = false) (hr : recsOf m.bs = []) : QAt C (kpOpen C ⟨C.closed, C.opn, 0, 0, false, 0⟩ m) 0 := by
  refine ⟨⟨rfl, hm, by rw [kpOpen_L]; exact hr, fun a ha => ?_, by simp [kpOpen], rfl, rfl⟩, ?_⟩
  · have : some a ∈ List.replicate C.ents.length (none : Option LocM) := ha
    rw [List.mem_replicate] at this
    cases this.2
  · rfl
end
end Go.Proofs.YtikehilbmldadaaGreatDoor
