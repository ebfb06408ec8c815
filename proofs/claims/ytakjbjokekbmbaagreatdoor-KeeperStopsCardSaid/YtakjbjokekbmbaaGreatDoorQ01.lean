/- Rings: the plain law: the sum, numbers in bytes, records of slots, the last ones. -/
import Derived.WalkKit
import Derived.Test.YtakjbjokekbmbaaGreatDoorRows
import Derived.WalkSpells
import Derived.WalkLawsBesides
import Derived.Lib.Hide
import Derived.ProofKit
import Derived.OpenShut
import Derived.Deep.Slices
import Derived.Laws.AppendOwnNone
namespace Go.Proofs.YtakjbjokekbmbaaGreatDoor
set_option linter.unusedVariables false

/-! ### The sum -/
def crcBit (c : Nat) : Nat := (c / 2) ^^^ (if c % 2 = 1 then 3988292384 else 0)
def crcIter : Nat → Nat → Nat
  | 0, c => c
  | k + 1, c => crcBit (crcIter k c)
def crcByte (c : Nat) (b : UInt8) : Nat := crcIter 8 (c ^^^ b.toNat)
def crcFold (l : List UInt8) (c : Nat) : Nat := l.foldl crcByte c
def crc (l : List UInt8) : Nat := 4294967295 - crcFold l 4294967295

theorem crcBit_lt {c : Nat} (h : c < 4294967296) : crcBit c < 4294967296 := by
  unfold crcBit
  refine Nat.xor_lt_two_pow (n := 32) (by omega) ?_
  split <;> decide
theorem crcIter_lt {k c : Nat} (h : c < 4294967296) : crcIter k c < 4294967296 := by
  induction k with
  | zero => exact h
  | succ k ih => exact crcBit_lt ih
theorem crcByte_lt {c : Nat} {b : UInt8} (h : c < 4294967296) : crcByte c b < 4294967296 := by
  refine crcIter_lt (Nat.xor_lt_two_pow (n := 32) h ?_)
  have := b.toNat_lt
  omega
theorem crcFold_lt : ∀ {l : List UInt8} {c : Nat}, c < 4294967296 → crcFold l c < 4294967296
  | [], _, h => h
  | b :: l, c, h => crcFold_lt (l := l) (crcByte_lt h)
theorem crc_lt (l : List UInt8) : crc l < 4294967296 := by unfold crc; omega
theorem crcFold_snoc (p : List UInt8) (x : UInt8) (c : Nat) : crcFold (p ++ [x]) c = crcByte (crcFold p c) x := by simp [crcFold]

/-! ### Numbers in bytes -/
def beB : Nat → Nat → List UInt8
  | 0, _ => []
  | m + 1, n => beB m (n / 256) ++ [UInt8.ofNat n]
theorem beB_length : ∀ m n, (beB m n).length = m
  | 0, _ => rfl
  | m + 1, n => by simp [beB, beB_length m]
def readB (l : List UInt8) : Nat := l.foldl (fun n b => 256 * n + b.toNat) 0
theorem readB_snoc (l : List UInt8) (b : UInt8) : readB (l ++ [b]) = 256 * readB l + b.toNat := by simp [readB]
theorem readB_beB : ∀ m n, readB (beB m n) = n % 256 ^ m
  | 0, n => by simp [beB, readB, Nat.mod_one]
  | m + 1, n => by
    have e : n % 256 ^ (m + 1) = n % 256 + 256 * (n / 256 % 256 ^ m) := by rw [Nat.pow_succ, Nat.mul_comm, Nat.mod_mul]
    rw [beB, readB_snoc, readB_beB m, UInt8.toNat_ofNat', e]
    omega
theorem readB_lt (l : List UInt8) : readB l < 256 ^ l.length := by
  rcases List.eq_nil_or_concat l with rfl | ⟨p, b, rfl⟩
  · decide
  · have ih := readB_lt p
    rw [List.concat_eq_append, readB_snoc, List.length_append, List.length_singleton, Nat.pow_succ]
    have := b.toNat_lt
    omega
termination_by l.length
decreasing_by all_goals (subst_vars; simp)

/-! ### Records -/
structure RecV where
  seq : Nat
  ent : Nat
  kind : Nat
  tick : Nat
deriving DecidableEq, Inhabited
structure RecOk (r : RecV) : Prop where
  s1 : 1 ≤ r.seq
  s2 : r.seq < 4294967296
  e : r.ent < 256
  k : r.kind < 256
  t : r.tick < 281474976710656
def recHead (r : RecV) : List UInt8 := beB 4 r.seq ++ beB 1 r.ent ++ beB 1 r.kind ++ beB 6 r.tick
def recBody (r : RecV) : List UInt8 := recHead r ++ beB 4 (crc (recHead r))
theorem recHead_length (r : RecV) : (recHead r).length = 12 := by simp [recHead, beB_length]
theorem recBody_length (r : RecV) : (recBody r).length = 16 := by simp [recBody, recHead_length, beB_length]
def recOf (s : List UInt8) : RecV := ⟨readB (s.take 4), readB ((s.drop 4).take 1), readB ((s.drop 5).take 1), readB ((s.drop 6).take 6)⟩
theorem recOf_ok (s : List UInt8) (h : 1 ≤ (recOf s).seq) : RecOk (recOf s) := by
  have h1 := readB_lt (s.take 4)
  have h2 := readB_lt ((s.drop 4).take 1)
  have h3 := readB_lt ((s.drop 5).take 1)
  have h4 := readB_lt ((s.drop 6).take 6)
  have p1 : 256 ^ (s.take 4).length ≤ 256 ^ 4 := Nat.pow_le_pow_right (by decide) (by simp; omega)
  have p2 : 256 ^ ((s.drop 4).take 1).length ≤ 256 ^ 1 := Nat.pow_le_pow_right (by decide) (by simp; omega)
  have p3 : 256 ^ ((s.drop 5).take 1).length ≤ 256 ^ 1 := Nat.pow_le_pow_right (by decide) (by simp; omega)
  have p4 : 256 ^ ((s.drop 6).take 6).length ≤ 256 ^ 6 := Nat.pow_le_pow_right (by decide) (by simp; omega)
  exact ⟨h, by show readB (s.take 4) < _; omega, by show readB ((s.drop 4).take 1) < _; omega, by show readB ((s.drop 5).take 1) < _; omega, by show readB ((s.drop 6).take 6) < _; omega⟩
theorem recOf_body (r : RecV) (h : RecOk r) (t : List UInt8) : recOf (recBody r ++ t) = r := by
  have l4 := beB_length 4 r.seq
  have l1 := beB_length 1 r.ent
  have l2 := beB_length 1 r.kind
  have l6 := beB_length 6 r.tick
  obtain ⟨A, hA⟩ : ∃ A, A = beB 4 r.seq := ⟨_, rfl⟩
  obtain ⟨B, hB⟩ : ∃ B, B = beB 1 r.ent := ⟨_, rfl⟩
  obtain ⟨C, hC⟩ : ∃ C, C = beB 1 r.kind := ⟨_, rfl⟩
  obtain ⟨D, hD⟩ : ∃ D, D = beB 6 r.tick := ⟨_, rfl⟩
  have e : recBody r ++ t = A ++ (B ++ (C ++ (D ++ (beB 4 (crc (recHead r)) ++ t)))) := by simp [recBody, recHead, hA, hB, hC, hD]
  rw [e]
  rw [← hA] at l4
  rw [← hB] at l1
  rw [← hC] at l2
  rw [← hD] at l6
  have d0 : (A ++ (B ++ (C ++ (D ++ (beB 4 (crc (recHead r)) ++ t))))).take 4 = A := by rw [← l4]; exact List.take_left
  have d4 : (A ++ (B ++ (C ++ (D ++ (beB 4 (crc (recHead r)) ++ t))))).drop 4 = B ++ (C ++ (D ++ (beB 4 (crc (recHead r)) ++ t))) := by rw [← l4]; exact List.drop_left
  have d5 : (A ++ (B ++ (C ++ (D ++ (beB 4 (crc (recHead r)) ++ t))))).drop 5 = C ++ (D ++ (beB 4 (crc (recHead r)) ++ t)) := by
    rw [show (5 : Nat) = 4 + 1 from rfl, ← List.drop_drop, d4, ← l1]; exact List.drop_left
  have d6 : (A ++ (B ++ (C ++ (D ++ (beB 4 (crc (recHead r)) ++ t))))).drop 6 = D ++ (beB 4 (crc (recHead r)) ++ t) := by
    rw [show (6 : Nat) = 5 + 1 from rfl, ← List.drop_drop, d5, ← l2]; exact List.drop_left
  have t4 : (B ++ (C ++ (D ++ (beB 4 (crc (recHead r)) ++ t)))).take 1 = B := by rw [← l1]; exact List.take_left
  have t5 : (C ++ (D ++ (beB 4 (crc (recHead r)) ++ t))).take 1 = C := by rw [← l2]; exact List.take_left
  have t6 : (D ++ (beB 4 (crc (recHead r)) ++ t)).take 6 = D := by rw [← l6]; exact List.take_left
  unfold recOf
  rw [d0, d4, d5, d6, t4, t5, t6, hA, hB, hC, hD, readB_beB, readB_beB, readB_beB, readB_beB]
  have a1 := h.s2
  have a2 := h.e
  have a3 := h.k
  have a4 := h.t
  rw [Nat.mod_eq_of_lt (show r.seq < 256 ^ 4 by omega), Nat.mod_eq_of_lt (show r.ent < 256 ^ 1 by omega), Nat.mod_eq_of_lt (show r.kind < 256 ^ 1 by omega), Nat.mod_eq_of_lt (show r.tick < 256 ^ 6 by omega)]

/-- The record of a slot. -/
def heldRec (k : Nat) (s : List UInt8) : Option RecV :=
  if 1 ≤ (recOf s).seq ∧ ((recOf s).seq - 1) % 9 = k ∧ recBody (recOf s) ++ [165] = s then some (recOf s) else none
theorem heldRec_some {k : Nat} {s : List UInt8} {r : RecV} (h : heldRec k s = some r) : RecOk r ∧ (r.seq - 1) % 9 = k ∧ recBody r ++ [165] = s := by
  unfold heldRec at h
  split at h
  · rename_i hc
    obtain rfl := Option.some.inj h
    exact ⟨recOf_ok s hc.1, hc.2.1, hc.2.2⟩
  · cases h
theorem heldRec_body (r : RecV) (h : RecOk r) (k : Nat) (hk : (r.seq - 1) % 9 = k) : heldRec k (recBody r ++ [165]) = some r := by
  unfold heldRec
  rw [recOf_body r h [165]]
  rw [if_pos ⟨h.s1, hk, rfl⟩]
theorem heldRec_last {k : Nat} {s : List UInt8} (h : s[16]? ≠ some 165) : heldRec k s = none := by
  cases hh : heldRec k s with
  | none => rfl
  | some r =>
    obtain ⟨_, _, e⟩ := heldRec_some hh
    exfalso
    apply h
    rw [← e, List.getElem?_append_right (by rw [recBody_length]; exact Nat.le_refl _), recBody_length]
    rfl

/-! ### The last records -/
def heldAt (b : List UInt8) (k : Nat) : Option RecV := heldRec k ((b.drop (k * 17)).take 17)
/-- What a slot may hold: a record that belongs there. -/
def HOk (H : Nat → Option RecV) : Prop := ∀ k r, H k = some r → RecOk r ∧ (r.seq - 1) % 9 = k
theorem heldAt_ok (b : List UInt8) : HOk (heldAt b) := fun k r h => ⟨(heldRec_some h).1, (heldRec_some h).2.1⟩
def seqAt (H : Nat → Option RecV) (k : Nat) : Nat := match H k with | some r => r.seq | none => 0
def bestOf (H : Nat → Option RecV) : Nat → Nat
  | 0 => 0
  | n + 1 => max (bestOf H n) (seqAt H n)
def runDown (H : Nat → Option RecV) : Nat → Nat → List RecV
  | 0, _ => []
  | _, 0 => []
  | f + 1, s + 1 => match H (s % 9) with
    | some r => if r.seq = s + 1 then runDown H f s ++ [r] else []
    | none => []
def recsOf (b : List UInt8) : List RecV := runDown (heldAt b) 8 (bestOf (heldAt b) 9)

theorem le_best (H : Nat → Option RecV) {k r : Nat} {x : RecV} (hx : H k = some x) : ∀ n, k < n → x.seq ≤ bestOf H n
  | 0, h => by omega
  | n + 1, h => by
    unfold bestOf
    by_cases e : k = n
    · subst e
      have : seqAt H k = x.seq := by simp [seqAt, hx]
      omega
    · have := le_best H (r := r) hx n (by omega)
      omega
theorem best_in (H : Nat → Option RecV) : ∀ n, bestOf H n = 0 ∨ ∃ k x, k < n ∧ H k = some x ∧ x.seq = bestOf H n
  | 0 => .inl rfl
  | n + 1 => by
    unfold bestOf
    rcases best_in H n with h0 | ⟨k, x, h1, h2, h3⟩
    · rw [h0, Nat.zero_max]
      cases hh : H n with
      | none => left; simp [seqAt, hh]
      | some y => right; exact ⟨n, y, by omega, hh, by simp [seqAt, hh]⟩
    · by_cases hle : seqAt H n ≤ bestOf H n
      · right; exact ⟨k, x, by omega, h2, by omega⟩
      · right
        cases hh : H n with
        | none => simp [seqAt, hh] at hle
        | some y =>
          have : seqAt H n = y.seq := by simp [seqAt, hh]
          exact ⟨n, y, by omega, hh, by omega⟩

/-- A row of records without a gap that cannot go on ahead is what is found from its last one on. -/
theorem runDown_eq (H : Nat → Option RecV) : ∀ (f s : Nat) (M : List RecV), M.length ≤ f → (∀ j (hj : j < M.length), 1 ≤ M[j].seq ∧ H ((M[j].seq - 1) % 9) = some M[j] ∧ M[j].seq + (M.length - 1 - j) = s) →
    (M.length = f ∨ s = M.length ∨ (M.length < s ∧ ∀ r, H ((s - M.length - 1) % 9) = some r → r.seq ≠ s - M.length)) → runDown H f s = M
  | 0, s, M, hf, _, _ => by
    obtain rfl := List.eq_nil_of_length_eq_zero (show M.length = 0 by omega)
    simp [runDown]
  | f + 1, 0, M, hf, hM, _ => by
    cases M with
    | nil => simp [runDown]
    | cons a M =>
      have := hM 0 (by simp)
      omega
  | f + 1, s + 1, M, hf, hM, hstop => by
    rcases List.eq_nil_or_concat M with rfl | ⟨M', r, rfl⟩
    · unfold runDown
      simp at hstop
      cases hh : H (s % 9) with
      | none => rfl
      | some y => simp only; rw [if_neg (hstop y hh)]
    · rw [List.concat_eq_append] at hM hf hstop ⊢
      simp only [List.length_append, List.length_singleton] at hM hf hstop
      have hl := hM M'.length (by omega)
      rw [List.getElem_append_right (by omega)] at hl
      simp only [Nat.sub_self, List.getElem_singleton] at hl
      have hs : r.seq = s + 1 := by omega
      unfold runDown
      rw [show s = r.seq - 1 by omega, hl.2.1]
      simp only
      rw [if_pos (by omega)]
      congr 1
      refine runDown_eq H f (r.seq - 1) M' (by omega) (fun j hj => ?_) ?_
      · have := hM j (by omega)
        rw [List.getElem_append_left hj] at this
        exact ⟨this.1, this.2.1, by omega⟩
      · rcases hstop with h | h | ⟨h, h'⟩
        · left; omega
        · right; left; omega
        · right; right
          refine ⟨by omega, fun r2 hr2 => ?_⟩
          have := h' r2 (by rw [show s + 1 - (M'.length + 1) - 1 = r.seq - 1 - M'.length - 1 by omega]; exact hr2)
          omega
/-- The program's way: all that is held, rising; from the last one down while there is no gap. -/
theorem recs_sorted (H : Nat → Option RecV) (hH : HOk H) (hH9 : ∀ k, 9 ≤ k → H k = none) (L : List RecV) (hmem : ∀ r, r ∈ L ↔ ∃ k, H k = some r) (hs : L.Pairwise (fun a b => a.seq < b.seq)) (i : Nat) (hi : i ≤ L.length) (h8 : L.length - i ≤ 8)
    (hrun : ∀ j (h1 : i ≤ j) (h2 : j < L.length), L[j].seq + (L.length - 1 - j) = (L.getLast?.map (·.seq)).getD 0) (hne : L ≠ [] → i < L.length)
    (hstop : i = 0 ∨ L.length - i = 8 ∨ ∃ (h0 : 0 < i) (h1 : i - 1 < L.length) (h2 : i < L.length), L[i - 1].seq + 1 ≠ L[i].seq) : runDown H 8 (bestOf H 9) = L.drop i := by
  have hbest : bestOf H 9 = (L.getLast?.map (·.seq)).getD 0 := by
    cases hL : L.getLast? with
    | none =>
      have : L = [] := by simpa using hL
      subst this
      rcases best_in H 9 with h | ⟨k, x, h1, h2, h3⟩
      · simpa using h
      · have := (hmem x).2 ⟨k, h2⟩
        cases this
    | some z =>
      have hzL : z ∈ L := List.mem_of_getLast? hL
      obtain ⟨k, hk⟩ := (hmem z).1 hzL
      have hk9 : k < 9 := Nat.lt_of_not_le (fun h => by rw [hH9 k h] at hk; cases hk)
      have h1 := le_best H (r := 0) hk 9 hk9
      rcases best_in H 9 with h | ⟨k2, x, q1, q2, q3⟩
      · have := (hH k z hk).1.s1; omega
      · have hxL := (hmem x).2 ⟨k2, q2⟩
        have hle : x.seq ≤ z.seq := by
          obtain ⟨j, hj, rfl⟩ := List.mem_iff_getElem.1 hxL
          have hz : z = L[L.length - 1]'(by omega) := by
            rw [List.getLast?_eq_getElem?, List.getElem?_eq_getElem (by omega)] at hL
            exact (Option.some.inj hL).symm
          rw [hz]
          by_cases e : j = L.length - 1
          · subst e; exact Nat.le_refl _
          · exact Nat.le_of_lt (List.pairwise_iff_getElem.1 hs j (L.length - 1) hj (by omega) (by omega))
        simp
        omega
  rw [hbest]
  have hat : ∀ j (hj : j < L.length), 1 ≤ L[j].seq ∧ H ((L[j].seq - 1) % 9) = some L[j] := fun j hj => by
    obtain ⟨k, hk⟩ := (hmem L[j]).1 (List.getElem_mem hj)
    have := hH k _ hk
    exact ⟨this.1.s1, by rw [this.2]; exact hk⟩
  refine runDown_eq H 8 _ (L.drop i) (by simp; omega) (fun j hj => ?_) ?_
  · simp only [List.length_drop] at hj
    rw [List.getElem_drop]
    have h1 := hat (i + j) (by omega)
    have h2 := hrun (i + j) (by omega) (by omega)
    refine ⟨h1.1, h1.2, ?_⟩
    rw [List.length_drop]
    omega
  · rw [List.length_drop]
    by_cases hLe : L = []
    · subst hLe
      right; left; simp
    have hiL := hne hLe
    have h0 := hrun i (Nat.le_refl _) hiL
    have hp := (hat i hiL).1
    rcases hstop with h | h | ⟨h00, h1, h2, h3⟩
    · subst h
      by_cases he : (L.getLast?.map (·.seq)).getD 0 = L.length
      · right; left; omega
      · right; right
        refine ⟨by omega, fun r hr hrs => ?_⟩
        have hrL := (hmem r).2 ⟨_, hr⟩
        obtain ⟨j, hj, rfl⟩ := List.mem_iff_getElem.1 hrL
        have := hrun j (Nat.zero_le _) hj
        omega
    · left; omega
    · right
      by_cases he : (L.getLast?.map (·.seq)).getD 0 = L.length - i
      · left; omega
      · right
        refine ⟨by omega, fun r hr hrs => ?_⟩
        have hrL := (hmem r).2 ⟨_, hr⟩
        obtain ⟨j, hj, rfl⟩ := List.mem_iff_getElem.1 hrL
        by_cases hij : i ≤ j
        · have := hrun j hij hj; omega
        · have p1 := fun (a b : Nat) (ha : a < L.length) (hb : b < L.length) (hab : a < b) => List.pairwise_iff_getElem.1 hs a b ha hb hab
          have hlt := p1 (i - 1) i h1 h2 (by omega)
          by_cases e : j = i - 1
          · subst e; omega
          · have := p1 j (i - 1) hj h1 (by omega); omega
end Go.Proofs.YtakjbjokekbmbaaGreatDoor

/- Plain tools: what a law's row asks of its walk; memory that stays but for some blocks. -/
namespace Go.Proofs.YtakjbjokekbmbaaGreatDoor
open Go.ChangeShapes Go.WideShapes Go.ChangeAt Go.RowKit

/-- All arguments read as they did, where below the heap's old size nothing has turned. -/
theorem trodAll_below {H : Type} {enc : TypeId × Value → H} {P : Program} (hl : laidOutB P = true) {W W' : World} (hb : Below W.heap.size W W') {sp : Nat → Bool} :
    ∀ {ts : List TypeId} {vs : List Value} {ds : List (DataW H)} {ps : List MemPlace}, (∀ t ∈ ts, P.readableRec t = true ∧ t < P.types.size) → DataW.TrodAll enc P W 0 (fun _ => true) true ts vs ds ps →
      (∀ x ∈ ps, x.block < W.heap.size ∧ sp x.block = true) → DataW.TrodAll enc P W' 0 sp true ts vs ds ps
  | [], _, _, _, _, h, _ => by
    obtain ⟨rfl, rfl, rfl⟩ := trodAll_nil h
    exact rfl
  | t :: ts, _, _, _, hr, h, hlt => by
    obtain ⟨v, vs, d, ds, p, q, rfl, rfl, rfl, h1, h2⟩ := trodAll_cons h
    have ht := hr t (by simp)
    refine ⟨p, q, ?_, trodAll_below hl hb (fun t h => hr t (by simp [h])) h2 (fun x hx => hlt x (by simp [hx])), rfl⟩
    exact WideElems.Trod_stays hl ht.1 ht.2 h1 (fun x hx => hb.same (hlt x (by simp [hx])).1) (fun x hx => (hlt x (by simp [hx])).2)

/-- What a law's row asks behind the call, out of: it returned true, and below the heap's old size nothing has turned. -/
theorem post_law {H : Type} {enc : TypeId × Value → H} {P : Program} {f : Func} {s : ChangeSpec} {W W' : World} {args : Array Value} {ds : List (DataW H)} {before : List MemPlace} {tb : TypeId}
    (hl : laidOutB P = true) (hr : f.params.toList.all (fun t => P.readableRec t && decide (t < P.types.size)) = true) (hvars : s.vars = []) (hres : f.resultTypes = #[tb]) (htb : P.underlying tb = some .bool)
    (hW : DataW.Whole enc P f.params.toList s.vars false W args.toList ds [] before) (hfn : s.fn H ds = { results := [.lit (.bool true)], args := ds }) (hb : Below W.heap.size W W') :
    s.post enc P f false true false false W args (.bool true) W' := by
  have hW0 := hW
  obtain ⟨p, q, hA, hV, rfl, _, _⟩ := hW
  rw [hvars] at hV
  obtain ⟨_, rfl⟩ := trodVars_none hV
  have hr' : ∀ t ∈ f.params.toList, P.readableRec t = true ∧ t < P.types.size := fun t ht => by
    have := List.all_eq_true.1 hr t ht
    simpa using this
  have hlt : ∀ x ∈ p, x.block < W.heap.size := fun x hx => by
    have := hW0.lt x (by simp [hx])
    simpa using this
  have hfn' : s.fn H (ds ++ []) = { results := [.lit (.bool true)], args := ds } := by rw [List.append_nil]; exact hfn
  refine ⟨ds, [], p ++ [], [], p, [], hW0, ?_, ?_, ?_, ?_, fun h => by cases h⟩
  · rw [hres, hfn']
    exact trodAll_cons_mk (shut_bool htb _) trodAll_mk0
  · rw [hfn']
    exact trodAll_below hl hb hr' hA (fun x hx => ⟨hlt x hx, by simpa using hlt x hx⟩)
  · rw [hfn', hvars]
    exact rfl
  · exact hb.frame _

theorem ret_int {k : IntKind} {a b : Int} (h : a = b) : Ending.returned (.int k a) = .returned (.int k b) := by rw [h]
theorem ret_bool {a b : Bool} (h : a = b) : Ending.returned (.bool a) = .returned (.bool b) := by rw [h]
theorem val_bool {a b : Bool} (h : a = b) : Value.bool a = .bool b := by rw [h]

/-! ### Memory that stays but for some blocks -/

/-- w' is w but for the blocks of S, and for new ones. -/
structure Keep (S : Nat → Prop) (w w' : World) : Prop where
  os : w'.os = w.os
  tape : w'.tape = w.tape
  output : w'.output = w.output
  size : w.heap.size ≤ w'.heap.size
  block : ∀ k, k < w.heap.size → ¬ S k → w'.heap[k]? = w.heap[k]?
theorem Keep.refl (S : Nat → Prop) (w : World) : Keep S w w := ⟨rfl, rfl, rfl, Nat.le_refl _, fun _ _ _ => rfl⟩
theorem Keep.trans {S : Nat → Prop} {a b c : World} (h : Keep S a b) (k : Keep S b c) : Keep S a c :=
  ⟨k.os.trans h.os, k.tape.trans h.tape, k.output.trans h.output, Nat.le_trans h.size k.size, fun i hi hs => (k.block i (Nat.lt_of_lt_of_le hi h.size) hs).trans (h.block i hi hs)⟩
theorem Keep.mono {S T : Nat → Prop} {w w' : World} (h : Keep S w w') (hs : ∀ k, k < w.heap.size → S k → T k) : Keep T w w' :=
  ⟨h.os, h.tape, h.output, h.size, fun k hk ht => h.block k hk (fun x => ht (hs k hk x))⟩
theorem Keep.drew {S : Nat → Prop} {a w : World} (h : Keep S a w) : Keep S a w.drew := ⟨h.os, h.tape, h.output, h.size, h.block⟩
theorem Keep.alloc {S : Nat → Prop} {a w : World} (h : Keep S a w) (o : Obj) : Keep S a (w.alloc o) :=
  h.trans ⟨rfl, rfl, rfl, by simp, fun k hk _ => Below.heap_alloc _ _ _ hk⟩
theorem Keep.setCell {S : Nat → Prop} {a w : World} (h : Keep S a w) {p : Addr} (hp : p.block < a.heap.size → S p.block) (u : Value) : Keep S a (w.setCell p u) :=
  ⟨h.os, h.tape, h.output, by simpa [World.setCell] using h.size, fun k hk hs => (Below.heap_setCell _ _ _ _ (fun e => by subst e; exact hs (hp hk))).trans (h.block k hk hs)⟩
theorem keep_set (w : World) (b o : Nat) (u : Value) : Keep (· = b) w (w.setCell ⟨b, o, none⟩ u) :=
  Keep.setCell (S := (· = b)) (p := ⟨b, o, none⟩) (Keep.refl _ _) (fun _ => rfl) u
theorem keep_more {b : Nat} {w0 w : World} (h : Keep (· = b) w0 w) (o : Nat) (u : Value) : Keep (· = b) w0 (w.setCell ⟨b, o, none⟩ u) :=
  Keep.setCell (S := (· = b)) (p := ⟨b, o, none⟩) h (fun _ => rfl) u
/-- A step into memory that is one's own, or new. -/
theorem Keep.step {S T : Nat → Prop} {a w w' : World} (h : Keep S a w) (k : Keep T w w') (hT : ∀ b, T b → b < a.heap.size → S b) : Keep S a w' :=
  ⟨k.os.trans h.os, k.tape.trans h.tape, k.output.trans h.output, Nat.le_trans h.size k.size, fun i hi hs => (k.block i (Nat.lt_of_lt_of_le hi h.size) (fun t => hs (hT i t hi))).trans (h.block i hi hs)⟩
theorem Keep.below {S : Nat → Prop} {w w' : World} (h : Keep S w w') {B : Nat} (hB : B ≤ w.heap.size) (hs : ∀ k, S k → B ≤ k) : Below B w w' :=
  ⟨h.os, h.tape, h.output, h.size, fun k hk => h.block k (by omega) (fun x => by have := hs k x; omega)⟩
theorem Keep.of_below {B : Nat} {w w' : World} (h : Below B w w') : Keep (fun k => B ≤ k) w w' := ⟨h.os, h.tape, h.output, h.size, fun k _ hs => h.block k (by omega)⟩
theorem Keep.of_grown {w w' : World} {row : Option Nat} (h : w.grownBy w' row) : Keep (fun k => some k = row) w w' := ⟨h.os, h.tape, h.output, h.size, fun k hk hs => h.block k hk hs⟩
theorem Keep.new {w w' : World} (h : Keep (fun _ => False) w w') : Below w.heap.size w w' := ⟨h.os, h.tape, h.output, h.size, fun k hk => h.block k hk (fun x => x)⟩
theorem below_keep {w w' : World} (h : Below w.heap.size w w') : Keep (fun _ => False) w w' := ⟨h.os, h.tape, h.output, h.size, fun k hk _ => h.block k hk⟩
theorem Keep.cell {S : Nat → Prop} {w w' : World} (h : Keep S w w') {p : Addr} (hp : p.block < w.heap.size) (hs : ¬ S p.block) : w'.cell? p = w.cell? p := World.cell?_of_block (w := w) (h.block p.block hp hs)
theorem Keep.get {S : Nat → Prop} {w w' : World} (h : Keep S w w') {b : Nat} {o : Obj} (hb : w.heap[b]? = some o) (hs : ¬ S b) : w'.heap[b]? = some o := by
  rw [h.block b (Array.getElem?_eq_some_iff.1 hb).1 hs]; exact hb
theorem below_get {B : Nat} {w w' : World} (h : Below B w w') {b : Nat} {o : Obj} (hb : w.heap[b]? = some o) (hs : b < B) : w'.heap[b]? = some o := by
  rw [h.block b hs]; exact hb
theorem lt_of_get {w : World} {b : Nat} {o : Obj} (hb : w.heap[b]? = some o) : b < w.heap.size := (Array.getElem?_eq_some_iff.1 hb).1

theorem get_drewN {w : World} {b : Nat} {o : Obj} (n : Nat) (h : w.heap[b]? = some o) : (w.drewN n).heap[b]? = some o := h
theorem below_drewN' {B : Nat} {w0 w : World} (n : Nat) (h : Below B w0 w) : Below B w0 (w.drewN n) := ⟨h.os, h.tape, h.output, h.size, h.block⟩
theorem keep_drewN {S : Nat → Prop} {w0 w : World} (n : Nat) (h : Keep S w0 w) : Keep S w0 (w.drewN n) := ⟨h.os, h.tape, h.output, h.size, h.block⟩
/-- A store into a block that is known whole. -/
theorem get_setCell {w : World} {b o : Nat} {cs : Array Value} {t : TypeId} {fr : Nat × Nat} (u : Value) (hb : w.heap[b]? = some (.cells cs t fr)) : (w.setCell ⟨b, o, none⟩ u).heap[b]? = some (.cells (cs.setIfInBounds o u) t fr) := by
  simp [World.setCell, Array.getElem?_modify, hb]
theorem get_alloc_new (w : World) (o : Obj) : (w.alloc o).heap[w.heap.size]? = some o := heap_alloc_new w o
theorem get_alloc_old {w : World} {b : Nat} {x : Obj} (o : Obj) (hb : w.heap[b]? = some x) : (w.alloc o).heap[b]? = some x := by
  rw [Below.heap_alloc _ _ _ (lt_of_get hb)]; exact hb

theorem ownsRow_keep' {S : Nat → Prop} {w w' : World} {base : Nat} {e : TypeId} {size : Nat} {v : Value} {n : Nat} {xs : List Value} (h : w.ownsRow base e size v n xs) (hk : Keep S w w') (hS : ∀ b, base ≤ b → b < w.heap.size → ¬ S b) : w'.ownsRow base e size v n xs := by
  refine ⟨h.1, ?_⟩
  rcases h.2 with hn | ⟨g, cap, cur, rfl, hb, hgg, rest⟩
  · exact .inl hn
  · exact .inr ⟨g, cap, cur, rfl, hb, hk.get hgg (hS g hb (lt_of_get hgg)), rest⟩

/-! ### A slice's cells -/

/-- v is a slice of n elements of sz cells each; its cells are cs; they lie in a block of R. -/
def SlOf (R : Nat → Prop) (w : World) (v : Value) (sz : Nat) (cs : List Value) (n : Nat) : Prop :=
  cs.length = n * sz ∧ ∃ (ao : Option Addr) (cap : Nat), v = .slice ao n cap ∧ n ≤ cap ∧ cap ≤ maxLen ∧ (ao = none → cap = 0) ∧
    (0 < cs.length → ∃ b off, ao = some ⟨b, off, none⟩ ∧ R b ∧ b < w.heap.size ∧ ∀ k u, cs[k]? = some u → w.cell? ⟨b, off + k, none⟩ = some u)

theorem SlOf.keep {R S : Nat → Prop} {w w' : World} {v : Value} {sz : Nat} {cs : List Value} {n : Nat} (h : SlOf R w v sz cs n) (hk : Keep S w w') (hd : ∀ b, R b → ¬ S b) : SlOf R w' v sz cs n := by
  obtain ⟨hl, ao, cap, hv, h1, h2, h3, h4⟩ := h
  refine ⟨hl, ao, cap, hv, h1, h2, h3, fun hp => ?_⟩
  obtain ⟨b, off, ha, hR, hb, hc⟩ := h4 hp
  exact ⟨b, off, ha, hR, Nat.lt_of_lt_of_le hb hk.size, fun k u hu => by rw [hk.cell hb (hd b hR)]; exact hc k u hu⟩
theorem SlOf.mono {R S : Nat → Prop} {w : World} {v : Value} {sz : Nat} {cs : List Value} {n : Nat} (h : SlOf R w v sz cs n) (hd : ∀ b, R b → S b) : SlOf S w v sz cs n := by
  obtain ⟨hl, ao, cap, hv, h1, h2, h3, h4⟩ := h
  refine ⟨hl, ao, cap, hv, h1, h2, h3, fun hp => ?_⟩
  obtain ⟨b, off, ha, hR, hb, hc⟩ := h4 hp
  exact ⟨b, off, ha, hd b hR, hb, hc⟩
theorem SlOf.below {B : Nat} {R : Nat → Prop} {w w' : World} {v : Value} {sz : Nat} {cs : List Value} {n : Nat} (h : SlOf R w v sz cs n) (hk : Below B w w') (hd : ∀ b, R b → b < B) : SlOf R w' v sz cs n :=
  h.keep (Keep.of_below hk) (fun b hb => by have := hd b hb; omega)
theorem SlOf.nil (R : Nat → Prop) (w : World) (sz : Nat) : SlOf R w (.slice none 0 0) sz [] 0 := ⟨by simp, none, 0, rfl, by omega, by simp [maxLen], fun _ => rfl, fun h => by simp at h⟩

theorem flat_get {α β : Type} (f : α → List β) (sz : Nat) (hf : ∀ x, (f x).length = sz) : ∀ (l : List α) (k : Nat) (hk : k < l.length) (j : Nat), j < sz → (l.flatMap f)[k * sz + j]? = (f l[k])[j]?
  | [], k, hk, _, _ => by simp at hk
  | x :: l, 0, _, j, hj => by
    rw [List.flatMap_cons, List.getElem?_append_left (by rw [hf]; omega)]
    simp
  | x :: l, k + 1, hk, j, hj => by
    rw [List.flatMap_cons, List.getElem?_append_right (by rw [hf, Nat.add_mul]; omega), hf]
    have := flat_get f sz hf l k (by simpa using hk) j hj
    rw [show (k + 1) * sz + j - sz = k * sz + j from by rw [Nat.add_mul]; omega]
    simpa using this
theorem flat_len {α β : Type} (f : α → List β) (sz : Nat) (hf : ∀ x, (f x).length = sz) (l : List α) : (l.flatMap f).length = l.length * sz := by
  induction l with
  | nil => simp
  | cons x l ih => rw [List.flatMap_cons, List.length_append, hf, ih, List.length_cons, Nat.add_mul]; omega

/-- Element k of a slice: where it lies. -/
theorem SlOf.elem {α : Type} {f : α → List Value} {R : Nat → Prop} {w : World} {ao : Option Addr} {n cap sz : Nat} {l : List α} (h : SlOf R w (.slice ao n cap) sz (l.flatMap f) l.length) (hf : ∀ x, (f x).length = sz) (hsz : 0 < sz) (h0 : 0 < l.length) :
    ∃ b off, ao = some ⟨b, off, none⟩ ∧ R b ∧ b < w.heap.size ∧ ∀ k (hk : k < l.length) j u, (f l[k])[j]? = some u → w.cell? ⟨b, off + k * sz + j, none⟩ = some u := by
  obtain ⟨hl, ao', cap', hv, h1, h2, h3, h4⟩ := h
  obtain ⟨rfl, rfl, rfl⟩ := hv
  obtain ⟨b, off, ha, hR, hb, hc⟩ := h4 (by rw [hl]; exact Nat.mul_pos h0 hsz)
  refine ⟨b, off, ha, hR, hb, fun k hk j u hu => ?_⟩
  have hj : j < sz := by rw [← hf l[k]]; exact (List.getElem?_eq_some_iff.1 hu).1
  rw [Nat.add_assoc]
  exact hc _ _ (by rw [flat_get f sz hf l k hk j hj]; exact hu)

theorem addr_add (b off k : Nat) : (⟨b, off, none⟩ : Addr).add k = ⟨b, off + k, none⟩ := by unfold Addr.add; split <;> simp_all

theorem new_cells (w : World) (l : List Value) (t : TypeId) : ∀ j u, l[j]? = some u → (w.alloc (.cells l.toArray t)).cell? ((⟨w.heap.size, 0, none⟩ : Addr).add j) = some u := by
  intro j u hu
  have h := get_alloc_new w (.cells l.toArray t)
  rw [addr_add, Nat.zero_add, cell_of_row _ _ j _ _ _ h]
  simpa using hu

/-- append(nil, x...): a copy of one's own. -/
theorem wpList_append_copy {P : Program} {w : World} {ops : Array Oper} {rest : List Oper} {o : Oper} {a : Act} {Q : Exit → Act → World → Prop} (hgd : o.guard = none) (s x : Operand) (t : TypeId)
    (ho : o.op = .call { callee := .builtin .append, args := #[s, x], argTypes := #[t, t] })
    (e : TypeId) (i : TypeInfo) (z : Value) (size bytes : Nat) (ht : P.underlying t = some (.slice e)) (hi : P.info? e = some i) (hz : i.zero = some z)
    (hsize : i.size = size) (hby : i.bytes = bytes) (hzs : z.cells.size = size) (hsz : 0 < size)
    (hs : a.eval s = .slice none 0 0) (R : Nat → Prop) (v : Value) (n : Nat) (cs : List Value) (hx : a.eval x = v) (hsl : SlOf R w v size cs n) (h1 : ∀ u ∈ cs, u.oneCell' = true) (hbytes : n * bytes ≤ 140737488355328)
    (h : ∀ ao cap w', SlOf (fun b => w.heap.size ≤ b) w' (.slice ao n cap) size cs n → Below w.heap.size w w' → wpList P ops Q rest (a.put o.dst (.slice ao n cap)) w') : wpList P ops Q (o :: rest) a w := by
  obtain ⟨hl, ao, cap, rfl, hnc, hcm, hnone, hcells⟩ := hsl
  cases ao with
  | none =>
    obtain rfl := hnone rfl
    obtain rfl : n = 0 := by omega
    obtain rfl : cs = [] := List.eq_nil_of_length_eq_zero (by simpa using hl)
    refine wpList_append_own_none hgd s x t ho w.heap.size e i size ht hi (.slice none 0 0) 0 [] hs (World.ownsRow_nil _ _ _ _) hx ?_
    exact h none 0 w (SlOf.nil _ _ _) (Below.refl _ _)
  | some ad =>
    have hnews : ∀ j u, cs[j]? = some u → w.cell? (ad.add j) = some u := by
      intro j u hu
      have hj : j < cs.length := (List.getElem?_eq_some_iff.1 hu).1
      obtain ⟨b, off, ha, _, _, hc⟩ := hcells (by omega)
      obtain rfl := Option.some.inj ha
      rw [addr_add]
      exact hc j u hu
    refine wpList_append_own w hgd s x t ho w.heap.size e i z size bytes ht hi hz hsize hby hzs hsz (.slice none 0 0) 0 [] hs (World.ownsRow_nil _ _ _ _) ad n cap cs hx hl hnews h1 (by omega) (by rw [Nat.zero_add]; omega) (Nat.le_refl _) ?_
    intro v' w' hown hg hnil
    rw [Nat.zero_add, List.nil_append] at hown
    have hb : Below w.heap.size w w' := (Below.refl _ _).grown hg (Nat.le_refl _) (fun k hk => by cases hk)
    obtain ⟨hlen, hv⟩ := hown
    rcases hv with ⟨rfl, rfl⟩ | ⟨g, cap', cur, rfl, hbg, hgg, hn', hcm', hcs, htake⟩
    · obtain rfl : cs = [] := List.eq_nil_of_length_eq_zero (by simpa using hlen)
      exact h none 0 w' (SlOf.nil _ _ _) hb
    · refine h (some ⟨g, 0, none⟩) cap' w' ⟨hlen, _, _, rfl, hn', hcm', (by intro h; cases h), fun hp => ⟨g, 0, rfl, hbg, lt_of_get hgg, fun k u hu => ?_⟩⟩ hb
      rw [Nat.zero_add, cell_of_row w' g k cur e (0, 0) hgg]
      rw [← htake, List.getElem?_take] at hu
      split at hu
      · simpa using hu
      · cases hu

end Go.Proofs.YtakjbjokekbmbaaGreatDoor
