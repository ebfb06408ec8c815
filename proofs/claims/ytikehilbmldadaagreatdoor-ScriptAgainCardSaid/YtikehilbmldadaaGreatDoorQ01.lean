import Derived.WalkKit
import Derived.Test.YtikehilbmldadaaGreatDoorRows
import Derived.WalkSpells
import Derived.WalkLawsBesides
import Derived.Lib.Hide
import Derived.ProofKit
import Derived.OpenShut
import Derived.Deep.Slices
import Derived.Laws.AppendOwnNone
import Derived.LaidEql
import Derived.Stop.Asserts
import Derived.RowKitTokens
import Derived.Laws.AppendOwn
import Derived.Deep.RegionLaw
import Derived.Deep.DeepCutAuto
import Derived.Deep.QuietTactic
import Derived.Deep.DeepMust
import Derived.BigQuiet
import Derived.Deep.OwnRows
import Derived.Laws.IdiomStrings
import Derived.IntWalk
set_option maxHeartbeats 4000000
namespace Go.Proofs.YtikehilbmldadaaGreatDoor
set_option linter.unusedVariables false
def crcBit (c : Nat) : Nat := (c / 2) ^^^ (if c % 2 = 1 then 3988292384 else 0)
def crcIter : Nat → Nat → Nat
  | 0, c => c
  | k + 1, c => crcBit (crcIter k c)
def crcByte (c : Nat) (b : UInt8) : Nat := crcIter 8 (c ^^^ b.toNat)
def crcFold (l : List UInt8) (c : Nat) : Nat := l.foldl crcByte c
def crc (l : List UInt8) : Nat := 4294967295 - crcFold l 4294967295
theorem crcBit_lt {c : Nat} (h : c < 4294967296) : crcBit c < 4294967296 := by
  unfold crcBit
  refine Nat.xor_lt_two_pow (n := 32) (by omega) ?_
  split <;> decide
theorem crcIter_lt {k c : Nat} (h : c < 4294967296) : crcIter k c < 4294967296 := by
  induction k with
  | zero => exact h
  | succ k ih => exact crcBit_lt ih
theorem crcByte_lt {c : Nat} {b : UInt8} (h : c < 4294967296) : crcByte c b < 4294967296 := by
  refine crcIter_lt (Nat.xor_lt_two_pow (n := 32) h ?_)
  have := b.toNat_lt
  omega
theorem crcFold_lt : ∀ {l : List UInt8} {c : Nat}, c < 4294967296 → crcFold l c < 4294967296
  | [], _, h => h
  | b :: l, c, h => crcFold_lt (l := l) (crcByte_lt h)
theorem crc_lt (l : List UInt8) : crc l < 4294967296 := by unfold crc; omega
theorem crcFold_snoc (p : List UInt8) (x : UInt8) (c : Nat) : crcFold (p ++ [x]) c = crcByte (crcFold p c) x := by simp [crcFold]
def beB : Nat → Nat → List UInt8
  | 0, _ => []
  | m + 1, n => beB m (n / 256) ++ [UInt8.ofNat n]
theorem beB_length : ∀ m n, (beB m n).length = m
  | 0, _ => rfl
  | m + 1, n => by simp [beB, beB_length m]
def readB (l : List UInt8) : Nat := l.foldl (fun n b => 256 * n + b.toNat) 0
theorem readB_snoc (l : List UInt8) (b : UInt8) : readB (l ++ [b]) = 256 * readB l + b.toNat := by simp [readB]
theorem readB_beB : ∀ m n, readB (beB m n) = n % 256 ^ m
  | 0, n => by simp [beB, readB, Nat.mod_one]
  | m + 1, n => by
    have e : n % 256 ^ (m + 1) = n % 256 + 256 * (n / 256 % 256 ^ m) := by rw [Nat.pow_succ, Nat.mul_comm, Nat.mod_mul]
    rw [beB, readB_snoc, readB_beB m, UInt8.toNat_ofNat', e]
    omega
theorem readB_lt (l : List UInt8) : readB l < 256 ^ l.length := by
  rcases List.eq_nil_or_concat l with rfl | ⟨p, b, rfl⟩
  · decide
  · have ih := readB_lt p
    rw [List.concat_eq_append, readB_snoc, List.length_append, List.length_singleton, Nat.pow_succ]
    have := b.toNat_lt
    omega
termination_by l.length
decreasing_by all_goals (subst_vars; simp)
structure RecV where
  seq : Nat
  ent : Nat
  kind : Nat
  tick : Nat
deriving DecidableEq, Inhabited
structure RecOk (r : RecV) : Prop where
  s1 : 1 ≤ r.seq
  s2 : r.seq < 4294967296
  e : r.ent < 256
  k : r.kind < 256
  t : r.tick < 281474976710656
def recHead (r : RecV) : List UInt8 := beB 4 r.seq ++ beB 1 r.ent ++ beB 1 r.kind ++ beB 6 r.tick
def recBody (r : RecV) : List UInt8 := recHead r ++ beB 4 (crc (recHead r))
theorem recHead_length (r : RecV) : (recHead r).length = 12 := by simp [recHead, beB_length]
theorem recBody_length (r : RecV) : (recBody r).length = 16 := by simp [recBody, recHead_length, beB_length]
def recOf (s : List UInt8) : RecV := ⟨readB (s.take 4), readB ((s.drop 4).take 1), readB ((s.drop 5).take 1), readB ((s.drop 6).take 6)⟩
theorem recOf_ok (s : List UInt8) (h : 1 ≤ (recOf s).seq) : RecOk (recOf s) := by
  have h1 := readB_lt (s.take 4)
  have h2 := readB_lt ((s.drop 4).take 1)
  have h3 := readB_lt ((s.drop 5).take 1)
  have h4 := readB_lt ((s.drop 6).take 6)
  have p1 : 256 ^ (s.take 4).length ≤ 256 ^ 4 := Nat.pow_le_pow_right (by decide) (by simp; omega)
  have p2 : 256 ^ ((s.drop 4).take 1).length ≤ 256 ^ 1 := Nat.pow_le_pow_right (by decide) (by simp; omega)
  have p3 : 256 ^ ((s.drop 5).take 1).length ≤ 256 ^ 1 := Nat.pow_le_pow_right (by decide) (by simp; omega)
  have p4 : 256 ^ ((s.drop 6).take 6).length ≤ 256 ^ 6 := Nat.pow_le_pow_right (by decide) (by simp; omega)
  exact ⟨h, by show readB (s.take 4) < _; omega, by show readB ((s.drop 4).take 1) < _; omega, by show readB ((s.drop 5).take 1) < _; omega, by show readB ((s.drop 6).take 6) < _; omega⟩
theorem recOf_body (r : RecV) (h : RecOk r) (t : List UInt8) : recOf (recBody r ++ t) = r := by
  have l4 := beB_length 4 r.seq
  have l1 := beB_length 1 r.ent
  have l2 := beB_length 1 r.kind
  have l6 := beB_length 6 r.tick
  obtain ⟨A, hA⟩ : ∃ A, A = beB 4 r.seq := ⟨_, rfl⟩
  obtain ⟨B, hB⟩ : ∃ B, B = beB 1 r.ent := ⟨_, rfl⟩
  obtain ⟨C, hC⟩ : ∃ C, C = beB 1 r.kind := ⟨_, rfl⟩
  obtain ⟨D, hD⟩ : ∃ D, D = beB 6 r.tick := ⟨_, rfl⟩
  have e : recBody r ++ t = A ++ (B ++ (C ++ (D ++ (beB 4 (crc (recHead r)) ++ t)))) := by simp [recBody, recHead, hA, hB, hC, hD]
  rw [e]
  rw [← hA] at l4
  rw [← hB] at l1
  rw [← hC] at l2
  rw [← hD] at l6
  have d0 : (A ++ (B ++ (C ++ (D ++ (beB 4 (crc (recHead r)) ++ t))))).take 4 = A := by rw [← l4]; exact List.take_left
  have d4 : (A ++ (B ++ (C ++ (D ++ (beB 4 (crc (recHead r)) ++ t))))).drop 4 = B ++ (C ++ (D ++ (beB 4 (crc (recHead r)) ++ t))) := by rw [← l4]; exact List.drop_left
  have d5 : (A ++ (B ++ (C ++ (D ++ (beB 4 (crc (recHead r)) ++ t))))).drop 5 = C ++ (D ++ (beB 4 (crc (recHead r)) ++ t)) := by
    rw [show (5 : Nat) = 4 + 1 from rfl, ← List.drop_drop, d4, ← l1]; exact List.drop_left
  have d6 : (A ++ (B ++ (C ++ (D ++ (beB 4 (crc (recHead r)) ++ t))))).drop 6 = D ++ (beB 4 (crc (recHead r)) ++ t) := by
    rw [show (6 : Nat) = 5 + 1 from rfl, ← List.drop_drop, d5, ← l2]; exact List.drop_left
  have t4 : (B ++ (C ++ (D ++ (beB 4 (crc (recHead r)) ++ t)))).take 1 = B := by rw [← l1]; exact List.take_left
  have t5 : (C ++ (D ++ (beB 4 (crc (recHead r)) ++ t))).take 1 = C := by rw [← l2]; exact List.take_left
  have t6 : (D ++ (beB 4 (crc (recHead r)) ++ t)).take 6 = D := by rw [← l6]; exact List.take_left
  unfold recOf
  rw [d0, d4, d5, d6, t4, t5, t6, hA, hB, hC, hD, readB_beB, readB_beB, readB_beB, readB_beB]
  have a1 := h.s2
  have a2 := h.e
  have a3 := h.k
  have a4 := h.t
  rw [Nat.mod_eq_of_lt (show r.seq < 256 ^ 4 by omega), Nat.mod_eq_of_lt (show r.ent < 256 ^ 1 by omega), Nat.mod_eq_of_lt (show r.kind < 256 ^ 1 by omega), Nat.mod_eq_of_lt (show r.tick < 256 ^ 6 by omega)]
def heldRec (k : Nat) (s : List UInt8) : Option RecV :=
  if 1 ≤ (recOf s).seq ∧ ((recOf s).seq - 1) % 9 = k ∧ recBody (recOf s) ++ [165] = s then some (recOf s) else none
theorem heldRec_some {k : Nat} {s : List UInt8} {r : RecV} (h : heldRec k s = some r) : RecOk r ∧ (r.seq - 1) % 9 = k ∧ recBody r ++ [165] = s := by
  unfold heldRec at h
  split at h
  · rename_i hc
    obtain rfl := Option.some.inj h
    exact ⟨recOf_ok s hc.1, hc.2.1, hc.2.2⟩
  · cases h
theorem heldRec_body (r : RecV) (h : RecOk r) (k : Nat) (hk : (r.seq - 1) % 9 = k) : heldRec k (recBody r ++ [165]) = some r := by
  unfold heldRec
  rw [recOf_body r h [165]]
  rw [if_pos ⟨h.s1, hk, rfl⟩]
theorem heldRec_last {k : Nat} {s : List UInt8} (h : s[16]? ≠ some 165) : heldRec k s = none := by
  cases hh : heldRec k s with
  | none => rfl
  | some r =>
    obtain ⟨_, _, e⟩ := heldRec_some hh
    exfalso
    apply h
    rw [← e, List.getElem?_append_right (by rw [recBody_length]; exact Nat.le_refl _), recBody_length]
    rfl
def heldAt (b : List UInt8) (k : Nat) : Option RecV := heldRec k ((b.drop (k * 17)).take 17)
def HOk (H : Nat → Option RecV) : Prop := ∀ k r, H k = some r → RecOk r ∧ (r.seq - 1) % 9 = k
theorem heldAt_ok (b : List UInt8) : HOk (heldAt b) := fun k r h => ⟨(heldRec_some h).1, (heldRec_some h).2.1⟩
def seqAt (H : Nat → Option RecV) (k : Nat) : Nat := match H k with | some r => r.seq | none => 0
def bestOf (H : Nat → Option RecV) : Nat → Nat
  | 0 => 0
  | n + 1 => max (bestOf H n) (seqAt H n)
def runDown (H : Nat → Option RecV) : Nat → Nat → List RecV
  | 0, _ => []
  | _, 0 => []
  | f + 1, s + 1 => match H (s % 9) with
    | some r => if r.seq = s + 1 then runDown H f s ++ [r] else []
    | none => []
def recsOf (b : List UInt8) : List RecV := runDown (heldAt b) 8 (bestOf (heldAt b) 9)
theorem le_best (H : Nat → Option RecV) {k r : Nat} {x : RecV} (hx : H k = some x) : ∀ n, k < n → x.seq ≤ bestOf H n
  | 0, h => by omega
  | n + 1, h => by
    unfold bestOf
    by_cases e : k = n
    · subst e
      have : seqAt H k = x.seq := by simp [seqAt, hx]
      omega
    · have := le_best H (r := r) hx n (by omega)
      omega
theorem best_in (H : Nat → Option RecV) : ∀ n, bestOf H n = 0 ∨ ∃ k x, k < n ∧ H k = some x ∧ x.seq = bestOf H n
  | 0 => .inl rfl
  | n + 1 => by
    unfold bestOf
    rcases best_in H n with h0 | ⟨k, x, h1, h2, h3⟩
    · rw [h0, Nat.zero_max]
      cases hh : H n with
      | none => left; simp [seqAt, hh]
      | some y => right; exact ⟨n, y, by omega, hh, by simp [seqAt, hh]⟩
    · by_cases hle : seqAt H n ≤ bestOf H n
      · right; exact ⟨k, x, by omega, h2, by omega⟩
      · right
        cases hh : H n with
        | none => simp [seqAt, hh] at hle
        | some y =>
          have : seqAt H n = y.seq := by simp [seqAt, hh]
          exact ⟨n, y, by omega, hh, by omega⟩
theorem runDown_eq (H : Nat → Option RecV) : ∀ (f s : Nat) (M : List RecV), M.length ≤ f → (∀ j (hj : j < M.length), 1 ≤ M[j].seq ∧ H ((M[j].seq - 1) % 9) = some M[j] ∧ M[j].seq + (M.length - 1 - j) = s) →
    (M.length = f ∨ s = M.length ∨ (M.length < s ∧ ∀ r, H ((s - M.length - 1) % 9) = some r → r.seq ≠ s - M.length)) → runDown H f s = M
  | 0, s, M, hf, _, _ => by
    obtain rfl := List.eq_nil_of_length_eq_zero (show M.length = 0 by omega)
    simp [runDown]
  | f + 1, 0, M, hf, hM, _ => by
    cases M with
    | nil => simp [runDown]
    | cons a M =>
      have := hM 0 (by simp)
      omega
  | f + 1, s + 1, M, hf, hM, hstop => by
    rcases List.eq_nil_or_concat M with rfl | ⟨M', r, rfl⟩
    · unfold runDown
      simp at hstop
      cases hh : H (s % 9) with
      | none => rfl
      | some y => simp only; rw [if_neg (hstop y hh)]
    · rw [List.concat_eq_append] at hM hf hstop ⊢
      simp only [List.length_append, List.length_singleton] at hM hf hstop
      have hl := hM M'.length (by omega)
      rw [List.getElem_append_right (by omega)] at hl
      simp only [Nat.sub_self, List.getElem_singleton] at hl
      have hs : r.seq = s + 1 := by omega
      unfold runDown
      rw [show s = r.seq - 1 by omega, hl.2.1]
      simp only
      rw [if_pos (by omega)]
      congr 1
      refine runDown_eq H f (r.seq - 1) M' (by omega) (fun j hj => ?_) ?_
      · have := hM j (by omega)
        rw [List.getElem_append_left hj] at this
        exact ⟨this.1, this.2.1, by omega⟩
      · rcases hstop with h | h | ⟨h, h'⟩
        · left; omega
        · right; left; omega
        · right; right
          refine ⟨by omega, fun r2 hr2 => ?_⟩
          have := h' r2 (by rw [show s + 1 - (M'.length + 1) - 1 = r.seq - 1 - M'.length - 1 by omega]; exact hr2)
          omega
theorem recs_sorted (H : Nat → Option RecV) (hH : HOk H) (hH9 : ∀ k, 9 ≤ k → H k = none) (L : List RecV) (hmem : ∀ r, r ∈ L ↔ ∃ k, H k = some r) (hs : L.Pairwise (fun a b => a.seq < b.seq)) (i : Nat) (hi : i ≤ L.length) (h8 : L.length - i ≤ 8)
    (hrun : ∀ j (h1 : i ≤ j) (h2 : j < L.length), L[j].seq + (L.length - 1 - j) = (L.getLast?.map (·.seq)).getD 0) (hne : L ≠ [] → i < L.length)
    (hstop : i = 0 ∨ L.length - i = 8 ∨ ∃ (h0 : 0 < i) (h1 : i - 1 < L.length) (h2 : i < L.length), L[i - 1].seq + 1 ≠ L[i].seq) : runDown H 8 (bestOf H 9) = L.drop i := by
  have hbest : bestOf H 9 = (L.getLast?.map (·.seq)).getD 0 := by
    cases hL : L.getLast? with
    | none =>
      have : L = [] := by simpa using hL
      subst this
      rcases best_in H 9 with h | ⟨k, x, h1, h2, h3⟩
      · simpa using h
      · have := (hmem x).2 ⟨k, h2⟩
        cases this
    | some z =>
      have hzL : z ∈ L := List.mem_of_getLast? hL
      obtain ⟨k, hk⟩ := (hmem z).1 hzL
      have hk9 : k < 9 := Nat.lt_of_not_le (fun h => by rw [hH9 k h] at hk; cases hk)
      have h1 := le_best H (r := 0) hk 9 hk9
      rcases best_in H 9 with h | ⟨k2, x, q1, q2, q3⟩
      · have := (hH k z hk).1.s1; omega
      · have hxL := (hmem x).2 ⟨k2, q2⟩
        have hle : x.seq ≤ z.seq := by
          obtain ⟨j, hj, rfl⟩ := List.mem_iff_getElem.1 hxL
          have hz : z = L[L.length - 1]'(by omega) := by
            rw [List.getLast?_eq_getElem?, List.getElem?_eq_getElem (by omega)] at hL
            exact (Option.some.inj hL).symm
          rw [hz]
          by_cases e : j = L.length - 1
          · subst e; exact Nat.le_refl _
          · exact Nat.le_of_lt (List.pairwise_iff_getElem.1 hs j (L.length - 1) hj (by omega) (by omega))
        simp
        omega
  rw [hbest]
  have hat : ∀ j (hj : j < L.length), 1 ≤ L[j].seq ∧ H ((L[j].seq - 1) % 9) = some L[j] := fun j hj => by
    obtain ⟨k, hk⟩ := (hmem L[j]).1 (List.getElem_mem hj)
    have := hH k _ hk
    exact ⟨this.1.s1, by rw [this.2]; exact hk⟩
  refine runDown_eq H 8 _ (L.drop i) (by simp; omega) (fun j hj => ?_) ?_
  · simp only [List.length_drop] at hj
    rw [List.getElem_drop]
    have h1 := hat (i + j) (by omega)
    have h2 := hrun (i + j) (by omega) (by omega)
    refine ⟨h1.1, h1.2, ?_⟩
    rw [List.length_drop]
    omega
  · rw [List.length_drop]
    by_cases hLe : L = []
    · subst hLe
      right; left; simp
    have hiL := hne hLe
    have h0 := hrun i (Nat.le_refl _) hiL
    have hp := (hat i hiL).1
    rcases hstop with h | h | ⟨h00, h1, h2, h3⟩
    · subst h
      by_cases he : (L.getLast?.map (·.seq)).getD 0 = L.length
      · right; left; omega
      · right; right
        refine ⟨by omega, fun r hr hrs => ?_⟩
        have hrL := (hmem r).2 ⟨_, hr⟩
        obtain ⟨j, hj, rfl⟩ := List.mem_iff_getElem.1 hrL
        have := hrun j (Nat.zero_le _) hj
        omega
    · left; omega
    · right
      by_cases he : (L.getLast?.map (·.seq)).getD 0 = L.length - i
      · left; omega
      · right
        refine ⟨by omega, fun r hr hrs => ?_⟩
        have hrL := (hmem r).2 ⟨_, hr⟩
        obtain ⟨j, hj, rfl⟩ := List.mem_iff_getElem.1 hrL
        by_cases hij : i ≤ j
        · have := hrun j hij hj; omega
        · have p1 := fun (a b : Nat) (ha : a < L.length) (hb : b < L.length) (hab : a < b) => List.pairwise_iff_getElem.1 hs a b ha hb hab
          have hlt := p1 (i - 1) i h1 h2 (by omega)
          by_cases e : j = i - 1
          · subst e; omega
          · have := p1 j (i - 1) hj h1 (by omega); omega
open Go.ChangeShapes Go.WideShapes Go.ChangeAt Go.RowKit
theorem trodAll_below {H : Type} {enc : TypeId × Value → H} {P : Program} (hl : laidOutB P = true) {W W' : World} (hb : Below W.heap.size W W') {sp : Nat → Bool} :
    ∀ {ts : List TypeId} {vs : List Value} {ds : List (DataW H)} {ps : List MemPlace}, (∀ t ∈ ts, P.readableRec t = true ∧ t < P.types.size) → DataW.TrodAll enc P W 0 (fun _ => true) true ts vs ds ps →
      (∀ x ∈ ps, x.block < W.heap.size ∧ sp x.block = true) → DataW.TrodAll enc P W' 0 sp true ts vs ds ps
  | [], _, _, _, _, h, _ => by
    obtain ⟨rfl, rfl, rfl⟩ := trodAll_nil h
    exact rfl
  | t :: ts, _, _, _, hr, h, hlt => by
    obtain ⟨v, vs, d, ds, p, q, rfl, rfl, rfl, h1, h2⟩ := trodAll_cons h
    have ht := hr t (by simp)
    refine ⟨p, q, ?_, trodAll_below hl hb (fun t h => hr t (by simp [h])) h2 (fun x hx => hlt x (by simp [hx])), rfl⟩
    exact WideElems.Trod_stays hl ht.1 ht.2 h1 (fun x hx => hb.same (hlt x (by simp [hx])).1) (fun x hx => (hlt x (by simp [hx])).2)
theorem post_law {H : Type} {enc : TypeId × Value → H} {P : Program} {f : Func} {s : ChangeSpec} {W W' : World} {args : Array Value} {ds : List (DataW H)} {before : List MemPlace} {tb : TypeId}
    (hl : laidOutB P = true) (hr : f.params.toList.all (fun t => P.readableRec t && decide (t < P.types.size)) = true) (hvars : s.vars = []) (hres : f.resultTypes = #[tb]) (htb : P.underlying tb = some .bool)
    (hW : DataW.Whole enc P f.params.toList s.vars false W args.toList ds [] before) (hfn : s.fn H ds = { results := [.lit (.bool true)], args := ds }) (hb : Below W.heap.size W W') :
    s.post enc P f false true false false W args (.bool true) W' := by
  have hW0 := hW
  obtain ⟨p, q, hA, hV, rfl, _, _⟩ := hW
  rw [hvars] at hV
  obtain ⟨_, rfl⟩ := trodVars_none hV
  have hr' : ∀ t ∈ f.params.toList, P.readableRec t = true ∧ t < P.types.size := fun t ht => by
    have := List.all_eq_true.1 hr t ht
    simpa using this
  have hlt : ∀ x ∈ p, x.block < W.heap.size := fun x hx => by
    have := hW0.lt x (by simp [hx])
    simpa using this
  have hfn' : s.fn H (ds ++ []) = { results := [.lit (.bool true)], args := ds } := by rw [List.append_nil]; exact hfn
  refine ⟨ds, [], p ++ [], [], p, [], hW0, ?_, ?_, ?_, ?_, fun h => by cases h⟩
  · rw [hres, hfn']
    exact trodAll_cons_mk (shut_bool htb _) trodAll_mk0
  · rw [hfn']
    exact trodAll_below hl hb hr' hA (fun x hx => ⟨hlt x hx, by simpa using hlt x hx⟩)
  · rw [hfn', hvars]
    exact rfl
  · exact hb.frame _
theorem ret_int {k : IntKind} {a b : Int} (h : a = b) : Ending.returned (.int k a) = .returned (.int k b) := by rw [h]
theorem ret_bool {a b : Bool} (h : a = b) : Ending.returned (.bool a) = .returned (.bool b) := by rw [h]
theorem val_bool {a b : Bool} (h : a = b) : Value.bool a = .bool b := by rw [h]
structure Keep (S : Nat → Prop) (w w' : World) : Prop where
  os : w'.os = w.os
  tape : w'.tape = w.tape
  output : w'.output = w.output
  size : w.heap.size ≤ w'.heap.size
  block : ∀ k, k < w.heap.size → ¬ S k → w'.heap[k]? = w.heap[k]?
theorem Keep.refl (S : Nat → Prop) (w : World) : Keep S w w := ⟨rfl, rfl, rfl, Nat.le_refl _, fun _ _ _ => rfl⟩
theorem Keep.trans {S : Nat → Prop} {a b c : World} (h : Keep S a b) (k : Keep S b c) : Keep S a c :=
  ⟨k.os.trans h.os, k.tape.trans h.tape, k.output.trans h.output, Nat.le_trans h.size k.size, fun i hi hs => (k.block i (Nat.lt_of_lt_of_le hi h.size) hs).trans (h.block i hi hs)⟩
theorem Keep.mono {S T : Nat → Prop} {w w' : World} (h : Keep S w w') (hs : ∀ k, k < w.heap.size → S k → T k) : Keep T w w' :=
  ⟨h.os, h.tape, h.output, h.size, fun k hk ht => h.block k hk (fun x => ht (hs k hk x))⟩
theorem Keep.drew {S : Nat → Prop} {a w : World} (h : Keep S a w) : Keep S a w.drew := ⟨h.os, h.tape, h.output, h.size, h.block⟩
theorem Keep.alloc {S : Nat → Prop} {a w : World} (h : Keep S a w) (o : Obj) : Keep S a (w.alloc o) :=
  h.trans ⟨rfl, rfl, rfl, by simp, fun k hk _ => Below.heap_alloc _ _ _ hk⟩
theorem Keep.setCell {S : Nat → Prop} {a w : World} (h : Keep S a w) {p : Addr} (hp : p.block < a.heap.size → S p.block) (u : Value) : Keep S a (w.setCell p u) :=
  ⟨h.os, h.tape, h.output, by simpa [World.setCell] using h.size, fun k hk hs => (Below.heap_setCell _ _ _ _ (fun e => by subst e; exact hs (hp hk))).trans (h.block k hk hs)⟩
theorem keep_set (w : World) (b o : Nat) (u : Value) : Keep (· = b) w (w.setCell ⟨b, o, none⟩ u) :=
  Keep.setCell (S := (· = b)) (p := ⟨b, o, none⟩) (Keep.refl _ _) (fun _ => rfl) u
theorem keep_more {b : Nat} {w0 w : World} (h : Keep (· = b) w0 w) (o : Nat) (u : Value) : Keep (· = b) w0 (w.setCell ⟨b, o, none⟩ u) :=
  Keep.setCell (S := (· = b)) (p := ⟨b, o, none⟩) h (fun _ => rfl) u
theorem Keep.step {S T : Nat → Prop} {a w w' : World} (h : Keep S a w) (k : Keep T w w') (hT : ∀ b, T b → b < a.heap.size → S b) : Keep S a w' :=
  ⟨k.os.trans h.os, k.tape.trans h.tape, k.output.trans h.output, Nat.le_trans h.size k.size, fun i hi hs => (k.block i (Nat.lt_of_lt_of_le hi h.size) (fun t => hs (hT i t hi))).trans (h.block i hi hs)⟩
theorem Keep.below {S : Nat → Prop} {w w' : World} (h : Keep S w w') {B : Nat} (hB : B ≤ w.heap.size) (hs : ∀ k, S k → B ≤ k) : Below B w w' :=
  ⟨h.os, h.tape, h.output, h.size, fun k hk => h.block k (by omega) (fun x => by have := hs k x; omega)⟩
theorem Keep.of_below {B : Nat} {w w' : World} (h : Below B w w') : Keep (fun k => B ≤ k) w w' := ⟨h.os, h.tape, h.output, h.size, fun k _ hs => h.block k (by omega)⟩
theorem Keep.of_grown {w w' : World} {row : Option Nat} (h : w.grownBy w' row) : Keep (fun k => some k = row) w w' := ⟨h.os, h.tape, h.output, h.size, fun k hk hs => h.block k hk hs⟩
theorem Keep.new {w w' : World} (h : Keep (fun _ => False) w w') : Below w.heap.size w w' := ⟨h.os, h.tape, h.output, h.size, fun k hk => h.block k hk (fun x => x)⟩
theorem below_keep {w w' : World} (h : Below w.heap.size w w') : Keep (fun _ => False) w w' := ⟨h.os, h.tape, h.output, h.size, fun k hk _ => h.block k hk⟩
theorem Keep.cell {S : Nat → Prop} {w w' : World} (h : Keep S w w') {p : Addr} (hp : p.block < w.heap.size) (hs : ¬ S p.block) : w'.cell? p = w.cell? p := World.cell?_of_block (w := w) (h.block p.block hp hs)
theorem Keep.get {S : Nat → Prop} {w w' : World} (h : Keep S w w') {b : Nat} {o : Obj} (hb : w.heap[b]? = some o) (hs : ¬ S b) : w'.heap[b]? = some o := by
  rw [h.block b (Array.getElem?_eq_some_iff.1 hb).1 hs]; exact hb
theorem below_get {B : Nat} {w w' : World} (h : Below B w w') {b : Nat} {o : Obj} (hb : w.heap[b]? = some o) (hs : b < B) : w'.heap[b]? = some o := by
  rw [h.block b hs]; exact hb
theorem lt_of_get {w : World} {b : Nat} {o : Obj} (hb : w.heap[b]? = some o) : b < w.heap.size := (Array.getElem?_eq_some_iff.1 hb).1
theorem get_drewN {w : World} {b : Nat} {o : Obj} (n : Nat) (h : w.heap[b]? = some o) : (w.drewN n).heap[b]? = some o := h
theorem below_drewN' {B : Nat} {w0 w : World} (n : Nat) (h : Below B w0 w) : Below B w0 (w.drewN n) := ⟨h.os, h.tape, h.output, h.size, h.block⟩
theorem keep_drewN {S : Nat → Prop} {w0 w : World} (n : Nat) (h : Keep S w0 w) : Keep S w0 (w.drewN n) := ⟨h.os, h.tape, h.output, h.size, h.block⟩
theorem get_setCell {w : World} {b o : Nat} {cs : Array Value} {t : TypeId} {fr : Nat × Nat} (u : Value) (hb : w.heap[b]? = some (.cells cs t fr)) : (w.setCell ⟨b, o, none⟩ u).heap[b]? = some (.cells (cs.setIfInBounds o u) t fr) := by
  simp [World.setCell, Array.getElem?_modify, hb]
theorem get_alloc_new (w : World) (o : Obj) : (w.alloc o).heap[w.heap.size]? = some o := heap_alloc_new w o
theorem get_alloc_old {w : World} {b : Nat} {x : Obj} (o : Obj) (hb : w.heap[b]? = some x) : (w.alloc o).heap[b]? = some x := by
  rw [Below.heap_alloc _ _ _ (lt_of_get hb)]; exact hb
theorem ownsRow_keep' {S : Nat → Prop} {w w' : World} {base : Nat} {e : TypeId} {size : Nat} {v : Value} {n : Nat} {xs : List Value} (h : w.ownsRow base e size v n xs) (hk : Keep S w w') (hS : ∀ b, base ≤ b → b < w.heap.size → ¬ S b) : w'.ownsRow base e size v n xs := by
  refine ⟨h.1, ?_⟩
  rcases h.2 with hn | ⟨g, cap, cur, rfl, hb, hgg, rest⟩
  · exact .inl hn
  · exact .inr ⟨g, cap, cur, rfl, hb, hk.get hgg (hS g hb (lt_of_get hgg)), rest⟩
def SlOf (R : Nat → Prop) (w : World) (v : Value) (sz : Nat) (cs : List Value) (n : Nat) : Prop :=
  cs.length = n * sz ∧ ∃ (ao : Option Addr) (cap : Nat), v = .slice ao n cap ∧ n ≤ cap ∧ cap ≤ maxLen ∧ (ao = none → cap = 0) ∧
    (0 < cs.length → ∃ b off, ao = some ⟨b, off, none⟩ ∧ R b ∧ b < w.heap.size ∧ ∀ k u, cs[k]? = some u → w.cell? ⟨b, off + k, none⟩ = some u)
theorem SlOf.keep {R S : Nat → Prop} {w w' : World} {v : Value} {sz : Nat} {cs : List Value} {n : Nat} (h : SlOf R w v sz cs n) (hk : Keep S w w') (hd : ∀ b, R b → ¬ S b) : SlOf R w' v sz cs n := by
  obtain ⟨hl, ao, cap, hv, h1, h2, h3, h4⟩ := h
  refine ⟨hl, ao, cap, hv, h1, h2, h3, fun hp => ?_⟩
  obtain ⟨b, off, ha, hR, hb, hc⟩ := h4 hp
  exact ⟨b, off, ha, hR, Nat.lt_of_lt_of_le hb hk.size, fun k u hu => by rw [hk.cell hb (hd b hR)]; exact hc k u hu⟩
theorem SlOf.mono {R S : Nat → Prop} {w : World} {v : Value} {sz : Nat} {cs : List Value} {n : Nat} (h : SlOf R w v sz cs n) (hd : ∀ b, R b → S b) : SlOf S w v sz cs n := by
  obtain ⟨hl, ao, cap, hv, h1, h2, h3, h4⟩ := h
  refine ⟨hl, ao, cap, hv, h1, h2, h3, fun hp => ?_⟩
  obtain ⟨b, off, ha, hR, hb, hc⟩ := h4 hp
  exact ⟨b, off, ha, hd b hR, hb, hc⟩
theorem SlOf.below {B : Nat} {R : Nat → Prop} {w w' : World} {v : Value} {sz : Nat} {cs : List Value} {n : Nat} (h : SlOf R w v sz cs n) (hk : Below B w w') (hd : ∀ b, R b → b < B) : SlOf R w' v sz cs n :=
  h.keep (Keep.of_below hk) (fun b hb => by have := hd b hb; omega)
theorem SlOf.nil (R : Nat → Prop) (w : World) (sz : Nat) : SlOf R w (.slice none 0 0) sz [] 0 := ⟨by simp, none, 0, rfl, by omega, by simp [maxLen], fun _ => rfl, fun h => by simp at h⟩
theorem flat_get {α β : Type} (f : α → List β) (sz : Nat) (hf : ∀ x, (f x).length = sz) : ∀ (l : List α) (k : Nat) (hk : k < l.length) (j : Nat), j < sz → (l.flatMap f)[k * sz + j]? = (f l[k])[j]?
  | [], k, hk, _, _ => by simp at hk
  | x :: l, 0, _, j, hj => by
    rw [List.flatMap_cons, List.getElem?_append_left (by rw [hf]; omega)]
    simp
  | x :: l, k + 1, hk, j, hj => by
    rw [List.flatMap_cons, List.getElem?_append_right (by rw [hf, Nat.add_mul]; omega), hf]
    have := flat_get f sz hf l k (by simpa using hk) j hj
    rw [show (k + 1) * sz + j - sz = k * sz + j from by rw [Nat.add_mul]; omega]
    simpa using this
theorem flat_len {α β : Type} (f : α → List β) (sz : Nat) (hf : ∀ x, (f x).length = sz) (l : List α) : (l.flatMap f).length = l.length * sz := by
  induction l with
  | nil => simp
  | cons x l ih => rw [List.flatMap_cons, List.length_append, hf, ih, List.length_cons, Nat.add_mul]; omega
theorem SlOf.elem {α : Type} {f : α → List Value} {R : Nat → Prop} {w : World} {ao : Option Addr} {n cap sz : Nat} {l : List α} (h : SlOf R w (.slice ao n cap) sz (l.flatMap f) l.length) (hf : ∀ x, (f x).length = sz) (hsz : 0 < sz) (h0 : 0 < l.length) :
    ∃ b off, ao = some ⟨b, off, none⟩ ∧ R b ∧ b < w.heap.size ∧ ∀ k (hk : k < l.length) j u, (f l[k])[j]? = some u → w.cell? ⟨b, off + k * sz + j, none⟩ = some u := by
  obtain ⟨hl, ao', cap', hv, h1, h2, h3, h4⟩ := h
  obtain ⟨rfl, rfl, rfl⟩ := hv
  obtain ⟨b, off, ha, hR, hb, hc⟩ := h4 (by rw [hl]; exact Nat.mul_pos h0 hsz)
  refine ⟨b, off, ha, hR, hb, fun k hk j u hu => ?_⟩
  have hj : j < sz := by rw [← hf l[k]]; exact (List.getElem?_eq_some_iff.1 hu).1
  rw [Nat.add_assoc]
  exact hc _ _ (by rw [flat_get f sz hf l k hk j hj]; exact hu)
theorem addr_add (b off k : Nat) : (⟨b, off, none⟩ : Addr).add k = ⟨b, off + k, none⟩ := by unfold Addr.add; split <;> simp_all
theorem new_cells (w : World) (l : List Value) (t : TypeId) : ∀ j u, l[j]? = some u → (w.alloc (.cells l.toArray t)).cell? ((⟨w.heap.size, 0, none⟩ : Addr).add j) = some u := by
  intro j u hu
  have h := get_alloc_new w (.cells l.toArray t)
  rw [addr_add, Nat.zero_add, cell_of_row _ _ j _ _ _ h]
  simpa using hu
theorem wpList_append_copy {P : Program} {w : World} {ops : Array Oper} {rest : List Oper} {o : Oper} {a : Act} {Q : Exit → Act → World → Prop} (hgd : o.guard = none) (s x : Operand) (t : TypeId)
    (ho : o.op = .call { callee := .builtin .append, args := #[s, x], argTypes := #[t, t] })
    (e : TypeId) (i : TypeInfo) (z : Value) (size bytes : Nat) (ht : P.underlying t = some (.slice e)) (hi : P.info? e = some i) (hz : i.zero = some z)
    (hsize : i.size = size) (hby : i.bytes = bytes) (hzs : z.cells.size = size) (hsz : 0 < size)
    (hs : a.eval s = .slice none 0 0) (R : Nat → Prop) (v : Value) (n : Nat) (cs : List Value) (hx : a.eval x = v) (hsl : SlOf R w v size cs n) (h1 : ∀ u ∈ cs, u.oneCell' = true) (hbytes : n * bytes ≤ 140737488355328)
    (h : ∀ ao cap w', SlOf (fun b => w.heap.size ≤ b) w' (.slice ao n cap) size cs n → Below w.heap.size w w' → wpList P ops Q rest (a.put o.dst (.slice ao n cap)) w') : wpList P ops Q (o :: rest) a w := by
  obtain ⟨hl, ao, cap, rfl, hnc, hcm, hnone, hcells⟩ := hsl
  cases ao with
  | none =>
    obtain rfl := hnone rfl
    obtain rfl : n = 0 := by omega
    obtain rfl : cs = [] := List.eq_nil_of_length_eq_zero (by simpa using hl)
    refine wpList_append_own_none hgd s x t ho w.heap.size e i size ht hi (.slice none 0 0) 0 [] hs (World.ownsRow_nil _ _ _ _) hx ?_
    exact h none 0 w (SlOf.nil _ _ _) (Below.refl _ _)
  | some ad =>
    have hnews : ∀ j u, cs[j]? = some u → w.cell? (ad.add j) = some u := by
      intro j u hu
      have hj : j < cs.length := (List.getElem?_eq_some_iff.1 hu).1
      obtain ⟨b, off, ha, _, _, hc⟩ := hcells (by omega)
      obtain rfl := Option.some.inj ha
      rw [addr_add]
      exact hc j u hu
    refine wpList_append_own w hgd s x t ho w.heap.size e i z size bytes ht hi hz hsize hby hzs hsz (.slice none 0 0) 0 [] hs (World.ownsRow_nil _ _ _ _) ad n cap cs hx hl hnews h1 (by omega) (by rw [Nat.zero_add]; omega) (Nat.le_refl _) ?_
    intro v' w' hown hg hnil
    rw [Nat.zero_add, List.nil_append] at hown
    have hb : Below w.heap.size w w' := (Below.refl _ _).grown hg (Nat.le_refl _) (fun k hk => by cases hk)
    obtain ⟨hlen, hv⟩ := hown
    rcases hv with ⟨rfl, rfl⟩ | ⟨g, cap', cur, rfl, hbg, hgg, hn', hcm', hcs, htake⟩
    · obtain rfl : cs = [] := List.eq_nil_of_length_eq_zero (by simpa using hlen)
      exact h none 0 w' (SlOf.nil _ _ _) hb
    · refine h (some ⟨g, 0, none⟩) cap' w' ⟨hlen, _, _, rfl, hn', hcm', (by intro h; cases h), fun hp => ⟨g, 0, rfl, hbg, lt_of_get hgg, fun k u hu => ?_⟩⟩ hb
      rw [Nat.zero_add, cell_of_row w' g k cur e (0, 0) hgg]
      rw [← htake, List.getElem?_take] at hu
      split at hu
      · simpa using hu
      · cases hu
open Go.RowKit Go.Extern.Stop Go.Stop Go.Extern
theorem Tryz.valueOfPP (t : Addr) (w : World) : (ReflectliteValue.unpack (.iface 170 (.pointer (some t)))).run Tryz.prog w
    = .ok (.agg #[.pointer (some ⟨25, 170, none⟩), .pointer (some ⟨w.heap.size, 0, none⟩), .int .u64 150]) (w.alloc (.cells #[.pointer (some t)] 170)) := by kernel_rfl
theorem Tryz.typePP (a : Addr) (w : World) : (ReflectliteValue.methodAny (ReflectliteValue.valueError "reflectlite.Value.Type" 0) (fun t _ _ _ => ReflectliteType.toType t) #[.agg #[.pointer (some ⟨25, 170, none⟩), .pointer (some a), .int .u64 150]]).run Tryz.prog w
    = .ok (.iface 283 (.agg #[.pointer (some ⟨25, 170, none⟩)])) w := by kernel_rfl
theorem Tryz.methodKind (h : Value) (w : World) : (Go.method 514 283 (.agg #[h]) "Kind").run Tryz.prog w = .ok (312, h) w := by kernel_rfl
theorem Tryz.kindPP (w : World) : ((ReflectliteType.abiMethod fun t => (fun a : Nat => Value.int IntKind.u8 (a : Int)) <$> Rtype.kind t) #[.pointer (some ⟨25, 170, none⟩)]).run Tryz.prog w = .ok (.int .u8 22) w := by kernel_rfl
theorem Tryz.kindP (w : World) : ((ReflectliteType.abiMethod fun t => (fun a : Nat => Value.int IntKind.u8 (a : Int)) <$> Rtype.kind t) #[.pointer (some ⟨25, 154, none⟩)]).run Tryz.prog w = .ok (.int .u8 22) w := by kernel_rfl
theorem rlm (z : Sem Value) (f : TypeId → Addr → Nat → Nat → Sem Value) (v : Value) :
    ReflectliteValue.method z f #[v] = (do match ← ReflectliteValue.parts v with | none => z | some (t, a, fl) => f t a fl (fl % 32)) := rfl
theorem Tryz.partsPP (a : Addr) (w : World) : (ReflectliteValue.parts (.agg #[.pointer (some ⟨25, 170, none⟩), .pointer (some a), .int .u64 150])).run Tryz.prog w = .ok (some (170, a, 150)) w := by kernel_rfl
theorem Tryz.isNilPP (a p : Addr) (W : World) (ha : W.cell? a = some (.pointer (some p))) :
    (ReflectliteValue.method (ReflectliteValue.valueError "reflectlite.Value.IsNil" 0) ReflectliteValue.isNil #[.agg #[.pointer (some ⟨25, 170, none⟩), .pointer (some a), .int .u64 150]]).run Tryz.prog W = .ok (.bool false) W := by
  rw [rlm]
  simp only [Sem.run_bind, Tryz.partsPP, Result.andThen]
  simp [ReflectliteValue.isNil, loadVar, isAgg, underlying, Tryz.underlying170, ha, Result.andThen]
theorem Tryz.methodElem (h : Value) (w : World) : (Go.method 514 283 (.agg #[h]) "Elem").run Tryz.prog w = .ok (327, .agg #[h]) w := by kernel_rfl
theorem Tryz.methodImplements (h : Value) (w : World) : (Go.method 514 283 (.agg #[h]) "Implements").run Tryz.prog w = .ok (328, .agg #[h]) w := by kernel_rfl
theorem Tryz.methodAssignableTo (h : Value) (w : World) : (Go.method 514 283 (.agg #[h]) "AssignableTo").run Tryz.prog w = .ok (325, .agg #[h]) w := by kernel_rfl
theorem Tryz.elemPP (w : World) : (ReflectliteType.method ReflectliteType.elem #[.agg #[.pointer (some ⟨25, 170, none⟩)]]).run Tryz.prog w = .ok (.iface 283 (.agg #[.pointer (some ⟨25, 154, none⟩)])) w := by kernel_rfl
theorem Tryz.implementsP (w : World) : (ReflectliteType.relation "Implements" ReflectliteType.implements_ #[.agg #[.pointer (some ⟨25, 154, none⟩)], .iface 283 (.agg #[.pointer (some ⟨25, 25, none⟩)])]).run Tryz.prog w = .ok (.bool true) w := by kernel_rfl
theorem Tryz.typeOfE (v : Value) (w : World) : (ReflectliteType.typeOf #[.iface 372 v]).run Tryz.prog w = .ok (.iface 283 (.agg #[.pointer (some ⟨25, 372, none⟩)])) w := by kernel_rfl
theorem Tryz.assignableE (w : World) : (ReflectliteType.relation "AssignableTo" ReflectliteType.assignableTo #[.agg #[.pointer (some ⟨25, 372, none⟩)], .iface 283 (.agg #[.pointer (some ⟨25, 154, none⟩)])]).run Tryz.prog w = .ok (.bool false) w := by kernel_rfl
theorem Tryz.noAsE (v : Value) (xT : TypeId) (w : World) : (Instr.typeAssert (.iface 372 v) xT 287 true).run Tryz.prog w = .ok (.tuple #[.nilIface, .bool false]) w := run_typeAssert_lacksB Tryz.underlying287 (by kernel_rfl) (by kernel_rfl) v xT w
theorem Tryz.noUnwrapE (v : Value) (xT : TypeId) (w : World) : (Instr.typeAssert (.iface 372 v) xT 290 true).run Tryz.prog w = .ok (.tuple #[.nilIface, .bool false]) w := run_typeAssert_lacksB Tryz.underlying290 (by kernel_rfl) (by kernel_rfl) v xT w
theorem Tryz.noUnwrapsE (v : Value) (xT : TypeId) (w : World) : (Instr.typeAssert (.iface 372 v) xT 291 true).run Tryz.prog w = .ok (.tuple #[.nilIface, .bool false]) w := run_typeAssert_lacksB Tryz.underlying291 (by kernel_rfl) (by kernel_rfl) v xT w
theorem as_miss (e t : Addr) (w : World) (hg : w.cell? ⟨11, 0, none⟩ = some (.iface 283 (.agg #[.pointer (some ⟨25, 25, none⟩)]))) :
    Calls Tryz.prog 78 #[.iface 372 (.pointer (some e)), .iface 170 (.pointer (some t))] w fun ev w' => ev = .returned (.bool false) ∧ Below w.heap.size w w' := by
  have h6 := @run_callFunc_extern Tryz.prog 144 _ (fun args => ReflectliteValue.unpack (args.getD 0 (.tuple #[]))) Tryz.func144 (by kernel_rfl) (by kernel_rfl) (by kernel_rfl) (by kernel_rfl)
  have h7 := @run_callFunc_extern Tryz.prog 145 _ (ReflectliteValue.methodAny (ReflectliteValue.valueError "reflectlite.Value.Type" 0) (fun t _ _ _ => ReflectliteType.toType t)) Tryz.func145 (by kernel_rfl) (by kernel_rfl) (by kernel_rfl) (by kernel_rfl)
  have h8 := @run_callFunc_extern Tryz.prog 146 _ (ReflectliteValue.method (ReflectliteValue.valueError "reflectlite.Value.IsNil" 0) ReflectliteValue.isNil) Tryz.func146 (by kernel_rfl) (by kernel_rfl) (by kernel_rfl) (by kernel_rfl)
  have h27 := @run_callFunc_extern Tryz.prog 312 _ (ReflectliteType.abiMethod fun t => do pure (.int .u8 (← Rtype.kind t))) Tryz.func312 (by kernel_rfl) (by kernel_rfl) (by kernel_rfl) (by kernel_rfl)
  have h37 := @run_callFunc_extern Tryz.prog 327 _ (ReflectliteType.method ReflectliteType.elem) Tryz.func327 (by kernel_rfl) (by kernel_rfl) (by kernel_rfl) (by kernel_rfl)
  have h38 := @run_callFunc_extern Tryz.prog 328 _ (ReflectliteType.relation "Implements" ReflectliteType.implements_) Tryz.func328 (by kernel_rfl) (by kernel_rfl) (by kernel_rfl) (by kernel_rfl)
  have h10 := @run_callFunc_extern Tryz.prog 149 _ ReflectliteType.typeOf Tryz.func149 (by kernel_rfl) (by kernel_rfl) (by kernel_rfl) (by kernel_rfl)
  have h35 := @run_callFunc_extern Tryz.prog 325 _ (ReflectliteType.relation "AssignableTo" ReflectliteType.assignableTo) Tryz.func325 (by kernel_rfl) (by kernel_rfl) (by kernel_rfl) (by kernel_rfl)
  have tO := Tryz.typeOfE
  have mA := Tryz.methodAssignableTo
  have aE := Tryz.assignableE
  have f6 := Tryz.valueOfPP
  have f7 := Tryz.typePP
  have mK := Tryz.methodKind
  have mE := Tryz.methodElem
  have mI := Tryz.methodImplements
  have kPP := Tryz.kindPP
  have kP := Tryz.kindP
  have ePP := Tryz.elemPP
  have iP := Tryz.implementsP
  have nA := Tryz.noAsE
  have nU := Tryz.noUnwrapE
  have nV := Tryz.noUnwrapsE
  have n8 := Tryz.isNilPP ⟨w.heap.size, 0, none⟩ t ((w.alloc (.cells #[.pointer (some t)] 170)).alloc (.cells #[.pointer (some ⟨25, 170, none⟩), .pointer (some ⟨w.heap.size, 0, none⟩), .int .u64 150] 228)) (by simp)
  have hlt : 11 < w.heap.size := World.block_lt_of_cell? _ ⟨11, 0, none⟩ hg
  have hg2 : ((w.alloc (.cells #[.pointer (some t)] 170)).alloc (.cells #[.pointer (some ⟨25, 170, none⟩), .pointer (some ⟨w.heap.size, 0, none⟩), .int .u64 150] 228)).cell? ⟨11, 0, none⟩ = some (.iface 283 (.agg #[.pointer (some ⟨25, 25, none⟩)])) := by
    rw [World.cell?_alloc_lt _ _ ⟨11, 0, none⟩ (by simp; omega), World.cell?_alloc_lt _ _ ⟨11, 0, none⟩ hlt]; exact hg
  go_enter Tryz.func78, Tryz.ntmps78
  go_wp2
  refine wp_loop_rounds 1 ?_
  rw [rounds_succ]
  go_wp2
  go_ret
  exact ⟨rfl, (((Below.refl _ _).alloc (Nat.le_refl _) _).alloc (by simp) _).alloc (by simp; omega) _⟩
open Go.RowKit
theorem step_append_own {P : Program} {w : World} {ops : Array Oper} {o : Oper} {a : Act} {K : Act → World → Prop} {Q : Exit → Act → World → Prop} {E : Prop} (hgd : o.guard = none) (s x : Operand) (t : TypeId)
    (ho : o.op = .call { callee := .builtin .append, args := #[s, x], argTypes := #[t, t] })
    (base : Nat) (e : TypeId) (i : TypeInfo) (z : Value) (size bytes : Nat) (ht : P.underlying t = some (.slice e)) (hi : P.info? e = some i) (hz : i.zero = some z)
    (hsize : i.size = size) (hby : i.bytes = bytes) (hzs : z.cells.size = size) (hsz : 0 < size)
    (v : Value) (n : Nat) (xs : List Value) (hs : a.eval s = v) (hown : w.ownsRow base e size v n xs)
    (ad : Addr) (m c : Nat) (news : List Value) (hx : a.eval x = .slice (some ad) m c) (hl : news.length = m * size) (hnews : ∀ j u, news[j]? = some u → w.cell? (ad.add j) = some u) (h1 : ∀ u ∈ news, u.oneCell' = true)
    (h63 : n + m ≤ maxLen) (hbytes : (n + m) * bytes ≤ 140737488355328) (hbase : base ≤ w.heap.size)
    (h : ∀ ao cap w', w'.ownsRow base e size (.slice ao (n + m) cap) (n + m) (xs ++ news) → w.grownBy w' v.ownBlock → K (a.put o.dst (.slice ao (n + m) cap)) w') :
    if Region.wanted o (yielded ops a.tmps) = true then Oper.wp P o a w K Q else E := by
  have hw : Region.wanted o (yielded ops a.tmps) = true := by simp [Region.wanted, hgd]
  rw [if_pos hw]
  refine wp_append_own w s x t ho base e i z size bytes ht hi hz hsize hby hzs hsz v n xs hs hown ad m c news hx hl hnews h1 h63 hbytes hbase ?_
  intro v' w' ho' hg _
  rcases ho'.2 with ⟨hv, hn⟩ | ⟨g, cap, cur, hv, _⟩
  · rw [hv] at ho' ⊢
    have := h none 0 w' (by rw [hn] at ho' ⊢; exact ho') hg
    rw [hn] at this; exact this
  · rw [hv] at ho' ⊢
    exact h _ _ w' ho' hg
theorem ownsRow_keepO {S : Nat → Prop} {w w' : World} {base : Nat} {e : TypeId} {size : Nat} {v : Value} {n : Nat} {xs : List Value} (h : w.ownsRow base e size v n xs) (hk : Keep S w w') (hS : ∀ b, v.ownBlock = some b → ¬ S b) : w'.ownsRow base e size v n xs := by
  refine ⟨h.1, ?_⟩
  rcases h.2 with hn | ⟨g, cap, cur, rfl, hb, hgg, rest⟩
  · exact .inl hn
  · exact .inr ⟨g, cap, cur, rfl, hb, hk.get hgg (hS g rfl), rest⟩
theorem cell_old {w : World} {a : Addr} {v : Value} (h : w.cell? a = some v) (o : Obj) : (w.alloc o).cell? a = some v := by
  have hb := World.block_lt_of_cell? w a h
  rw [World.cell?_of_block (w := w) (Below.heap_alloc _ _ _ hb)]; exact h
theorem two_cells {w : World} {b : Nat} {c0 c1 : Value} {t : TypeId} (h : w.heap[b]? = some (.cells #[c0, c1] t)) :
    w.cell? ⟨b, 0, none⟩ = some c0 ∧ w.cell? ⟨b, 1, none⟩ = some c1 ∧ ∀ o, w.frozen? ⟨b, o, none⟩ = false := by
  simp [World.cell?, World.frozen?, h]
theorem grown_two {W w1 : World} {g : Nat} {c0 c1 : Value} {t : TypeId} {o : Option Nat} (hg : W.grownBy w1 o) (hh : W.heap[g]? = some (.cells #[c0, c1] t)) (hne : o ≠ some g) :
    w1.heap[g]? = some (.cells #[c0, c1] t) := by
  rw [hg.block g (lt_of_get hh) (fun e => hne e.symm)]; exact hh
theorem slOf_alloc (w : World) (l : List Value) (t : TypeId) (sz n : Nat) (hl : l.length = n * sz) (hn : n ≤ maxLen) : SlOf (· = w.heap.size) (w.alloc (.cells l.toArray t)) (.slice (some ⟨w.heap.size, 0, none⟩) n n) sz l n := by
  refine ⟨hl, _, _, rfl, Nat.le_refl _, hn, (fun h => by cases h), fun _ => ⟨w.heap.size, 0, rfl, rfl, by simp, fun k u hu => ?_⟩⟩
  have := new_cells w l t k u hu
  rwa [addr_add] at this
theorem slOf_owns {w : World} {base : Nat} {e : TypeId} {size : Nat} {v : Value} {n : Nat} {xs : List Value} (h : w.ownsRow base e size v n xs) : SlOf (fun b => base ≤ b) w v size xs n := by
  obtain ⟨hl, hv⟩ := h
  rcases hv with ⟨rfl, rfl⟩ | ⟨g, cap, cur, rfl, hb, hg, h1, h2, _, htake⟩
  · obtain rfl : xs = [] := List.eq_nil_of_length_eq_zero (by simpa using hl)
    exact SlOf.nil _ _ _
  · refine ⟨hl, _, _, rfl, h1, h2, (fun h => by cases h), fun _ => ⟨g, 0, rfl, hb, lt_of_get hg, fun k u hu => ?_⟩⟩
    rw [Nat.zero_add, cell_of_row w g k cur e (0, 0) hg]
    rw [← htake, List.getElem?_take] at hu
    split at hu
    · simpa using hu
    · cases hu
theorem four_cells {w : World} {b : Nat} {c0 c1 c2 c3 : Value} {t : TypeId} (h : w.heap[b]? = some (.cells #[c0, c1, c2, c3] t)) :
    w.cell? ⟨b, 0, none⟩ = some c0 ∧ w.cell? ⟨b, 1, none⟩ = some c1 ∧ w.cell? ⟨b, 2, none⟩ = some c2 ∧ w.cell? ⟨b, 3, none⟩ = some c3 := by
  simp [World.cell?, h]
theorem wpList_append_ownS {P : Program} {w : World} {ops : Array Oper} {rest : List Oper} {o : Oper} {a : Act} {Q : Exit → Act → World → Prop} (hgd : o.guard = none) (s x : Operand) (t : TypeId)
    (ho : o.op = .call { callee := .builtin .append, args := #[s, x], argTypes := #[t, t] })
    (base : Nat) (e : TypeId) (i : TypeInfo) (z : Value) (size bytes : Nat) (ht : P.underlying t = some (.slice e)) (hi : P.info? e = some i) (hz : i.zero = some z)
    (hsize : i.size = size) (hby : i.bytes = bytes) (hzs : z.cells.size = size) (hsz : 0 < size)
    (v : Value) (n : Nat) (xs : List Value) (hs : a.eval s = v) (hown : w.ownsRow base e size v n xs)
    (ad : Addr) (m c : Nat) (news : List Value) (hx : a.eval x = .slice (some ad) m c) (hl : news.length = m * size) (hnews : ∀ j u, news[j]? = some u → w.cell? (ad.add j) = some u) (h1 : ∀ u ∈ news, u.oneCell' = true)
    (h63 : n + m ≤ maxLen) (hbytes : (n + m) * bytes ≤ 140737488355328) (hbase : base ≤ w.heap.size)
    (h : ∀ ao cap w', w'.ownsRow base e size (.slice ao (n + m) cap) (n + m) (xs ++ news) → w.grownBy w' v.ownBlock → wpList P ops Q rest (a.put o.dst (.slice ao (n + m) cap)) w') :
    wpList P ops Q (o :: rest) a w := by
  refine wpList_append_own w hgd s x t ho base e i z size bytes ht hi hz hsize hby hzs hsz v n xs hs hown ad m c news hx hl hnews h1 h63 hbytes hbase ?_
  intro v' w' ho' hg _
  rcases ho'.2 with ⟨hv, hn⟩ | ⟨g, cap, cur, hv, _⟩
  · rw [hv] at ho' ⊢
    have := h none 0 w' (by rw [hn] at ho' ⊢; exact ho') hg
    rw [hn] at this; exact this
  · rw [hv] at ho' ⊢
    exact h _ _ w' ho' hg
theorem SlOf.here {R : Nat → Prop} {w : World} {v : Value} {sz : Nat} {cs : List Value} {n : Nat} (h : SlOf R w v sz cs n) : SlOf (· < w.heap.size) w v sz cs n := by
  obtain ⟨hl, ao, cap, hv, h1, h2, h3, h4⟩ := h
  refine ⟨hl, ao, cap, hv, h1, h2, h3, fun hp => ?_⟩
  obtain ⟨b, off, ha, hR, hb, hc⟩ := h4 hp
  exact ⟨b, off, ha, hb, hb, hc⟩
def errv (sa : Nat → Addr) : Nat → Value
  | 0 => .nilIface
  | k + 1 => .iface 372 (.pointer (some (sa k)))
def sg (k : Nat) : Nat := [1, 0, 2, 3, 4, 5, 6, 7, 8, 9, 10].getD k 0
structure Sents (B : Nat) (sa : Nat → Addr) (w : World) : Prop where
  gl : ∀ k, k < 11 → w.cell? ⟨sg k, 0, none⟩ = some (errv sa (k + 1))
  nd : ∀ i j, i < 11 → j < 11 → i ≠ j → sa i ≠ sa j
  bl : ∀ k, k < 11 → (sa k).block < B ∧ ∃ c t, w.heap[(sa k).block]? = some (.cells c t (0, 0))
  et : w.cell? ⟨11, 0, none⟩ = some (.iface 283 (.agg #[.pointer (some ⟨25, 25, none⟩)]))
  nb : (∀ k, k < 11 → sg k < B) ∧ 11 < B
  top : B ≤ w.heap.size
theorem Sents.mk' {sa : Nat → Addr} {w : World} (gl : ∀ k, k < 11 → w.cell? ⟨sg k, 0, none⟩ = some (errv sa (k + 1))) (nd : ∀ i j, i < 11 → j < 11 → i ≠ j → sa i ≠ sa j)
    (bl : ∀ k, k < 11 → (sa k).block < w.heap.size ∧ ∃ c t, w.heap[(sa k).block]? = some (.cells c t (0, 0))) (et : w.cell? ⟨11, 0, none⟩ = some (.iface 283 (.agg #[.pointer (some ⟨25, 25, none⟩)]))) : Sents w.heap.size sa w :=
  ⟨gl, nd, bl, et, ⟨fun k hk => World.block_lt_of_cell? _ ⟨sg k, 0, none⟩ (gl k hk), World.block_lt_of_cell? _ ⟨11, 0, none⟩ et⟩, Nat.le_refl _⟩
theorem Sents.keep {B : Nat} {sa : Nat → Addr} {S : Nat → Prop} {w w' : World} (h : Sents B sa w) (k : Keep S w w') (hS : ∀ b, S b → B ≤ b) : Sents B sa w' := by
  have hn := h.nb
  have ht := h.top
  refine ⟨fun i hi => ?_, h.nd, fun i hi => ?_, ?_, hn, Nat.le_trans ht k.size⟩
  · have := hn.1 i hi
    rw [k.cell (p := ⟨sg i, 0, none⟩) (show sg i < w.heap.size by omega) (fun hb => by have := hS _ hb; simp only at this; omega)]
    exact h.gl i hi
  · obtain ⟨h1, c, t, h2⟩ := h.bl i hi
    exact ⟨h1, c, t, k.get h2 (fun hb => by have := hS _ hb; omega)⟩
  · have hn2 := hn.2
    rw [k.cell (p := ⟨11, 0, none⟩) (show 11 < w.heap.size by omega) (fun hb => by have := hS _ hb; simp only at this; omega)]
    exact h.et
theorem Sents.below {B : Nat} {sa : Nat → Addr} {w w' : World} (h : Sents B sa w) (b : Below w.heap.size w w') : Sents B sa w' := h.keep (below_keep b) (fun _ h => h.elim)
theorem Sents.low {B C : Nat} {sa : Nat → Addr} {w w' : World} (h : Sents B sa w) (b : Below C w w') (hC : B ≤ C) : Sents B sa w' := h.keep (Keep.of_below b) (fun k hk => Nat.le_trans hC hk)
theorem Sents.all {B : Nat} {sa : Nat → Addr} {w : World} (h : Sents B sa w) :
    w.cell? ⟨1, 0, none⟩ = some (.iface 372 (.pointer (some (sa 0)))) ∧ w.cell? ⟨0, 0, none⟩ = some (.iface 372 (.pointer (some (sa 1)))) ∧ w.cell? ⟨2, 0, none⟩ = some (.iface 372 (.pointer (some (sa 2)))) ∧
    w.cell? ⟨3, 0, none⟩ = some (.iface 372 (.pointer (some (sa 3)))) ∧ w.cell? ⟨4, 0, none⟩ = some (.iface 372 (.pointer (some (sa 4)))) ∧ w.cell? ⟨5, 0, none⟩ = some (.iface 372 (.pointer (some (sa 5)))) ∧
    w.cell? ⟨6, 0, none⟩ = some (.iface 372 (.pointer (some (sa 6)))) ∧ w.cell? ⟨7, 0, none⟩ = some (.iface 372 (.pointer (some (sa 7)))) ∧ w.cell? ⟨8, 0, none⟩ = some (.iface 372 (.pointer (some (sa 8)))) ∧
    w.cell? ⟨9, 0, none⟩ = some (.iface 372 (.pointer (some (sa 9)))) ∧ w.cell? ⟨10, 0, none⟩ = some (.iface 372 (.pointer (some (sa 10)))) :=
  ⟨h.gl 0 (by decide), h.gl 1 (by decide), h.gl 2 (by decide), h.gl 3 (by decide), h.gl 4 (by decide), h.gl 5 (by decide), h.gl 6 (by decide), h.gl 7 (by decide), h.gl 8 (by decide), h.gl 9 (by decide), h.gl 10 (by decide)⟩
structure SentsR (B : Nat) (sa : Nat → Addr) (w : World) : Prop where
  g1 : w.cell? ⟨0, 0, none⟩ = some (.iface 372 (.pointer (some (sa 1))))
  g2 : w.cell? ⟨2, 0, none⟩ = some (.iface 372 (.pointer (some (sa 2))))
  g6 : w.cell? ⟨6, 0, none⟩ = some (.iface 372 (.pointer (some (sa 6))))
  g7 : w.cell? ⟨7, 0, none⟩ = some (.iface 372 (.pointer (some (sa 7))))
  nb : 0 < B ∧ 2 < B ∧ 6 < B ∧ 7 < B
  top : B ≤ w.heap.size
theorem Sents.r {B : Nat} {sa : Nat → Addr} {w : World} (h : Sents B sa w) : SentsR B sa w :=
  ⟨h.gl 1 (by decide), h.gl 2 (by decide), h.gl 6 (by decide), h.gl 7 (by decide), ⟨h.nb.1 1 (by decide), h.nb.1 2 (by decide), h.nb.1 6 (by decide), h.nb.1 7 (by decide)⟩, h.top⟩
instance {B : Nat} {sa : Nat → Addr} {w : World} : Coe (Sents B sa w) (SentsR B sa w) := ⟨Sents.r⟩
theorem SentsR.keep {B : Nat} {sa : Nat → Addr} {S : Nat → Prop} {w w' : World} (h : SentsR B sa w) (k : Keep S w w') (hS : ∀ b, S b → B ≤ b) : SentsR B sa w' := by
  have ht := h.top
  obtain ⟨n1, n2, n6, n7⟩ := h.nb
  refine ⟨?_, ?_, ?_, ?_, h.nb, Nat.le_trans ht k.size⟩
  · rw [k.cell (p := ⟨0, 0, none⟩) (by show 0 < _; omega) (fun x => by have : B ≤ 0 := hS _ x; omega)]; exact h.g1
  · rw [k.cell (p := ⟨2, 0, none⟩) (by show 2 < _; omega) (fun x => by have : B ≤ 2 := hS _ x; omega)]; exact h.g2
  · rw [k.cell (p := ⟨6, 0, none⟩) (by show 6 < _; omega) (fun x => by have : B ≤ 6 := hS _ x; omega)]; exact h.g6
  · rw [k.cell (p := ⟨7, 0, none⟩) (by show 7 < _; omega) (fun x => by have : B ≤ 7 := hS _ x; omega)]; exact h.g7
theorem SentsR.below {B : Nat} {sa : Nat → Addr} {w w' : World} (h : SentsR B sa w) (b : Below w.heap.size w w') : SentsR B sa w' := h.keep (below_keep b) (fun _ h => h.elim)
theorem SentsR.low {B C : Nat} {sa : Nat → Addr} {w w' : World} (h : SentsR B sa w) (b : Below C w w') (hC : B ≤ C) : SentsR B sa w' := h.keep (Keep.of_below b) (fun k hk => Nat.le_trans hC hk)
theorem SentsR.mk' {sa : Nat → Addr} {w : World} (h1 : w.cell? ⟨0, 0, none⟩ = some (errv sa 2)) (h2 : w.cell? ⟨2, 0, none⟩ = some (errv sa 3)) (h6 : w.cell? ⟨6, 0, none⟩ = some (errv sa 7)) (h7 : w.cell? ⟨7, 0, none⟩ = some (errv sa 8)) : SentsR w.heap.size sa w :=
  ⟨h1, h2, h6, h7, ⟨World.block_lt_of_cell? _ ⟨0, 0, none⟩ h1, World.block_lt_of_cell? _ ⟨2, 0, none⟩ h2, World.block_lt_of_cell? _ ⟨6, 0, none⟩ h6, World.block_lt_of_cell? _ ⟨7, 0, none⟩ h7⟩, Nat.le_refl _⟩
structure CM where
  bs : List UInt8
  off : Bool
  cut : Int
  wr : Int
def BytesAt (w : World) (rb : Nat) (bs : List UInt8) : Prop := ∃ C t, w.heap[rb]? = some (.cells C t (0, 0)) ∧ bs.length ≤ C.size ∧ ∀ i (hi : i < bs.length), C[i]? = some (.int .u8 (bs[i].toNat : Int))
def cellC (ao : Option Addr) (cap : Nat) (m : CM) : Obj := .cells #[.slice ao m.bs.length cap, .bool m.off, .int .i64 m.cut, .int .i64 m.wr] 158
structure CellsAt (w : World) (c rb : Nat) (ao : Option Addr) (cap : Nat) (m : CM) : Prop where
  box : w.heap[c]? = some (cellC ao cap m)
  ne : rb ≠ c
  at_ : ao = some ⟨rb, 0, none⟩ ∨ (m.bs = [] ∧ ao = none)
  row : ao = some ⟨rb, 0, none⟩ → BytesAt w rb m.bs
  len : m.bs.length ≤ 4096
  room : m.bs.length ≤ cap
theorem BytesAt.cell {w : World} {rb : Nat} {bs : List UInt8} (h : BytesAt w rb bs) (i : Nat) (hi : i < bs.length) : w.cell? ⟨rb, i, none⟩ = some (.int .u8 (bs[i].toNat : Int)) := by
  obtain ⟨C, t, h1, h2, h3⟩ := h
  simp [World.cell?, h1, h3 i hi]
theorem BytesAt.free {w : World} {rb : Nat} {bs : List UInt8} (h : BytesAt w rb bs) (o : Nat) : w.frozen? ⟨rb, o, none⟩ = false := by
  obtain ⟨C, t, h1, h2, h3⟩ := h
  simp [World.frozen?, h1]
theorem BytesAt.keep {S : Nat → Prop} {w w' : World} {rb : Nat} {bs : List UInt8} (h : BytesAt w rb bs) (k : Keep S w w') (hS : ¬ S rb) : BytesAt w' rb bs := by
  obtain ⟨C, t, h1, h2, h3⟩ := h
  exact ⟨C, t, k.get h1 hS, h2, h3⟩
theorem cells_cells {w : World} {c rb : Nat} {ao : Option Addr} {cap : Nat} {m : CM} (h : CellsAt w c rb ao cap m) :
    w.cell? ⟨c, 0, none⟩ = some (.slice ao m.bs.length cap) ∧ w.cell? ⟨c, 1, none⟩ = some (.bool m.off) ∧ w.cell? ⟨c, 2, none⟩ = some (.int .i64 m.cut) ∧ w.cell? ⟨c, 3, none⟩ = some (.int .i64 m.wr) ∧ ∀ o, w.frozen? ⟨c, o, none⟩ = false := by
  have h := h.box
  unfold cellC at h
  simp [World.cell?, World.frozen?, h]
theorem CellsAt.keep {S : Nat → Prop} {w w' : World} {c rb : Nat} {ao : Option Addr} {cap : Nat} {m : CM} (h : CellsAt w c rb ao cap m) (k : Keep S w w') (hS : ∀ b, S b → b ≠ c ∧ b ≠ rb) : CellsAt w' c rb ao cap m :=
  ⟨k.get h.box (fun hs => (hS _ hs).1 rfl), h.ne, h.at_, fun e => (h.row e).keep k (fun hs => (hS _ hs).2 rfl), h.len, h.room⟩
theorem CellsAt.set1 {w : World} {c rb : Nat} {ao : Option Addr} {cap : Nat} {m : CM} (h : CellsAt w c rb ao cap m) (x : Bool) : CellsAt (w.setCell ⟨c, 1, none⟩ (.bool x)) c rb ao cap { m with off := x } := by
  refine ⟨?_, h.ne, h.at_, fun e => (h.row e).keep (keep_set w c 1 (.bool x)) h.ne, h.len, h.room⟩
  have h := h.box
  unfold cellC at h ⊢
  rw [get_setCell _ h]; rfl
theorem CellsAt.set2 {w : World} {c rb : Nat} {ao : Option Addr} {cap : Nat} {m : CM} (h : CellsAt w c rb ao cap m) (x : Int) : CellsAt (w.setCell ⟨c, 2, none⟩ (.int .i64 x)) c rb ao cap { m with cut := x } := by
  refine ⟨?_, h.ne, h.at_, fun e => (h.row e).keep (keep_set w c 2 (.int .i64 x)) h.ne, h.len, h.room⟩
  have h := h.box
  unfold cellC at h ⊢
  rw [get_setCell _ h]; rfl
theorem CellsAt.set3 {w : World} {c rb : Nat} {ao : Option Addr} {cap : Nat} {m : CM} (h : CellsAt w c rb ao cap m) (x : Int) : CellsAt (w.setCell ⟨c, 3, none⟩ (.int .i64 x)) c rb ao cap { m with wr := x } := by
  refine ⟨?_, h.ne, h.at_, fun e => (h.row e).keep (keep_set w c 3 (.int .i64 x)) h.ne, h.len, h.room⟩
  have h := h.box
  unfold cellC at h ⊢
  rw [get_setCell _ h]; rfl
theorem Tryz.infoByte : (Tryz.prog.info? 5).map (fun i => (i.zero, i.size, i.bytes)) = some (some (.int .u8 0), 1, 1) := by kernel_rfl
theorem BytesAt.made (w : World) (n : Nat) (t : TypeId) : BytesAt (w.alloc (.cells (madeCells #[.int .u8 0] n) t)) w.heap.size (List.replicate n 0) := by
  refine ⟨_, t, get_alloc_new _ _, by simp [size_madeCells], fun i hi => ?_⟩
  simp at hi
  simp [madeCells, hi, Nat.mod_one]
theorem cellsNew_in (n : Nat) (w : World) (hn : n ≤ 4096) :
    Calls Tryz.prog 37 #[.int .i64 n] w fun e w' => e = .returned (.tuple #[.pointer (some ⟨w.heap.size + 1, 0, none⟩), .nilIface]) ∧ CellsAt w' (w.heap.size + 1) w.heap.size (some ⟨w.heap.size, 0, none⟩) n ⟨List.replicate n 0, false, -1, 0⟩ ∧ Below w.heap.size w w' := by
  have hmk := run_make_row' (P := Tryz.prog) 85 5 (.int .u8 0) 1 Tryz.underlying85 Tryz.infoByte rfl .i64 .i64 n (by omega) (by omega)
  have r1 := BytesAt.made w n 5
  have b1 : Below w.heap.size w (w.alloc (.cells (madeCells #[.int .u8 0] n) 5)) := (Below.refl _ _).alloc (Nat.le_refl _) _
  have hs1 : (w.alloc (.cells (madeCells #[.int .u8 0] n) 5)).heap.size = w.heap.size + 1 := World.size_alloc _ _
  have HR := Lib.hid r1
  have HB := Lib.hid b1
  have HS1 := Lib.hid hs1
  clear r1 b1 hs1
  have h0 : ¬ (n : Int) < 0 := by omega
  have h1 : ¬ (4096 : Int) < n := by omega
  go_enter Tryz.func37, Tryz.ntmps37
  go_wp2_with fail
  generalize w.alloc _ = w1 at HR HB HS1 ⊢
  refine bodyPost_ret (results_tmp2 rfl _ _ _) rfl ?_
  rw [← HS1.out]
  refine ⟨rfl, ⟨?_, by have := HS1.out; omega, .inl rfl, fun _ => HR.out.keep (below_keep ((Below.refl _ _).alloc (Nat.le_refl _) _)) (fun h => h), by simpa using hn, by simp⟩, HB.out.alloc HB.out.size _⟩
  have := get_alloc_new w1 (cellC (some ⟨w.heap.size, 0, none⟩) n ⟨List.replicate n 0, false, -1, 0⟩)
  rw [← this]
  simp [cellC]
def lookE (off : Bool) (len : Nat) (at_ n : Int) : Nat := if at_ < 0 ∨ n < 0 ∨ (len : Int) < at_ ∨ (len : Int) - at_ < n then 2 else if off = true then 8 else 0
theorem lookE_out {off : Bool} {len : Nat} {at_ n : Int} (h : at_ < 0 ∨ n < 0 ∨ (len : Int) < at_ ∨ (len : Int) - at_ < n) : lookE off len at_ n = 2 := if_pos h
theorem lookE_off {len : Nat} {at_ n : Int} (h : ¬ (at_ < 0 ∨ n < 0 ∨ (len : Int) < at_ ∨ (len : Int) - at_ < n)) : lookE true len at_ n = 8 := by simp [lookE, h]
theorem lookE_in {len : Nat} {at_ n : Int} (h : ¬ (at_ < 0 ∨ n < 0 ∨ (len : Int) < at_ ∨ (len : Int) - at_ < n)) : lookE false len at_ n = 0 := by simp [lookE, h]
theorem look_any (B : Nat) (sa : Nat → Addr) (c rb : Nat) (ao : Option Addr) (cap : Nat) (m : CM) (at_ n : Int) (w : World) (h : CellsAt w c rb ao cap m) (hS : SentsR B sa w) :
    Calls Tryz.prog 225 #[.pointer (some ⟨c, 0, none⟩), .int .i64 at_, .int .i64 n] w fun e w' => e = .returned (errv sa (lookE m.off m.bs.length at_ n)) ∧ w = w' := by
  obtain ⟨c0, c1, c2, c3, cf⟩ := cells_cells h
  obtain ⟨g1, g2, g6, g7, _, _⟩ := hS
  have hlen := h.len
  clear h g2 g6
  by_cases h1 : at_ < 0
  · rw [lookE_out (.inl h1)]
    go_enter Tryz.func225, Tryz.ntmps225
    go_wp2_with fail
    go_ret
    exact ⟨rfl, rfl⟩
  by_cases h2 : n < 0
  · rw [lookE_out (.inr (.inl h2))]
    go_enter Tryz.func225, Tryz.ntmps225
    go_wp2_with fail
    go_ret
    exact ⟨rfl, rfl⟩
  by_cases h3 : (m.bs.length : Int) < at_
  · rw [lookE_out (.inr (.inr (.inl h3)))]
    go_enter Tryz.func225, Tryz.ntmps225
    go_wp2_with fail
    go_ret
    exact ⟨rfl, rfl⟩
  by_cases h4 : (m.bs.length : Int) - at_ < n
  · rw [lookE_out (.inr (.inr (.inr h4)))]
    go_enter Tryz.func225, Tryz.ntmps225
    go_wp2_with fail
    go_ret
    exact ⟨rfl, rfl⟩
  have hno : ¬ (at_ < 0 ∨ n < 0 ∨ (m.bs.length : Int) < at_ ∨ (m.bs.length : Int) - at_ < n) := by omega
  cases ho : m.off
  · rw [ho] at c1
    rw [lookE_in hno]
    clear hno
    go_enter Tryz.func225, Tryz.ntmps225
    go_wp2_with fail
    go_ret
    exact ⟨rfl, rfl⟩
  · rw [ho] at c1
    rw [lookE_off hno]
    clear hno
    go_enter Tryz.func225, Tryz.ntmps225
    go_wp2_with fail
    go_ret
    exact ⟨rfl, rfl⟩
def cutE (off : Bool) (n : Int) : Nat := if n < 0 then 2 else if off = true then 8 else 0
def cutM (m : CM) (n : Int) : CM := if n < 0 then m else if m.off = true then m else { m with cut := n }
theorem cellsCut_any (B : Nat) (sa : Nat → Addr) (c rb : Nat) (ao : Option Addr) (cap : Nat) (m : CM) (n : Int) (w : World) (h : CellsAt w c rb ao cap m) (hS : SentsR B sa w) :
    Calls Tryz.prog 125 #[.pointer (some ⟨c, 0, none⟩), .int .i64 n] w fun e w' => e = .returned (errv sa (cutE m.off n)) ∧ CellsAt w' c rb ao cap (cutM m n) ∧ Keep (· = c) w w' := by
  obtain ⟨c0, c1, c2, c3, cf⟩ := cells_cells h
  obtain ⟨g1, g2, g6, g7, _, _⟩ := hS
  have H := Lib.hid h
  clear h g2 g6
  unfold cutE cutM
  by_cases h1 : n < 0
  · rw [if_pos h1, if_pos h1]
    go_enter Tryz.func125, Tryz.ntmps125
    go_wp2_with fail
    go_ret
    exact ⟨rfl, H.out, Keep.refl _ _⟩
  rw [if_neg h1, if_neg h1]
  cases ho : m.off
  · rw [ho] at c1
    rw [if_neg (by decide), if_neg (by decide)]
    go_enter Tryz.func125, Tryz.ntmps125
    go_wp2_with fail
    go_ret
    have e := H.out.set2 n
    rw [ho] at e
    exact ⟨rfl, e, keep_set w c 2 _⟩
  · rw [ho] at c1
    rw [if_pos rfl, if_pos rfl]
    go_enter Tryz.func125, Tryz.ntmps125
    go_wp2_with fail
    go_ret
    exact ⟨rfl, H.out, Keep.refl _ _⟩
theorem cellsPower_any (c rb : Nat) (ao : Option Addr) (cap : Nat) (m : CM) (w : World) (h : CellsAt w c rb ao cap m) : Calls Tryz.prog 52 #[.pointer (some ⟨c, 0, none⟩)] w fun e w' => e = .returned (.bool (!m.off)) ∧ w = w' := by
  obtain ⟨c0, c1, c2, c3, cf⟩ := cells_cells h
  clear h
  go_enter Tryz.func52, Tryz.ntmps52
  go_wp2_with fail
  go_ret
  exact ⟨rfl, rfl⟩
end Go.Proofs.YtikehilbmldadaaGreatDoor
