/- Plain: numbers of digits. -/
import Derived.Test.YtgdaljpimblkgaaGreatDoorR19
namespace Go.Proofs.YtgdaljpimblkgaaGreatDoor
open Go.RowKit
set_option linter.unusedVariables false

def isDig (c : UInt8) : Bool := decide (48 ≤ c.toNat ∧ c.toNat ≤ 57)
def dval (l : List UInt8) : Nat := l.foldl (fun a c => a * 10 + (c.toNat - 48)) 0
theorem dval_snoc (l : List UInt8) (c : UInt8) : dval (l ++ [c]) = dval l * 10 + (c.toNat - 48) := by simp [dval]
theorem dval_lt : ∀ (n : Nat) (l : List UInt8), l.length = n → (∀ c ∈ l, isDig c = true) → dval l < 10 ^ n
  | 0, l, hl, _ => by obtain rfl := List.eq_nil_of_length_eq_zero hl; simp [dval]
  | n + 1, l, hl, h => by
    have hne : l ≠ [] := by intro e; rw [e] at hl; simp at hl
    have hs := List.dropLast_concat_getLast hne
    have h1 := dval_lt n l.dropLast (by rw [List.length_dropLast]; omega) (fun c hc => h c (List.dropLast_subset _ hc))
    have h2 := h _ (List.getLast_mem hne)
    simp only [isDig, decide_eq_true_eq] at h2
    rw [← hs, dval_snoc, Nat.pow_succ]
    omega
theorem dig_of (i : Nat) (h : i < 10) : (UInt8.ofNat (48 + i)).toNat = 48 + i := by
  rw [UInt8.toNat_ofNat']; omega
theorem decDigits_dig (u : Nat) : ∀ c ∈ Lib.decDigits u, isDig c = true := by
  induction u using Nat.strongRecOn with
  | ind u ih =>
    intro c hc
    rw [Lib.decDigits] at hc
    split at hc
    · next h =>
      obtain rfl := List.mem_singleton.1 hc
      simp only [isDig, decide_eq_true_eq, dig_of u h]; omega
    · next h =>
      rcases List.mem_append.1 hc with hc | hc
      · exact ih (u / 10) (by omega) c hc
      · obtain rfl := List.mem_singleton.1 hc
        simp only [isDig, decide_eq_true_eq, dig_of (u % 10) (by omega)]; omega
theorem dval_dec (u : Nat) : dval (Lib.decDigits u) = u := by
  induction u using Nat.strongRecOn with
  | ind u ih =>
    rw [Lib.decDigits]
    split
    · next h => simp [dval]; rw [Nat.mod_eq_of_lt (by omega)]; omega
    · next h =>
      rw [dval_snoc, ih (u / 10) (by omega), dig_of (u % 10) (by omega)]
      omega
theorem decDigits_ne (u : Nat) : Lib.decDigits u ≠ [] := by
  rw [Lib.decDigits]
  split
  · simp
  · simp
/-- Digits without a naught ahead are the numeral of what they spell. -/
theorem dec_dval : ∀ (n : Nat) (l : List UInt8), l.length = n + 1 → (∀ c ∈ l, isDig c = true) → (n = 0 ∨ l.head? ≠ some 48) → Lib.decDigits (dval l) = l
  | 0, l, hl, h, _ => by
    match l, hl with
    | [c], _ =>
      have h2 := h c (by simp)
      simp only [isDig, decide_eq_true_eq] at h2
      have e : dval [c] = c.toNat - 48 := by simp [dval]
      rw [e, Lib.decDigits_one (by omega)]
      congr 1
      rw [show 48 + (c.toNat - 48) = c.toNat by omega]
      exact UInt8.ofNat_toNat
  | n + 1, l, hl, h, h0 => by
    have hne : l ≠ [] := by intro e; rw [e] at hl; simp at hl
    have hs := List.dropLast_concat_getLast hne
    have hh : l.head? ≠ some 48 := by
      rcases h0 with h0 | h0
      · omega
      · exact h0
    have hd : l.dropLast.head? = l.head? := by
      match l, hl with
      | a :: b :: t, _ => rfl
    have h1 := dec_dval n l.dropLast (by rw [List.length_dropLast]; omega) (fun c hc => h c (List.dropLast_subset _ hc)) (.inr (by rw [hd]; exact hh))
    have h2 := h _ (List.getLast_mem hne)
    simp only [isDig, decide_eq_true_eq] at h2
    have hpos : dval l.dropLast ≠ 0 := by
      intro e
      rw [e] at h1
      have : l.dropLast = [48] := by rw [← h1, Lib.decDigits_one (by decide)]; rfl
      rw [this] at hd
      exact hh hd.symm
    conv => rhs; rw [← hs]
    conv => lhs; rw [← hs]
    rw [dval_snoc, Lib.decDigits, dif_neg (by omega)]
    congr 1
    · rw [show (dval l.dropLast * 10 + ((l.getLast hne).toNat - 48)) / 10 = dval l.dropLast by omega, h1]
    · congr 1
      rw [show 48 + (dval l.dropLast * 10 + ((l.getLast hne).toNat - 48)) % 10 = (l.getLast hne).toNat by omega]
      exact UInt8.ofNat_toNat
theorem parse_snoc (c : UInt8) : ∀ (l : List UInt8) (a n : Nat), Lib.parseUint10 a l = .ok n → Lib.parseUint10 a (l ++ [c]) = Lib.parseUint10 n [c]
  | [], a, n, h => by simp only [Lib.parseUint10] at h; injection h with h; rw [h]; rfl
  | x :: l, a, n, h => by
    simp only [Lib.parseUint10, List.cons_append] at h ⊢
    split at h
    · next hx =>
      rw [if_pos hx]
      split at h
      · cases h
      · next h1 =>
        rw [if_neg h1]
        split at h
        · cases h
        · next h2 =>
          rw [if_neg h2]
          exact parse_snoc c l _ n h
    · cases h
theorem parse_dig : ∀ (n : Nat) (l : List UInt8), l.length = n → n ≤ 13 → (∀ c ∈ l, isDig c = true) → Lib.parseUint10 0 l = .ok (dval l)
  | 0, l, hl, _, _ => by obtain rfl := List.eq_nil_of_length_eq_zero hl; rfl
  | n + 1, l, hl, hn, h => by
    have hne : l ≠ [] := by intro e; rw [e] at hl; simp at hl
    have hs := List.dropLast_concat_getLast hne
    have hD : ∀ c ∈ l.dropLast, isDig c = true := fun c hc => h c (List.dropLast_subset _ hc)
    have h1 := parse_dig n l.dropLast (by rw [List.length_dropLast]; omega) (by omega) hD
    have h2 := h _ (List.getLast_mem hne)
    simp only [isDig, decide_eq_true_eq] at h2
    have hlt := dval_lt n l.dropLast (by rw [List.length_dropLast]; omega) hD
    have hp : 10 ^ n ≤ 10 ^ 12 := Nat.pow_le_pow_right (by decide) (by omega)
    have hp2 : (10 : Nat) ^ 12 = 1000000000000 := by decide
    rw [← hs, parse_snoc _ _ _ _ h1, dval_snoc]
    simp only [Lib.parseUint10]
    rw [if_pos h2, if_neg (by omega), if_neg (by omega)]
/-- Digits: one to thirteen, no naught ahead. -/
def digOk (l : List UInt8) : Bool := decide (1 ≤ l.length) && decide (l.length ≤ 13) && !(decide (1 < l.length) && l.head? == some 48) && l.all isDig
theorem atoi_dig {l : List UInt8} (hl : l.length ≤ 13) (h1 : 1 ≤ l.length) (h : ∀ c ∈ l, isDig c = true) : Lib.atoiAll l = .ok (dval l : Int) := by
  match l, h1 with
  | c :: r, _ =>
    have h2 := h c (by simp)
    simp only [isDig, decide_eq_true_eq] at h2
    rw [Lib.atoiAll_plain c r (by omega) (by omega)]
    unfold Lib.parseMag
    rw [if_neg (by simp), parse_dig _ (c :: r) rfl hl h]
    have hlt := dval_lt _ (c :: r) rfl h
    have hp : 10 ^ (c :: r).length ≤ 10 ^ 13 := Nat.pow_le_pow_right (by decide) hl
    have hp2 : (10 : Nat) ^ 13 = 10000000000000 := by decide
    simp only [Lib.signless]
    rw [if_neg (by omega)]
theorem itoa_dig (k : Nat) : Lib.itoa (k : Int) = Lib.decDigits k := by
  unfold Lib.itoa
  rw [if_neg (by omega), Int.toNat_natCast]
theorem head_dec (k : Nat) (h : 10 ≤ k) : (Lib.decDigits k).head? ≠ some 48 := by
  induction k using Nat.strongRecOn with
  | ind k ih =>
    rw [Lib.decDigits, dif_neg (by omega)]
    by_cases h2 : 10 ≤ k / 10
    · have := ih (k / 10) (by omega) h2
      rw [List.head?_append]
      cases hd : (Lib.decDigits (k / 10)).head? with
      | none => exact absurd (List.head?_eq_none_iff.1 hd) (decDigits_ne _)
      | some c => rw [hd] at this; simpa using this
    · rw [Lib.decDigits_one (by omega)]
      intro e
      have e2 : UInt8.ofNat (48 + k / 10) = 48 := by simpa using e
      have := congrArg UInt8.toNat e2
      rw [dig_of _ (by omega)] at this
      have h48 : (48 : UInt8).toNat = 48 := rfl
      omega
theorem len_dec (k : Nat) (h : 1 < (Lib.decDigits k).length) : 10 ≤ k := by
  rw [Lib.decDigits] at h
  split at h
  · simp at h
  · omega
theorem numV_dig (s : ByteArray) : numV s = if digOk s.data.toList = true then some (dval s.data.toList) else none := by
  have hsz : s.data.toList.length = s.size := by rw [Array.length_toList]; rfl
  split
  · next h =>
    unfold digOk at h
    simp only [Bool.and_eq_true, decide_eq_true_eq, List.all_eq_true, Bool.not_eq_true', Bool.and_eq_false_imp, beq_eq_false_iff_ne] at h
    obtain ⟨⟨⟨h1, h2⟩, h3⟩, h4⟩ := h
    unfold numV
    rw [atoi_dig h2 h1 h4]
    have e : Lib.itoa (dval s.data.toList : Int) = s.data.toList := by
      rw [itoa_dig]
      refine dec_dval (s.data.toList.length - 1) _ (by omega) h4 ?_
      by_cases hl : 1 < s.data.toList.length
      · exact .inr (h3 hl)
      · exact .inl (by omega)
    show (if s.size ≤ 13 ∧ 0 ≤ (dval s.data.toList : Int) ∧ Lib.itoa (dval s.data.toList : Int) = s.data.toList then some (dval s.data.toList : Int).toNat else none) = _
    rw [if_pos ⟨by omega, by omega, e⟩, Int.toNat_natCast]
  · next h =>
    cases hn : numV s with
    | none => rfl
    | some k =>
      exfalso
      apply h
      unfold numV at hn
      split at hn
      · next v hv =>
        split at hn
        · next hc =>
          obtain ⟨h1, h2, h3⟩ := hc
          obtain ⟨m, rfl⟩ : ∃ m : Nat, v = m := ⟨v.toNat, (Int.toNat_of_nonneg h2).symm⟩
          rw [itoa_dig] at h3
          unfold digOk
          simp only [Bool.and_eq_true, decide_eq_true_eq, List.all_eq_true, Bool.not_eq_true', Bool.and_eq_false_imp, beq_eq_false_iff_ne]
          refine ⟨⟨⟨?_, by omega⟩, fun hl => ?_⟩, ?_⟩
          · rw [← h3]
            exact List.length_pos_iff.2 (decDigits_ne m)
          · rw [← h3] at hl ⊢
            exact head_dec m (len_dec m hl)
          · rw [← h3]; exact decDigits_dig m
        · cases hn
      · cases hn
/-- The numeral of a number that is not too great is read as that number. -/
theorem dec_len_le {u k : Nat} (h : u < 10 ^ k) (hk : 1 ≤ k) : (Lib.decDigits u).length ≤ k := by
  induction k generalizing u with
  | zero => omega
  | succ k ih =>
    rw [Lib.decDigits]
    split
    · simp
    · next hu =>
      have hk1 : 1 ≤ k := by
        cases k with
        | zero => simp at h; omega
        | succ k => omega
      have := ih (u := u / 10) (by rw [Nat.pow_succ] at h; omega) hk1
      rw [List.length_append, List.length_singleton]
      omega
theorem numV_itoa_back (k : Nat) (h : k < 10000000000000) : numV ⟨(Lib.itoa (k : Int)).toArray⟩ = some k := by
  rw [numV_dig, itoa_dig]
  have hl := dec_len_le (u := k) (k := 13) (by have : (10 : Nat) ^ 13 = 10000000000000 := by decide
                                               omega) (by decide)
  have h1 := List.length_pos_iff.2 (decDigits_ne k)
  have hd := decDigits_dig k
  have hok : digOk (Lib.decDigits k) = true := by
    unfold digOk
    simp only [Bool.and_eq_true, decide_eq_true_eq, List.all_eq_true, Bool.not_eq_true', Bool.and_eq_false_imp, beq_eq_false_iff_ne]
    exact ⟨⟨⟨h1, hl⟩, fun hh => head_dec k (len_dec k hh)⟩, hd⟩
  show (if digOk (Lib.decDigits k).toArray.toList = true then some (dval (Lib.decDigits k).toArray.toList) else none) = _
  rw [List.toList_toArray, if_pos hok, dval_dec]
end Go.Proofs.YtgdaljpimblkgaaGreatDoor

/- The document's numberOf. -/
namespace Go.Proofs.YtgdaljpimblkgaaGreatDoor
open Go.RowKit
set_option linter.unusedVariables false

def numI (s : ByteArray) : Int := match numV s with | some k => (k : Int) | none => -1
theorem numI_bad {s : ByteArray} (h : digOk s.data.toList = false) : numI s = -1 := by unfold numI; rw [numV_dig, h]; rfl
theorem numI_good {s : ByteArray} (h : digOk s.data.toList = true) : numI s = (dval s.data.toList : Int) := by unfold numI; rw [numV_dig, h]; rfl
theorem size_data (s : ByteArray) : s.data.toList.length = s.size := by rw [Array.length_toList]; rfl
theorem head_at (s : ByteArray) (h : 0 < s.size) : s.data.toList.head? = some s[0] := by
  rw [List.head?_eq_getElem?, List.getElem?_eq_getElem (by rw [size_data]; exact h)]
  rfl
theorem take_oneN (s : ByteArray) (i : Nat) (h : i < s.size) : s.data.toList.take (i + 1) = s.data.toList.take i ++ [s[i]] := by
  rw [List.take_succ_eq_append_getElem (by rw [size_data]; exact h)]
  rfl
set_option maxRecDepth 20000 in
set_option maxHeartbeats 2000000 in
theorem rNumberOf_any (s : ByteArray) (w : World) (hs : s.size ≤ 100000) : Calls Tryz.prog 58 #[.string s] w fun e w' => e = .returned (.int .i64 (numI s)) ∧ w = w' := by
  have HSZ := Lib.hid (size_data s)
  by_cases h1 : (s.size : Int) < 1
  · have HV := Lib.hid (numI_bad (s := s) (by unfold digOk; rw [size_data, decide_eq_false (by omega)]; rfl))
    go_enter Tryz.func58, Tryz.ntmps58
    go_wp2_with fail
    go_ret
    exact ⟨ret_int HV.out.symm, rfl⟩
  by_cases h2 : (13 : Int) < (s.size : Int)
  · have HV := Lib.hid (numI_bad (s := s) (by unfold digOk; rw [size_data, decide_eq_false (p := s.size ≤ 13) (by omega), Bool.and_false]; rfl))
    go_enter Tryz.func58, Tryz.ntmps58
    go_wp2_with fail
    go_ret
    exact ⟨ret_int HV.out.symm, rfl⟩
  have h0 : 0 < s.size := by omega
  have HH0 := Lib.hid h0
  by_cases h3 : (1 : Int) < (s.size : Int) ∧ s[0] = 48
  · obtain ⟨h3, h4⟩ := h3
    have HV := Lib.hid (numI_bad (s := s) (by unfold digOk; rw [size_data, decide_eq_true (p := 1 < s.size) (by omega), head_at s h0]; rw [show (some s[0] == some (48 : UInt8)) = true from by rw [h4]; rfl]; simp))
    have h5 : ((s[0].toNat : Int) == 48) = true := by rw [h4]; rfl
    clear h4
    go_enter Tryz.func58, Tryz.ntmps58
    go_wp2_with fail
    go_ret
    exact ⟨ret_int HV.out.symm, rfl⟩
  have HG : Hid (s.data.toList.all isDig = true → digOk s.data.toList = true) := (show s.data.toList.all isDig = true → digOk s.data.toList = true from fun ha => by
    unfold digOk
    rw [ha, size_data, decide_eq_true (p := 1 ≤ s.size) (by omega), decide_eq_true (p := s.size ≤ 13) (by omega)]
    by_cases h4 : 1 < s.size
    · have h5 : ¬ s[0] = 48 := fun e => h3 ⟨by omega, e⟩
      have h6 : (s.data.toList.head? == some (48 : UInt8)) = false := by rw [head_at s h0, beq_eq_false_iff_ne]; intro e; exact h5 (Option.some.inj e)
      rw [h6, Bool.and_false]; rfl
    · rw [decide_eq_false h4]; rfl)
  have HL : Hid (∀ i (hi : i < s.size), isDig s[i] = false → numI s = -1) := (show ∀ i (hi : i < s.size), isDig s[i] = false → numI s = -1 from fun i hi hd => numI_bad (by
    unfold digOk
    have : s.data.toList.all isDig = false := by
      rw [List.all_eq_false]
      exact ⟨s[i], by rw [show s[i] = s.data.toList[i]'(by rw [size_data]; exact hi) from rfl]; exact List.getElem_mem _, by rw [hd]; decide⟩
    rw [this, Bool.and_false]))
  by_cases hs1 : (1 : Int) < (s.size : Int)
  · have h4 : ((s[0].toNat : Int) == 48) = false := by
      rw [beq_eq_false_iff_ne]
      intro e
      exact h3 ⟨hs1, UInt8.toNat_inj.1 (by have : s[0].toNat = 48 := by omega
                                           exact this)⟩
    clear h3
    go_enter Tryz.func58, Tryz.ntmps58
    go_wp2_with fail
    go_loop [3, 4] (fun s3 s4 => ∃ i : Nat, i ≤ s.size ∧ s3 = .int .i64 (dval (s.data.toList.take i) : Nat) ∧ s4 = .int .i64 i ∧ Hid (∀ c ∈ s.data.toList.take i, isDig c = true)) (fun _ s4 => s.size - (intOf s4).toNat)
    case atStart => exact ⟨0, Nat.zero_le _, rfl, rfl, fun c hc => by cases hc⟩
    case round =>
      obtain ⟨i, hi, rfl, rfl, hall⟩ := hrel
      by_cases hlt : i < s.size
      · have hv : dval (s.data.toList.take i) < 10000000000000 := by
          have := dval_lt i (s.data.toList.take i) (by rw [List.length_take, HSZ.out]; omega) hall.out
          exact Nat.lt_of_lt_of_le this (Nat.pow_le_pow_right (by decide) (show i ≤ 13 by omega))
        by_cases hd : isDig s[i] = true
        · have hb : 48 ≤ s[i].toNat ∧ s[i].toNat ≤ 57 := of_decide_eq_true hd
          have nx : Hid (dval (s.data.toList.take (i + 1)) = 10 * dval (s.data.toList.take i) + (s[i].toNat - 48)) := (show dval (s.data.toList.take (i + 1)) = 10 * dval (s.data.toList.take i) + (s[i].toNat - 48) from by rw [take_oneN s i hlt, dval_snoc, Nat.mul_comm])
          have na : Hid (∀ c ∈ s.data.toList.take (i + 1), isDig c = true) := (show ∀ c ∈ s.data.toList.take (i + 1), isDig c = true from fun c hc => by
            rw [take_oneN s i hlt] at hc
            rcases List.mem_append.1 hc with hc | hc
            · exact hall.out c hc
            · rw [List.mem_singleton.1 hc]; exact hd)
          obtain ⟨D, hD⟩ : ∃ D, D = dval (s.data.toList.take i) := ⟨_, rfl⟩
          rw [← hD] at hv nx ⊢
          have hx1 : 48 ≤ (s[i].toNat : Int) := by omega
          have hx2 : (s[i].toNat : Int) ≤ 57 := by omega
          have w1 : wrap64 (10 * (D : Int)) = 10 * (D : Int) := IntWalk.wrap64_in _ (by omega)
          have w2 : wrap64 (10 * (D : Int) + ((s[i].toNat : Int) - 48)) = 10 * (D : Int) + ((s[i].toNat : Int) - 48) := IntWalk.wrap64_in _ (by omega)
          clear hb hd hD hv hall
          go_wp2_with fail
          go_round
          case rel => exact ⟨i + 1, by omega, by rw [nx.out]; congr 1; omega, by go_num, na⟩
          case measure => simp [intOf]; omega
        · have hd : isDig s[i] = false := by simpa using hd
          have HV := Lib.hid (HL.out i hlt hd)
          have hb : ¬ (48 ≤ s[i].toNat ∧ s[i].toNat ≤ 57) := of_decide_eq_false hd
          by_cases hlo : (s[i].toNat : Int) < 48
          · clear hd hb
            go_wp2_with fail
            go_ret
            exact ⟨ret_int HV.out.symm, rfl⟩
          · have hhi : (57 : Int) < (s[i].toNat : Int) := by omega
            clear hd hb
            go_wp2_with fail
            go_ret
            exact ⟨ret_int HV.out.symm, rfl⟩
      · have HV : Hid (numI s = (dval (s.data.toList.take i) : Int)) := (show numI s = (dval (s.data.toList.take i) : Int) from by
          rw [List.take_of_length_le (by rw [HSZ.out]; omega)] at hall ⊢
          exact numI_good (HG.out (List.all_eq_true.2 hall.out)))
        go_wp2_with fail
        go_ret
        exact ⟨ret_int HV.out.symm, rfl⟩
  · clear h3
    go_enter Tryz.func58, Tryz.ntmps58
    go_wp2_with fail
    go_loop [3, 4] (fun s3 s4 => ∃ i : Nat, i ≤ s.size ∧ s3 = .int .i64 (dval (s.data.toList.take i) : Nat) ∧ s4 = .int .i64 i ∧ Hid (∀ c ∈ s.data.toList.take i, isDig c = true)) (fun _ s4 => s.size - (intOf s4).toNat)
    case atStart => exact ⟨0, Nat.zero_le _, rfl, rfl, fun c hc => by cases hc⟩
    case round =>
      obtain ⟨i, hi, rfl, rfl, hall⟩ := hrel
      by_cases hlt : i < s.size
      · have hv : dval (s.data.toList.take i) < 10000000000000 := by
          have := dval_lt i (s.data.toList.take i) (by rw [List.length_take, HSZ.out]; omega) hall.out
          exact Nat.lt_of_lt_of_le this (Nat.pow_le_pow_right (by decide) (show i ≤ 13 by omega))
        by_cases hd : isDig s[i] = true
        · have hb : 48 ≤ s[i].toNat ∧ s[i].toNat ≤ 57 := of_decide_eq_true hd
          have nx : Hid (dval (s.data.toList.take (i + 1)) = 10 * dval (s.data.toList.take i) + (s[i].toNat - 48)) := (show dval (s.data.toList.take (i + 1)) = 10 * dval (s.data.toList.take i) + (s[i].toNat - 48) from by rw [take_oneN s i hlt, dval_snoc, Nat.mul_comm])
          have na : Hid (∀ c ∈ s.data.toList.take (i + 1), isDig c = true) := (show ∀ c ∈ s.data.toList.take (i + 1), isDig c = true from fun c hc => by
            rw [take_oneN s i hlt] at hc
            rcases List.mem_append.1 hc with hc | hc
            · exact hall.out c hc
            · rw [List.mem_singleton.1 hc]; exact hd)
          obtain ⟨D, hD⟩ : ∃ D, D = dval (s.data.toList.take i) := ⟨_, rfl⟩
          rw [← hD] at hv nx ⊢
          have hx1 : 48 ≤ (s[i].toNat : Int) := by omega
          have hx2 : (s[i].toNat : Int) ≤ 57 := by omega
          have w1 : wrap64 (10 * (D : Int)) = 10 * (D : Int) := IntWalk.wrap64_in _ (by omega)
          have w2 : wrap64 (10 * (D : Int) + ((s[i].toNat : Int) - 48)) = 10 * (D : Int) + ((s[i].toNat : Int) - 48) := IntWalk.wrap64_in _ (by omega)
          clear hb hd hD hv hall
          go_wp2_with fail
          go_round
          case rel => exact ⟨i + 1, by omega, by rw [nx.out]; congr 1; omega, by go_num, na⟩
          case measure => simp [intOf]; omega
        · have hd : isDig s[i] = false := by simpa using hd
          have HV := Lib.hid (HL.out i hlt hd)
          have hb : ¬ (48 ≤ s[i].toNat ∧ s[i].toNat ≤ 57) := of_decide_eq_false hd
          by_cases hlo : (s[i].toNat : Int) < 48
          · clear hd hb
            go_wp2_with fail
            go_ret
            exact ⟨ret_int HV.out.symm, rfl⟩
          · have hhi : (57 : Int) < (s[i].toNat : Int) := by omega
            clear hd hb
            go_wp2_with fail
            go_ret
            exact ⟨ret_int HV.out.symm, rfl⟩
      · have HV : Hid (numI s = (dval (s.data.toList.take i) : Int)) := (show numI s = (dval (s.data.toList.take i) : Int) from by
          rw [List.take_of_length_le (by rw [HSZ.out]; omega)] at hall ⊢
          exact numI_good (HG.out (List.all_eq_true.2 hall.out)))
        go_wp2_with fail
        go_ret
        exact ⟨ret_int HV.out.symm, rfl⟩
end Go.Proofs.YtgdaljpimblkgaaGreatDoor
