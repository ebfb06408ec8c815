import Derived.Test.YtikehilbmldadaaGreatDoorQ15
import Derived.Laws.IdiomStrings
set_option maxHeartbeats 1000000
set_option maxRecDepth 100000
namespace Go.Proofs.YtikehilbmldadaaGreatDoor
open Go.RowKit
set_option linter.unusedVariables false
theorem str_bytes (w : World) (s : ByteArray) : ∃ cap w', (convert 9 85 (.string s)).run Tryz.prog w = .ok (.slice (some ⟨w.heap.size, 0, none⟩) s.size cap) w' ∧ (∀ j (hj : j < s.size), w'.cell? ⟨w.heap.size, j, none⟩ = some (.int .u8 (s[j].toNat : Int))) ∧ Below w.heap.size w w' := by
  have h := run_bytes_of_string w 9 85 5 s Tryz.underlying9 Tryz.underlying85 Tryz.underlying5
  refine ⟨_, _, h, fun j hj => ?_, ((Below.refl w.heap.size w).drew).alloc (Nat.le_refl _) _⟩
  have e : w.heap.size = w.drew.heap.size := rfl
  conv => lhs; arg 2; rw [e]
  rw [World.cell?_alloc_mark]
  exact bytesRow_at s _ j hj
def badC (c : UInt8) : Bool := !decide (97 ≤ c.toNat ∧ c.toNat ≤ 122) && (!decide (48 ≤ c.toNat ∧ c.toNat ≤ 57) && !decide (c.toNat = 45))
def badAny (s : ByteArray) : Bool := (List.range s.size).any (fun i => badC (s.data.toList.getD i 0))
theorem badAny_hit {s : ByteArray} (i : Nat) (hi : i < s.size) (h : badC s[i] = true) : badAny s = true :=
  List.any_eq_true.2 ⟨i, List.mem_range.2 hi, by rw [getD_at s i hi]; exact h⟩
theorem badAny_miss {s : ByteArray} (h : ∀ i (hi : i < s.size), badC s[i] = false) : badAny s = false :=
  List.any_eq_false.2 (fun i hi => by
    have hi' := List.mem_range.1 hi
    rw [getD_at s i hi', h i hi']; decide)
theorem badAny_false {s : ByteArray} (h : badAny s = false) : ∀ i (hi : i < s.size), badC s[i] = false := fun i hi => by
  cases hb : badC s[i]
  · rfl
  · rw [badAny_hit i hi hb] at h; cases h
theorem nameB_of {s : ByteArray} (h1 : 1 ≤ s.size) (h2 : s.size ≤ 12) (h3 : 97 ≤ (s[0]'(by omega)).toNat ∧ (s[0]'(by omega)).toNat ≤ 122) : isNameB s = !badAny s := by
  cases hb : badAny s
  · refine isNameB_good ⟨h1, h2⟩ (fun i hi => ?_)
    have := badAny_false hb i hi
    unfold badC at this
    unfold okN
    rw [decide_eq_true_iff]
    by_cases hi0 : i = 0
    · subst hi0; exact .inl h3
    · simp at this
      omega
  · have : ∃ i, ∃ hi : i < s.size, badC s[i] = true := by
      obtain ⟨i, hi, h⟩ := List.any_eq_true.1 hb
      have hi' := List.mem_range.1 hi
      exact ⟨i, hi', by rw [getD_at s i hi'] at h; exact h⟩
    obtain ⟨i, hi, h⟩ := this
    refine isNameB_bad i hi ?_
    unfold badC at h
    unfold okN
    simp at h
    rw [decide_eq_false_iff_not]
    omega
theorem nameB_first {s : ByteArray} (h1 : 1 ≤ s.size) (h3 : ¬ (97 ≤ (s[0]'(by omega)).toNat ∧ (s[0]'(by omega)).toNat ≤ 122)) : isNameB s = false := by
  refine isNameB_bad 0 h1 ?_
  unfold okN
  rw [decide_eq_false_iff_not]
  simp
  omega
theorem nameC_any (c : UInt8) (w : World) : Calls Tryz.prog 202 #[.int .u8 (c.toNat : Int)] w fun e w' => e = .returned (.bool (badC c)) ∧ w = w' := by
  obtain ⟨x, hx⟩ : ∃ x : Int, x = (c.toNat : Int) := ⟨_, rfl⟩
  rw [← hx]
  have HX := Lib.hid hx
  clear hx
  by_cases h1 : 97 ≤ x
  · by_cases h2 : x ≤ 122
    · have HV := Lib.hid (show badC c = false from by have := HX.out; unfold badC; rw [decide_eq_true (show 97 ≤ c.toNat ∧ c.toNat ≤ 122 by omega)]; rfl)
      go_enter Tryz.func202, Tryz.ntmps202
      go_wp2_with fail
      go_ret
      exact ⟨ret_bool HV.out.symm, rfl⟩
    · have h3 : 48 ≤ x := by omega
      have h4 : ¬ x ≤ 57 := by omega
      have h5 : (x != 45) = true := by simp; omega
      have HV := Lib.hid (show badC c = true from by have := HX.out; unfold badC; rw [decide_eq_false (show ¬ (97 ≤ c.toNat ∧ c.toNat ≤ 122) by omega), decide_eq_false (show ¬ (48 ≤ c.toNat ∧ c.toNat ≤ 57) by omega), decide_eq_false (show ¬ c.toNat = 45 by omega)]; rfl)
      go_enter Tryz.func202, Tryz.ntmps202
      go_wp2_with fail
      go_ret
      exact ⟨ret_bool HV.out.symm, rfl⟩
  · by_cases h3 : 48 ≤ x
    · by_cases h4 : x ≤ 57
      · have HV := Lib.hid (show badC c = false from by have := HX.out; unfold badC; rw [decide_eq_false (show ¬ (97 ≤ c.toNat ∧ c.toNat ≤ 122) by omega), decide_eq_true (show 48 ≤ c.toNat ∧ c.toNat ≤ 57 by omega)]; rfl)
        go_enter Tryz.func202, Tryz.ntmps202
        go_wp2_with fail
        go_ret
        exact ⟨ret_bool HV.out.symm, rfl⟩
      · have h5 : (x != 45) = true := by simp; omega
        have HV := Lib.hid (show badC c = true from by have := HX.out; unfold badC; rw [decide_eq_false (show ¬ (97 ≤ c.toNat ∧ c.toNat ≤ 122) by omega), decide_eq_false (show ¬ (48 ≤ c.toNat ∧ c.toNat ≤ 57) by omega), decide_eq_false (show ¬ c.toNat = 45 by omega)]; rfl)
        go_enter Tryz.func202, Tryz.ntmps202
        go_wp2_with fail
        go_ret
        exact ⟨ret_bool HV.out.symm, rfl⟩
    · by_cases h6 : x = 45
      · have h5 : (x != 45) = false := by simp [h6]
        have HV := Lib.hid (show badC c = false from by have := HX.out; unfold badC; rw [decide_eq_false (show ¬ (97 ≤ c.toNat ∧ c.toNat ≤ 122) by omega), decide_eq_false (show ¬ (48 ≤ c.toNat ∧ c.toNat ≤ 57) by omega), decide_eq_true (show c.toNat = 45 by omega)]; rfl)
        clear h6
        go_enter Tryz.func202, Tryz.ntmps202
        go_wp2_with fail
        go_ret
        exact ⟨ret_bool HV.out.symm, rfl⟩
      · have h5 : (x != 45) = true := by simp; exact h6
        have HV := Lib.hid (show badC c = true from by have := HX.out; unfold badC; rw [decide_eq_false (show ¬ (97 ≤ c.toNat ∧ c.toNat ≤ 122) by omega), decide_eq_false (show ¬ (48 ≤ c.toNat ∧ c.toNat ≤ 57) by omega), decide_eq_false (show ¬ c.toNat = 45 by omega)]; rfl)
        clear h6
        go_enter Tryz.func202, Tryz.ntmps202
        go_wp2_with fail
        go_ret
        exact ⟨ret_bool HV.out.symm, rfl⟩
def nameV : Value := .func (.func 202) #[] #[]
theorem idxName_any (s : ByteArray) (b cap : Nat) (w : World) (h : ∀ j (hj : j < s.size), w.cell? ⟨b, j, none⟩ = some (.int .u8 (s[j].toNat : Int))) (hn : s.size ≤ 1000000) :
    Calls Tryz.prog 241 #[.slice (some ⟨b, 0, none⟩) s.size cap, nameV] w fun e w' => ∃ r : Int, e = .returned (.int .i64 r) ∧ decide (0 ≤ r) = badAny s ∧ w = w' := by
  have H := Lib.hid h
  clear h
  unfold nameV
  go_enter Tryz.func241, Tryz.ntmps241
  go_wp2_with fail
  go_loop [8] (fun t => ∃ k : Nat, k ≤ s.size ∧ t = .int .i64 k ∧ Hid (∀ j (hj : j < s.size), j < k → badC s[j] = false)) (fun t => s.size - (intOf t).toNat)
  case atStart => exact ⟨0, Nat.zero_le _, rfl, fun j hj h => by omega⟩
  case round =>
    obtain ⟨k, hk, rfl, hall⟩ := hrel
    by_cases hlt : k < s.size
    · have q := H.out k hlt
      have HC := Lib.hid (nameC_any s[k] w)
      cases hb : badC s[k]
      · rw [hb] at HC
        have nx : Hid (∀ j (hj : j < s.size), j < k + 1 → badC s[j] = false) := (show ∀ j (hj : j < s.size), j < k + 1 → badC s[j] = false from fun j hj h => by
          by_cases e : j = k
          · subst e; exact hb
          · exact hall.out j hj (by omega))
        clear hb hall
        go_wp2_with fail
        refine HC.out.mono ?_
        rintro e w' ⟨rfl, rfl⟩
        go_wp2_with fail
        go_round
        case rel => exact ⟨k + 1, by omega, by go_num, nx⟩
        case measure => simp [intOf]; omega
      · rw [hb] at HC
        have HB := Lib.hid (badAny_hit k hlt hb)
        clear hb hall
        go_wp2_with fail
        refine HC.out.mono ?_
        rintro e w' ⟨rfl, rfl⟩
        go_wp2_with fail
        go_ret
        exact ⟨_, rfl, by rw [HB.out]; exact decide_eq_true (by omega), rfl⟩
    · have HB := Lib.hid (badAny_miss (s := s) (fun j hj => hall.out j hj (by omega)))
      clear hall
      go_wp2_with fail
      go_ret
      exact ⟨_, rfl, by rw [HB.out]; rfl, rfl⟩
theorem conName_any (s : ByteArray) (b cap : Nat) (w : World) (h : ∀ j (hj : j < s.size), w.cell? ⟨b, j, none⟩ = some (.int .u8 (s[j].toNat : Int))) (hn : s.size ≤ 1000000) :
    Calls Tryz.prog 201 #[.slice (some ⟨b, 0, none⟩) s.size cap, nameV] w fun e w' => e = .returned (.bool (badAny s)) ∧ w = w' := by
  have H := Lib.hid (idxName_any s b cap w h hn)
  clear h
  unfold nameV at H ⊢
  go_enter Tryz.func201, Tryz.ntmps201
  go_wp2_with fail
  refine H.out.mono ?_
  rintro e w' ⟨r, rfl, hr, rfl⟩
  have HR := Lib.hid hr
  clear hr
  go_wp2_with fail
  go_ret
  exact ⟨ret_bool HR.out, rfl⟩
theorem confName_any (s : ByteArray) (w : World) : Calls Tryz.prog 163 #[.string s] w fun e w' => e = .returned (.bool (isNameB s)) ∧ Below w.heap.size w w' := by
  have hsz : s.toList.length = s.size := by rw [ByteArray.toList_eq, Array.length_toList]; rfl
  by_cases h0 : s.size = 0
  · have HB := Lib.hid (isNameB_short (s := s) (by omega))
    have hb : s.toList.isEmpty = true := by
      rw [List.eq_nil_of_length_eq_zero (show s.toList.length = 0 by omega)]; rfl
    clear h0 hsz
    go_enter Tryz.func163, Tryz.ntmps163
    go_wp2_with fail
    go_ret
    exact ⟨ret_bool HB.out.symm, Below.refl _ _⟩
  have hb : s.toList.isEmpty = false := by
    cases hl : s.toList with
    | nil => rw [hl] at hsz; exact (h0 (by rw [← hsz]; rfl)).elim
    | cons _ _ => rfl
  clear hsz
  have hpos : 0 < s.size := by omega
  by_cases h12 : 12 < s.size
  · have HB := Lib.hid (isNameB_short (s := s) (by omega))
    go_enter Tryz.func163, Tryz.ntmps163
    go_wp2_with fail
    go_ret
    exact ⟨ret_bool HB.out.symm, Below.refl _ _⟩
  by_cases h97 : 97 ≤ ((s[0]'hpos).toNat : Int)
  · by_cases h122 : ((s[0]'hpos).toNat : Int) ≤ 122
    · have HB := Lib.hid (nameB_of hpos (by omega) (show 97 ≤ (s[0]'hpos).toNat ∧ (s[0]'hpos).toNat ≤ 122 by omega))
      obtain ⟨cap, w1, hcv, hrow, hbl⟩ := str_bytes w s
      have HC := Lib.hid (conName_any s w.heap.size cap w1 hrow (by omega))
      have HBL := Lib.hid hbl
      clear hrow hbl
      unfold nameV at HC
      go_enter Tryz.func163, Tryz.ntmps163
      go_wp2_with fail
      refine HC.out.mono ?_
      rintro e w' ⟨rfl, rfl⟩
      rw [show badAny s = !isNameB s from by rw [HB.out, Bool.not_not]]
      go_wp2_with fail
      go_ret
      exact ⟨ret_bool (by first | rfl | simp), HBL.out⟩
    · have HB := Lib.hid (nameB_first hpos (by omega))
      go_enter Tryz.func163, Tryz.ntmps163
      go_wp2_with fail
      go_ret
      exact ⟨ret_bool HB.out.symm, Below.refl _ _⟩
  · have HB := Lib.hid (nameB_first hpos (by omega))
    go_enter Tryz.func163, Tryz.ntmps163
    go_wp2_with fail
    go_ret
    exact ⟨ret_bool HB.out.symm, Below.refl _ _⟩
end Go.Proofs.YtikehilbmldadaaGreatDoor
