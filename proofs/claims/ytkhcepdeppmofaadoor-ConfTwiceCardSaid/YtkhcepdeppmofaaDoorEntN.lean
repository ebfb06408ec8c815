/- Is a text a name? The document's IsName. -/
import Derived.Test.YtkhcepdeppmofaaDoorStrs
namespace Go.Proofs.YtkhcepdeppmofaaDoor
open Go.RowKit
set_option linter.unusedVariables false

def okN (i : Nat) (c : UInt8) : Bool := decide ((97 ≤ c.toNat ∧ c.toNat ≤ 122) ∨ (i ≠ 0 ∧ ((48 ≤ c.toNat ∧ c.toNat ≤ 57) ∨ c.toNat = 45)))
def isNameB (s : ByteArray) : Bool := decide (1 ≤ s.size ∧ s.size ≤ 12) && (List.range s.size).all (fun i => okN i (s.data.toList.getD i 0))
theorem isNameB_short {s : ByteArray} (h : ¬ (1 ≤ s.size ∧ s.size ≤ 12)) : isNameB s = false := by simp only [isNameB, decide_eq_false h, Bool.false_and]
theorem getD_at (s : ByteArray) (i : Nat) (hi : i < s.size) : s.data.toList.getD i 0 = s[i] := by
  rw [List.getD_eq_getElem?_getD, List.getElem?_eq_getElem (show i < s.data.toList.length from hi)]; rfl
theorem isNameB_bad {s : ByteArray} (i : Nat) (hi : i < s.size) (h : okN i s[i] = false) : isNameB s = false := by
  unfold isNameB
  rw [Bool.and_eq_false_iff]
  right
  rw [List.all_eq_false]
  exact ⟨i, List.mem_range.2 hi, by rw [getD_at s i hi, h]; simp⟩
theorem isNameB_good {s : ByteArray} (h1 : 1 ≤ s.size ∧ s.size ≤ 12) (h : ∀ i (hi : i < s.size), okN i s[i] = true) : isNameB s = true := by
  unfold isNameB
  rw [decide_eq_true h1, Bool.true_and, List.all_eq_true]
  intro i hi
  have hi := List.mem_range.1 hi
  rw [getD_at s i hi]
  exact h i hi

set_option maxHeartbeats 1000000 in
theorem isName_any (s : ByteArray) (w : World) : Calls Tryd.prog 42 #[.string s] w fun e w' => e = .returned (.bool (isNameB s)) ∧ w = w' := by
  by_cases h1 : s.size < 1
  · have HB := Lib.hid (isNameB_short (s := s) (by omega))
    go_enter Tryd.func42, Tryd.ntmps42
    go_wp2_with fail
    go_ret
    exact ⟨ret_bool HB.out.symm, rfl⟩
  by_cases h2 : 12 < s.size
  · have HB := Lib.hid (isNameB_short (s := s) (by omega))
    go_enter Tryd.func42, Tryd.ntmps42
    go_wp2_with fail
    go_ret
    exact ⟨ret_bool HB.out.symm, rfl⟩
  go_enter Tryd.func42, Tryd.ntmps42
  go_wp2_with fail
  go_loop [3] (fun t => ∃ i : Nat, i ≤ s.size ∧ t = .int .i64 i ∧ Hid (∀ j (hj : j < s.size), j < i → okN j s[j] = true)) (fun t => s.size - (intOf t).toNat)
  case atStart => exact ⟨0, Nat.zero_le _, rfl, fun j _ h => by omega⟩
  case round =>
    obtain ⟨i, hi, rfl, hall⟩ := hrel
    by_cases hlt : i < s.size
    · by_cases h3 : 97 ≤ (s[i].toNat : Int)
      · by_cases h4 : (s[i].toNat : Int) ≤ 122
        ·
          have hgood := Lib.hid (show okN i s[i] = true from by unfold okN; exact decide_eq_true (by omega))
          go_wp2_with fail
          go_round
          case rel => exact ⟨i + 1, by omega, by go_num, (show ∀ j (hj : j < s.size), j < i + 1 → okN j s[j] = true from fun j hj hji => by
            by_cases e : j = i
            · subst e; exact hgood.out
            · exact hall.out j hj (by omega))⟩
          case measure => simp [intOf]; omega
        · have h5 : 48 ≤ (s[i].toNat : Int) := by omega
          have h6 : ¬ (s[i].toNat : Int) ≤ 57 := by omega
          have h7 : ((s[i].toNat : Int) == 45) = false := by simp; omega
          have hbad := Lib.hid (isNameB_bad i hlt (by unfold okN; exact decide_eq_false (by omega)))
          go_wp2_with fail
          all_goals
            go_ret
            exact ⟨ret_bool hbad.out.symm, rfl⟩
      · by_cases h5 : 48 ≤ (s[i].toNat : Int)
        · by_cases h6 : (s[i].toNat : Int) ≤ 57
          · by_cases hi0 : i = 0
            · have hib : ((i : Int) == 0) = true := by simp [hi0]
              have HI0 := Lib.hid hi0
              clear hi0
              have hbad := Lib.hid (isNameB_bad i hlt (by have := HI0.out; unfold okN; exact decide_eq_false (by omega)))
              go_wp2_with fail
              go_ret
              exact ⟨ret_bool hbad.out.symm, rfl⟩
            · have hib : ((i : Int) == 0) = false := by simp [hi0]
              have hgood := Lib.hid (show okN i s[i] = true from by unfold okN; exact decide_eq_true (by omega))
              go_wp2_with fail
              go_round
              case rel => exact ⟨i + 1, by omega, by go_num, (show ∀ j (hj : j < s.size), j < i + 1 → okN j s[j] = true from fun j hj hji => by
                by_cases e : j = i
                · subst e; exact hgood.out
                · exact hall.out j hj (by omega))⟩
              case measure => simp [intOf]; omega
          · have h7 : ((s[i].toNat : Int) == 45) = false := by simp; omega
            have hbad := Lib.hid (isNameB_bad i hlt (by unfold okN; exact decide_eq_false (by omega)))
            go_wp2_with fail
            all_goals
              go_ret
              exact ⟨ret_bool hbad.out.symm, rfl⟩
        · by_cases h7 : (s[i].toNat : Int) = 45
          · have h7b : ((s[i].toNat : Int) == 45) = true := by simp [h7]
            have H7 := Lib.hid h7
            clear h7
            by_cases hi0 : i = 0
            · have hib : ((i : Int) == 0) = true := by simp [hi0]
              have HI0 := Lib.hid hi0
              clear hi0
              have hbad := Lib.hid (isNameB_bad i hlt (by have := HI0.out; have := H7.out; unfold okN; exact decide_eq_false (by omega)))
              go_wp2_with fail
              go_ret
              exact ⟨ret_bool hbad.out.symm, rfl⟩
            · have hib : ((i : Int) == 0) = false := by simp [hi0]
              have hgood := Lib.hid (show okN i s[i] = true from by have := H7.out; unfold okN; exact decide_eq_true (by omega))
              go_wp2_with fail
              go_round
              case rel => exact ⟨i + 1, by omega, by go_num, (show ∀ j (hj : j < s.size), j < i + 1 → okN j s[j] = true from fun j hj hji => by
                by_cases e : j = i
                · subst e; exact hgood.out
                · exact hall.out j hj (by omega))⟩
              case measure => simp [intOf]; omega
          · have h7b : ((s[i].toNat : Int) == 45) = false := by simp [h7]
            have hbad := Lib.hid (isNameB_bad i hlt (by unfold okN; exact decide_eq_false (by omega)))
            go_wp2_with fail
            all_goals
              go_ret
              exact ⟨ret_bool hbad.out.symm, rfl⟩
    · have HB := Lib.hid (isNameB_good (s := s) (by omega) (fun j hj => hall.out j hj (by omega)))
      go_wp2_with fail
      go_ret
      exact ⟨ret_bool HB.out.symm, rfl⟩
end Go.Proofs.YtkhcepdeppmofaaDoor
