/- Package conf: Name; what its closures and the library's ContainsFunc tell. -/
import Derived.Test.YtgdaljpimblkgaaGreatDoorR08
import Derived.Laws.IdiomStrings
namespace Go.Proofs.YtgdaljpimblkgaaGreatDoor
open Go.RowKit
set_option linter.unusedVariables false

theorem str_bytes (w : World) (s : ByteArray) : ∃ cap w', (convert 9 58 (.string s)).run Tryz.prog w = .ok (.slice (some ⟨w.heap.size, 0, none⟩) s.size cap) w' ∧ (∀ j (hj : j < s.size), w'.cell? ⟨w.heap.size, j, none⟩ = some (.int .u8 (s[j].toNat : Int))) ∧ Below w.heap.size w w' := by
  have h := run_bytes_of_string w 9 58 5 s Tryz.underlying9 Tryz.underlying58 Tryz.underlying5
  refine ⟨_, _, h, fun j hj => ?_, ((Below.refl w.heap.size w).drew).alloc (Nat.le_refl _) _⟩
  have e : w.heap.size = w.drew.heap.size := rfl
  conv => lhs; arg 2; rw [e]
  rw [World.cell?_alloc_mark]
  exact bytesRow_at s _ j hj

/-- A byte that is in no name. -/
def badC (c : UInt8) : Bool := !decide (97 ≤ c.toNat ∧ c.toNat ≤ 122) && (!decide (48 ≤ c.toNat ∧ c.toNat ≤ 57) && !decide (c.toNat = 45))
def badAny (s : ByteArray) : Bool := (List.range s.size).any (fun i => badC (s.data.toList.getD i 0))
theorem badAny_hit {s : ByteArray} (i : Nat) (hi : i < s.size) (h : badC s[i] = true) : badAny s = true :=
  List.any_eq_true.2 ⟨i, List.mem_range.2 hi, by rw [getD_at s i hi]; exact h⟩
theorem badAny_miss {s : ByteArray} (h : ∀ i (hi : i < s.size), badC s[i] = false) : badAny s = false :=
  List.any_eq_false.2 (fun i hi => by
    have hi' := List.mem_range.1 hi
    rw [getD_at s i hi', h i hi']; decide)
theorem badAny_false {s : ByteArray} (h : badAny s = false) : ∀ i (hi : i < s.size), badC s[i] = false := fun i hi => by
  cases hb : badC s[i]
  · rfl
  · rw [badAny_hit i hi hb] at h; cases h
theorem nameB_of {s : ByteArray} (h1 : 1 ≤ s.size) (h2 : s.size ≤ 12) (h3 : 97 ≤ (s[0]'(by omega)).toNat ∧ (s[0]'(by omega)).toNat ≤ 122) : isNameB s = !badAny s := by
  cases hb : badAny s
  · refine isNameB_good ⟨h1, h2⟩ (fun i hi => ?_)
    have := badAny_false hb i hi
    unfold badC at this
    unfold okN
    rw [decide_eq_true_iff]
    by_cases hi0 : i = 0
    · subst hi0; exact .inl h3
    · simp at this
      omega
  · have : ∃ i, ∃ hi : i < s.size, badC s[i] = true := by
      obtain ⟨i, hi, h⟩ := List.any_eq_true.1 hb
      have hi' := List.mem_range.1 hi
      exact ⟨i, hi', by rw [getD_at s i hi'] at h; exact h⟩
    obtain ⟨i, hi, h⟩ := this
    refine isNameB_bad i hi ?_
    unfold badC at h
    unfold okN
    simp at h
    rw [decide_eq_false_iff_not]
    omega
theorem nameB_first {s : ByteArray} (h1 : 1 ≤ s.size) (h3 : ¬ (97 ≤ (s[0]'(by omega)).toNat ∧ (s[0]'(by omega)).toNat ≤ 122)) : isNameB s = false := by
  refine isNameB_bad 0 h1 ?_
  unfold okN
  rw [decide_eq_false_iff_not]
  simp
  omega

set_option maxHeartbeats 400000 in
theorem nameC_any (c : UInt8) (w : World) : Calls Tryz.prog 69 #[.int .u8 (c.toNat : Int)] w fun e w' => e = .returned (.bool (badC c)) ∧ w = w' := by
  obtain ⟨x, hx⟩ : ∃ x : Int, x = (c.toNat : Int) := ⟨_, rfl⟩
  rw [← hx]
  have HX := Lib.hid hx
  clear hx
  by_cases h1 : 97 ≤ x
  · by_cases h2 : x ≤ 122
    · have HV := Lib.hid (show badC c = false from by have := HX.out; unfold badC; rw [decide_eq_true (show 97 ≤ c.toNat ∧ c.toNat ≤ 122 by omega)]; rfl)
      go_enter Tryz.func69, Tryz.ntmps69
      go_wp2_with fail
      go_ret
      exact ⟨ret_bool HV.out.symm, rfl⟩
    · have h3 : 48 ≤ x := by omega
      have h4 : ¬ x ≤ 57 := by omega
      have h5 : (x != 45) = true := by simp; omega
      have HV := Lib.hid (show badC c = true from by have := HX.out; unfold badC; rw [decide_eq_false (show ¬ (97 ≤ c.toNat ∧ c.toNat ≤ 122) by omega), decide_eq_false (show ¬ (48 ≤ c.toNat ∧ c.toNat ≤ 57) by omega), decide_eq_false (show ¬ c.toNat = 45 by omega)]; rfl)
      go_enter Tryz.func69, Tryz.ntmps69
      go_wp2_with fail
      go_ret
      exact ⟨ret_bool HV.out.symm, rfl⟩
  · by_cases h3 : 48 ≤ x
    · by_cases h4 : x ≤ 57
      · have HV := Lib.hid (show badC c = false from by have := HX.out; unfold badC; rw [decide_eq_false (show ¬ (97 ≤ c.toNat ∧ c.toNat ≤ 122) by omega), decide_eq_true (show 48 ≤ c.toNat ∧ c.toNat ≤ 57 by omega)]; rfl)
        go_enter Tryz.func69, Tryz.ntmps69
        go_wp2_with fail
        go_ret
        exact ⟨ret_bool HV.out.symm, rfl⟩
      · have h5 : (x != 45) = true := by simp; omega
        have HV := Lib.hid (show badC c = true from by have := HX.out; unfold badC; rw [decide_eq_false (show ¬ (97 ≤ c.toNat ∧ c.toNat ≤ 122) by omega), decide_eq_false (show ¬ (48 ≤ c.toNat ∧ c.toNat ≤ 57) by omega), decide_eq_false (show ¬ c.toNat = 45 by omega)]; rfl)
        go_enter Tryz.func69, Tryz.ntmps69
        go_wp2_with fail
        go_ret
        exact ⟨ret_bool HV.out.symm, rfl⟩
    · by_cases h6 : x = 45
      · have h5 : (x != 45) = false := by simp [h6]
        have HV := Lib.hid (show badC c = false from by have := HX.out; unfold badC; rw [decide_eq_false (show ¬ (97 ≤ c.toNat ∧ c.toNat ≤ 122) by omega), decide_eq_false (show ¬ (48 ≤ c.toNat ∧ c.toNat ≤ 57) by omega), decide_eq_true (show c.toNat = 45 by omega)]; rfl)
        clear h6
        go_enter Tryz.func69, Tryz.ntmps69
        go_wp2_with fail
        go_ret
        exact ⟨ret_bool HV.out.symm, rfl⟩
      · have h5 : (x != 45) = true := by simp; exact h6
        have HV := Lib.hid (show badC c = true from by have := HX.out; unfold badC; rw [decide_eq_false (show ¬ (97 ≤ c.toNat ∧ c.toNat ≤ 122) by omega), decide_eq_false (show ¬ (48 ≤ c.toNat ∧ c.toNat ≤ 57) by omega), decide_eq_false (show ¬ c.toNat = 45 by omega)]; rfl)
        clear h6
        go_enter Tryz.func69, Tryz.ntmps69
        go_wp2_with fail
        go_ret
        exact ⟨ret_bool HV.out.symm, rfl⟩

def nameV : Value := .func (.func 69) #[] #[]
set_option maxHeartbeats 1000000 in
theorem idxName_any (s : ByteArray) (b cap : Nat) (w : World) (h : ∀ j (hj : j < s.size), w.cell? ⟨b, j, none⟩ = some (.int .u8 (s[j].toNat : Int))) (hn : s.size ≤ 1000000) :
    Calls Tryz.prog 94 #[.slice (some ⟨b, 0, none⟩) s.size cap, nameV] w fun e w' => ∃ r : Int, e = .returned (.int .i64 r) ∧ decide (0 ≤ r) = badAny s ∧ w = w' := by
  have H := Lib.hid h
  clear h
  unfold nameV
  go_enter Tryz.func94, Tryz.ntmps94
  go_wp2_with fail
  go_loop [8] (fun t => ∃ k : Nat, k ≤ s.size ∧ t = .int .i64 k ∧ Hid (∀ j (hj : j < s.size), j < k → badC s[j] = false)) (fun t => s.size - (intOf t).toNat)
  case atStart => exact ⟨0, Nat.zero_le _, rfl, fun j hj h => by omega⟩
  case round =>
    obtain ⟨k, hk, rfl, hall⟩ := hrel
    by_cases hlt : k < s.size
    · have q := H.out k hlt
      have HC := Lib.hid (nameC_any s[k] w)
      cases hb : badC s[k]
      · rw [hb] at HC
        have nx : Hid (∀ j (hj : j < s.size), j < k + 1 → badC s[j] = false) := (show ∀ j (hj : j < s.size), j < k + 1 → badC s[j] = false from fun j hj h => by
          by_cases e : j = k
          · subst e; exact hb
          · exact hall.out j hj (by omega))
        clear hb hall
        go_wp2_with fail
        refine HC.out.mono ?_
        rintro e w' ⟨rfl, rfl⟩
        go_wp2_with fail
        go_round
        case rel => exact ⟨k + 1, by omega, by go_num, nx⟩
        case measure => simp [intOf]; omega
      · rw [hb] at HC
        have HB := Lib.hid (badAny_hit k hlt hb)
        clear hb hall
        go_wp2_with fail
        refine HC.out.mono ?_
        rintro e w' ⟨rfl, rfl⟩
        go_wp2_with fail
        go_ret
        exact ⟨_, rfl, by rw [HB.out]; exact decide_eq_true (by omega), rfl⟩
    · have HB := Lib.hid (badAny_miss (s := s) (fun j hj => hall.out j hj (by omega)))
      clear hall
      go_wp2_with fail
      go_ret
      exact ⟨_, rfl, by rw [HB.out]; rfl, rfl⟩
set_option maxHeartbeats 1000000 in
theorem conName_any (s : ByteArray) (b cap : Nat) (w : World) (h : ∀ j (hj : j < s.size), w.cell? ⟨b, j, none⟩ = some (.int .u8 (s[j].toNat : Int))) (hn : s.size ≤ 1000000) :
    Calls Tryz.prog 68 #[.slice (some ⟨b, 0, none⟩) s.size cap, nameV] w fun e w' => e = .returned (.bool (badAny s)) ∧ w = w' := by
  have H := Lib.hid (idxName_any s b cap w h hn)
  clear h
  unfold nameV at H ⊢
  go_enter Tryz.func68, Tryz.ntmps68
  go_wp2_with fail
  refine H.out.mono ?_
  rintro e w' ⟨r, rfl, hr, rfl⟩
  have HR := Lib.hid hr
  clear hr
  go_wp2_with fail
  go_ret
  exact ⟨ret_bool HR.out, rfl⟩
set_option maxRecDepth 100000 in
set_option maxHeartbeats 1000000 in
theorem confName_any (s : ByteArray) (w : World) : Calls Tryz.prog 42 #[.string s] w fun e w' => e = .returned (.bool (isNameB s)) ∧ Below w.heap.size w w' := by
  have hsz : s.toList.length = s.size := by rw [ByteArray.toList_eq, Array.length_toList]; rfl
  by_cases h0 : s.size = 0
  · have HB := Lib.hid (isNameB_short (s := s) (by omega))
    have hb : s.toList.isEmpty = true := by
      rw [List.eq_nil_of_length_eq_zero (show s.toList.length = 0 by omega)]; rfl
    clear h0 hsz
    go_enter Tryz.func42, Tryz.ntmps42
    go_wp2_with fail
    go_ret
    exact ⟨ret_bool HB.out.symm, Below.refl _ _⟩
  have hb : s.toList.isEmpty = false := by
    cases hl : s.toList with
    | nil => rw [hl] at hsz; exact (h0 (by rw [← hsz]; rfl)).elim
    | cons _ _ => rfl
  clear hsz
  have hpos : 0 < s.size := by omega
  by_cases h12 : 12 < s.size
  · have HB := Lib.hid (isNameB_short (s := s) (by omega))
    go_enter Tryz.func42, Tryz.ntmps42
    go_wp2_with fail
    go_ret
    exact ⟨ret_bool HB.out.symm, Below.refl _ _⟩
  by_cases h97 : 97 ≤ ((s[0]'hpos).toNat : Int)
  · by_cases h122 : ((s[0]'hpos).toNat : Int) ≤ 122
    · have HB := Lib.hid (nameB_of hpos (by omega) (show 97 ≤ (s[0]'hpos).toNat ∧ (s[0]'hpos).toNat ≤ 122 by omega))
      obtain ⟨cap, w1, hcv, hrow, hbl⟩ := str_bytes w s
      have HC := Lib.hid (conName_any s w.heap.size cap w1 hrow (by omega))
      have HBL := Lib.hid hbl
      clear hrow hbl
      unfold nameV at HC
      go_enter Tryz.func42, Tryz.ntmps42
      go_wp2_with fail
      refine HC.out.mono ?_
      rintro e w' ⟨rfl, rfl⟩
      rw [show badAny s = !isNameB s from by rw [HB.out, Bool.not_not]]
      go_wp2_with fail
      go_ret
      exact ⟨ret_bool (by first | rfl | simp), HBL.out⟩
    · have HB := Lib.hid (nameB_first hpos (by omega))
      go_enter Tryz.func42, Tryz.ntmps42
      go_wp2_with fail
      go_ret
      exact ⟨ret_bool HB.out.symm, Below.refl _ _⟩
  · have HB := Lib.hid (nameB_first hpos (by omega))
    go_enter Tryz.func42, Tryz.ntmps42
    go_wp2_with fail
    go_ret
    exact ⟨ret_bool HB.out.symm, Below.refl _ _⟩
end Go.Proofs.YtgdaljpimblkgaaGreatDoor

/- Package conf: what is twice, what stands ahead. -/
namespace Go.Proofs.YtgdaljpimblkgaaGreatDoor
open Go.RowKit
set_option linter.unusedVariables false

/-! ### ContainsFunc over entities: the same name? -/
set_option maxHeartbeats 400000 in
theorem entC_any (X : EntX) (nm : ByteArray) (eb : Nat) (w : World) (h : w.cell? ⟨eb, 0, none⟩ = some (.string nm)) :
    Calls Tryz.prog 44 #[.agg (entCs X.E X.p X.g X.e X.f X.l), .pointer (some ⟨eb, 0, none⟩)] w fun e w' => e = .returned (.bool (X.E.name.toList == nm.toList)) ∧ Below w.heap.size w w' := by
  have hlt := World.block_lt_of_cell? _ ⟨eb, 0, none⟩ h
  have q := cell_old h (.cells (entCs X.E X.p X.g X.e X.f X.l) 52)
  have hne : ¬ eb = w.heap.size := by simp only at hlt; omega
  have hne2 : ¬ w.heap.size = eb := by simp only at hlt; omega
  clear h
  unfold entCs at q ⊢
  go_enter Tryz.func44, Tryz.ntmps44
  go_wp2_with fail
  go_ret
  exact ⟨rfl, (Below.refl _ _).alloc (Nat.le_refl _) _⟩
def entFV (eb : Nat) : Value := .func (.func 44) #[] #[.pointer (some ⟨eb, 0, none⟩)]
set_option maxHeartbeats 1000000 in
theorem idxEnt_any (R : Nat → Prop) (X : List EntX) (v : Value) (nm : ByteArray) (eb : Nat) (w : World) (h : SlOf R w v 10 (X.flatMap entXCells) X.length) (hR : ∀ b, R b → b < w.heap.size) (hX : X.length ≤ 100000) (he : w.cell? ⟨eb, 0, none⟩ = some (.string nm)) :
    Calls Tryz.prog 70 #[v, entFV eb] w fun e w' => ∃ r : Int, e = .returned (.int .i64 r) ∧ decide (0 ≤ r) = hasStr (X.map xName) nm ∧ Below w.heap.size w w' := by
  obtain ⟨ao, cap, rfl⟩ := h.val
  have H := Lib.hid h
  have HE := Lib.hid he
  have hlt := World.block_lt_of_cell? _ ⟨eb, 0, none⟩ he
  clear h he
  unfold entFV
  go_enter Tryz.func70, Tryz.ntmps70
  go_wp2_with fail
  go_loopw [8] (fun t wr => ∃ k : Nat, k ≤ X.length ∧ t = .int .i64 k ∧ Below w.heap.size w wr ∧ Hid (∀ j (hj : j < X.length), j < k → X[j].E.name.toList ≠ nm.toList)) (fun t _ => X.length - (intOf t).toNat)
  case atStart => exact ⟨0, Nat.zero_le _, rfl, Below.refl _ _, fun j hj h => by omega⟩
  case round =>
    obtain ⟨k, hk, rfl, hbl, hall⟩ := hrel
    by_cases hkl : k < X.length
    · obtain ⟨b, off, rfl, hRb, hb, hc⟩ := ent_elem H.out (by omega)
      obtain ⟨q0, q1, q2, q3, q4, q5, q6, q7, q8, q9⟩ := hc k hkl
      have hRb' := hR b hRb
      rw [← hbl.cell hRb'] at q0 q1 q2 q3 q4 q5 q6 q7 q8 q9
      have HC := Lib.hid (entC_any X[k] nm eb wr (by rw [hbl.cell (p := ⟨eb, 0, none⟩) hlt]; exact HE.out))
      unfold entCs at HC
      clear hc
      by_cases hn : X[k].E.name.toList = nm.toList
      · have HH := Lib.hid (hasStr_hit (L := X.map xName) (s := nm) k (by simpa using hkl) (by simpa [xName] using hn))
        rw [show (X[k].E.name.toList == nm.toList) = true from by simp [hn]] at HC
        clear hn hall
        go_wp2_with fail
        refine HC.out.mono ?_
        rintro e w2 ⟨rfl, b2⟩
        go_wp2_with fail
        go_ret
        exact ⟨_, rfl, by rw [HH.out]; exact decide_eq_true (by omega), hbl.trans (b2.mono hbl.size)⟩
      · rw [show (X[k].E.name.toList == nm.toList) = false from by simp [hn]] at HC
        have nx : Hid (∀ j (hj : j < X.length), j < k + 1 → X[j].E.name.toList ≠ nm.toList) := (show ∀ j (hj : j < X.length), j < k + 1 → X[j].E.name.toList ≠ nm.toList from fun j hj h => by
          by_cases e : j = k
          · subst e; exact hn
          · exact hall.out j hj (by omega))
        clear hn hall
        go_wp2_with fail
        refine HC.out.mono ?_
        rintro e w2 ⟨rfl, b2⟩
        have hb2 := hbl.trans (b2.mono hbl.size)
        clear b2
        go_wp2_with fail
        go_roundw
        case rel => exact ⟨k + 1, by omega, by go_num, hb2, nx⟩
        case measure => simp [intOf]; omega
    · have HB := Lib.hid (hasStr_miss (L := X.map xName) (s := nm) (fun j hj => by simpa [xName] using hall.out j (by simpa using hj) (by have : j < X.length := by simpa using hj
                                                                                                                                          omega)))
      clear hall
      go_wp2_with fail
      go_ret
      exact ⟨_, rfl, by rw [HB.out]; rfl, hbl⟩
set_option maxHeartbeats 1000000 in
theorem conEnt_any (R : Nat → Prop) (X : List EntX) (v : Value) (nm : ByteArray) (eb : Nat) (w : World) (h : SlOf R w v 10 (X.flatMap entXCells) X.length) (hR : ∀ b, R b → b < w.heap.size) (hX : X.length ≤ 100000) (he : w.cell? ⟨eb, 0, none⟩ = some (.string nm)) :
    Calls Tryz.prog 43 #[v, entFV eb] w fun e w' => e = .returned (.bool (hasStr (X.map xName) nm)) ∧ Below w.heap.size w w' := by
  obtain ⟨ao, cap, rfl⟩ := h.val
  have H := Lib.hid (idxEnt_any R X _ nm eb w h hR hX he)
  clear h he
  unfold entFV at H ⊢
  go_enter Tryz.func43, Tryz.ntmps43
  go_wp2_with fail
  refine H.out.mono ?_
  rintro e w' ⟨r, rfl, hr, hb⟩
  have HR := Lib.hid hr
  clear hr
  go_wp2_with fail
  go_ret
  exact ⟨ret_bool HR.out, hb⟩

/-! ### ContainsFunc over numbers: a stranger? -/
def strgP (n : Int) (p : Int) : Bool := decide (p < 0 ∨ n ≤ p)
set_option maxHeartbeats 400000 in
theorem strC_any (p n : Int) (nb : Nat) (w : World) (h : w.cell? ⟨nb, 0, none⟩ = some (.int .i64 n)) :
    Calls Tryz.prog 97 #[.int .i64 p, .pointer (some ⟨nb, 0, none⟩)] w fun e w' => e = .returned (.bool (strgP n p)) ∧ w = w' := by
  by_cases h1 : p < 0
  · have HV := Lib.hid (show strgP n p = true from decide_eq_true (.inl h1))
    go_enter Tryz.func97, Tryz.ntmps97
    go_wp2_with fail
    go_ret
    exact ⟨ret_bool HV.out.symm, rfl⟩
  · have HV := Lib.hid (show strgP n p = decide (n ≤ p) from by unfold strgP; rw [decide_eq_decide]; omega)
    go_enter Tryz.func97, Tryz.ntmps97
    go_wp2_with fail
    go_ret
    exact ⟨ret_bool HV.out.symm, rfl⟩
def strgV (nb : Nat) : Value := .func (.func 97) #[] #[.pointer (some ⟨nb, 0, none⟩)]
set_option maxHeartbeats 1000000 in
theorem idxStr_any (R : Nat → Prop) (l : List Int) (v : Value) (n : Int) (nb : Nat) (w : World) (h : SlOf R w v 1 (intCells l) l.length) (hl : l.length ≤ 100000) (he : w.cell? ⟨nb, 0, none⟩ = some (.int .i64 n)) :
    Calls Tryz.prog 112 #[v, strgV nb] w fun e w' => ∃ r : Int, e = .returned (.int .i64 r) ∧ decide (0 ≤ r) = l.any (strgP n) ∧ w = w' := by
  obtain ⟨ao, cap, rfl⟩ := h.val
  have H := Lib.hid h
  have HE := Lib.hid he
  clear h he
  unfold strgV
  go_enter Tryz.func112, Tryz.ntmps112
  go_wp2_with fail
  go_loop [8] (fun t => ∃ k : Nat, k ≤ l.length ∧ t = .int .i64 k ∧ Hid (∀ j (hj : j < l.length), j < k → strgP n l[j] = false)) (fun t => l.length - (intOf t).toNat)
  case atStart => exact ⟨0, Nat.zero_le _, rfl, fun j hj h => by omega⟩
  case round =>
    obtain ⟨k, hk, rfl, hall⟩ := hrel
    by_cases hkl : k < l.length
    · obtain ⟨b, off, rfl, hRb, _, hc⟩ := int_cells H.out (by omega)
      have q := hc k hkl
      clear hc
      have HC := Lib.hid (strC_any l[k] n nb w HE.out)
      cases hb : strgP n l[k]
      · rw [hb] at HC
        have nx : Hid (∀ j (hj : j < l.length), j < k + 1 → strgP n l[j] = false) := (show ∀ j (hj : j < l.length), j < k + 1 → strgP n l[j] = false from fun j hj h => by
          by_cases e : j = k
          · subst e; exact hb
          · exact hall.out j hj (by omega))
        clear hb hall
        go_wp2_with fail
        refine HC.out.mono ?_
        rintro e w' ⟨rfl, rfl⟩
        go_wp2_with fail
        go_round
        case rel => exact ⟨k + 1, by omega, by go_num, nx⟩
        case measure => simp [intOf]; omega
      · rw [hb] at HC
        have HB := Lib.hid (List.any_eq_true.2 ⟨l[k], List.getElem_mem hkl, hb⟩)
        clear hb hall
        go_wp2_with fail
        refine HC.out.mono ?_
        rintro e w' ⟨rfl, rfl⟩
        go_wp2_with fail
        go_ret
        exact ⟨_, rfl, by rw [HB.out]; exact decide_eq_true (by omega), rfl⟩
    · have HB : Hid (l.any (strgP n) = false) := List.any_eq_false.2 (fun x hx => by
        obtain ⟨j, hj, rfl⟩ := List.mem_iff_getElem.1 hx
        rw [hall.out j hj (by omega)]; decide)
      clear hall
      go_wp2_with fail
      go_ret
      exact ⟨_, rfl, by rw [HB.out]; rfl, rfl⟩
set_option maxHeartbeats 1000000 in
theorem conStr_any (R : Nat → Prop) (l : List Int) (v : Value) (n : Int) (nb : Nat) (w : World) (h : SlOf R w v 1 (intCells l) l.length) (hl : l.length ≤ 100000) (he : w.cell? ⟨nb, 0, none⟩ = some (.int .i64 n)) :
    Calls Tryz.prog 96 #[v, strgV nb] w fun e w' => e = .returned (.bool (l.any (strgP n))) ∧ w = w' := by
  obtain ⟨ao, cap, rfl⟩ := h.val
  have H := Lib.hid (idxStr_any R l _ n nb w h hl he)
  clear h he
  unfold strgV at H ⊢
  go_enter Tryz.func96, Tryz.ntmps96
  go_wp2_with fail
  refine H.out.mono ?_
  rintro e w' ⟨r, rfl, hr, rfl⟩
  have HR := Lib.hid hr
  clear hr
  go_wp2_with fail
  go_ret
  exact ⟨ret_bool HR.out, rfl⟩

/-! ### ContainsFunc over gaps: a wrong one? -/
set_option maxHeartbeats 400000 in
theorem gapC_any (g : GapV) (w : World) :
    Calls Tryz.prog 77 #[.agg #[.int .i64 g.fr, .int .i64 g.dst, .int .i64 g.mn, .int .i64 g.mx]] w fun e w' => e = .returned (.bool (gapWrong g)) ∧ Below w.heap.size w w' := by
  by_cases h1 : g.mn < 0
  · have HV := Lib.hid (show gapWrong g = true from decide_eq_true (.inl h1))
    go_enter Tryz.func77, Tryz.ntmps77
    go_wp2_with fail
    go_ret
    exact ⟨ret_bool HV.out.symm, (Below.refl _ _).alloc (Nat.le_refl _) _⟩
  · by_cases h2 : g.mx < g.mn
    · have HV := Lib.hid (show gapWrong g = true from decide_eq_true (.inr (.inl h2)))
      go_enter Tryz.func77, Tryz.ntmps77
      go_wp2_with fail
      go_ret
      exact ⟨ret_bool HV.out.symm, (Below.refl _ _).alloc (Nat.le_refl _) _⟩
    · have HV := Lib.hid (show gapWrong g = decide (1099511627776 < g.mx) from by unfold gapWrong; rw [decide_eq_decide]; omega)
      go_enter Tryz.func77, Tryz.ntmps77
      go_wp2_with fail
      go_ret
      exact ⟨ret_bool HV.out.symm, (Below.refl _ _).alloc (Nat.le_refl _) _⟩
def gapFV : Value := .func (.func 77) #[] #[]
set_option maxHeartbeats 1000000 in
theorem idxGap_any (R : Nat → Prop) (l : List GapV) (v : Value) (w : World) (h : SlOf R w v 4 (l.flatMap gapCells) l.length) (hR : ∀ b, R b → b < w.heap.size) (hl : l.length ≤ 100000) :
    Calls Tryz.prog 98 #[v, gapFV] w fun e w' => ∃ r : Int, e = .returned (.int .i64 r) ∧ decide (0 ≤ r) = l.any gapWrong ∧ Below w.heap.size w w' := by
  obtain ⟨ao, cap, rfl⟩ := h.val
  have H := Lib.hid h
  clear h
  unfold gapFV
  go_enter Tryz.func98, Tryz.ntmps98
  go_wp2_with fail
  go_loopw [8] (fun t wr => ∃ k : Nat, k ≤ l.length ∧ t = .int .i64 k ∧ Below w.heap.size w wr ∧ Hid (∀ j (hj : j < l.length), j < k → gapWrong l[j] = false)) (fun t _ => l.length - (intOf t).toNat)
  case atStart => exact ⟨0, Nat.zero_le _, rfl, Below.refl _ _, fun j hj h => by omega⟩
  case round =>
    obtain ⟨k, hk, rfl, hbl, hall⟩ := hrel
    by_cases hkl : k < l.length
    · obtain ⟨gb, goff, rfl, hRg, _, hcg⟩ := H.out.elem (f := gapCells) (fun _ => rfl) (by decide) (by omega)
      have x0 := hcg k hkl 0 _ rfl
      have x1 := hcg k hkl 1 _ rfl
      have x2 := hcg k hkl 2 _ rfl
      have x3 := hcg k hkl 3 _ rfl
      rw [← hbl.cell (hR gb hRg)] at x0 x1 x2 x3
      rw [Nat.add_zero] at x0
      clear hcg
      have HC := Lib.hid (gapC_any l[k] wr)
      cases hb : gapWrong l[k]
      · rw [hb] at HC
        have nx : Hid (∀ j (hj : j < l.length), j < k + 1 → gapWrong l[j] = false) := (show ∀ j (hj : j < l.length), j < k + 1 → gapWrong l[j] = false from fun j hj h => by
          by_cases e : j = k
          · subst e; exact hb
          · exact hall.out j hj (by omega))
        clear hb hall
        go_wp2_with fail
        refine HC.out.mono ?_
        rintro e w2 ⟨rfl, b2⟩
        have hb2 := hbl.trans (b2.mono hbl.size)
        clear b2
        go_wp2_with fail
        go_roundw
        case rel => exact ⟨k + 1, by omega, by go_num, hb2, nx⟩
        case measure => simp [intOf]; omega
      · rw [hb] at HC
        have HB := Lib.hid (List.any_eq_true.2 ⟨l[k], List.getElem_mem hkl, hb⟩)
        clear hb hall
        go_wp2_with fail
        refine HC.out.mono ?_
        rintro e w2 ⟨rfl, b2⟩
        go_wp2_with fail
        go_ret
        exact ⟨_, rfl, by rw [HB.out]; exact decide_eq_true (by omega), hbl.trans (b2.mono hbl.size)⟩
    · have HB : Hid (l.any gapWrong = false) := List.any_eq_false.2 (fun x hx => by
        obtain ⟨j, hj, rfl⟩ := List.mem_iff_getElem.1 hx
        rw [hall.out j hj (by omega)]; decide)
      clear hall
      go_wp2_with fail
      go_ret
      exact ⟨_, rfl, by rw [HB.out]; rfl, hbl⟩
set_option maxHeartbeats 1000000 in
theorem conGap_any (R : Nat → Prop) (l : List GapV) (v : Value) (w : World) (h : SlOf R w v 4 (l.flatMap gapCells) l.length) (hR : ∀ b, R b → b < w.heap.size) (hl : l.length ≤ 100000) :
    Calls Tryz.prog 76 #[v, gapFV] w fun e w' => e = .returned (.bool (l.any gapWrong)) ∧ Below w.heap.size w w' := by
  obtain ⟨ao, cap, rfl⟩ := h.val
  have H := Lib.hid (idxGap_any R l _ w h hR hl)
  clear h
  unfold gapFV at H ⊢
  go_enter Tryz.func76, Tryz.ntmps76
  go_wp2_with fail
  refine H.out.mono ?_
  rintro e w' ⟨r, rfl, hr, hb⟩
  have HR := Lib.hid hr
  clear hr
  go_wp2_with fail
  go_ret
  exact ⟨ret_bool HR.out, hb⟩
end Go.Proofs.YtgdaljpimblkgaaGreatDoor
