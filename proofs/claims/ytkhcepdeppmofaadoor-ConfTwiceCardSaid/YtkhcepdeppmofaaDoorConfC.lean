/- Package conf: what is twice, what stands ahead. -/
import Derived.Test.YtkhcepdeppmofaaDoorConfN
namespace Go.Proofs.YtkhcepdeppmofaaDoor
open Go.RowKit
set_option linter.unusedVariables false

/-! ### ContainsFunc over entities: the same name? -/
set_option maxHeartbeats 400000 in
theorem entC_any (X : EntX) (nm : ByteArray) (eb : Nat) (w : World) (h : w.cell? ⟨eb, 0, none⟩ = some (.string nm)) :
    Calls Tryd.prog 104 #[.agg (entCs X.E X.p X.g X.e X.f X.l), .pointer (some ⟨eb, 0, none⟩)] w fun e w' => e = .returned (.bool (X.E.name.toList == nm.toList)) ∧ Below w.heap.size w w' := by
  have hlt := World.block_lt_of_cell? _ ⟨eb, 0, none⟩ h
  have q := cell_old h (.cells (entCs X.E X.p X.g X.e X.f X.l) 27)
  have hne : ¬ eb = w.heap.size := by simp only at hlt; omega
  have hne2 : ¬ w.heap.size = eb := by simp only at hlt; omega
  clear h
  unfold entCs at q ⊢
  go_enter Tryd.func104, Tryd.ntmps104
  go_wp2_with fail
  go_ret
  exact ⟨rfl, (Below.refl _ _).alloc (Nat.le_refl _) _⟩
def entFV (eb : Nat) : Value := .func (.func 104) #[] #[.pointer (some ⟨eb, 0, none⟩)]
set_option maxHeartbeats 1000000 in
theorem idxEnt_any (R : Nat → Prop) (X : List EntX) (v : Value) (nm : ByteArray) (eb : Nat) (w : World) (h : SlOf R w v 10 (X.flatMap entXCells) X.length) (hR : ∀ b, R b → b < w.heap.size) (hX : X.length ≤ 100000) (he : w.cell? ⟨eb, 0, none⟩ = some (.string nm)) :
    Calls Tryd.prog 142 #[v, entFV eb] w fun e w' => ∃ r : Int, e = .returned (.int .i64 r) ∧ decide (0 ≤ r) = hasStr (X.map xName) nm ∧ Below w.heap.size w w' := by
  obtain ⟨ao, cap, rfl⟩ := h.val
  have H := Lib.hid h
  have HE := Lib.hid he
  have hlt := World.block_lt_of_cell? _ ⟨eb, 0, none⟩ he
  clear h he
  unfold entFV
  go_enter Tryd.func142, Tryd.ntmps142
  go_wp2_with fail
  go_loopw [8] (fun t wr => ∃ k : Nat, k ≤ X.length ∧ t = .int .i64 k ∧ Below w.heap.size w wr ∧ Hid (∀ j (hj : j < X.length), j < k → X[j].E.name.toList ≠ nm.toList)) (fun t _ => X.length - (intOf t).toNat)
  case atStart => exact ⟨0, Nat.zero_le _, rfl, Below.refl _ _, fun j hj h => by omega⟩
  case round =>
    obtain ⟨k, hk, rfl, hbl, hall⟩ := hrel
    by_cases hkl : k < X.length
    · obtain ⟨b, off, rfl, hRb, hb, hc⟩ := ent_elem H.out (by omega)
      obtain ⟨q0, q1, q2, q3, q4, q5, q6, q7, q8, q9⟩ := hc k hkl
      have hRb' := hR b hRb
      rw [← hbl.cell hRb'] at q0 q1 q2 q3 q4 q5 q6 q7 q8 q9
      have HC := Lib.hid (entC_any X[k] nm eb wr (by rw [hbl.cell (p := ⟨eb, 0, none⟩) hlt]; exact HE.out))
      unfold entCs at HC
      clear hc
      by_cases hn : X[k].E.name.toList = nm.toList
      · have HH := Lib.hid (hasStr_hit (L := X.map xName) (s := nm) k (by simpa using hkl) (by simpa [xName] using hn))
        rw [show (X[k].E.name.toList == nm.toList) = true from by simp [hn]] at HC
        clear hn hall
        go_wp2_with fail
        refine HC.out.mono ?_
        rintro e w2 ⟨rfl, b2⟩
        go_wp2_with fail
        go_ret
        exact ⟨_, rfl, by rw [HH.out]; exact decide_eq_true (by omega), hbl.trans (b2.mono hbl.size)⟩
      · rw [show (X[k].E.name.toList == nm.toList) = false from by simp [hn]] at HC
        have nx : Hid (∀ j (hj : j < X.length), j < k + 1 → X[j].E.name.toList ≠ nm.toList) := (show ∀ j (hj : j < X.length), j < k + 1 → X[j].E.name.toList ≠ nm.toList from fun j hj h => by
          by_cases e : j = k
          · subst e; exact hn
          · exact hall.out j hj (by omega))
        clear hn hall
        go_wp2_with fail
        refine HC.out.mono ?_
        rintro e w2 ⟨rfl, b2⟩
        have hb2 := hbl.trans (b2.mono hbl.size)
        clear b2
        go_wp2_with fail
        go_roundw
        case rel => exact ⟨k + 1, by omega, by go_num, hb2, nx⟩
        case measure => simp [intOf]; omega
    · have HB := Lib.hid (hasStr_miss (L := X.map xName) (s := nm) (fun j hj => by simpa [xName] using hall.out j (by simpa using hj) (by have : j < X.length := by simpa using hj
                                                                                                                                          omega)))
      clear hall
      go_wp2_with fail
      go_ret
      exact ⟨_, rfl, by rw [HB.out]; rfl, hbl⟩
set_option maxHeartbeats 1000000 in
theorem conEnt_any (R : Nat → Prop) (X : List EntX) (v : Value) (nm : ByteArray) (eb : Nat) (w : World) (h : SlOf R w v 10 (X.flatMap entXCells) X.length) (hR : ∀ b, R b → b < w.heap.size) (hX : X.length ≤ 100000) (he : w.cell? ⟨eb, 0, none⟩ = some (.string nm)) :
    Calls Tryd.prog 103 #[v, entFV eb] w fun e w' => e = .returned (.bool (hasStr (X.map xName) nm)) ∧ Below w.heap.size w w' := by
  obtain ⟨ao, cap, rfl⟩ := h.val
  have H := Lib.hid (idxEnt_any R X _ nm eb w h hR hX he)
  clear h he
  unfold entFV at H ⊢
  go_enter Tryd.func103, Tryd.ntmps103
  go_wp2_with fail
  refine H.out.mono ?_
  rintro e w' ⟨r, rfl, hr, hb⟩
  have HR := Lib.hid hr
  clear hr
  go_wp2_with fail
  go_ret
  exact ⟨ret_bool HR.out, hb⟩

/-! ### ContainsFunc over numbers: a stranger? -/
def strgP (n : Int) (p : Int) : Bool := decide (p < 0 ∨ n ≤ p)
set_option maxHeartbeats 400000 in
theorem strC_any (p n : Int) (nb : Nat) (w : World) (h : w.cell? ⟨nb, 0, none⟩ = some (.int .i64 n)) :
    Calls Tryd.prog 173 #[.int .i64 p, .pointer (some ⟨nb, 0, none⟩)] w fun e w' => e = .returned (.bool (strgP n p)) ∧ w = w' := by
  by_cases h1 : p < 0
  · have HV := Lib.hid (show strgP n p = true from decide_eq_true (.inl h1))
    go_enter Tryd.func173, Tryd.ntmps173
    go_wp2_with fail
    go_ret
    exact ⟨ret_bool HV.out.symm, rfl⟩
  · have HV := Lib.hid (show strgP n p = decide (n ≤ p) from by unfold strgP; rw [decide_eq_decide]; omega)
    go_enter Tryd.func173, Tryd.ntmps173
    go_wp2_with fail
    go_ret
    exact ⟨ret_bool HV.out.symm, rfl⟩
def strgV (nb : Nat) : Value := .func (.func 173) #[] #[.pointer (some ⟨nb, 0, none⟩)]
set_option maxHeartbeats 1000000 in
theorem idxStr_any (R : Nat → Prop) (l : List Int) (v : Value) (n : Int) (nb : Nat) (w : World) (h : SlOf R w v 1 (intCells l) l.length) (hl : l.length ≤ 100000) (he : w.cell? ⟨nb, 0, none⟩ = some (.int .i64 n)) :
    Calls Tryd.prog 186 #[v, strgV nb] w fun e w' => ∃ r : Int, e = .returned (.int .i64 r) ∧ decide (0 ≤ r) = l.any (strgP n) ∧ w = w' := by
  obtain ⟨ao, cap, rfl⟩ := h.val
  have H := Lib.hid h
  have HE := Lib.hid he
  clear h he
  unfold strgV
  go_enter Tryd.func186, Tryd.ntmps186
  go_wp2_with fail
  go_loop [8] (fun t => ∃ k : Nat, k ≤ l.length ∧ t = .int .i64 k ∧ Hid (∀ j (hj : j < l.length), j < k → strgP n l[j] = false)) (fun t => l.length - (intOf t).toNat)
  case atStart => exact ⟨0, Nat.zero_le _, rfl, fun j hj h => by omega⟩
  case round =>
    obtain ⟨k, hk, rfl, hall⟩ := hrel
    by_cases hkl : k < l.length
    · obtain ⟨b, off, rfl, hRb, _, hc⟩ := int_cells H.out (by omega)
      have q := hc k hkl
      clear hc
      have HC := Lib.hid (strC_any l[k] n nb w HE.out)
      cases hb : strgP n l[k]
      · rw [hb] at HC
        have nx : Hid (∀ j (hj : j < l.length), j < k + 1 → strgP n l[j] = false) := (show ∀ j (hj : j < l.length), j < k + 1 → strgP n l[j] = false from fun j hj h => by
          by_cases e : j = k
          · subst e; exact hb
          · exact hall.out j hj (by omega))
        clear hb hall
        go_wp2_with fail
        refine HC.out.mono ?_
        rintro e w' ⟨rfl, rfl⟩
        go_wp2_with fail
        go_round
        case rel => exact ⟨k + 1, by omega, by go_num, nx⟩
        case measure => simp [intOf]; omega
      · rw [hb] at HC
        have HB := Lib.hid (List.any_eq_true.2 ⟨l[k], List.getElem_mem hkl, hb⟩)
        clear hb hall
        go_wp2_with fail
        refine HC.out.mono ?_
        rintro e w' ⟨rfl, rfl⟩
        go_wp2_with fail
        go_ret
        exact ⟨_, rfl, by rw [HB.out]; exact decide_eq_true (by omega), rfl⟩
    · have HB : Hid (l.any (strgP n) = false) := List.any_eq_false.2 (fun x hx => by
        obtain ⟨j, hj, rfl⟩ := List.mem_iff_getElem.1 hx
        rw [hall.out j hj (by omega)]; decide)
      clear hall
      go_wp2_with fail
      go_ret
      exact ⟨_, rfl, by rw [HB.out]; rfl, rfl⟩
set_option maxHeartbeats 1000000 in
theorem conStr_any (R : Nat → Prop) (l : List Int) (v : Value) (n : Int) (nb : Nat) (w : World) (h : SlOf R w v 1 (intCells l) l.length) (hl : l.length ≤ 100000) (he : w.cell? ⟨nb, 0, none⟩ = some (.int .i64 n)) :
    Calls Tryd.prog 172 #[v, strgV nb] w fun e w' => e = .returned (.bool (l.any (strgP n))) ∧ w = w' := by
  obtain ⟨ao, cap, rfl⟩ := h.val
  have H := Lib.hid (idxStr_any R l _ n nb w h hl he)
  clear h he
  unfold strgV at H ⊢
  go_enter Tryd.func172, Tryd.ntmps172
  go_wp2_with fail
  refine H.out.mono ?_
  rintro e w' ⟨r, rfl, hr, rfl⟩
  have HR := Lib.hid hr
  clear hr
  go_wp2_with fail
  go_ret
  exact ⟨ret_bool HR.out, rfl⟩

/-! ### ContainsFunc over gaps: a wrong one? -/
set_option maxHeartbeats 400000 in
theorem gapC_any (g : GapV) (w : World) :
    Calls Tryd.prog 149 #[.agg #[.int .i64 g.fr, .int .i64 g.dst, .int .i64 g.mn, .int .i64 g.mx]] w fun e w' => e = .returned (.bool (gapWrong g)) ∧ Below w.heap.size w w' := by
  by_cases h1 : g.mn < 0
  · have HV := Lib.hid (show gapWrong g = true from decide_eq_true (.inl h1))
    go_enter Tryd.func149, Tryd.ntmps149
    go_wp2_with fail
    go_ret
    exact ⟨ret_bool HV.out.symm, (Below.refl _ _).alloc (Nat.le_refl _) _⟩
  · by_cases h2 : g.mx < g.mn
    · have HV := Lib.hid (show gapWrong g = true from decide_eq_true (.inr (.inl h2)))
      go_enter Tryd.func149, Tryd.ntmps149
      go_wp2_with fail
      go_ret
      exact ⟨ret_bool HV.out.symm, (Below.refl _ _).alloc (Nat.le_refl _) _⟩
    · have HV := Lib.hid (show gapWrong g = decide (1099511627776 < g.mx) from by unfold gapWrong; rw [decide_eq_decide]; omega)
      go_enter Tryd.func149, Tryd.ntmps149
      go_wp2_with fail
      go_ret
      exact ⟨ret_bool HV.out.symm, (Below.refl _ _).alloc (Nat.le_refl _) _⟩
def gapFV : Value := .func (.func 149) #[] #[]
set_option maxHeartbeats 1000000 in
theorem idxGap_any (R : Nat → Prop) (l : List GapV) (v : Value) (w : World) (h : SlOf R w v 4 (l.flatMap gapCells) l.length) (hR : ∀ b, R b → b < w.heap.size) (hl : l.length ≤ 100000) :
    Calls Tryd.prog 174 #[v, gapFV] w fun e w' => ∃ r : Int, e = .returned (.int .i64 r) ∧ decide (0 ≤ r) = l.any gapWrong ∧ Below w.heap.size w w' := by
  obtain ⟨ao, cap, rfl⟩ := h.val
  have H := Lib.hid h
  clear h
  unfold gapFV
  go_enter Tryd.func174, Tryd.ntmps174
  go_wp2_with fail
  go_loopw [8] (fun t wr => ∃ k : Nat, k ≤ l.length ∧ t = .int .i64 k ∧ Below w.heap.size w wr ∧ Hid (∀ j (hj : j < l.length), j < k → gapWrong l[j] = false)) (fun t _ => l.length - (intOf t).toNat)
  case atStart => exact ⟨0, Nat.zero_le _, rfl, Below.refl _ _, fun j hj h => by omega⟩
  case round =>
    obtain ⟨k, hk, rfl, hbl, hall⟩ := hrel
    by_cases hkl : k < l.length
    · obtain ⟨gb, goff, rfl, hRg, _, hcg⟩ := H.out.elem (f := gapCells) (fun _ => rfl) (by decide) (by omega)
      have x0 := hcg k hkl 0 _ rfl
      have x1 := hcg k hkl 1 _ rfl
      have x2 := hcg k hkl 2 _ rfl
      have x3 := hcg k hkl 3 _ rfl
      rw [← hbl.cell (hR gb hRg)] at x0 x1 x2 x3
      rw [Nat.add_zero] at x0
      clear hcg
      have HC := Lib.hid (gapC_any l[k] wr)
      cases hb : gapWrong l[k]
      · rw [hb] at HC
        have nx : Hid (∀ j (hj : j < l.length), j < k + 1 → gapWrong l[j] = false) := (show ∀ j (hj : j < l.length), j < k + 1 → gapWrong l[j] = false from fun j hj h => by
          by_cases e : j = k
          · subst e; exact hb
          · exact hall.out j hj (by omega))
        clear hb hall
        go_wp2_with fail
        refine HC.out.mono ?_
        rintro e w2 ⟨rfl, b2⟩
        have hb2 := hbl.trans (b2.mono hbl.size)
        clear b2
        go_wp2_with fail
        go_roundw
        case rel => exact ⟨k + 1, by omega, by go_num, hb2, nx⟩
        case measure => simp [intOf]; omega
      · rw [hb] at HC
        have HB := Lib.hid (List.any_eq_true.2 ⟨l[k], List.getElem_mem hkl, hb⟩)
        clear hb hall
        go_wp2_with fail
        refine HC.out.mono ?_
        rintro e w2 ⟨rfl, b2⟩
        go_wp2_with fail
        go_ret
        exact ⟨_, rfl, by rw [HB.out]; exact decide_eq_true (by omega), hbl.trans (b2.mono hbl.size)⟩
    · have HB : Hid (l.any gapWrong = false) := List.any_eq_false.2 (fun x hx => by
        obtain ⟨j, hj, rfl⟩ := List.mem_iff_getElem.1 hx
        rw [hall.out j hj (by omega)]; decide)
      clear hall
      go_wp2_with fail
      go_ret
      exact ⟨_, rfl, by rw [HB.out]; rfl, hbl⟩
set_option maxHeartbeats 1000000 in
theorem conGap_any (R : Nat → Prop) (l : List GapV) (v : Value) (w : World) (h : SlOf R w v 4 (l.flatMap gapCells) l.length) (hR : ∀ b, R b → b < w.heap.size) (hl : l.length ≤ 100000) :
    Calls Tryd.prog 148 #[v, gapFV] w fun e w' => e = .returned (.bool (l.any gapWrong)) ∧ Below w.heap.size w w' := by
  obtain ⟨ao, cap, rfl⟩ := h.val
  have H := Lib.hid (idxGap_any R l _ w h hR hl)
  clear h
  unfold gapFV at H ⊢
  go_enter Tryd.func148, Tryd.ntmps148
  go_wp2_with fail
  refine H.out.mono ?_
  rintro e w' ⟨r, rfl, hr, hb⟩
  have HR := Lib.hid hr
  clear hr
  go_wp2_with fail
  go_ret
  exact ⟨ret_bool HR.out, hb⟩
end Go.Proofs.YtkhcepdeppmofaaDoor
