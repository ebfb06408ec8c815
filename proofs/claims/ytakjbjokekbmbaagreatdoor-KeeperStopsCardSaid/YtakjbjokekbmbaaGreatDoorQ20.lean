/- Package conf: what is twice, what stands ahead. -/
import Derived.Test.YtakjbjokekbmbaaGreatDoorQ19
import Derived.Deep.RegionHeld3
import Derived.Test.YtakjbjokekbmbaaGreatDoorQ03
import Derived.Lib.AppendZerosOnto
namespace Go.Proofs.YtakjbjokekbmbaaGreatDoor
open Go.RowKit
set_option linter.unusedVariables false

/-! ### ContainsFunc over entities: the same name? -/
set_option maxHeartbeats 400000 in
theorem entC_any (X : EntX) (nm : ByteArray) (eb : Nat) (w : World) (h : w.cell? ⟨eb, 0, none⟩ = some (.string nm)) :
    Calls Tryz.prog 123 #[.agg (entCs X.E X.p X.g X.e X.f X.l), .pointer (some ⟨eb, 0, none⟩)] w fun e w' => e = .returned (.bool (X.E.name.toList == nm.toList)) ∧ Below w.heap.size w w' := by
  have hlt := World.block_lt_of_cell? _ ⟨eb, 0, none⟩ h
  have q := cell_old h (.cells (entCs X.E X.p X.g X.e X.f X.l) 38)
  have hne : ¬ eb = w.heap.size := by simp only at hlt; omega
  have hne2 : ¬ w.heap.size = eb := by simp only at hlt; omega
  clear h
  unfold entCs at q ⊢
  go_enter Tryz.func123, Tryz.ntmps123
  go_wp2_with fail
  go_ret
  exact ⟨rfl, (Below.refl _ _).alloc (Nat.le_refl _) _⟩
def entFV (eb : Nat) : Value := .func (.func 123) #[] #[.pointer (some ⟨eb, 0, none⟩)]
set_option maxHeartbeats 1000000 in
theorem idxEnt_any (R : Nat → Prop) (X : List EntX) (v : Value) (nm : ByteArray) (eb : Nat) (w : World) (h : SlOf R w v 10 (X.flatMap entXCells) X.length) (hR : ∀ b, R b → b < w.heap.size) (hX : X.length ≤ 100000) (he : w.cell? ⟨eb, 0, none⟩ = some (.string nm)) :
    Calls Tryz.prog 148 #[v, entFV eb] w fun e w' => ∃ r : Int, e = .returned (.int .i64 r) ∧ decide (0 ≤ r) = hasStr (X.map xName) nm ∧ Below w.heap.size w w' := by
  obtain ⟨ao, cap, rfl⟩ := h.val
  have H := Lib.hid h
  have HE := Lib.hid he
  have hlt := World.block_lt_of_cell? _ ⟨eb, 0, none⟩ he
  clear h he
  unfold entFV
  go_enter Tryz.func148, Tryz.ntmps148
  go_wp2_with fail
  go_loopw [8] (fun t wr => ∃ k : Nat, k ≤ X.length ∧ t = .int .i64 k ∧ Below w.heap.size w wr ∧ Hid (∀ j (hj : j < X.length), j < k → X[j].E.name.toList ≠ nm.toList)) (fun t _ => X.length - (intOf t).toNat)
  case atStart => exact ⟨0, Nat.zero_le _, rfl, Below.refl _ _, fun j hj h => by omega⟩
  case round =>
    obtain ⟨k, hk, rfl, hbl, hall⟩ := hrel
    by_cases hkl : k < X.length
    · obtain ⟨b, off, rfl, hRb, hb, hc⟩ := ent_elem H.out (by omega)
      obtain ⟨q0, q1, q2, q3, q4, q5, q6, q7, q8, q9⟩ := hc k hkl
      have hRb' := hR b hRb
      rw [← hbl.cell hRb'] at q0 q1 q2 q3 q4 q5 q6 q7 q8 q9
      have HC := Lib.hid (entC_any X[k] nm eb wr (by rw [hbl.cell (p := ⟨eb, 0, none⟩) hlt]; exact HE.out))
      unfold entCs at HC
      clear hc
      by_cases hn : X[k].E.name.toList = nm.toList
      · have HH := Lib.hid (hasStr_hit (L := X.map xName) (s := nm) k (by simpa using hkl) (by simpa [xName] using hn))
        rw [show (X[k].E.name.toList == nm.toList) = true from by simp [hn]] at HC
        clear hn hall
        go_wp2_with fail
        refine HC.out.mono ?_
        rintro e w2 ⟨rfl, b2⟩
        go_wp2_with fail
        go_ret
        exact ⟨_, rfl, by rw [HH.out]; exact decide_eq_true (by omega), hbl.trans (b2.mono hbl.size)⟩
      · rw [show (X[k].E.name.toList == nm.toList) = false from by simp [hn]] at HC
        have nx : Hid (∀ j (hj : j < X.length), j < k + 1 → X[j].E.name.toList ≠ nm.toList) := (show ∀ j (hj : j < X.length), j < k + 1 → X[j].E.name.toList ≠ nm.toList from fun j hj h => by
          by_cases e : j = k
          · subst e; exact hn
          · exact hall.out j hj (by omega))
        clear hn hall
        go_wp2_with fail
        refine HC.out.mono ?_
        rintro e w2 ⟨rfl, b2⟩
        have hb2 := hbl.trans (b2.mono hbl.size)
        clear b2
        go_wp2_with fail
        go_roundw
        case rel => exact ⟨k + 1, by omega, by go_num, hb2, nx⟩
        case measure => simp [intOf]; omega
    · have HB := Lib.hid (hasStr_miss (L := X.map xName) (s := nm) (fun j hj => by simpa [xName] using hall.out j (by simpa using hj) (by have : j < X.length := by simpa using hj
                                                                                                                                          omega)))
      clear hall
      go_wp2_with fail
      go_ret
      exact ⟨_, rfl, by rw [HB.out]; rfl, hbl⟩
set_option maxHeartbeats 1000000 in
theorem conEnt_any (R : Nat → Prop) (X : List EntX) (v : Value) (nm : ByteArray) (eb : Nat) (w : World) (h : SlOf R w v 10 (X.flatMap entXCells) X.length) (hR : ∀ b, R b → b < w.heap.size) (hX : X.length ≤ 100000) (he : w.cell? ⟨eb, 0, none⟩ = some (.string nm)) :
    Calls Tryz.prog 122 #[v, entFV eb] w fun e w' => e = .returned (.bool (hasStr (X.map xName) nm)) ∧ Below w.heap.size w w' := by
  obtain ⟨ao, cap, rfl⟩ := h.val
  have H := Lib.hid (idxEnt_any R X _ nm eb w h hR hX he)
  clear h he
  unfold entFV at H ⊢
  go_enter Tryz.func122, Tryz.ntmps122
  go_wp2_with fail
  refine H.out.mono ?_
  rintro e w' ⟨r, rfl, hr, hb⟩
  have HR := Lib.hid hr
  clear hr
  go_wp2_with fail
  go_ret
  exact ⟨ret_bool HR.out, hb⟩

/-! ### ContainsFunc over numbers: a stranger? -/
def strgP (n : Int) (p : Int) : Bool := decide (p < 0 ∨ n ≤ p)
set_option maxHeartbeats 400000 in
theorem strC_any (p n : Int) (nb : Nat) (w : World) (h : w.cell? ⟨nb, 0, none⟩ = some (.int .i64 n)) :
    Calls Tryz.prog 176 #[.int .i64 p, .pointer (some ⟨nb, 0, none⟩)] w fun e w' => e = .returned (.bool (strgP n p)) ∧ w = w' := by
  by_cases h1 : p < 0
  · have HV := Lib.hid (show strgP n p = true from decide_eq_true (.inl h1))
    go_enter Tryz.func176, Tryz.ntmps176
    go_wp2_with fail
    go_ret
    exact ⟨ret_bool HV.out.symm, rfl⟩
  · have HV := Lib.hid (show strgP n p = decide (n ≤ p) from by unfold strgP; rw [decide_eq_decide]; omega)
    go_enter Tryz.func176, Tryz.ntmps176
    go_wp2_with fail
    go_ret
    exact ⟨ret_bool HV.out.symm, rfl⟩
def strgV (nb : Nat) : Value := .func (.func 176) #[] #[.pointer (some ⟨nb, 0, none⟩)]
set_option maxHeartbeats 1000000 in
theorem idxStr_any (R : Nat → Prop) (l : List Int) (v : Value) (n : Int) (nb : Nat) (w : World) (h : SlOf R w v 1 (intCells l) l.length) (hl : l.length ≤ 100000) (he : w.cell? ⟨nb, 0, none⟩ = some (.int .i64 n)) :
    Calls Tryz.prog 195 #[v, strgV nb] w fun e w' => ∃ r : Int, e = .returned (.int .i64 r) ∧ decide (0 ≤ r) = l.any (strgP n) ∧ w = w' := by
  obtain ⟨ao, cap, rfl⟩ := h.val
  have H := Lib.hid h
  have HE := Lib.hid he
  clear h he
  unfold strgV
  go_enter Tryz.func195, Tryz.ntmps195
  go_wp2_with fail
  go_loop [8] (fun t => ∃ k : Nat, k ≤ l.length ∧ t = .int .i64 k ∧ Hid (∀ j (hj : j < l.length), j < k → strgP n l[j] = false)) (fun t => l.length - (intOf t).toNat)
  case atStart => exact ⟨0, Nat.zero_le _, rfl, fun j hj h => by omega⟩
  case round =>
    obtain ⟨k, hk, rfl, hall⟩ := hrel
    by_cases hkl : k < l.length
    · obtain ⟨b, off, rfl, hRb, _, hc⟩ := int_cells H.out (by omega)
      have q := hc k hkl
      clear hc
      have HC := Lib.hid (strC_any l[k] n nb w HE.out)
      cases hb : strgP n l[k]
      · rw [hb] at HC
        have nx : Hid (∀ j (hj : j < l.length), j < k + 1 → strgP n l[j] = false) := (show ∀ j (hj : j < l.length), j < k + 1 → strgP n l[j] = false from fun j hj h => by
          by_cases e : j = k
          · subst e; exact hb
          · exact hall.out j hj (by omega))
        clear hb hall
        go_wp2_with fail
        refine HC.out.mono ?_
        rintro e w' ⟨rfl, rfl⟩
        go_wp2_with fail
        go_round
        case rel => exact ⟨k + 1, by omega, by go_num, nx⟩
        case measure => simp [intOf]; omega
      · rw [hb] at HC
        have HB := Lib.hid (List.any_eq_true.2 ⟨l[k], List.getElem_mem hkl, hb⟩)
        clear hb hall
        go_wp2_with fail
        refine HC.out.mono ?_
        rintro e w' ⟨rfl, rfl⟩
        go_wp2_with fail
        go_ret
        exact ⟨_, rfl, by rw [HB.out]; exact decide_eq_true (by omega), rfl⟩
    · have HB : Hid (l.any (strgP n) = false) := List.any_eq_false.2 (fun x hx => by
        obtain ⟨j, hj, rfl⟩ := List.mem_iff_getElem.1 hx
        rw [hall.out j hj (by omega)]; decide)
      clear hall
      go_wp2_with fail
      go_ret
      exact ⟨_, rfl, by rw [HB.out]; rfl, rfl⟩
set_option maxHeartbeats 1000000 in
theorem conStr_any (R : Nat → Prop) (l : List Int) (v : Value) (n : Int) (nb : Nat) (w : World) (h : SlOf R w v 1 (intCells l) l.length) (hl : l.length ≤ 100000) (he : w.cell? ⟨nb, 0, none⟩ = some (.int .i64 n)) :
    Calls Tryz.prog 175 #[v, strgV nb] w fun e w' => e = .returned (.bool (l.any (strgP n))) ∧ w = w' := by
  obtain ⟨ao, cap, rfl⟩ := h.val
  have H := Lib.hid (idxStr_any R l _ n nb w h hl he)
  clear h he
  unfold strgV at H ⊢
  go_enter Tryz.func175, Tryz.ntmps175
  go_wp2_with fail
  refine H.out.mono ?_
  rintro e w' ⟨r, rfl, hr, rfl⟩
  have HR := Lib.hid hr
  clear hr
  go_wp2_with fail
  go_ret
  exact ⟨ret_bool HR.out, rfl⟩

/-! ### ContainsFunc over gaps: a wrong one? -/
set_option maxHeartbeats 400000 in
theorem gapC_any (g : GapV) (w : World) :
    Calls Tryz.prog 154 #[.agg #[.int .i64 g.fr, .int .i64 g.dst, .int .i64 g.mn, .int .i64 g.mx]] w fun e w' => e = .returned (.bool (gapWrong g)) ∧ Below w.heap.size w w' := by
  by_cases h1 : g.mn < 0
  · have HV := Lib.hid (show gapWrong g = true from decide_eq_true (.inl h1))
    go_enter Tryz.func154, Tryz.ntmps154
    go_wp2_with fail
    go_ret
    exact ⟨ret_bool HV.out.symm, (Below.refl _ _).alloc (Nat.le_refl _) _⟩
  · by_cases h2 : g.mx < g.mn
    · have HV := Lib.hid (show gapWrong g = true from decide_eq_true (.inr (.inl h2)))
      go_enter Tryz.func154, Tryz.ntmps154
      go_wp2_with fail
      go_ret
      exact ⟨ret_bool HV.out.symm, (Below.refl _ _).alloc (Nat.le_refl _) _⟩
    · have HV := Lib.hid (show gapWrong g = decide (1099511627776 < g.mx) from by unfold gapWrong; rw [decide_eq_decide]; omega)
      go_enter Tryz.func154, Tryz.ntmps154
      go_wp2_with fail
      go_ret
      exact ⟨ret_bool HV.out.symm, (Below.refl _ _).alloc (Nat.le_refl _) _⟩
def gapFV : Value := .func (.func 154) #[] #[]
set_option maxHeartbeats 1000000 in
theorem idxGap_any (R : Nat → Prop) (l : List GapV) (v : Value) (w : World) (h : SlOf R w v 4 (l.flatMap gapCells) l.length) (hR : ∀ b, R b → b < w.heap.size) (hl : l.length ≤ 100000) :
    Calls Tryz.prog 177 #[v, gapFV] w fun e w' => ∃ r : Int, e = .returned (.int .i64 r) ∧ decide (0 ≤ r) = l.any gapWrong ∧ Below w.heap.size w w' := by
  obtain ⟨ao, cap, rfl⟩ := h.val
  have H := Lib.hid h
  clear h
  unfold gapFV
  go_enter Tryz.func177, Tryz.ntmps177
  go_wp2_with fail
  go_loopw [8] (fun t wr => ∃ k : Nat, k ≤ l.length ∧ t = .int .i64 k ∧ Below w.heap.size w wr ∧ Hid (∀ j (hj : j < l.length), j < k → gapWrong l[j] = false)) (fun t _ => l.length - (intOf t).toNat)
  case atStart => exact ⟨0, Nat.zero_le _, rfl, Below.refl _ _, fun j hj h => by omega⟩
  case round =>
    obtain ⟨k, hk, rfl, hbl, hall⟩ := hrel
    by_cases hkl : k < l.length
    · obtain ⟨gb, goff, rfl, hRg, _, hcg⟩ := H.out.elem (f := gapCells) (fun _ => rfl) (by decide) (by omega)
      have x0 := hcg k hkl 0 _ rfl
      have x1 := hcg k hkl 1 _ rfl
      have x2 := hcg k hkl 2 _ rfl
      have x3 := hcg k hkl 3 _ rfl
      rw [← hbl.cell (hR gb hRg)] at x0 x1 x2 x3
      rw [Nat.add_zero] at x0
      clear hcg
      have HC := Lib.hid (gapC_any l[k] wr)
      cases hb : gapWrong l[k]
      · rw [hb] at HC
        have nx : Hid (∀ j (hj : j < l.length), j < k + 1 → gapWrong l[j] = false) := (show ∀ j (hj : j < l.length), j < k + 1 → gapWrong l[j] = false from fun j hj h => by
          by_cases e : j = k
          · subst e; exact hb
          · exact hall.out j hj (by omega))
        clear hb hall
        go_wp2_with fail
        refine HC.out.mono ?_
        rintro e w2 ⟨rfl, b2⟩
        have hb2 := hbl.trans (b2.mono hbl.size)
        clear b2
        go_wp2_with fail
        go_roundw
        case rel => exact ⟨k + 1, by omega, by go_num, hb2, nx⟩
        case measure => simp [intOf]; omega
      · rw [hb] at HC
        have HB := Lib.hid (List.any_eq_true.2 ⟨l[k], List.getElem_mem hkl, hb⟩)
        clear hb hall
        go_wp2_with fail
        refine HC.out.mono ?_
        rintro e w2 ⟨rfl, b2⟩
        go_wp2_with fail
        go_ret
        exact ⟨_, rfl, by rw [HB.out]; exact decide_eq_true (by omega), hbl.trans (b2.mono hbl.size)⟩
    · have HB : Hid (l.any gapWrong = false) := List.any_eq_false.2 (fun x hx => by
        obtain ⟨j, hj, rfl⟩ := List.mem_iff_getElem.1 hx
        rw [hall.out j hj (by omega)]; decide)
      clear hall
      go_wp2_with fail
      go_ret
      exact ⟨_, rfl, by rw [HB.out]; rfl, hbl⟩
set_option maxHeartbeats 1000000 in
theorem conGap_any (R : Nat → Prop) (l : List GapV) (v : Value) (w : World) (h : SlOf R w v 4 (l.flatMap gapCells) l.length) (hR : ∀ b, R b → b < w.heap.size) (hl : l.length ≤ 100000) :
    Calls Tryz.prog 153 #[v, gapFV] w fun e w' => e = .returned (.bool (l.any gapWrong)) ∧ Below w.heap.size w w' := by
  obtain ⟨ao, cap, rfl⟩ := h.val
  have H := Lib.hid (idxGap_any R l _ w h hR hl)
  clear h
  unfold gapFV at H ⊢
  go_enter Tryz.func153, Tryz.ntmps153
  go_wp2_with fail
  refine H.out.mono ?_
  rintro e w' ⟨r, rfl, hr, hb⟩
  have HR := Lib.hid hr
  clear hr
  go_wp2_with fail
  go_ret
  exact ⟨ret_bool HR.out, hb⟩
end Go.Proofs.YtakjbjokekbmbaaGreatDoor

/- Package conf: twice; points; a slice's beginning. -/
namespace Go.Proofs.YtakjbjokekbmbaaGreatDoor
open Go.RowKit
set_option linter.unusedVariables false

theorem run_sub_strs (w : World) (b off len cap i : Nat) (hi : i ≤ cap) :
    (Instr.slice 33 (.slice (some ⟨b, off, none⟩) len cap) none (some (.int .i64 i)) none).run Tryz.prog w = .ok (.slice (some ⟨b, off, none⟩) i cap) w := by
  have ht : Tryz.prog.underlying 33 = some (.slice (Tryz.prog.elem 33)) := by kernel_rfl
  have hs : ((sizeOf (Tryz.prog.elem 33)).run Tryz.prog w) = .ok 1 w := by kernel_rfl
  rw [run_slice_h w 33 (some ⟨b, off, none⟩) len cap ht .i64 i (by omega) (by omega), hs]
  show Result.ok (sliced _ _ _ _ _) w = _
  unfold sliced
  simp
  intro _
  rw [addr_add, Nat.add_zero]
theorem run_sub_pairs (w : World) (b off len cap i : Nat) (hi : i ≤ cap) :
    (Instr.slice 35 (.slice (some ⟨b, off, none⟩) len cap) none (some (.int .i64 i)) none).run Tryz.prog w = .ok (.slice (some ⟨b, off, none⟩) i cap) w := by
  have ht : Tryz.prog.underlying 35 = some (.slice (Tryz.prog.elem 35)) := by kernel_rfl
  have hs : ((sizeOf (Tryz.prog.elem 35)).run Tryz.prog w) = .ok 2 w := by kernel_rfl
  rw [run_slice_h w 35 (some ⟨b, off, none⟩) len cap ht .i64 i (by omega) (by omega), hs]
  show Result.ok (sliced _ _ _ _ _) w = _
  unfold sliced
  simp
  intro _
  rw [addr_add, Nat.add_zero]
theorem run_sub_ents (w : World) (b off len cap i : Nat) (hi : i ≤ cap) :
    (Instr.slice 22 (.slice (some ⟨b, off, none⟩) len cap) none (some (.int .i64 i)) none).run Tryz.prog w = .ok (.slice (some ⟨b, off, none⟩) i cap) w := by
  have ht : Tryz.prog.underlying 22 = some (.slice (Tryz.prog.elem 22)) := by kernel_rfl
  have hs : ((sizeOf (Tryz.prog.elem 22)).run Tryz.prog w) = .ok 10 w := by kernel_rfl
  rw [run_slice_h w 22 (some ⟨b, off, none⟩) len cap ht .i64 i (by omega) (by omega), hs]
  show Result.ok (sliced _ _ _ _ _) w = _
  unfold sliced
  simp
  intro _
  rw [addr_add, Nat.add_zero]
theorem SlOf.cut {α : Type} {f : α → List Value} {R : Nat → Prop} {w : World} {ao : Option Addr} {cap sz : Nat} {l : List α} (h : SlOf R w (.slice ao l.length cap) sz (l.flatMap f) l.length) (hf : ∀ x, (f x).length = sz) (k : Nat) (hk : k ≤ l.length) : SlOf R w (.slice ao k cap) sz ((l.take k).flatMap f) (l.take k).length := by
  obtain ⟨hl, ao', cap', hv, h1, h2, h3, h4⟩ := h
  obtain ⟨rfl, _, rfl⟩ := Value.slice.inj hv
  have e : (l.take k).length = k := by rw [List.length_take]; omega
  refine ⟨flat_len f sz hf _, ao, cap, by rw [e], by omega, h2, h3, fun hp => ?_⟩
  have hs : l.flatMap f = (l.take k).flatMap f ++ (l.drop k).flatMap f := by rw [← List.flatMap_append, List.take_append_drop]
  obtain ⟨b, off, ha, hR, hb, hc⟩ := h4 (by rw [hs, List.length_append]; omega)
  refine ⟨b, off, ha, hR, hb, fun j u hj => hc j u ?_⟩
  have hj' := (List.getElem?_eq_some_iff.1 hj).1
  rw [hs, List.getElem?_append_left hj']
  exact hj
theorem SlOf.capB {R : Nat → Prop} {w : World} {ao : Option Addr} {n cap sz : Nat} {cs : List Value} (h : SlOf R w (.slice ao n cap) sz cs n) : (n : Int) ≤ (cap : Int) ∧ (cap : Int) ≤ 9223372036854775807 := by
  obtain ⟨_, _, _, hv, h1, h2, _⟩ := h
  obtain ⟨_, _, rfl⟩ := Value.slice.inj hv
  unfold maxLen at h2
  omega
theorem edge_elem {R : Nat → Prop} {w : World} {ao : Option Addr} {n cap : Nat} {l : List (Int × Int)} (h : SlOf R w (.slice ao n cap) 2 (l.flatMap edgeCells) l.length) (h0 : 0 < l.length) :
    ∃ b off, ao = some ⟨b, off, none⟩ ∧ R b ∧ b < w.heap.size ∧ ∀ k (hk : k < l.length), w.cell? ⟨b, off + k * 2, none⟩ = some (.int .i64 l[k].1) ∧ w.cell? ⟨b, off + k * 2 + 1, none⟩ = some (.int .i64 l[k].2) := by
  obtain ⟨b, off, ha, hR, hb, hc⟩ := h.elem (fun _ => rfl) (by decide) h0
  exact ⟨b, off, ha, hR, hb, fun k hk => ⟨hc k hk 0 _ rfl, hc k hk 1 _ rfl⟩⟩

set_option maxHeartbeats 1000000 in
theorem idxPair_any (R : Nat → Prop) (l : List (Int × Int)) (v : Value) (x : Int × Int) (w : World) (h : SlOf R w v 2 (l.flatMap edgeCells) l.length) (hR : ∀ b, R b → b < w.heap.size) (hl : l.length ≤ 100000) :
    Calls Tryz.prog 196 #[v, .agg #[.int .i64 x.1, .int .i64 x.2]] w fun e w' => ∃ r : Int, e = .returned (.int .i64 r) ∧ decide (0 ≤ r) = decide (x ∈ l) ∧ Below w.heap.size w w' := by
  obtain ⟨ao, cap, rfl⟩ := h.val
  have H := Lib.hid h
  have heq := Tryz.pairEqE
  unfold pairEqE at heq
  clear h
  go_enter Tryz.func196, Tryz.ntmps196
  go_wp2_with fail
  generalize hwa : w.alloc _ = wa
  have hba : Below w.heap.size w wa := by rw [← hwa]; exact (Below.refl _ _).alloc (Nat.le_refl _) _
  have hxa : wa.heap[w.heap.size]? = some (.cells #[.int .i64 x.1, .int .i64 x.2] 97) := by rw [← hwa]; exact get_alloc_new w _
  obtain ⟨z0, z1, zf⟩ := two_cells hxa
  clear hwa hxa zf
  go_loopw [8] (fun t wr => ∃ k : Nat, k ≤ l.length ∧ t = .int .i64 k ∧ Below w.heap.size w wr ∧ wr.cell? ⟨w.heap.size, 0, none⟩ = some (.int .i64 x.1) ∧ wr.cell? ⟨w.heap.size, 1, none⟩ = some (.int .i64 x.2) ∧ Hid (∀ j (hj : j < l.length), j < k → l[j] ≠ x)) (fun t _ => l.length - (intOf t).toNat)
  case atStart => exact ⟨0, Nat.zero_le _, rfl, hba, z0, z1, fun j hj h => by omega⟩
  case round =>
    obtain ⟨k, hk, rfl, hbl, c0, c1, hall⟩ := hrel
    clear hba z0 z1
    by_cases hkl : k < l.length
    · obtain ⟨b, off, rfl, hRb, _, hc⟩ := edge_elem H.out (by omega)
      obtain ⟨q0, q1⟩ := hc k hkl
      rw [← hbl.cell (hR b hRb)] at q0 q1
      clear hc
      by_cases hn : x = l[k]
      · have hq := fun W => heq W x.1 x.2 l[k].1 l[k].2
        rw [decide_eq_true (show (x.1, x.2) = (l[k].1, l[k].2) from hn)] at hq
        have HB : Hid (x ∈ l) := hn ▸ List.getElem_mem hkl
        clear hn hall heq
        go_wp2_with fail
        go_quiet (fail)
        go_wp2_with fail
        go_ret
        exact ⟨_, rfl, by rw [decide_eq_true HB.out]; exact decide_eq_true (by omega), below_drewN' _ hbl⟩
      · have hq := fun W => heq W x.1 x.2 l[k].1 l[k].2
        rw [decide_eq_false (show ¬ (x.1, x.2) = (l[k].1, l[k].2) from hn)] at hq
        have nx : Hid (∀ j (hj : j < l.length), j < k + 1 → l[j] ≠ x) := (show ∀ j (hj : j < l.length), j < k + 1 → l[j] ≠ x from fun j hj h => by
          by_cases e : j = k
          · subst e; exact fun e => hn e.symm
          · exact hall.out j hj (by omega))
        clear hn hall heq
        go_wp2_with fail
        go_quiet (fail)
        go_wp2_with fail
        go_roundw
        case rel => exact ⟨k + 1, by omega, by go_num, below_drewN' _ hbl, c0, c1, nx⟩
        case measure => simp [intOf]; omega
    · have HB : Hid (x ∉ l) := (show x ∉ l from fun hx => by
        obtain ⟨j, hj, e⟩ := List.mem_iff_getElem.1 hx
        exact hall.out j hj (by omega) e)
      clear hall heq
      go_wp2_with fail
      go_ret
      exact ⟨_, rfl, by rw [decide_eq_false HB.out]; rfl, hbl⟩
set_option maxHeartbeats 1000000 in
theorem conPair_any (R : Nat → Prop) (l : List (Int × Int)) (v : Value) (x : Int × Int) (w : World) (h : SlOf R w v 2 (l.flatMap edgeCells) l.length) (hR : ∀ b, R b → b < w.heap.size) (hl : l.length ≤ 100000) :
    Calls Tryz.prog 178 #[v, .agg #[.int .i64 x.1, .int .i64 x.2]] w fun e w' => e = .returned (.bool (decide (x ∈ l))) ∧ Below w.heap.size w w' := by
  obtain ⟨ao, cap, rfl⟩ := h.val
  have b0 : Below w.heap.size w (w.alloc (.cells #[.int .i64 x.1, .int .i64 x.2] 97)) := (Below.refl _ _).alloc (Nat.le_refl _) _
  have H := Lib.hid (idxPair_any R l _ x _ (h.below b0 hR) (below_lt2 hR b0) hl)
  have B0 := Lib.hid b0
  clear h b0
  go_enter Tryz.func178, Tryz.ntmps178
  go_wp2_with fail
  refine H.out.mono ?_
  rintro e w' ⟨r, rfl, hr, hb0⟩
  have hb := B0.out.trans (hb0.mono B0.out.size)
  clear hb0
  have HR := Lib.hid hr
  clear hr
  go_wp2_with fail
  go_ret
  exact ⟨ret_bool HR.out, hb⟩

set_option maxHeartbeats 1000000 in
theorem twiceI_any (R : Nat → Prop) (l : List Int) (v : Value) (w : World) (h : SlOf R w v 1 (intCells l) l.length) (hn : l.length ≤ 100000) :
    Calls Tryz.prog 157 #[v] w fun e w' => e = .returned (.bool (twiceB l)) ∧ w = w' := by
  obtain ⟨ao, cap, rfl⟩ := h.val
  have H := Lib.hid h
  obtain ⟨hc1, hc2⟩ := h.capB
  clear h
  go_enter Tryz.func157, Tryz.ntmps157
  go_wp2_with fail
  go_loop [7] (fun s => ∃ i : Nat, i ≤ l.length ∧ s = .int .i64 i ∧ Hid (∀ j (hj : j < l.length), j < i → l[j] ∉ l.take j)) (fun s => l.length - (intOf s).toNat)
  case atStart => exact ⟨0, Nat.zero_le _, rfl, fun j _ h => by omega⟩
  case round =>
    obtain ⟨i, hi, rfl, hall⟩ := hrel
    by_cases hlt : i < l.length
    · obtain ⟨b, off, rfl, _, _, hc⟩ := int_cells H.out (by omega)
      have q1 := hc i hlt
      have HT := Lib.hid (containsInts_any R (l.take i) (.slice (some ⟨b, off, none⟩) i cap) l[i] w (H.out.take i (by omega)))
      have hi2 : (i : Int) ≤ (cap : Int) := by omega
      have hsub := fun W => run_sub_ints W b off l.length cap i (by omega)
      clear hc
      by_cases ht : l[i] ∈ l.take i
      · rw [decide_eq_true ht] at HT
        have hbad := Lib.hid (twiceB_hit i hlt ht)
        clear ht hall
        go_wp2_with fail
        refine HT.out.mono ?_
        rintro e w' ⟨rfl, rfl⟩
        go_wp2_with fail
        go_ret
        exact ⟨ret_bool hbad.out.symm, rfl⟩
      · rw [decide_eq_false ht] at HT
        have nx : Hid (∀ j (hj : j < l.length), j < i + 1 → l[j] ∉ l.take j) := (show ∀ j (hj : j < l.length), j < i + 1 → l[j] ∉ l.take j from fun j hj hji => by
          by_cases e : j = i
          · subst e; exact ht
          · exact hall.out j hj (by omega))
        clear ht hall
        go_wp2_with fail
        refine HT.out.mono ?_
        rintro e w' ⟨rfl, rfl⟩
        go_wp2_with fail
        go_round
        case rel => exact ⟨i + 1, by omega, by go_num, nx⟩
        case measure => simp [intOf]; omega
    · have hgood := Lib.hid (twiceB_miss (l := l) (fun j hj => hall.out j hj (by omega)))
      clear hall
      go_wp2_with fail
      go_ret
      exact ⟨ret_bool hgood.out.symm, rfl⟩
set_option maxHeartbeats 1000000 in
theorem twiceP_any (R : Nat → Prop) (l : List (Int × Int)) (v : Value) (w : World) (h : SlOf R w v 2 (l.flatMap edgeCells) l.length) (hR : ∀ b, R b → b < w.heap.size) (hn : l.length ≤ 100000) :
    Calls Tryz.prog 156 #[v] w fun e w' => e = .returned (.bool (edgesTwice l)) ∧ Below w.heap.size w w' := by
  obtain ⟨ao, cap, rfl⟩ := h.val
  have H := Lib.hid h
  obtain ⟨hc1, hc2⟩ := h.capB
  clear h
  go_enter Tryz.func156, Tryz.ntmps156
  go_wp2_with fail
  go_loopw [7] (fun s wr => ∃ i : Nat, i ≤ l.length ∧ s = .int .i64 i ∧ Below w.heap.size w wr ∧ Hid (∀ j (hj : j < l.length), j < i → l[j] ∉ l.take j)) (fun s _ => l.length - (intOf s).toNat)
  case atStart => exact ⟨0, Nat.zero_le _, rfl, Below.refl _ _, fun j _ h => by omega⟩
  case round =>
    obtain ⟨i, hi, rfl, hbl, hall⟩ := hrel
    by_cases hlt : i < l.length
    · obtain ⟨b, off, rfl, hRb, _, hc⟩ := edge_elem H.out (by omega)
      obtain ⟨q0, q1⟩ := hc i hlt
      rw [← hbl.cell (hR b hRb)] at q0 q1
      have hi2 : (i : Int) ≤ (cap : Int) := by omega
      have hsub := fun W => run_sub_pairs W b off l.length cap i (by omega)
      have HT := Lib.hid (fun W (hB : Below w.heap.size w W) => conPair_any R (l.take i) (.slice (some ⟨b, off, none⟩) i cap) l[i] W ((SlOf.cut (f := edgeCells) H.out (fun _ => rfl) i (by omega)).below hB hR) (below_lt2 hR hB) (by rw [List.length_take]; omega))
      clear hc
      go_upto_region 4 with fail
      have hxb := get_alloc_new wr (.cells #[.int .i64 l[i].1, .int .i64 l[i].2] 97)
      have hb1 : Below w.heap.size w (wr.alloc (.cells #[.int .i64 l[i].1, .int .i64 l[i].2] 97)) := hbl.alloc hbl.size _
      generalize wr.alloc _ = wb at hxb hb1 ⊢
      obtain ⟨z0, z1, zf⟩ := two_cells hxb
      have hbb := lt_of_get hxb
      obtain ⟨bb, hbq⟩ : ∃ bb, bb = wr.heap.size := ⟨_, rfl⟩
      rw [← hbq] at z0 z1 hbb ⊢
      clear hbq hxb zf q0 q1
      go_cut [16] (fun s wx => s = .bool (decide (l[i] ∈ l.take i)) ∧ Below w.heap.size w wx)
      case first =>
       go_region_held3 (fun w' => ∀ o, w'.cell? ⟨bb, o, none⟩ = wb.cell? ⟨bb, o, none⟩)
        (first | exact fun _ => rfl | exact fun o => d1.cell (p := ⟨bb, o, none⟩) hbb)
        (first | (go_at_call 178; refine (HT.out _ ?_).mono ?_; (repeat (first | exact hb1 | refine Below.drew ?_)); rintro e w2 ⟨rfl, b2⟩; have d1 : Below wb.heap.size wb w2 := (by repeat (first | exact Below.refl _ _ | exact b2 | refine Below.drew ?_ | refine Below.trans ?_ b2))))
       all_goals (go_wp2_with fail; go_meet)
       all_goals exact ⟨rfl, by repeat (first | exact hb1.trans (d1.mono hb1.size) | refine Below.drew ?_)⟩
      case rest =>
      obtain ⟨rfl, hb2⟩ := hcut
      clear z0 z1 HT hb1
      by_cases ht : l[i] ∈ l.take i
      · rw [decide_eq_true ht]
        have hbad := Lib.hid (edgesTwice_hit i hlt ht)
        clear ht hall
        go_wp2_with fail
        go_ret
        exact ⟨ret_bool hbad.out.symm, hb2⟩
      · rw [decide_eq_false ht]
        have nx : Hid (∀ j (hj : j < l.length), j < i + 1 → l[j] ∉ l.take j) := (show ∀ j (hj : j < l.length), j < i + 1 → l[j] ∉ l.take j from fun j hj hji => by
          by_cases e : j = i
          · subst e; exact ht
          · exact hall.out j hj (by omega))
        clear ht hall
        go_wp2_with fail
        go_roundw
        case rel => exact ⟨i + 1, by omega, by go_num, hb2, nx⟩
        case measure => simp [intOf]; omega
    · have hgood := Lib.hid (edgesTwice_miss (l := l) (fun j hj => hall.out j hj (by omega)))
      clear hall
      go_wp2_with fail
      go_ret
      exact ⟨ret_bool hgood.out.symm, hbl⟩
end Go.Proofs.YtakjbjokekbmbaaGreatDoor

/- The six sentinels that package conf names. -/
namespace Go.Proofs.YtakjbjokekbmbaaGreatDoor
open Go.RowKit
set_option linter.unusedVariables false

structure SentsC (B : Nat) (sa : Nat → Addr) (w : World) : Prop where
  gl : ∀ k, k < 6 → w.cell? ⟨sg k, 0, none⟩ = some (errv sa (k + 1))
  nb : ∀ k, k < 6 → sg k < B
  top : B ≤ w.heap.size
theorem Sents.c {B : Nat} {sa : Nat → Addr} {w : World} (h : Sents B sa w) : SentsC B sa w := ⟨fun k hk => h.gl k (by omega), fun k hk => h.nb.1 k (by omega), h.top⟩
theorem SentsC.keep {B : Nat} {sa : Nat → Addr} {S : Nat → Prop} {w w' : World} (h : SentsC B sa w) (k : Keep S w w') (hS : ∀ b, S b → B ≤ b) : SentsC B sa w' := by
  have ht := h.top
  refine ⟨fun i hi => ?_, h.nb, Nat.le_trans ht k.size⟩
  have hn := h.nb i hi
  rw [k.cell (p := ⟨sg i, 0, none⟩) (show sg i < w.heap.size by omega) (fun x => by have := hS _ x; simp only at this; omega)]
  exact h.gl i hi
theorem SentsC.below {B : Nat} {sa : Nat → Addr} {w w' : World} (h : SentsC B sa w) (b : Below w.heap.size w w') : SentsC B sa w' := h.keep (below_keep b) (fun _ h => h.elim)
theorem SentsC.low {B C : Nat} {sa : Nat → Addr} {w w' : World} (h : SentsC B sa w) (b : Below C w w') (hC : B ≤ C) : SentsC B sa w' := h.keep (Keep.of_below b) (fun k hk => Nat.le_trans hC hk)
theorem SentsC.on {B : Nat} {sa : Nat → Addr} {w w' : World} (h : SentsC B sa w) (b : Below w.heap.size w w') : SentsC B sa w' := h.low b h.top
theorem SentsC.all {B : Nat} {sa : Nat → Addr} {w : World} (h : SentsC B sa w) :
    w.cell? ⟨6, 0, none⟩ = some (.iface 299 (.pointer (some (sa 0)))) ∧ w.cell? ⟨2, 0, none⟩ = some (.iface 299 (.pointer (some (sa 1)))) ∧ w.cell? ⟨7, 0, none⟩ = some (.iface 299 (.pointer (some (sa 2)))) ∧
    w.cell? ⟨8, 0, none⟩ = some (.iface 299 (.pointer (some (sa 3)))) ∧ w.cell? ⟨3, 0, none⟩ = some (.iface 299 (.pointer (some (sa 4)))) ∧ w.cell? ⟨9, 0, none⟩ = some (.iface 299 (.pointer (some (sa 5)))) :=
  ⟨h.gl 0 (by decide), h.gl 1 (by decide), h.gl 2 (by decide), h.gl 3 (by decide), h.gl 4 (by decide), h.gl 5 (by decide)⟩
end Go.Proofs.YtakjbjokekbmbaaGreatDoor

/- Package conf: points; the library's Grow and Concat; strangers. -/
namespace Go.Proofs.YtakjbjokekbmbaaGreatDoor
open Go.RowKit
set_option linter.unusedVariables false

theorem sidx_take {P : List ByteArray} {k : Nat} (hk : k < P.length) : hasStr (P.take k) P[k] = decide (sidxOf P P[k] < k) := by
  unfold sidxOf
  cases h : P.findIdx? (fun y => y.toList == P[k].toList) with
  | none =>
    rw [List.findIdx?_eq_none_iff] at h
    have := h P[k] (List.getElem_mem hk)
    simp at this
  | some i =>
    rw [List.findIdx?_eq_some_iff_getElem] at h
    obtain ⟨hi, he, hmin⟩ := h
    by_cases hik : i < k
    · rw [decide_eq_true (by simp only; omega)]
      exact hasStr_hit i (by rw [List.length_take]; omega) (by simpa using he)
    · rw [decide_eq_false (by simp only; omega)]
      exact hasStr_miss (fun j hj => by
        rw [List.length_take] at hj
        have := hmin j (by omega)
        simpa using this)
theorem ptE_name {P : List ByteArray} {k : Nat} (hk : k < P.length) (h : isNameB P[k] = false) : ptE P k = 4 := by rw [ptE_at hk, if_pos h]
theorem ptE_twice {P : List ByteArray} {k : Nat} (hk : k < P.length) (h : isNameB P[k] = true) (h2 : hasStr (P.take k) P[k] = true) : ptE P k = 6 := by
  rw [sidx_take hk] at h2
  rw [ptE_at hk, if_neg (by rw [h]; decide), if_pos (of_decide_eq_true h2)]
theorem ptE_good {P : List ByteArray} {k : Nat} (hk : k < P.length) (h : isNameB P[k] = true) (h2 : hasStr (P.take k) P[k] = false) : ptE P k = 0 := by
  rw [sidx_take hk] at h2
  rw [ptE_at hk, if_neg (by rw [h]; decide), if_neg (of_decide_eq_false h2)]
theorem SlOf.cutS {R : Nat → Prop} {w : World} {ao : Option Addr} {cap : Nat} {l : List ByteArray} (h : SlOf R w (.slice ao l.length cap) 1 (strCells1 l) l.length) (k : Nat) (hk : k ≤ l.length) : SlOf R w (.slice ao k cap) 1 (strCells1 (l.take k)) (l.take k).length := by
  rw [← flat_strs] at h ⊢
  exact SlOf.cut (f := fun x => [Value.string x]) h (fun _ => rfl) k hk

set_option maxHeartbeats 1000000 in
theorem points_any (B : Nat) (sa : Nat → Addr) (R : Nat → Prop) (l : List ByteArray) (v : Value) (w : World) (hS : SentsC B sa w) (h : SlOf R w v 1 (strCells1 l) l.length) (hR : ∀ b, R b → b < w.heap.size) (hn : l.length ≤ 100000) :
    Calls Tryz.prog 124 #[v] w fun e w' => e = .returned (errv sa (ptsE l)) ∧ Below w.heap.size w w' := by
  obtain ⟨ao, cap, rfl⟩ := h.val
  have H := Lib.hid h
  have HS := Lib.hid hS
  obtain ⟨hc1, hc2⟩ := h.capB
  clear h hS
  go_enter Tryz.func124, Tryz.ntmps124
  go_wp2_with fail
  go_loopw [7] (fun s wr => ∃ i : Nat, i ≤ l.length ∧ s = .int .i64 i ∧ Below w.heap.size w wr ∧ Hid (∀ j, j < i → ptE l j = 0)) (fun s _ => l.length - (intOf s).toNat)
  case atStart => exact ⟨0, Nat.zero_le _, rfl, Below.refl _ _, fun j h => by omega⟩
  case round =>
    obtain ⟨i, hi, rfl, hbl, hall⟩ := hrel
    by_cases hlt : i < l.length
    · obtain ⟨b, off, rfl, hRb, _, hc⟩ := str_cells H.out (by omega)
      have q := hc i hlt
      rw [← hbl.cell (hR b hRb)] at q
      have HN := Lib.hid (confName_any l[i] wr)
      clear hc
      cases hn1 : isNameB l[i]
      · rw [hn1] at HN
        have HP := Lib.hid (show ptsE l = 4 from by
          have e := ptE_name hlt hn1
          rw [ptsE_hit hlt (by rw [e]; decide) hall.out, e])
        clear hn1 hall
        go_wp2_with fail
        refine HN.out.mono ?_
        rintro e w1 ⟨rfl, b1⟩
        have hb1 := hbl.trans (b1.mono hbl.size)
        obtain ⟨_, _, _, g3, _, _⟩ := (HS.out.on hb1).all
        go_wp2_with fail
        go_ret
        rw [HP.out]
        exact ⟨rfl, hb1⟩
      · rw [hn1] at HN
        have hi2 : (i : Int) ≤ (cap : Int) := by omega
        have hsub := fun W => run_sub_strs W b off l.length cap i (by omega)
        have HC := Lib.hid (fun W (hB : Below w.heap.size w W) => containsStrs_any R (l.take i) (.slice (some ⟨b, off, none⟩) i cap) l[i] W ((H.out.cutS i (by omega)).below hB hR))
        cases ht : hasStr (l.take i) l[i]
        · rw [ht] at HC
          have nx : Hid (∀ j, j < i + 1 → ptE l j = 0) := (show ∀ j, j < i + 1 → ptE l j = 0 from fun j hj => by
            by_cases e : j = i
            · subst e; exact ptE_good hlt hn1 ht
            · exact hall.out j (by omega))
          clear hn1 ht hall
          go_wp2_with fail
          refine HN.out.mono ?_
          rintro e w1 ⟨rfl, b1⟩
          have hb1 := hbl.trans (b1.mono hbl.size)
          clear b1 q
          go_wp2_with fail
          refine (HC.out w1 hb1).mono ?_
          rintro e w' ⟨rfl, rfl⟩
          go_wp2_with fail
          go_roundw
          case rel => exact ⟨i + 1, by omega, by go_num, hb1, nx⟩
          case measure => simp [intOf]; omega
        · rw [ht] at HC
          have HP := Lib.hid (show ptsE l = 6 from by
            have e := ptE_twice hlt hn1 ht
            rw [ptsE_hit hlt (by rw [e]; decide) hall.out, e])
          clear hn1 ht hall
          go_wp2_with fail
          refine HN.out.mono ?_
          rintro e w1 ⟨rfl, b1⟩
          have hb1 := hbl.trans (b1.mono hbl.size)
          clear b1 q
          go_wp2_with fail
          refine (HC.out w1 hb1).mono ?_
          rintro e w' ⟨rfl, rfl⟩
          obtain ⟨_, _, _, _, _, g5⟩ := (HS.out.on hb1).all
          go_wp2_with fail
          go_ret
          rw [HP.out]
          exact ⟨rfl, hb1⟩
    · have HP := Lib.hid (ptsE_miss (P := l) (fun j hj => hall.out j (by omega)))
      clear hall
      go_wp2_with fail
      go_ret
      rw [HP.out]
      exact ⟨rfl, hbl⟩
end Go.Proofs.YtakjbjokekbmbaaGreatDoor

/- The library's Grow, Concat at numbers; package conf: strangers. -/
namespace Go.Proofs.YtakjbjokekbmbaaGreatDoor
open Go.RowKit
set_option linter.unusedVariables false

theorem run_grow_ints (n : Nat) (h0 : 0 < n) (hn : n ≤ 1000000) (w : World) : ∃ cap w', (∀ ty, (Builtin.append_ #[36, 3] ty #[.slice none 0 0, .int .i64 n]).run Tryz.prog w = .ok (.slice (some ⟨w.heap.size, 0, none⟩) n cap) w') ∧ n ≤ cap ∧ cap ≤ 9223372036854775807 ∧
    w'.ownsRow w.heap.size 3 1 (.slice (some ⟨w.heap.size, 0, none⟩) 0 cap) 0 [] ∧ Below w.heap.size w w' := by
  obtain ⟨i0, hi0, hz0, hz1, hz2⟩ := info_parts Tryz.infoInt
  have hG := grownCap_ge w (0 + n) 0 3
  have hG2 := grownCap_le_maxLen w (0 + n) 0 3 (by unfold maxLen; omega)
  have hr := fun ty => Lib.run_append_grow_zeros w 36 3 ty 3 i0 (.int .i64 0) .i64 .i64 Tryz.underlying36 Tryz.underlying3 hi0 hz0 none 0 0 [] (run_firstCells_none w.drew i0.size 0 0 0) n h0 (by rw [hz1]; decide) (by omega) (by omega) (by rw [hz2]; omega) (growslice_fits (by omega) (by rw [hz2]; omega))
  rw [Nat.zero_add] at hr hG hG2
  refine ⟨_, _, hr, hG, hG2, ⟨rfl, .inr ⟨_, _, _, rfl, Nat.le_refl _, get_alloc_new _ _, Nat.zero_le _, hG2, ?_, by simp⟩⟩, ((Below.refl _ _).drew).alloc (Nat.le_refl _) _⟩
  simp only [Builtin.zeroCells, Array.size_append, Array.size_map, Array.size_range, show (Value.int IntKind.i64 0).cells.size = 1 from rfl, List.size_toArray, List.length_nil]
  omega
set_option maxRecDepth 100000 in
set_option maxHeartbeats 1000000 in
theorem grow_any (n : Nat) (hn : n ≤ 1000000) (w : World) :
    Calls Tryz.prog 194 #[.slice none 0 0, .int .i64 n] w fun e w' => ∃ ao cap, e = .returned (.slice ao 0 cap) ∧ w'.ownsRow w.heap.size 3 1 (.slice ao 0 cap) 0 [] ∧ Below w.heap.size w w' := by
  by_cases h0 : n = 0
  · subst h0
    go_enter Tryz.func194, Tryz.ntmps194
    go_wp2_with fail
    go_ret
    exact ⟨_, _, rfl, World.ownsRow_nil _ _ _ _, Below.refl _ _⟩
  · have hpos : 0 < (n : Int) := by omega
    have hnn : ¬ (n : Int) < 0 := by omega
    obtain ⟨cap, w1, hrz, hc1, hc2, hown, hb⟩ := run_grow_ints n (by omega) hn w
    have hsl : ∀ W : World, (Instr.slice 36 (.slice (some ⟨w.heap.size, 0, none⟩) n cap) none (some (.int .i64 0)) none).run Tryz.prog W = .ok (.slice (some ⟨w.heap.size, 0, none⟩) 0 cap) W := fun W => run_sub_ints W w.heap.size 0 n cap 0 (Nat.zero_le _)
    have HO := Lib.hid hown
    have HB := Lib.hid hb
    have hz0 : (Instr.slice 36 (.slice none 0 0) none (some (.int .i64 0)) none).run Tryz.prog w = .ok (.slice none 0 0) w := by
      have ht : Tryz.prog.underlying 36 = some (.slice (Tryz.prog.elem 36)) := by kernel_rfl
      have hs : ((sizeOf (Tryz.prog.elem 36)).run Tryz.prog w) = .ok 1 w := by kernel_rfl
      rw [run_slice_h w 36 none 0 0 ht .i64 0 (by omega) (by omega), hs]
      show Result.ok (sliced _ _ _ _ _) w = _
      unfold sliced
      simp
    clear hown hb h0
    go_enter Tryz.func194, Tryz.ntmps194
    go_wp2_with (at_builtin; refine Lib.wpList_append_run _ rfl _ _ _ _ rfl _ _ rfl rfl _ _ (hrz _) ?_)
    all_goals
      go_ret
      exact ⟨_, _, rfl, HO.out, HB.out⟩

def cat2 (a b : List Int) (k : Nat) : List Int := if k = 0 then [] else if k = 1 then a else a ++ b
def el2 {α : Type} (a b : α) (k : Nat) : α := if k = 0 then a else b
theorem cat2_succ (a b : List Int) (k : Nat) (hk : k < 2) : cat2 a b (k + 1) = cat2 a b k ++ el2 a b k := by
  match k, hk with
  | 0, _ => simp [cat2, el2]
  | 1, _ => simp [cat2, el2]
theorem cat2_end (a b : List Int) (k : Nat) (h1 : 2 ≤ k) : cat2 a b k = a ++ b := by
  unfold cat2
  rw [if_neg (by omega), if_neg (by omega)]
theorem el2_sl {R : Nat → Prop} {w : World} {a b : List Int} {va vb : Value} (ha : SlOf R w va 1 (intCells a) a.length) (hb : SlOf R w vb 1 (intCells b) b.length) (k : Nat) : SlOf R w (el2 va vb k) 1 (intCells (el2 a b k)) (el2 a b k).length := by
  unfold el2
  by_cases h : k = 0
  · simp only [if_pos h]; exact ha
  · simp only [if_neg h]; exact hb
theorem el2_cell {w : World} {cb : Nat} {va vb : Value} (h0 : w.cell? ⟨cb, 0, none⟩ = some va) (h1 : w.cell? ⟨cb, 1, none⟩ = some vb) (k : Nat) (hk : k < 2) : w.cell? ⟨cb, k, none⟩ = some (el2 va vb k) := by
  match k, hk with
  | 0, _ => exact h0
  | 1, _ => exact h1
theorem cat2_len {a b : List Int} (la : a.length ≤ 1000) (lb : b.length ≤ 1000) (k : Nat) : (cat2 a b k).length ≤ 2000 := by
  unfold cat2
  split
  · simp
  · split
    · omega
    · rw [List.length_append]; omega
theorem el2_len {a b : List Int} (la : a.length ≤ 1000) (lb : b.length ≤ 1000) (k : Nat) : (el2 a b k).length ≤ 1000 := by
  unfold el2
  split <;> omega
set_option maxRecDepth 100000 in
set_option maxHeartbeats 2000000 in
theorem concat_any (R : Nat → Prop) (a b : List Int) (va vb : Value) (cb : Nat) (w : World) (ha : SlOf R w va 1 (intCells a) a.length) (hb : SlOf R w vb 1 (intCells b) b.length) (hR : ∀ b, R b → b < w.heap.size) (h0 : w.cell? ⟨cb, 0, none⟩ = some va) (h1 : w.cell? ⟨cb, 1, none⟩ = some vb) (la : a.length ≤ 1000) (lb : b.length ≤ 1000) :
    Calls Tryz.prog 174 #[.slice (some ⟨cb, 0, none⟩) 2 2] w fun e w' => ∃ ao cap, e = .returned (.slice ao (a ++ b).length cap) ∧ w'.ownsRow w.heap.size 3 1 (.slice ao (a ++ b).length cap) (a ++ b).length (intCells (a ++ b)) ∧ Below w.heap.size w w' := by
  obtain ⟨i0, hi0, hz0, hz1, hz2⟩ := info_parts Tryz.infoInt
  have HQ := Lib.hid (el2_cell h0 h1)
  have hcb := World.block_lt_of_cell? _ ⟨cb, 0, none⟩ h0
  have HS := Lib.hid (el2_sl ha hb)
  have HCL := Lib.hid (cat2_len la lb)
  have HEL := Lib.hid (el2_len la lb)
  simp only at hcb
  obtain ⟨c, hc⟩ : ∃ c, c = a ++ b := ⟨_, rfl⟩
  have HC := Lib.hid hc
  have hcl : c.length ≤ 2000 := by rw [hc, List.length_append]; omega
  rw [← hc]
  clear hc
  clear ha hb h0 h1
  go_enter Tryz.func174, Tryz.ntmps174
  go_wp2_with fail
  go_loop [3, 11] (fun s3 s11 => ∃ k : Nat, k ≤ 2 ∧ s3 = .int .i64 (cat2 a b k).length ∧ s11 = .int .i64 k) (fun _ s => 2 - (intOf s).toNat)
  case atStart => exact ⟨0, Nat.zero_le _, rfl, rfl⟩
  case round =>
    obtain ⟨k, hk, rfl, rfl⟩ := hrel
    by_cases hlt : k < 2
    · have hlt2 : (k : Int) < 2 := by omega
      have q := HQ.out k hlt
      obtain ⟨xa, xc, hv⟩ := (HS.out k).val
      rw [hv] at q
      have hl1 := HCL.out k
      have hl2 := HEL.out k
      have hsu : Hid (((cat2 a b k).length : Int) + ((el2 a b k).length : Int) = ((cat2 a b (k + 1)).length : Nat)) := by
        show ((cat2 a b k).length : Int) + ((el2 a b k).length : Int) = ((cat2 a b (k + 1)).length : Nat)
        rw [cat2_succ a b k hlt, List.length_append]; omega
      clear hv
      generalize (el2 a b k).length = m at q hl2 hsu
      generalize (cat2 a b k).length = n at hl1 hsu ⊢
      go_wp2_with fail
      go_round
      case rel => exact ⟨k + 1, by omega, by rw [hsu.out], by go_num⟩
      case measure => simp [intOf]; omega
    · have hlt2 : (2 : Int) ≤ k := by omega
      have hk2 := (cat2_end a b k (by omega)).trans HC.out.symm
      rw [hk2]
      have HG := Lib.hid (grow_any c.length (by omega) w)
      clear hk2
      go_wp2_with fail
      refine HG.out.mono ?_
      rintro e w1 ⟨go1, gc1, rfl, hown, hb1⟩
      have HO1 := Lib.hid hown
      clear HG hown
      go_wp2_with fail
      go_loopw [6, 27] (fun s6 s27 wr => ∃ (j : Nat) (ao : Option Addr) (cap : Nat), j ≤ 2 ∧ s6 = .slice ao (cat2 a b j).length cap ∧ s27 = .int .i64 j ∧ Below w.heap.size w wr ∧ Hid (wr.ownsRow w.heap.size 3 1 (.slice ao (cat2 a b j).length cap) (cat2 a b j).length (intCells (cat2 a b j)))) (fun _ s _ => 2 - (intOf s).toNat)
      case atStart => exact ⟨0, go1, gc1, Nat.zero_le _, rfl, rfl, hb1, HO1⟩
      case round =>
        obtain ⟨j, ao, cap, hj, rfl, rfl, hbl, hown⟩ := hrel
        clear HO1 hb1
        by_cases hjl : j < 2
        · have hjl2 : (j : Int) < 2 := by omega
          have q := HQ.out j hjl
          rw [← hbl.cell (p := ⟨cb, j, none⟩) hcb] at q
          have hsl := (HS.out j).below hbl hR
          obtain ⟨xa, xc, hv⟩ := hsl.val
          rw [hv] at q hsl
          have HSL := Lib.hid hsl
          have hl1 := HCL.out j
          have hl2 := HEL.out j
          have hsu := Lib.hid (cat2_succ a b j hjl)
          clear hv hsl
          obtain ⟨n, hn⟩ : ∃ n, n = (cat2 a b j).length := ⟨_, rfl⟩
          obtain ⟨m, hm⟩ : ∃ m, m = (el2 a b j).length := ⟨_, rfl⟩
          rw [← hm] at q hl2 HSL
          rw [← hn] at hl1 hown ⊢
          have HN := Lib.hid hn
          have HM := Lib.hid hm
          clear hn hm
          go_wp2_with (at_builtin; go_must (refine wpList_append_src rfl (.tmp 31) (.tmp 32) 36 rfl w.heap.size 3 i0 _ 1 8 Tryz.underlying36 hi0 hz0 hz1 hz2 rfl (by decide) _ n _ rfl hown.out R _ m (intCells (el2 a b j)) rfl HSL.out (oneCell_ints _) (by unfold maxLen; omega) (by omega) hbl.size ?_; intro a1 k1 w6 ho6 hg6))
          have hb6 : Below w.heap.size w w6 := hbl.trans (below_grown hg6 (fun b hb => (hown.out.lt b hb).1) hbl.size)
          rw [← intCells_app, ← hsu.out] at ho6
          have e6 : n + m = (cat2 a b (j + 1)).length := by rw [hsu.out, List.length_append, HN.out, HM.out]
          rw [e6] at ho6 ⊢
          have HO6 := Lib.hid ho6
          clear ho6 hg6 e6 HSL hown q
          go_roundw
          case rel => exact ⟨j + 1, a1, k1, by omega, rfl, by go_num, hb6, HO6⟩
          case measure => simp [intOf]; omega
        · have hjl2 : (2 : Int) ≤ j := by omega
          have hj2 := (cat2_end a b j (by omega)).trans HC.out.symm
          rw [hj2] at hown ⊢
          clear hj2
          go_wp2_with fail
          go_ret
          exact ⟨_, _, rfl, hown.out, hbl⟩
end Go.Proofs.YtakjbjokekbmbaaGreatDoor
