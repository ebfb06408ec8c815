import Derived.Test.YtikehilbmldadaaGreatDoorQ16
import Derived.Deep.RegionHeld3
import Derived.Test.YtikehilbmldadaaGreatDoorQ01
import Derived.Lib.AppendZerosOnto
set_option maxHeartbeats 1000000
namespace Go.Proofs.YtikehilbmldadaaGreatDoor
open Go.RowKit
set_option linter.unusedVariables false
theorem entC_any (X : EntX) (nm : ByteArray) (eb : Nat) (w : World) (h : w.cell? ⟨eb, 0, none⟩ = some (.string nm)) :
    Calls Tryz.prog 165 #[.agg (entCs X.E X.p X.g X.e X.f X.l), .pointer (some ⟨eb, 0, none⟩)] w fun e w' => e = .returned (.bool (X.E.name.toList == nm.toList)) ∧ Below w.heap.size w w' := by
  have hlt := World.block_lt_of_cell? _ ⟨eb, 0, none⟩ h
  have q := cell_old h (.cells (entCs X.E X.p X.g X.e X.f X.l) 50)
  have hne : ¬ eb = w.heap.size := by simp only at hlt; omega
  have hne2 : ¬ w.heap.size = eb := by simp only at hlt; omega
  clear h
  unfold entCs at q ⊢
  go_enter Tryz.func165, Tryz.ntmps165
  go_wp2_with fail
  go_ret
  exact ⟨rfl, (Below.refl _ _).alloc (Nat.le_refl _) _⟩
def entFV (eb : Nat) : Value := .func (.func 165) #[] #[.pointer (some ⟨eb, 0, none⟩)]
theorem idxEnt_any (R : Nat → Prop) (X : List EntX) (v : Value) (nm : ByteArray) (eb : Nat) (w : World) (h : SlOf R w v 10 (X.flatMap entXCells) X.length) (hR : ∀ b, R b → b < w.heap.size) (hX : X.length ≤ 100000) (he : w.cell? ⟨eb, 0, none⟩ = some (.string nm)) :
    Calls Tryz.prog 203 #[v, entFV eb] w fun e w' => ∃ r : Int, e = .returned (.int .i64 r) ∧ decide (0 ≤ r) = hasStr (X.map xName) nm ∧ Below w.heap.size w w' := by
  obtain ⟨ao, cap, rfl⟩ := h.val
  have H := Lib.hid h
  have HE := Lib.hid he
  have hlt := World.block_lt_of_cell? _ ⟨eb, 0, none⟩ he
  clear h he
  unfold entFV
  go_enter Tryz.func203, Tryz.ntmps203
  go_wp2_with fail
  go_loopw [8] (fun t wr => ∃ k : Nat, k ≤ X.length ∧ t = .int .i64 k ∧ Below w.heap.size w wr ∧ Hid (∀ j (hj : j < X.length), j < k → X[j].E.name.toList ≠ nm.toList)) (fun t _ => X.length - (intOf t).toNat)
  case atStart => exact ⟨0, Nat.zero_le _, rfl, Below.refl _ _, fun j hj h => by omega⟩
  case round =>
    obtain ⟨k, hk, rfl, hbl, hall⟩ := hrel
    by_cases hkl : k < X.length
    · obtain ⟨b, off, rfl, hRb, hb, hc⟩ := ent_elem H.out (by omega)
      obtain ⟨q0, q1, q2, q3, q4, q5, q6, q7, q8, q9⟩ := hc k hkl
      have hRb' := hR b hRb
      rw [← hbl.cell hRb'] at q0 q1 q2 q3 q4 q5 q6 q7 q8 q9
      have HC := Lib.hid (entC_any X[k] nm eb wr (by rw [hbl.cell (p := ⟨eb, 0, none⟩) hlt]; exact HE.out))
      unfold entCs at HC
      clear hc
      by_cases hn : X[k].E.name.toList = nm.toList
      · have HH := Lib.hid (hasStr_hit (L := X.map xName) (s := nm) k (by simpa using hkl) (by simpa [xName] using hn))
        rw [show (X[k].E.name.toList == nm.toList) = true from by simp [hn]] at HC
        clear hn hall
        go_wp2_with fail
        refine HC.out.mono ?_
        rintro e w2 ⟨rfl, b2⟩
        go_wp2_with fail
        go_ret
        exact ⟨_, rfl, by rw [HH.out]; exact decide_eq_true (by omega), hbl.trans (b2.mono hbl.size)⟩
      · rw [show (X[k].E.name.toList == nm.toList) = false from by simp [hn]] at HC
        have nx : Hid (∀ j (hj : j < X.length), j < k + 1 → X[j].E.name.toList ≠ nm.toList) := (show ∀ j (hj : j < X.length), j < k + 1 → X[j].E.name.toList ≠ nm.toList from fun j hj h => by
          by_cases e : j = k
          · subst e; exact hn
          · exact hall.out j hj (by omega))
        clear hn hall
        go_wp2_with fail
        refine HC.out.mono ?_
        rintro e w2 ⟨rfl, b2⟩
        have hb2 := hbl.trans (b2.mono hbl.size)
        clear b2
        go_wp2_with fail
        go_roundw
        case rel => exact ⟨k + 1, by omega, by go_num, hb2, nx⟩
        case measure => simp [intOf]; omega
    · have HB := Lib.hid (hasStr_miss (L := X.map xName) (s := nm) (fun j hj => by simpa [xName] using hall.out j (by simpa using hj) (by have : j < X.length := by simpa using hj
                                                                                                                                          omega)))
      clear hall
      go_wp2_with fail
      go_ret
      exact ⟨_, rfl, by rw [HB.out]; rfl, hbl⟩
theorem conEnt_any (R : Nat → Prop) (X : List EntX) (v : Value) (nm : ByteArray) (eb : Nat) (w : World) (h : SlOf R w v 10 (X.flatMap entXCells) X.length) (hR : ∀ b, R b → b < w.heap.size) (hX : X.length ≤ 100000) (he : w.cell? ⟨eb, 0, none⟩ = some (.string nm)) :
    Calls Tryz.prog 164 #[v, entFV eb] w fun e w' => e = .returned (.bool (hasStr (X.map xName) nm)) ∧ Below w.heap.size w w' := by
  obtain ⟨ao, cap, rfl⟩ := h.val
  have H := Lib.hid (idxEnt_any R X _ nm eb w h hR hX he)
  clear h he
  unfold entFV at H ⊢
  go_enter Tryz.func164, Tryz.ntmps164
  go_wp2_with fail
  refine H.out.mono ?_
  rintro e w' ⟨r, rfl, hr, hb⟩
  have HR := Lib.hid hr
  clear hr
  go_wp2_with fail
  go_ret
  exact ⟨ret_bool HR.out, hb⟩
def strgP (n : Int) (p : Int) : Bool := decide (p < 0 ∨ n ≤ p)
theorem strC_any (p n : Int) (nb : Nat) (w : World) (h : w.cell? ⟨nb, 0, none⟩ = some (.int .i64 n)) :
    Calls Tryz.prog 244 #[.int .i64 p, .pointer (some ⟨nb, 0, none⟩)] w fun e w' => e = .returned (.bool (strgP n p)) ∧ w = w' := by
  by_cases h1 : p < 0
  · have HV := Lib.hid (show strgP n p = true from decide_eq_true (.inl h1))
    go_enter Tryz.func244, Tryz.ntmps244
    go_wp2_with fail
    go_ret
    exact ⟨ret_bool HV.out.symm, rfl⟩
  · have HV := Lib.hid (show strgP n p = decide (n ≤ p) from by unfold strgP; rw [decide_eq_decide]; omega)
    go_enter Tryz.func244, Tryz.ntmps244
    go_wp2_with fail
    go_ret
    exact ⟨ret_bool HV.out.symm, rfl⟩
def strgV (nb : Nat) : Value := .func (.func 244) #[] #[.pointer (some ⟨nb, 0, none⟩)]
theorem idxStr_any (R : Nat → Prop) (l : List Int) (v : Value) (n : Int) (nb : Nat) (w : World) (h : SlOf R w v 1 (intCells l) l.length) (hl : l.length ≤ 100000) (he : w.cell? ⟨nb, 0, none⟩ = some (.int .i64 n)) :
    Calls Tryz.prog 278 #[v, strgV nb] w fun e w' => ∃ r : Int, e = .returned (.int .i64 r) ∧ decide (0 ≤ r) = l.any (strgP n) ∧ w = w' := by
  obtain ⟨ao, cap, rfl⟩ := h.val
  have H := Lib.hid h
  have HE := Lib.hid he
  clear h he
  unfold strgV
  go_enter Tryz.func278, Tryz.ntmps278
  go_wp2_with fail
  go_loop [8] (fun t => ∃ k : Nat, k ≤ l.length ∧ t = .int .i64 k ∧ Hid (∀ j (hj : j < l.length), j < k → strgP n l[j] = false)) (fun t => l.length - (intOf t).toNat)
  case atStart => exact ⟨0, Nat.zero_le _, rfl, fun j hj h => by omega⟩
  case round =>
    obtain ⟨k, hk, rfl, hall⟩ := hrel
    by_cases hkl : k < l.length
    · obtain ⟨b, off, rfl, hRb, _, hc⟩ := int_cells H.out (by omega)
      have q := hc k hkl
      clear hc
      have HC := Lib.hid (strC_any l[k] n nb w HE.out)
      cases hb : strgP n l[k]
      · rw [hb] at HC
        have nx : Hid (∀ j (hj : j < l.length), j < k + 1 → strgP n l[j] = false) := (show ∀ j (hj : j < l.length), j < k + 1 → strgP n l[j] = false from fun j hj h => by
          by_cases e : j = k
          · subst e; exact hb
          · exact hall.out j hj (by omega))
        clear hb hall
        go_wp2_with fail
        refine HC.out.mono ?_
        rintro e w' ⟨rfl, rfl⟩
        go_wp2_with fail
        go_round
        case rel => exact ⟨k + 1, by omega, by go_num, nx⟩
        case measure => simp [intOf]; omega
      · rw [hb] at HC
        have HB := Lib.hid (List.any_eq_true.2 ⟨l[k], List.getElem_mem hkl, hb⟩)
        clear hb hall
        go_wp2_with fail
        refine HC.out.mono ?_
        rintro e w' ⟨rfl, rfl⟩
        go_wp2_with fail
        go_ret
        exact ⟨_, rfl, by rw [HB.out]; exact decide_eq_true (by omega), rfl⟩
    · have HB : Hid (l.any (strgP n) = false) := List.any_eq_false.2 (fun x hx => by
        obtain ⟨j, hj, rfl⟩ := List.mem_iff_getElem.1 hx
        rw [hall.out j hj (by omega)]; decide)
      clear hall
      go_wp2_with fail
      go_ret
      exact ⟨_, rfl, by rw [HB.out]; rfl, rfl⟩
theorem conStr_any (R : Nat → Prop) (l : List Int) (v : Value) (n : Int) (nb : Nat) (w : World) (h : SlOf R w v 1 (intCells l) l.length) (hl : l.length ≤ 100000) (he : w.cell? ⟨nb, 0, none⟩ = some (.int .i64 n)) :
    Calls Tryz.prog 243 #[v, strgV nb] w fun e w' => e = .returned (.bool (l.any (strgP n))) ∧ w = w' := by
  obtain ⟨ao, cap, rfl⟩ := h.val
  have H := Lib.hid (idxStr_any R l _ n nb w h hl he)
  clear h he
  unfold strgV at H ⊢
  go_enter Tryz.func243, Tryz.ntmps243
  go_wp2_with fail
  refine H.out.mono ?_
  rintro e w' ⟨r, rfl, hr, rfl⟩
  have HR := Lib.hid hr
  clear hr
  go_wp2_with fail
  go_ret
  exact ⟨ret_bool HR.out, rfl⟩
theorem gapC_any (g : GapV) (w : World) :
    Calls Tryz.prog 209 #[.agg #[.int .i64 g.fr, .int .i64 g.dst, .int .i64 g.mn, .int .i64 g.mx]] w fun e w' => e = .returned (.bool (gapWrong g)) ∧ Below w.heap.size w w' := by
  by_cases h1 : g.mn < 0
  · have HV := Lib.hid (show gapWrong g = true from decide_eq_true (.inl h1))
    go_enter Tryz.func209, Tryz.ntmps209
    go_wp2_with fail
    go_ret
    exact ⟨ret_bool HV.out.symm, (Below.refl _ _).alloc (Nat.le_refl _) _⟩
  · by_cases h2 : g.mx < g.mn
    · have HV := Lib.hid (show gapWrong g = true from decide_eq_true (.inr (.inl h2)))
      go_enter Tryz.func209, Tryz.ntmps209
      go_wp2_with fail
      go_ret
      exact ⟨ret_bool HV.out.symm, (Below.refl _ _).alloc (Nat.le_refl _) _⟩
    · have HV := Lib.hid (show gapWrong g = decide (1099511627776 < g.mx) from by unfold gapWrong; rw [decide_eq_decide]; omega)
      go_enter Tryz.func209, Tryz.ntmps209
      go_wp2_with fail
      go_ret
      exact ⟨ret_bool HV.out.symm, (Below.refl _ _).alloc (Nat.le_refl _) _⟩
def gapFV : Value := .func (.func 209) #[] #[]
theorem idxGap_any (R : Nat → Prop) (l : List GapV) (v : Value) (w : World) (h : SlOf R w v 4 (l.flatMap gapCells) l.length) (hR : ∀ b, R b → b < w.heap.size) (hl : l.length ≤ 100000) :
    Calls Tryz.prog 245 #[v, gapFV] w fun e w' => ∃ r : Int, e = .returned (.int .i64 r) ∧ decide (0 ≤ r) = l.any gapWrong ∧ Below w.heap.size w w' := by
  obtain ⟨ao, cap, rfl⟩ := h.val
  have H := Lib.hid h
  clear h
  unfold gapFV
  go_enter Tryz.func245, Tryz.ntmps245
  go_wp2_with fail
  go_loopw [8] (fun t wr => ∃ k : Nat, k ≤ l.length ∧ t = .int .i64 k ∧ Below w.heap.size w wr ∧ Hid (∀ j (hj : j < l.length), j < k → gapWrong l[j] = false)) (fun t _ => l.length - (intOf t).toNat)
  case atStart => exact ⟨0, Nat.zero_le _, rfl, Below.refl _ _, fun j hj h => by omega⟩
  case round =>
    obtain ⟨k, hk, rfl, hbl, hall⟩ := hrel
    by_cases hkl : k < l.length
    · obtain ⟨gb, goff, rfl, hRg, _, hcg⟩ := H.out.elem (f := gapCells) (fun _ => rfl) (by decide) (by omega)
      have x0 := hcg k hkl 0 _ rfl
      have x1 := hcg k hkl 1 _ rfl
      have x2 := hcg k hkl 2 _ rfl
      have x3 := hcg k hkl 3 _ rfl
      rw [← hbl.cell (hR gb hRg)] at x0 x1 x2 x3
      rw [Nat.add_zero] at x0
      clear hcg
      have HC := Lib.hid (gapC_any l[k] wr)
      cases hb : gapWrong l[k]
      · rw [hb] at HC
        have nx : Hid (∀ j (hj : j < l.length), j < k + 1 → gapWrong l[j] = false) := (show ∀ j (hj : j < l.length), j < k + 1 → gapWrong l[j] = false from fun j hj h => by
          by_cases e : j = k
          · subst e; exact hb
          · exact hall.out j hj (by omega))
        clear hb hall
        go_wp2_with fail
        refine HC.out.mono ?_
        rintro e w2 ⟨rfl, b2⟩
        have hb2 := hbl.trans (b2.mono hbl.size)
        clear b2
        go_wp2_with fail
        go_roundw
        case rel => exact ⟨k + 1, by omega, by go_num, hb2, nx⟩
        case measure => simp [intOf]; omega
      · rw [hb] at HC
        have HB := Lib.hid (List.any_eq_true.2 ⟨l[k], List.getElem_mem hkl, hb⟩)
        clear hb hall
        go_wp2_with fail
        refine HC.out.mono ?_
        rintro e w2 ⟨rfl, b2⟩
        go_wp2_with fail
        go_ret
        exact ⟨_, rfl, by rw [HB.out]; exact decide_eq_true (by omega), hbl.trans (b2.mono hbl.size)⟩
    · have HB : Hid (l.any gapWrong = false) := List.any_eq_false.2 (fun x hx => by
        obtain ⟨j, hj, rfl⟩ := List.mem_iff_getElem.1 hx
        rw [hall.out j hj (by omega)]; decide)
      clear hall
      go_wp2_with fail
      go_ret
      exact ⟨_, rfl, by rw [HB.out]; rfl, hbl⟩
theorem conGap_any (R : Nat → Prop) (l : List GapV) (v : Value) (w : World) (h : SlOf R w v 4 (l.flatMap gapCells) l.length) (hR : ∀ b, R b → b < w.heap.size) (hl : l.length ≤ 100000) :
    Calls Tryz.prog 208 #[v, gapFV] w fun e w' => e = .returned (.bool (l.any gapWrong)) ∧ Below w.heap.size w w' := by
  obtain ⟨ao, cap, rfl⟩ := h.val
  have H := Lib.hid (idxGap_any R l _ w h hR hl)
  clear h
  unfold gapFV at H ⊢
  go_enter Tryz.func208, Tryz.ntmps208
  go_wp2_with fail
  refine H.out.mono ?_
  rintro e w' ⟨r, rfl, hr, hb⟩
  have HR := Lib.hid hr
  clear hr
  go_wp2_with fail
  go_ret
  exact ⟨ret_bool HR.out, hb⟩
theorem run_sub_strs (w : World) (b off len cap i : Nat) (hi : i ≤ cap) :
    (Instr.slice 22 (.slice (some ⟨b, off, none⟩) len cap) none (some (.int .i64 i)) none).run Tryz.prog w = .ok (.slice (some ⟨b, off, none⟩) i cap) w := by
  have ht : Tryz.prog.underlying 22 = some (.slice (Tryz.prog.elem 22)) := by kernel_rfl
  have hs : ((sizeOf (Tryz.prog.elem 22)).run Tryz.prog w) = .ok 1 w := by kernel_rfl
  rw [run_slice_h w 22 (some ⟨b, off, none⟩) len cap ht .i64 i (by omega) (by omega), hs]
  show Result.ok (sliced _ _ _ _ _) w = _
  unfold sliced
  simp
  intro _
  rw [addr_add, Nat.add_zero]
theorem run_sub_pairs (w : World) (b off len cap i : Nat) (hi : i ≤ cap) :
    (Instr.slice 47 (.slice (some ⟨b, off, none⟩) len cap) none (some (.int .i64 i)) none).run Tryz.prog w = .ok (.slice (some ⟨b, off, none⟩) i cap) w := by
  have ht : Tryz.prog.underlying 47 = some (.slice (Tryz.prog.elem 47)) := by kernel_rfl
  have hs : ((sizeOf (Tryz.prog.elem 47)).run Tryz.prog w) = .ok 2 w := by kernel_rfl
  rw [run_slice_h w 47 (some ⟨b, off, none⟩) len cap ht .i64 i (by omega) (by omega), hs]
  show Result.ok (sliced _ _ _ _ _) w = _
  unfold sliced
  simp
  intro _
  rw [addr_add, Nat.add_zero]
theorem run_sub_ents (w : World) (b off len cap i : Nat) (hi : i ≤ cap) :
    (Instr.slice 28 (.slice (some ⟨b, off, none⟩) len cap) none (some (.int .i64 i)) none).run Tryz.prog w = .ok (.slice (some ⟨b, off, none⟩) i cap) w := by
  have ht : Tryz.prog.underlying 28 = some (.slice (Tryz.prog.elem 28)) := by kernel_rfl
  have hs : ((sizeOf (Tryz.prog.elem 28)).run Tryz.prog w) = .ok 10 w := by kernel_rfl
  rw [run_slice_h w 28 (some ⟨b, off, none⟩) len cap ht .i64 i (by omega) (by omega), hs]
  show Result.ok (sliced _ _ _ _ _) w = _
  unfold sliced
  simp
  intro _
  rw [addr_add, Nat.add_zero]
theorem SlOf.cut {α : Type} {f : α → List Value} {R : Nat → Prop} {w : World} {ao : Option Addr} {cap sz : Nat} {l : List α} (h : SlOf R w (.slice ao l.length cap) sz (l.flatMap f) l.length) (hf : ∀ x, (f x).length = sz) (k : Nat) (hk : k ≤ l.length) : SlOf R w (.slice ao k cap) sz ((l.take k).flatMap f) (l.take k).length := by
  obtain ⟨hl, ao', cap', hv, h1, h2, h3, h4⟩ := h
  obtain ⟨rfl, _, rfl⟩ := Value.slice.inj hv
  have e : (l.take k).length = k := by rw [List.length_take]; omega
  refine ⟨flat_len f sz hf _, ao, cap, by rw [e], by omega, h2, h3, fun hp => ?_⟩
  have hs : l.flatMap f = (l.take k).flatMap f ++ (l.drop k).flatMap f := by rw [← List.flatMap_append, List.take_append_drop]
  obtain ⟨b, off, ha, hR, hb, hc⟩ := h4 (by rw [hs, List.length_append]; omega)
  refine ⟨b, off, ha, hR, hb, fun j u hj => hc j u ?_⟩
  have hj' := (List.getElem?_eq_some_iff.1 hj).1
  rw [hs, List.getElem?_append_left hj']
  exact hj
theorem SlOf.capB {R : Nat → Prop} {w : World} {ao : Option Addr} {n cap sz : Nat} {cs : List Value} (h : SlOf R w (.slice ao n cap) sz cs n) : (n : Int) ≤ (cap : Int) ∧ (cap : Int) ≤ 9223372036854775807 := by
  obtain ⟨_, _, _, hv, h1, h2, _⟩ := h
  obtain ⟨_, _, rfl⟩ := Value.slice.inj hv
  unfold maxLen at h2
  omega
theorem edge_elem {R : Nat → Prop} {w : World} {ao : Option Addr} {n cap : Nat} {l : List (Int × Int)} (h : SlOf R w (.slice ao n cap) 2 (l.flatMap edgeCells) l.length) (h0 : 0 < l.length) :
    ∃ b off, ao = some ⟨b, off, none⟩ ∧ R b ∧ b < w.heap.size ∧ ∀ k (hk : k < l.length), w.cell? ⟨b, off + k * 2, none⟩ = some (.int .i64 l[k].1) ∧ w.cell? ⟨b, off + k * 2 + 1, none⟩ = some (.int .i64 l[k].2) := by
  obtain ⟨b, off, ha, hR, hb, hc⟩ := h.elem (fun _ => rfl) (by decide) h0
  exact ⟨b, off, ha, hR, hb, fun k hk => ⟨hc k hk 0 _ rfl, hc k hk 1 _ rfl⟩⟩
theorem idxPair_any (R : Nat → Prop) (l : List (Int × Int)) (v : Value) (x : Int × Int) (w : World) (h : SlOf R w v 2 (l.flatMap edgeCells) l.length) (hR : ∀ b, R b → b < w.heap.size) (hl : l.length ≤ 100000) :
    Calls Tryz.prog 279 #[v, .agg #[.int .i64 x.1, .int .i64 x.2]] w fun e w' => ∃ r : Int, e = .returned (.int .i64 r) ∧ decide (0 ≤ r) = decide (x ∈ l) ∧ Below w.heap.size w w' := by
  obtain ⟨ao, cap, rfl⟩ := h.val
  have H := Lib.hid h
  have heq := Tryz.pairEqE
  unfold pairEqE at heq
  clear h
  go_enter Tryz.func279, Tryz.ntmps279
  go_wp2_with fail
  generalize hwa : w.alloc _ = wa
  have hba : Below w.heap.size w wa := by rw [← hwa]; exact (Below.refl _ _).alloc (Nat.le_refl _) _
  have hxa : wa.heap[w.heap.size]? = some (.cells #[.int .i64 x.1, .int .i64 x.2] 127) := by rw [← hwa]; exact get_alloc_new w _
  obtain ⟨z0, z1, zf⟩ := two_cells hxa
  clear hwa hxa zf
  go_loopw [8] (fun t wr => ∃ k : Nat, k ≤ l.length ∧ t = .int .i64 k ∧ Below w.heap.size w wr ∧ wr.cell? ⟨w.heap.size, 0, none⟩ = some (.int .i64 x.1) ∧ wr.cell? ⟨w.heap.size, 1, none⟩ = some (.int .i64 x.2) ∧ Hid (∀ j (hj : j < l.length), j < k → l[j] ≠ x)) (fun t _ => l.length - (intOf t).toNat)
  case atStart => exact ⟨0, Nat.zero_le _, rfl, hba, z0, z1, fun j hj h => by omega⟩
  case round =>
    obtain ⟨k, hk, rfl, hbl, c0, c1, hall⟩ := hrel
    clear hba z0 z1
    by_cases hkl : k < l.length
    · obtain ⟨b, off, rfl, hRb, _, hc⟩ := edge_elem H.out (by omega)
      obtain ⟨q0, q1⟩ := hc k hkl
      rw [← hbl.cell (hR b hRb)] at q0 q1
      clear hc
      by_cases hn : x = l[k]
      · have hq := fun W => heq W x.1 x.2 l[k].1 l[k].2
        rw [decide_eq_true (show (x.1, x.2) = (l[k].1, l[k].2) from hn)] at hq
        have HB : Hid (x ∈ l) := hn ▸ List.getElem_mem hkl
        clear hn hall heq
        go_wp2_with fail
        go_quiet (fail)
        go_wp2_with fail
        go_ret
        exact ⟨_, rfl, by rw [decide_eq_true HB.out]; exact decide_eq_true (by omega), below_drewN' _ hbl⟩
      · have hq := fun W => heq W x.1 x.2 l[k].1 l[k].2
        rw [decide_eq_false (show ¬ (x.1, x.2) = (l[k].1, l[k].2) from hn)] at hq
        have nx : Hid (∀ j (hj : j < l.length), j < k + 1 → l[j] ≠ x) := (show ∀ j (hj : j < l.length), j < k + 1 → l[j] ≠ x from fun j hj h => by
          by_cases e : j = k
          · subst e; exact fun e => hn e.symm
          · exact hall.out j hj (by omega))
        clear hn hall heq
        go_wp2_with fail
        go_quiet (fail)
        go_wp2_with fail
        go_roundw
        case rel => exact ⟨k + 1, by omega, by go_num, below_drewN' _ hbl, c0, c1, nx⟩
        case measure => simp [intOf]; omega
    · have HB : Hid (x ∉ l) := (show x ∉ l from fun hx => by
        obtain ⟨j, hj, e⟩ := List.mem_iff_getElem.1 hx
        exact hall.out j hj (by omega) e)
      clear hall heq
      go_wp2_with fail
      go_ret
      exact ⟨_, rfl, by rw [decide_eq_false HB.out]; rfl, hbl⟩
theorem conPair_any (R : Nat → Prop) (l : List (Int × Int)) (v : Value) (x : Int × Int) (w : World) (h : SlOf R w v 2 (l.flatMap edgeCells) l.length) (hR : ∀ b, R b → b < w.heap.size) (hl : l.length ≤ 100000) :
    Calls Tryz.prog 246 #[v, .agg #[.int .i64 x.1, .int .i64 x.2]] w fun e w' => e = .returned (.bool (decide (x ∈ l))) ∧ Below w.heap.size w w' := by
  obtain ⟨ao, cap, rfl⟩ := h.val
  have b0 : Below w.heap.size w (w.alloc (.cells #[.int .i64 x.1, .int .i64 x.2] 127)) := (Below.refl _ _).alloc (Nat.le_refl _) _
  have H := Lib.hid (idxPair_any R l _ x _ (h.below b0 hR) (below_lt2 hR b0) hl)
  have B0 := Lib.hid b0
  clear h b0
  go_enter Tryz.func246, Tryz.ntmps246
  go_wp2_with fail
  refine H.out.mono ?_
  rintro e w' ⟨r, rfl, hr, hb0⟩
  have hb := B0.out.trans (hb0.mono B0.out.size)
  clear hb0
  have HR := Lib.hid hr
  clear hr
  go_wp2_with fail
  go_ret
  exact ⟨ret_bool HR.out, hb⟩
theorem twiceI_any (R : Nat → Prop) (l : List Int) (v : Value) (w : World) (h : SlOf R w v 1 (intCells l) l.length) (hn : l.length ≤ 100000) :
    Calls Tryz.prog 212 #[v] w fun e w' => e = .returned (.bool (twiceB l)) ∧ w = w' := by
  obtain ⟨ao, cap, rfl⟩ := h.val
  have H := Lib.hid h
  obtain ⟨hc1, hc2⟩ := h.capB
  clear h
  go_enter Tryz.func212, Tryz.ntmps212
  go_wp2_with fail
  go_loop [7] (fun s => ∃ i : Nat, i ≤ l.length ∧ s = .int .i64 i ∧ Hid (∀ j (hj : j < l.length), j < i → l[j] ∉ l.take j)) (fun s => l.length - (intOf s).toNat)
  case atStart => exact ⟨0, Nat.zero_le _, rfl, fun j _ h => by omega⟩
  case round =>
    obtain ⟨i, hi, rfl, hall⟩ := hrel
    by_cases hlt : i < l.length
    · obtain ⟨b, off, rfl, _, _, hc⟩ := int_cells H.out (by omega)
      have q1 := hc i hlt
      have HT := Lib.hid (containsInts_any R (l.take i) (.slice (some ⟨b, off, none⟩) i cap) l[i] w (H.out.take i (by omega)))
      have hi2 : (i : Int) ≤ (cap : Int) := by omega
      have hsub := fun W => run_sub_ints W b off l.length cap i (by omega)
      clear hc
      by_cases ht : l[i] ∈ l.take i
      · rw [decide_eq_true ht] at HT
        have hbad := Lib.hid (twiceB_hit i hlt ht)
        clear ht hall
        go_wp2_with fail
        refine HT.out.mono ?_
        rintro e w' ⟨rfl, rfl⟩
        go_wp2_with fail
        go_ret
        exact ⟨ret_bool hbad.out.symm, rfl⟩
      · rw [decide_eq_false ht] at HT
        have nx : Hid (∀ j (hj : j < l.length), j < i + 1 → l[j] ∉ l.take j) := (show ∀ j (hj : j < l.length), j < i + 1 → l[j] ∉ l.take j from fun j hj hji => by
          by_cases e : j = i
          · subst e; exact ht
          · exact hall.out j hj (by omega))
        clear ht hall
        go_wp2_with fail
        refine HT.out.mono ?_
        rintro e w' ⟨rfl, rfl⟩
        go_wp2_with fail
        go_round
        case rel => exact ⟨i + 1, by omega, by go_num, nx⟩
        case measure => simp [intOf]; omega
    · have hgood := Lib.hid (twiceB_miss (l := l) (fun j hj => hall.out j hj (by omega)))
      clear hall
      go_wp2_with fail
      go_ret
      exact ⟨ret_bool hgood.out.symm, rfl⟩
theorem twiceP_any (R : Nat → Prop) (l : List (Int × Int)) (v : Value) (w : World) (h : SlOf R w v 2 (l.flatMap edgeCells) l.length) (hR : ∀ b, R b → b < w.heap.size) (hn : l.length ≤ 100000) :
    Calls Tryz.prog 211 #[v] w fun e w' => e = .returned (.bool (edgesTwice l)) ∧ Below w.heap.size w w' := by
  obtain ⟨ao, cap, rfl⟩ := h.val
  have H := Lib.hid h
  obtain ⟨hc1, hc2⟩ := h.capB
  clear h
  go_enter Tryz.func211, Tryz.ntmps211
  go_wp2_with fail
  go_loopw [7] (fun s wr => ∃ i : Nat, i ≤ l.length ∧ s = .int .i64 i ∧ Below w.heap.size w wr ∧ Hid (∀ j (hj : j < l.length), j < i → l[j] ∉ l.take j)) (fun s _ => l.length - (intOf s).toNat)
  case atStart => exact ⟨0, Nat.zero_le _, rfl, Below.refl _ _, fun j _ h => by omega⟩
  case round =>
    obtain ⟨i, hi, rfl, hbl, hall⟩ := hrel
    by_cases hlt : i < l.length
    · obtain ⟨b, off, rfl, hRb, _, hc⟩ := edge_elem H.out (by omega)
      obtain ⟨q0, q1⟩ := hc i hlt
      rw [← hbl.cell (hR b hRb)] at q0 q1
      have hi2 : (i : Int) ≤ (cap : Int) := by omega
      have hsub := fun W => run_sub_pairs W b off l.length cap i (by omega)
      have HT := Lib.hid (fun W (hB : Below w.heap.size w W) => conPair_any R (l.take i) (.slice (some ⟨b, off, none⟩) i cap) l[i] W ((SlOf.cut (f := edgeCells) H.out (fun _ => rfl) i (by omega)).below hB hR) (below_lt2 hR hB) (by rw [List.length_take]; omega))
      clear hc
      go_upto_region 4 with fail
      have hxb := get_alloc_new wr (.cells #[.int .i64 l[i].1, .int .i64 l[i].2] 127)
      have hb1 : Below w.heap.size w (wr.alloc (.cells #[.int .i64 l[i].1, .int .i64 l[i].2] 127)) := hbl.alloc hbl.size _
      generalize wr.alloc _ = wb at hxb hb1 ⊢
      obtain ⟨z0, z1, zf⟩ := two_cells hxb
      have hbb := lt_of_get hxb
      obtain ⟨bb, hbq⟩ : ∃ bb, bb = wr.heap.size := ⟨_, rfl⟩
      rw [← hbq] at z0 z1 hbb ⊢
      clear hbq hxb zf q0 q1
      go_cut [16] (fun s wx => s = .bool (decide (l[i] ∈ l.take i)) ∧ Below w.heap.size w wx)
      case first =>
       go_region_held3 (fun w' => ∀ o, w'.cell? ⟨bb, o, none⟩ = wb.cell? ⟨bb, o, none⟩)
        (first | exact fun _ => rfl | exact fun o => d1.cell (p := ⟨bb, o, none⟩) hbb)
        (first | (go_at_call 246; refine (HT.out _ ?_).mono ?_; (repeat (first | exact hb1 | refine Below.drew ?_)); rintro e w2 ⟨rfl, b2⟩; have d1 : Below wb.heap.size wb w2 := (by repeat (first | exact Below.refl _ _ | exact b2 | refine Below.drew ?_ | refine Below.trans ?_ b2))))
       all_goals (go_wp2_with fail; go_meet)
       all_goals exact ⟨rfl, by repeat (first | exact hb1.trans (d1.mono hb1.size) | refine Below.drew ?_)⟩
      case rest =>
      obtain ⟨rfl, hb2⟩ := hcut
      clear z0 z1 HT hb1
      by_cases ht : l[i] ∈ l.take i
      · rw [decide_eq_true ht]
        have hbad := Lib.hid (edgesTwice_hit i hlt ht)
        clear ht hall
        go_wp2_with fail
        go_ret
        exact ⟨ret_bool hbad.out.symm, hb2⟩
      · rw [decide_eq_false ht]
        have nx : Hid (∀ j (hj : j < l.length), j < i + 1 → l[j] ∉ l.take j) := (show ∀ j (hj : j < l.length), j < i + 1 → l[j] ∉ l.take j from fun j hj hji => by
          by_cases e : j = i
          · subst e; exact ht
          · exact hall.out j hj (by omega))
        clear ht hall
        go_wp2_with fail
        go_roundw
        case rel => exact ⟨i + 1, by omega, by go_num, hb2, nx⟩
        case measure => simp [intOf]; omega
    · have hgood := Lib.hid (edgesTwice_miss (l := l) (fun j hj => hall.out j hj (by omega)))
      clear hall
      go_wp2_with fail
      go_ret
      exact ⟨ret_bool hgood.out.symm, hbl⟩
structure SentsC (B : Nat) (sa : Nat → Addr) (w : World) : Prop where
  gl : ∀ k, k < 6 → w.cell? ⟨sg k, 0, none⟩ = some (errv sa (k + 1))
  nb : ∀ k, k < 6 → sg k < B
  top : B ≤ w.heap.size
theorem Sents.c {B : Nat} {sa : Nat → Addr} {w : World} (h : Sents B sa w) : SentsC B sa w := ⟨fun k hk => h.gl k (by omega), fun k hk => h.nb.1 k (by omega), h.top⟩
theorem SentsC.keep {B : Nat} {sa : Nat → Addr} {S : Nat → Prop} {w w' : World} (h : SentsC B sa w) (k : Keep S w w') (hS : ∀ b, S b → B ≤ b) : SentsC B sa w' := by
  have ht := h.top
  refine ⟨fun i hi => ?_, h.nb, Nat.le_trans ht k.size⟩
  have hn := h.nb i hi
  rw [k.cell (p := ⟨sg i, 0, none⟩) (show sg i < w.heap.size by omega) (fun x => by have := hS _ x; simp only at this; omega)]
  exact h.gl i hi
theorem SentsC.below {B : Nat} {sa : Nat → Addr} {w w' : World} (h : SentsC B sa w) (b : Below w.heap.size w w') : SentsC B sa w' := h.keep (below_keep b) (fun _ h => h.elim)
theorem SentsC.low {B C : Nat} {sa : Nat → Addr} {w w' : World} (h : SentsC B sa w) (b : Below C w w') (hC : B ≤ C) : SentsC B sa w' := h.keep (Keep.of_below b) (fun k hk => Nat.le_trans hC hk)
theorem SentsC.on {B : Nat} {sa : Nat → Addr} {w w' : World} (h : SentsC B sa w) (b : Below w.heap.size w w') : SentsC B sa w' := h.low b h.top
theorem SentsC.all {B : Nat} {sa : Nat → Addr} {w : World} (h : SentsC B sa w) :
    w.cell? ⟨1, 0, none⟩ = some (.iface 372 (.pointer (some (sa 0)))) ∧ w.cell? ⟨0, 0, none⟩ = some (.iface 372 (.pointer (some (sa 1)))) ∧ w.cell? ⟨2, 0, none⟩ = some (.iface 372 (.pointer (some (sa 2)))) ∧
    w.cell? ⟨3, 0, none⟩ = some (.iface 372 (.pointer (some (sa 3)))) ∧ w.cell? ⟨4, 0, none⟩ = some (.iface 372 (.pointer (some (sa 4)))) ∧ w.cell? ⟨5, 0, none⟩ = some (.iface 372 (.pointer (some (sa 5)))) :=
  ⟨h.gl 0 (by decide), h.gl 1 (by decide), h.gl 2 (by decide), h.gl 3 (by decide), h.gl 4 (by decide), h.gl 5 (by decide)⟩
theorem sidx_take {P : List ByteArray} {k : Nat} (hk : k < P.length) : hasStr (P.take k) P[k] = decide (sidxOf P P[k] < k) := by
  unfold sidxOf
  cases h : P.findIdx? (fun y => y.toList == P[k].toList) with
  | none =>
    rw [List.findIdx?_eq_none_iff] at h
    have := h P[k] (List.getElem_mem hk)
    simp at this
  | some i =>
    rw [List.findIdx?_eq_some_iff_getElem] at h
    obtain ⟨hi, he, hmin⟩ := h
    by_cases hik : i < k
    · rw [decide_eq_true (by simp only; omega)]
      exact hasStr_hit i (by rw [List.length_take]; omega) (by simpa using he)
    · rw [decide_eq_false (by simp only; omega)]
      exact hasStr_miss (fun j hj => by
        rw [List.length_take] at hj
        have := hmin j (by omega)
        simpa using this)
theorem ptE_name {P : List ByteArray} {k : Nat} (hk : k < P.length) (h : isNameB P[k] = false) : ptE P k = 4 := by rw [ptE_at hk, if_pos h]
theorem ptE_twice {P : List ByteArray} {k : Nat} (hk : k < P.length) (h : isNameB P[k] = true) (h2 : hasStr (P.take k) P[k] = true) : ptE P k = 6 := by
  rw [sidx_take hk] at h2
  rw [ptE_at hk, if_neg (by rw [h]; decide), if_pos (of_decide_eq_true h2)]
theorem ptE_good {P : List ByteArray} {k : Nat} (hk : k < P.length) (h : isNameB P[k] = true) (h2 : hasStr (P.take k) P[k] = false) : ptE P k = 0 := by
  rw [sidx_take hk] at h2
  rw [ptE_at hk, if_neg (by rw [h]; decide), if_neg (of_decide_eq_false h2)]
theorem SlOf.cutS {R : Nat → Prop} {w : World} {ao : Option Addr} {cap : Nat} {l : List ByteArray} (h : SlOf R w (.slice ao l.length cap) 1 (strCells1 l) l.length) (k : Nat) (hk : k ≤ l.length) : SlOf R w (.slice ao k cap) 1 (strCells1 (l.take k)) (l.take k).length := by
  rw [← flat_strs] at h ⊢
  exact SlOf.cut (f := fun x => [Value.string x]) h (fun _ => rfl) k hk
theorem points_any (B : Nat) (sa : Nat → Addr) (R : Nat → Prop) (l : List ByteArray) (v : Value) (w : World) (hS : SentsC B sa w) (h : SlOf R w v 1 (strCells1 l) l.length) (hR : ∀ b, R b → b < w.heap.size) (hn : l.length ≤ 100000) :
    Calls Tryz.prog 166 #[v] w fun e w' => e = .returned (errv sa (ptsE l)) ∧ Below w.heap.size w w' := by
  obtain ⟨ao, cap, rfl⟩ := h.val
  have H := Lib.hid h
  have HS := Lib.hid hS
  obtain ⟨hc1, hc2⟩ := h.capB
  clear h hS
  go_enter Tryz.func166, Tryz.ntmps166
  go_wp2_with fail
  go_loopw [7] (fun s wr => ∃ i : Nat, i ≤ l.length ∧ s = .int .i64 i ∧ Below w.heap.size w wr ∧ Hid (∀ j, j < i → ptE l j = 0)) (fun s _ => l.length - (intOf s).toNat)
  case atStart => exact ⟨0, Nat.zero_le _, rfl, Below.refl _ _, fun j h => by omega⟩
  case round =>
    obtain ⟨i, hi, rfl, hbl, hall⟩ := hrel
    by_cases hlt : i < l.length
    · obtain ⟨b, off, rfl, hRb, _, hc⟩ := str_cells H.out (by omega)
      have q := hc i hlt
      rw [← hbl.cell (hR b hRb)] at q
      have HN := Lib.hid (confName_any l[i] wr)
      clear hc
      cases hn1 : isNameB l[i]
      · rw [hn1] at HN
        have HP := Lib.hid (show ptsE l = 4 from by
          have e := ptE_name hlt hn1
          rw [ptsE_hit hlt (by rw [e]; decide) hall.out, e])
        clear hn1 hall
        go_wp2_with fail
        refine HN.out.mono ?_
        rintro e w1 ⟨rfl, b1⟩
        have hb1 := hbl.trans (b1.mono hbl.size)
        obtain ⟨_, _, _, g3, _, _⟩ := (HS.out.on hb1).all
        go_wp2_with fail
        go_ret
        rw [HP.out]
        exact ⟨rfl, hb1⟩
      · rw [hn1] at HN
        have hi2 : (i : Int) ≤ (cap : Int) := by omega
        have hsub := fun W => run_sub_strs W b off l.length cap i (by omega)
        have HC := Lib.hid (fun W (hB : Below w.heap.size w W) => containsStrs_any R (l.take i) (.slice (some ⟨b, off, none⟩) i cap) l[i] W ((H.out.cutS i (by omega)).below hB hR))
        cases ht : hasStr (l.take i) l[i]
        · rw [ht] at HC
          have nx : Hid (∀ j, j < i + 1 → ptE l j = 0) := (show ∀ j, j < i + 1 → ptE l j = 0 from fun j hj => by
            by_cases e : j = i
            · subst e; exact ptE_good hlt hn1 ht
            · exact hall.out j (by omega))
          clear hn1 ht hall
          go_wp2_with fail
          refine HN.out.mono ?_
          rintro e w1 ⟨rfl, b1⟩
          have hb1 := hbl.trans (b1.mono hbl.size)
          clear b1 q
          go_wp2_with fail
          refine (HC.out w1 hb1).mono ?_
          rintro e w' ⟨rfl, rfl⟩
          go_wp2_with fail
          go_roundw
          case rel => exact ⟨i + 1, by omega, by go_num, hb1, nx⟩
          case measure => simp [intOf]; omega
        · rw [ht] at HC
          have HP := Lib.hid (show ptsE l = 6 from by
            have e := ptE_twice hlt hn1 ht
            rw [ptsE_hit hlt (by rw [e]; decide) hall.out, e])
          clear hn1 ht hall
          go_wp2_with fail
          refine HN.out.mono ?_
          rintro e w1 ⟨rfl, b1⟩
          have hb1 := hbl.trans (b1.mono hbl.size)
          clear b1 q
          go_wp2_with fail
          refine (HC.out w1 hb1).mono ?_
          rintro e w' ⟨rfl, rfl⟩
          obtain ⟨_, _, _, _, _, g5⟩ := (HS.out.on hb1).all
          go_wp2_with fail
          go_ret
          rw [HP.out]
          exact ⟨rfl, hb1⟩
    · have HP := Lib.hid (ptsE_miss (P := l) (fun j hj => hall.out j (by omega)))
      clear hall
      go_wp2_with fail
      go_ret
      rw [HP.out]
      exact ⟨rfl, hbl⟩
end Go.Proofs.YtikehilbmldadaaGreatDoor
