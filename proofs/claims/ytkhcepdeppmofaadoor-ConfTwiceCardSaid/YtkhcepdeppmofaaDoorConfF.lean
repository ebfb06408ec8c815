/- The library's Grow, Concat at numbers; package conf: strangers. -/
import Derived.Test.YtkhcepdeppmofaaDoorConfE
namespace Go.Proofs.YtkhcepdeppmofaaDoor
open Go.RowKit
set_option linter.unusedVariables false

theorem run_grow_ints (n : Nat) (h0 : 0 < n) (hn : n ≤ 1000000) (w : World) : ∃ cap w', (∀ ty, (Builtin.append_ #[25, 3] ty #[.slice none 0 0, .int .i64 n]).run Tryd.prog w = .ok (.slice (some ⟨w.heap.size, 0, none⟩) n cap) w') ∧ n ≤ cap ∧ cap ≤ 9223372036854775807 ∧
    w'.ownsRow w.heap.size 3 1 (.slice (some ⟨w.heap.size, 0, none⟩) 0 cap) 0 [] ∧ Below w.heap.size w w' := by
  obtain ⟨i0, hi0, hz0, hz1, hz2⟩ := info_parts Tryd.infoInt
  have hG := grownCap_ge w (0 + n) 0 3
  have hG2 := grownCap_le_maxLen w (0 + n) 0 3 (by unfold maxLen; omega)
  have hr := fun ty => Lib.run_append_grow_zeros w 25 3 ty 3 i0 (.int .i64 0) .i64 .i64 Tryd.underlying25 Tryd.underlying3 hi0 hz0 none 0 0 [] (run_firstCells_none w.drew i0.size 0 0 0) n h0 (by rw [hz1]; decide) (by omega) (by omega) (by rw [hz2]; omega) (growslice_fits (by omega) (by rw [hz2]; omega))
  rw [Nat.zero_add] at hr hG hG2
  refine ⟨_, _, hr, hG, hG2, ⟨rfl, .inr ⟨_, _, _, rfl, Nat.le_refl _, get_alloc_new _ _, Nat.zero_le _, hG2, ?_, by simp⟩⟩, ((Below.refl _ _).drew).alloc (Nat.le_refl _) _⟩
  simp only [Builtin.zeroCells, Array.size_append, Array.size_map, Array.size_range, show (Value.int IntKind.i64 0).cells.size = 1 from rfl, List.size_toArray, List.length_nil]
  omega
set_option maxRecDepth 100000 in
set_option maxHeartbeats 1000000 in
theorem grow_any (n : Nat) (hn : n ≤ 1000000) (w : World) :
    Calls Tryd.prog 185 #[.slice none 0 0, .int .i64 n] w fun e w' => ∃ ao cap, e = .returned (.slice ao 0 cap) ∧ w'.ownsRow w.heap.size 3 1 (.slice ao 0 cap) 0 [] ∧ Below w.heap.size w w' := by
  by_cases h0 : n = 0
  · subst h0
    go_enter Tryd.func185, Tryd.ntmps185
    go_wp2_with fail
    go_ret
    exact ⟨_, _, rfl, World.ownsRow_nil _ _ _ _, Below.refl _ _⟩
  · have hpos : 0 < (n : Int) := by omega
    have hnn : ¬ (n : Int) < 0 := by omega
    obtain ⟨cap, w1, hrz, hc1, hc2, hown, hb⟩ := run_grow_ints n (by omega) hn w
    have hsl : ∀ W : World, (Instr.slice 25 (.slice (some ⟨w.heap.size, 0, none⟩) n cap) none (some (.int .i64 0)) none).run Tryd.prog W = .ok (.slice (some ⟨w.heap.size, 0, none⟩) 0 cap) W := fun W => run_sub_ints W w.heap.size 0 n cap 0 (Nat.zero_le _)
    have HO := Lib.hid hown
    have HB := Lib.hid hb
    have hz0 : (Instr.slice 25 (.slice none 0 0) none (some (.int .i64 0)) none).run Tryd.prog w = .ok (.slice none 0 0) w := by
      have ht : Tryd.prog.underlying 25 = some (.slice (Tryd.prog.elem 25)) := by kernel_rfl
      have hs : ((sizeOf (Tryd.prog.elem 25)).run Tryd.prog w) = .ok 1 w := by kernel_rfl
      rw [run_slice_h w 25 none 0 0 ht .i64 0 (by omega) (by omega), hs]
      show Result.ok (sliced _ _ _ _ _) w = _
      unfold sliced
      simp
    clear hown hb h0
    go_enter Tryd.func185, Tryd.ntmps185
    go_wp2_with (at_builtin; refine Lib.wpList_append_run _ rfl _ _ _ _ rfl _ _ rfl rfl _ _ (hrz _) ?_)
    all_goals
      go_ret
      exact ⟨_, _, rfl, HO.out, HB.out⟩

def cat2 (a b : List Int) (k : Nat) : List Int := if k = 0 then [] else if k = 1 then a else a ++ b
def el2 {α : Type} (a b : α) (k : Nat) : α := if k = 0 then a else b
theorem cat2_succ (a b : List Int) (k : Nat) (hk : k < 2) : cat2 a b (k + 1) = cat2 a b k ++ el2 a b k := by
  match k, hk with
  | 0, _ => simp [cat2, el2]
  | 1, _ => simp [cat2, el2]
theorem cat2_end (a b : List Int) (k : Nat) (h1 : 2 ≤ k) : cat2 a b k = a ++ b := by
  unfold cat2
  rw [if_neg (by omega), if_neg (by omega)]
theorem el2_sl {R : Nat → Prop} {w : World} {a b : List Int} {va vb : Value} (ha : SlOf R w va 1 (intCells a) a.length) (hb : SlOf R w vb 1 (intCells b) b.length) (k : Nat) : SlOf R w (el2 va vb k) 1 (intCells (el2 a b k)) (el2 a b k).length := by
  unfold el2
  by_cases h : k = 0
  · simp only [if_pos h]; exact ha
  · simp only [if_neg h]; exact hb
theorem el2_cell {w : World} {cb : Nat} {va vb : Value} (h0 : w.cell? ⟨cb, 0, none⟩ = some va) (h1 : w.cell? ⟨cb, 1, none⟩ = some vb) (k : Nat) (hk : k < 2) : w.cell? ⟨cb, k, none⟩ = some (el2 va vb k) := by
  match k, hk with
  | 0, _ => exact h0
  | 1, _ => exact h1
theorem cat2_len {a b : List Int} (la : a.length ≤ 1000) (lb : b.length ≤ 1000) (k : Nat) : (cat2 a b k).length ≤ 2000 := by
  unfold cat2
  split
  · simp
  · split
    · omega
    · rw [List.length_append]; omega
theorem el2_len {a b : List Int} (la : a.length ≤ 1000) (lb : b.length ≤ 1000) (k : Nat) : (el2 a b k).length ≤ 1000 := by
  unfold el2
  split <;> omega
set_option maxRecDepth 100000 in
set_option maxHeartbeats 2000000 in
theorem concat_any (R : Nat → Prop) (a b : List Int) (va vb : Value) (cb : Nat) (w : World) (ha : SlOf R w va 1 (intCells a) a.length) (hb : SlOf R w vb 1 (intCells b) b.length) (hR : ∀ b, R b → b < w.heap.size) (h0 : w.cell? ⟨cb, 0, none⟩ = some va) (h1 : w.cell? ⟨cb, 1, none⟩ = some vb) (la : a.length ≤ 1000) (lb : b.length ≤ 1000) :
    Calls Tryd.prog 171 #[.slice (some ⟨cb, 0, none⟩) 2 2] w fun e w' => ∃ ao cap, e = .returned (.slice ao (a ++ b).length cap) ∧ w'.ownsRow w.heap.size 3 1 (.slice ao (a ++ b).length cap) (a ++ b).length (intCells (a ++ b)) ∧ Below w.heap.size w w' := by
  obtain ⟨i0, hi0, hz0, hz1, hz2⟩ := info_parts Tryd.infoInt
  have HQ := Lib.hid (el2_cell h0 h1)
  have hcb := World.block_lt_of_cell? _ ⟨cb, 0, none⟩ h0
  have HS := Lib.hid (el2_sl ha hb)
  have HCL := Lib.hid (cat2_len la lb)
  have HEL := Lib.hid (el2_len la lb)
  simp only at hcb
  obtain ⟨c, hc⟩ : ∃ c, c = a ++ b := ⟨_, rfl⟩
  have HC := Lib.hid hc
  have hcl : c.length ≤ 2000 := by rw [hc, List.length_append]; omega
  rw [← hc]
  clear hc
  clear ha hb h0 h1
  go_enter Tryd.func171, Tryd.ntmps171
  go_wp2_with fail
  go_loop [3, 11] (fun s3 s11 => ∃ k : Nat, k ≤ 2 ∧ s3 = .int .i64 (cat2 a b k).length ∧ s11 = .int .i64 k) (fun _ s => 2 - (intOf s).toNat)
  case atStart => exact ⟨0, Nat.zero_le _, rfl, rfl⟩
  case round =>
    obtain ⟨k, hk, rfl, rfl⟩ := hrel
    by_cases hlt : k < 2
    · have hlt2 : (k : Int) < 2 := by omega
      have q := HQ.out k hlt
      obtain ⟨xa, xc, hv⟩ := (HS.out k).val
      rw [hv] at q
      have hl1 := HCL.out k
      have hl2 := HEL.out k
      have hsu : Hid (((cat2 a b k).length : Int) + ((el2 a b k).length : Int) = ((cat2 a b (k + 1)).length : Nat)) := by
        show ((cat2 a b k).length : Int) + ((el2 a b k).length : Int) = ((cat2 a b (k + 1)).length : Nat)
        rw [cat2_succ a b k hlt, List.length_append]; omega
      clear hv
      generalize (el2 a b k).length = m at q hl2 hsu
      generalize (cat2 a b k).length = n at hl1 hsu ⊢
      go_wp2_with fail
      go_round
      case rel => exact ⟨k + 1, by omega, by rw [hsu.out], by go_num⟩
      case measure => simp [intOf]; omega
    · have hlt2 : (2 : Int) ≤ k := by omega
      have hk2 := (cat2_end a b k (by omega)).trans HC.out.symm
      rw [hk2]
      have HG := Lib.hid (grow_any c.length (by omega) w)
      clear hk2
      go_wp2_with fail
      refine HG.out.mono ?_
      rintro e w1 ⟨go1, gc1, rfl, hown, hb1⟩
      have HO1 := Lib.hid hown
      clear HG hown
      go_wp2_with fail
      go_loopw [6, 27] (fun s6 s27 wr => ∃ (j : Nat) (ao : Option Addr) (cap : Nat), j ≤ 2 ∧ s6 = .slice ao (cat2 a b j).length cap ∧ s27 = .int .i64 j ∧ Below w.heap.size w wr ∧ Hid (wr.ownsRow w.heap.size 3 1 (.slice ao (cat2 a b j).length cap) (cat2 a b j).length (intCells (cat2 a b j)))) (fun _ s _ => 2 - (intOf s).toNat)
      case atStart => exact ⟨0, go1, gc1, Nat.zero_le _, rfl, rfl, hb1, HO1⟩
      case round =>
        obtain ⟨j, ao, cap, hj, rfl, rfl, hbl, hown⟩ := hrel
        clear HO1 hb1
        by_cases hjl : j < 2
        · have hjl2 : (j : Int) < 2 := by omega
          have q := HQ.out j hjl
          rw [← hbl.cell (p := ⟨cb, j, none⟩) hcb] at q
          have hsl := (HS.out j).below hbl hR
          obtain ⟨xa, xc, hv⟩ := hsl.val
          rw [hv] at q hsl
          have HSL := Lib.hid hsl
          have hl1 := HCL.out j
          have hl2 := HEL.out j
          have hsu := Lib.hid (cat2_succ a b j hjl)
          clear hv hsl
          obtain ⟨n, hn⟩ : ∃ n, n = (cat2 a b j).length := ⟨_, rfl⟩
          obtain ⟨m, hm⟩ : ∃ m, m = (el2 a b j).length := ⟨_, rfl⟩
          rw [← hm] at q hl2 HSL
          rw [← hn] at hl1 hown ⊢
          have HN := Lib.hid hn
          have HM := Lib.hid hm
          clear hn hm
          go_wp2_with (at_builtin; go_must (refine wpList_append_src rfl (.tmp 31) (.tmp 32) 25 rfl w.heap.size 3 i0 _ 1 8 Tryd.underlying25 hi0 hz0 hz1 hz2 rfl (by decide) _ n _ rfl hown.out R _ m (intCells (el2 a b j)) rfl HSL.out (oneCell_ints _) (by unfold maxLen; omega) (by omega) hbl.size ?_; intro a1 k1 w6 ho6 hg6))
          have hb6 : Below w.heap.size w w6 := hbl.trans (below_grown hg6 (fun b hb => (hown.out.lt b hb).1) hbl.size)
          rw [← intCells_app, ← hsu.out] at ho6
          have e6 : n + m = (cat2 a b (j + 1)).length := by rw [hsu.out, List.length_append, HN.out, HM.out]
          rw [e6] at ho6 ⊢
          have HO6 := Lib.hid ho6
          clear ho6 hg6 e6 HSL hown q
          go_roundw
          case rel => exact ⟨j + 1, a1, k1, by omega, rfl, by go_num, hb6, HO6⟩
          case measure => simp [intOf]; omega
        · have hjl2 : (2 : Int) ≤ j := by omega
          have hj2 := (cat2_end a b j (by omega)).trans HC.out.symm
          rw [hj2] at hown ⊢
          clear hj2
          go_wp2_with fail
          go_ret
          exact ⟨_, _, rfl, hown.out, hbl⟩
end Go.Proofs.YtkhcepdeppmofaaDoor
