/- Package conf: reader.right. -/
import Derived.Test.YtakjbjokekbmbaaGreatDoorR32
import Derived.Deep.DeepCutAuto
import Derived.Lib.AtoiAllCases
import Derived.Lib.AtoiErrMem
import Derived.Test.YtakjbjokekbmbaaGreatDoorR01
import Derived.Test.YtakjbjokekbmbaaGreatDoorShelf
import Derived.Shelf.Strings.SplitCore
import Derived.Lib.SplitLaws
import Derived.Lib.IndexLaws
import Derived.Test.YtakjbjokekbmbaaGreatDoorR10
import Derived.Test.YtakjbjokekbmbaaGreatDoorR25
namespace Go.Proofs.YtakjbjokekbmbaaGreatDoor
open Go.RowKit
set_option linter.unusedVariables false

/-- May a line of stage k stand behind one of stage st? -/
def rightB (st : Int) (k : Nat) : Bool :=
  if k ≤ 2 then st == (k : Int) - 1 else if k = 3 then decide (2 ≤ st) else if k = 5 then (st == 3 || st == 4) else decide (3 ≤ st) && decide (st ≤ (k : Int))

set_option maxHeartbeats 1000000 in
theorem right0_any (st : Int) (rb : Nat) (w : World) (h : w.cell? ⟨rb, 5, none⟩ = some (.int .i64 st)) : Calls Tryz.prog 105 #[.pointer (some ⟨rb, 0, none⟩), .int .i64 0] w fun e w' => e = .returned (.bool (rightB st 0)) ∧ w = w' := by
  have HT := Lib.hid (show rightB st 0 = (st == -1) from rfl)
  obtain ⟨z, hz⟩ : ∃ z, (st == -1) = z := ⟨_, rfl⟩
  rw [hz] at HT
  go_enter Tryz.func105, Tryz.ntmps105
  go_wp2_with fail
  go_ret
  exact ⟨ret_bool HT.out.symm, rfl⟩
set_option maxHeartbeats 1000000 in
theorem right1_any (st : Int) (rb : Nat) (w : World) (h : w.cell? ⟨rb, 5, none⟩ = some (.int .i64 st)) : Calls Tryz.prog 105 #[.pointer (some ⟨rb, 0, none⟩), .int .i64 1] w fun e w' => e = .returned (.bool (rightB st 1)) ∧ w = w' := by
  have HT := Lib.hid (show rightB st 1 = (st == 0) from rfl)
  obtain ⟨z, hz⟩ : ∃ z, (st == 0) = z := ⟨_, rfl⟩
  rw [hz] at HT
  go_enter Tryz.func105, Tryz.ntmps105
  go_wp2_with fail
  go_ret
  exact ⟨ret_bool HT.out.symm, rfl⟩
set_option maxHeartbeats 1000000 in
theorem right2_any (st : Int) (rb : Nat) (w : World) (h : w.cell? ⟨rb, 5, none⟩ = some (.int .i64 st)) : Calls Tryz.prog 105 #[.pointer (some ⟨rb, 0, none⟩), .int .i64 2] w fun e w' => e = .returned (.bool (rightB st 2)) ∧ w = w' := by
  have HT := Lib.hid (show rightB st 2 = (st == 1) from rfl)
  obtain ⟨z, hz⟩ : ∃ z, (st == 1) = z := ⟨_, rfl⟩
  rw [hz] at HT
  go_enter Tryz.func105, Tryz.ntmps105
  go_wp2_with fail
  go_ret
  exact ⟨ret_bool HT.out.symm, rfl⟩
set_option maxHeartbeats 1000000 in
theorem right3_any (st : Int) (rb : Nat) (w : World) (h : w.cell? ⟨rb, 5, none⟩ = some (.int .i64 st)) : Calls Tryz.prog 105 #[.pointer (some ⟨rb, 0, none⟩), .int .i64 3] w fun e w' => e = .returned (.bool (rightB st 3)) ∧ w = w' := by
  have HT := Lib.hid (show rightB st 3 = decide (2 ≤ st) from rfl)
  go_enter Tryz.func105, Tryz.ntmps105
  go_wp2_with fail
  go_ret
  exact ⟨ret_bool HT.out.symm, rfl⟩
set_option maxHeartbeats 1000000 in
theorem right4_any (st : Int) (rb : Nat) (w : World) (h : w.cell? ⟨rb, 5, none⟩ = some (.int .i64 st)) : Calls Tryz.prog 105 #[.pointer (some ⟨rb, 0, none⟩), .int .i64 4] w fun e w' => e = .returned (.bool (rightB st 4)) ∧ w = w' := by
  have HT := Lib.hid (show rightB st 4 = (decide (3 ≤ st) && decide (st ≤ 4)) from rfl)
  by_cases h3 : 3 ≤ st
  · rw [decide_eq_true h3] at HT
    go_enter Tryz.func105, Tryz.ntmps105
    go_wp2_with fail
    go_ret
    exact ⟨ret_bool HT.out.symm, rfl⟩
  · rw [decide_eq_false h3] at HT
    go_enter Tryz.func105, Tryz.ntmps105
    go_wp2_with fail
    go_ret
    exact ⟨ret_bool HT.out.symm, rfl⟩
set_option maxHeartbeats 1000000 in
theorem right5_any (st : Int) (rb : Nat) (w : World) (h : w.cell? ⟨rb, 5, none⟩ = some (.int .i64 st)) : Calls Tryz.prog 105 #[.pointer (some ⟨rb, 0, none⟩), .int .i64 5] w fun e w' => e = .returned (.bool (rightB st 5)) ∧ w = w' := by
  have HT := Lib.hid (show rightB st 5 = (st == 3 || st == 4) from rfl)
  obtain ⟨z, hz⟩ : ∃ z, (st == 3) = z := ⟨_, rfl⟩
  obtain ⟨y, hy⟩ : ∃ y, (st == 4) = y := ⟨_, rfl⟩
  rw [hz, hy] at HT
  go_enter Tryz.func105, Tryz.ntmps105
  cases z
  case false =>
    go_wp2_with fail
    go_ret
    exact ⟨ret_bool HT.out.symm, rfl⟩
  case true =>
    go_wp2_with fail
    go_ret
    exact ⟨ret_bool HT.out.symm, rfl⟩
set_option maxHeartbeats 1000000 in
theorem right6_any (st : Int) (rb : Nat) (w : World) (h : w.cell? ⟨rb, 5, none⟩ = some (.int .i64 st)) : Calls Tryz.prog 105 #[.pointer (some ⟨rb, 0, none⟩), .int .i64 6] w fun e w' => e = .returned (.bool (rightB st 6)) ∧ w = w' := by
  have HT := Lib.hid (show rightB st 6 = (decide (3 ≤ st) && decide (st ≤ 6)) from rfl)
  by_cases h3 : 3 ≤ st
  · rw [decide_eq_true h3] at HT
    go_enter Tryz.func105, Tryz.ntmps105
    go_wp2_with fail
    go_ret
    exact ⟨ret_bool HT.out.symm, rfl⟩
  · rw [decide_eq_false h3] at HT
    go_enter Tryz.func105, Tryz.ntmps105
    go_wp2_with fail
    go_ret
    exact ⟨ret_bool HT.out.symm, rfl⟩
set_option maxHeartbeats 1000000 in
theorem right7_any (st : Int) (rb : Nat) (w : World) (h : w.cell? ⟨rb, 5, none⟩ = some (.int .i64 st)) : Calls Tryz.prog 105 #[.pointer (some ⟨rb, 0, none⟩), .int .i64 7] w fun e w' => e = .returned (.bool (rightB st 7)) ∧ w = w' := by
  have HT := Lib.hid (show rightB st 7 = (decide (3 ≤ st) && decide (st ≤ 7)) from rfl)
  by_cases h3 : 3 ≤ st
  · rw [decide_eq_true h3] at HT
    go_enter Tryz.func105, Tryz.ntmps105
    go_wp2_with fail
    go_ret
    exact ⟨ret_bool HT.out.symm, rfl⟩
  · rw [decide_eq_false h3] at HT
    go_enter Tryz.func105, Tryz.ntmps105
    go_wp2_with fail
    go_ret
    exact ⟨ret_bool HT.out.symm, rfl⟩
set_option maxHeartbeats 1000000 in
theorem right8_any (st : Int) (rb : Nat) (w : World) (h : w.cell? ⟨rb, 5, none⟩ = some (.int .i64 st)) : Calls Tryz.prog 105 #[.pointer (some ⟨rb, 0, none⟩), .int .i64 8] w fun e w' => e = .returned (.bool (rightB st 8)) ∧ w = w' := by
  have HT := Lib.hid (show rightB st 8 = (decide (3 ≤ st) && decide (st ≤ 8)) from rfl)
  by_cases h3 : 3 ≤ st
  · rw [decide_eq_true h3] at HT
    go_enter Tryz.func105, Tryz.ntmps105
    go_wp2_with fail
    go_ret
    exact ⟨ret_bool HT.out.symm, rfl⟩
  · rw [decide_eq_false h3] at HT
    go_enter Tryz.func105, Tryz.ntmps105
    go_wp2_with fail
    go_ret
    exact ⟨ret_bool HT.out.symm, rfl⟩
set_option maxHeartbeats 1000000 in
theorem right9_any (st : Int) (rb : Nat) (w : World) (h : w.cell? ⟨rb, 5, none⟩ = some (.int .i64 st)) : Calls Tryz.prog 105 #[.pointer (some ⟨rb, 0, none⟩), .int .i64 9] w fun e w' => e = .returned (.bool (rightB st 9)) ∧ w = w' := by
  have HT := Lib.hid (show rightB st 9 = (decide (3 ≤ st) && decide (st ≤ 9)) from rfl)
  by_cases h3 : 3 ≤ st
  · rw [decide_eq_true h3] at HT
    go_enter Tryz.func105, Tryz.ntmps105
    go_wp2_with fail
    go_ret
    exact ⟨ret_bool HT.out.symm, rfl⟩
  · rw [decide_eq_false h3] at HT
    go_enter Tryz.func105, Tryz.ntmps105
    go_wp2_with fail
    go_ret
    exact ⟨ret_bool HT.out.symm, rfl⟩
theorem right_any (st : Int) (k : Nat) (hk : k ≤ 9) (rb : Nat) (w : World) (h : w.cell? ⟨rb, 5, none⟩ = some (.int .i64 st)) : Calls Tryz.prog 105 #[.pointer (some ⟨rb, 0, none⟩), .int .i64 k] w fun e w' => e = .returned (.bool (rightB st k)) ∧ w = w' := by
  match k, hk with
  | 0, _ => exact right0_any st rb w h
  | 1, _ => exact right1_any st rb w h
  | 2, _ => exact right2_any st rb w h
  | 3, _ => exact right3_any st rb w h
  | 4, _ => exact right4_any st rb w h
  | 5, _ => exact right5_any st rb w h
  | 6, _ => exact right6_any st rb w h
  | 7, _ => exact right7_any st rb w h
  | 8, _ => exact right8_any st rb w h
  | 9, _ => exact right9_any st rb w h
end Go.Proofs.YtakjbjokekbmbaaGreatDoor

/- Package conf: number. -/
namespace Go.Proofs.YtakjbjokekbmbaaGreatDoor
open Go.RowKit
set_option linter.unusedVariables false

/-- The number that a word spells as it is written. -/
def numV (s : ByteArray) : Option Nat :=
  match Lib.atoiAll s.data.toList with
  | .ok v => if s.size ≤ 13 ∧ 0 ≤ v ∧ Lib.itoa v = s.data.toList then some v.toNat else none
  | _ => none
/-- What a number is read by: the table, the two errors of package strconv. -/
structure NumB (B : Nat) (w : World) : Prop where
  tab : TabB B w
  es : ∃ t p, w.cell? ⟨16, 0, none⟩ = some (.iface t p)
  er : ∃ t p, w.cell? ⟨17, 0, none⟩ = some (.iface t p)
  low : 16 < B ∧ 17 < B
theorem NumB.below {B C : Nat} {w w' : World} (h : NumB B w) (b : Below C w w') (hC : B ≤ C) : NumB B w' := by
  obtain ⟨t, p, h1⟩ := h.es
  obtain ⟨t', p', h2⟩ := h.er
  have hl := h.low
  exact ⟨h.tab.low b hC, ⟨t, p, by rw [b.cell (p := ⟨16, 0, none⟩) (show 16 < C by omega)]; exact h1⟩, ⟨t', p', by rw [b.cell (p := ⟨17, 0, none⟩) (show 17 < C by omega)]; exact h2⟩, hl⟩

set_option maxHeartbeats 2000000 in
theorem number_any (B : Nat) (s : ByteArray) (hs : s.size ≤ 100000) (w : World) (hN : NumB B w) (hB : B ≤ w.heap.size) :
    Calls Tryz.prog 106 #[.string s] w fun e w' => ∃ n, e = .returned (.tuple #[.int .i64 n, .bool (numV s).isSome]) ∧ (∀ k, numV s = some k → n = k) ∧ Below w.heap.size w w' := by
  have HN := Lib.hid hN
  have HB := Lib.hid hB
  cases hA : Lib.atoiAll s.data.toList
  case ok v =>
    obtain ⟨b0, b1⟩ := Lib.atoiAll_bounds hA
    have HC := Lib.hid (Tryz.strconv_Atoi_ok s (by omega) v hA w)
    have HNV := Lib.hid (show numV s = if s.size ≤ 13 ∧ 0 ≤ v ∧ Lib.itoa v = s.data.toList then some v.toNat else none from by unfold numV; rw [hA])
    have HIT := Lib.hid (fun W (hW : Below w.heap.size w W) => itoa_any B v W ((hN.below hW hB).tab) b0 b1)
    clear hA hN b0 b1 hB hs
    go_enter Tryz.func106, Tryz.ntmps106
    go_wp2_with fail
    refine HC.out.mono ?_
    rintro e w1 ⟨rfl, hw⟩
    have hb1 : Below w.heap.size w w1 := by
      rcases hw with rfl | ⟨t, rfl⟩
      · exact Below.refl _ _
      · exact Lib.bytesWorld_below _ _ _
    clear hw HC
    have HI := Lib.hid (HIT.out w1 hb1)
    clear HIT
    by_cases h13 : (s.size : Int) ≤ 13
    · by_cases h0 : 0 ≤ v
      · obtain ⟨z, hz⟩ : ∃ z, (Lib.itoa v == s.toList) = z := ⟨_, rfl⟩
        have HZ := Lib.hid hz
        have H13 := Lib.hid (show s.size ≤ 13 from by omega)
        have H0 := Lib.hid h0
        have hdat : (Lib.itoa v = s.data.toList) ↔ z = true := by
          rw [← HZ.out, beq_iff_eq, ByteArray.toList_eq]
        have HD := Lib.hid hdat
        clear hdat
        have HR : Hid (z = (numV s).isSome) := (show z = (numV s).isSome from by
          rw [HNV.out]
          cases z
          · rw [if_neg (fun hh => by have := HD.out.1 hh.2.2; cases this)]; rfl
          · rw [if_pos ⟨H13.out, H0.out, HD.out.2 rfl⟩]; rfl)
        have HK : Hid (∀ k, numV s = some k → v = k) := (show ∀ k, numV s = some k → v = k from by
          intro k hk
          rw [HNV.out] at hk
          split at hk
          · have := Option.some.inj hk
            have := H0.out
            omega
          · cases hk)
        go_wp2_with fail
        refine HI.out.mono ?_
        rintro e w2 ⟨rfl, b2⟩
        have hb2 := hb1.trans (b2.mono hb1.size)
        go_wp2_with fail
        refine bodyPost_ret (results_tmp2 rfl _ _ _) rfl ?_
        exact ⟨_, by rw [← HR.out]; rfl, HK.out, hb2⟩
      · have HR : Hid (numV s = none) := (show numV s = none from by rw [HNV.out, if_neg (fun hh => h0 hh.2.1)])
        clear HNV
        go_wp2_with fail
        refine bodyPost_ret (results_tmp2 rfl _ _ _) rfl ?_
        exact ⟨_, by rw [HR.out]; rfl, (fun k hk => by rw [HR.out] at hk; cases hk), hb1⟩
    · have HR : Hid (numV s = none) := (show numV s = none from by rw [HNV.out, if_neg (fun hh => h13 (by omega))])
      clear HNV
      go_wp2_with fail
      refine bodyPost_ret (results_tmp2 rfl _ _ _) rfl ?_
      exact ⟨_, by rw [HR.out]; rfl, (fun k hk => by rw [HR.out] at hk; cases hk), hb1⟩
  case range =>
    obtain ⟨t, p, her⟩ := hN.er
    have HR : Hid (numV s = none) := (show numV s = none from by unfold numV; rw [hA])
    have HC := Lib.hid (Tryz.strconv_Atoi_range s (by omega) hA (.iface t p) w her (.inr ⟨_, _, rfl⟩))
    clear hA hN her hB hs
    go_enter Tryz.func106, Tryz.ntmps106
    go_wp2_with fail
    refine HC.out.mono ?_
    rintro e w1 ⟨N, rfl, _, _, hb1⟩
    clear HC
    go_wp2_with fail
    refine bodyPost_ret (results_tmp2 rfl _ _ _) rfl ?_
    exact ⟨_, by rw [HR.out]; rfl, (fun k hk => by rw [HR.out] at hk; cases hk), hb1⟩
  all_goals
    obtain ⟨t, p, hes⟩ := hN.es
    have HR : Hid (numV s = none) := (show numV s = none from by unfold numV; rw [hA])
    have HC := Lib.hid (Tryz.strconv_Atoi_bad s (by omega) (fun v hv => by rw [hA] at hv; cases hv) (fun hv => by rw [hA] at hv; cases hv) (.iface t p) w hes (.inr ⟨_, _, rfl⟩))
    clear hA hN hes hB hs
    go_enter Tryz.func106, Tryz.ntmps106
    go_wp2_with fail
    refine HC.out.mono ?_
    rintro e w1 ⟨N, rfl, _, _, hb1⟩
    clear HC
    go_wp2_with fail
    refine bodyPost_ret (results_tmp2 rfl _ _ _) rfl ?_
    exact ⟨_, by rw [HR.out]; rfl, (fun k hk => by rw [HR.out] at hk; cases hk), hb1⟩
end Go.Proofs.YtakjbjokekbmbaaGreatDoor

/- strings.Split at a separator of one byte. -/
namespace Go.Proofs.YtakjbjokekbmbaaGreatDoor
open Go.RowKit
set_option linter.unusedVariables false

def piecesB (c : UInt8) (s : ByteArray) : List ByteArray := Lib.splitB ⟨#[c]⟩ 0 (Lib.countB s ⟨#[c]⟩) s
theorem pieces_len (c : UInt8) (s : ByteArray) : (piecesB c s).length = Lib.countB s ⟨#[c]⟩ + 1 := Lib.splitB_all ⟨#[c]⟩ (Nat.le_refl 1) 0 _ s rfl
theorem genSplit_one (s : ByteArray) (c : UInt8) (w : World) (hs : s.size < 4294967281) :
    Calls Tryz.prog 102 #[.string s, .string ⟨#[c]⟩, .int .i64 0, .int .i64 (-1)] w fun e w' =>
      e = .returned (.slice (some ⟨w.heap.size, 0, none⟩) (piecesB c s).length (piecesB c s).length) ∧ w' = w.alloc (.cells ((piecesB c s).map Value.string).toArray 9) := by
  have hle := Lib.countB_le ⟨#[c]⟩ (Nat.le_refl 1) s.size s (Nat.le_refl _)
  have hl := pieces_len c s
  have k := Any.strings_genSplit_core Tryz.lays221 (by kernel_rfl) s ⟨#[c]⟩ 0 (-1) (Lib.countB s ⟨#[c]⟩ + 1) w hs (Nat.le_refl 1) (Nat.zero_le _)
    (fun x cc hx => (Tryz.strings_Index_one x c _).mono fun e w' ⟨he, hw⟩ => ⟨by rw [he]; show _ = Ending.returned (Value.int .i64 (Lib.index x.data.toList [c])); rw [Lib.index_one], hw⟩)
    ((Tryz.strings_Count_one s c w).mono fun e w' ⟨he, hw⟩ => ⟨by
      rw [he]
      show _ = Ending.returned (Value.int .i64 ((Lib.count s.data.toList [c] : Nat) : Int))
      rw [Lib.count_one]
      rfl, hw⟩)
    (by decide) (by decide) (by rw [if_pos (by decide)]; omega)
  rw [Nat.add_sub_cancel, show Lib.splitB ⟨#[c]⟩ 0 (Lib.countB s ⟨#[c]⟩) s = piecesB c s from rfl, ← hl, Lib.cellsOf_full] at k
  exact k
set_option maxHeartbeats 1000000 in
theorem split_one (s : ByteArray) (c : UInt8) (w : World) (hs : s.size < 4294967281) :
    Calls Tryz.prog 77 #[.string s, .string ⟨#[c]⟩] w fun e w' =>
      e = .returned (.slice (some ⟨w.heap.size, 0, none⟩) (piecesB c s).length (piecesB c s).length) ∧ w' = w.alloc (.cells ((piecesB c s).map Value.string).toArray 9) := by
  have HC := Lib.hid (genSplit_one s c w hs)
  obtain ⟨n, hn⟩ : ∃ n, n = (piecesB c s).length := ⟨_, rfl⟩
  rw [← hn] at HC ⊢
  clear hn hs
  go_enter Tryz.func77, Tryz.ntmps77
  go_wp2_with fail
  refine HC.out.mono ?_
  rintro e w1 ⟨rfl, hw⟩
  have HW := Lib.hid hw
  clear hw HC
  go_wp2_with fail
  go_ret
  exact ⟨rfl, HW.out⟩
end Go.Proofs.YtakjbjokekbmbaaGreatDoor

/- Plain: a text cut at a byte, put together again. -/
namespace Go.Proofs.YtakjbjokekbmbaaGreatDoor
open Go.RowKit
set_option linter.unusedVariables false

def cutL (c : UInt8) : List UInt8 → List (List UInt8)
  | [] => [[]]
  | x :: l => if x = c then [] :: cutL c l else match cutL c l with
    | [] => [[x]]
    | h :: t => (x :: h) :: t
def interL (c : UInt8) : List (List UInt8) → List UInt8
  | [] => []
  | [p] => p
  | p :: q :: ps => p ++ c :: interL c (q :: ps)
theorem cut_cons (c x : UInt8) (l : List UInt8) : cutL c (x :: l) = if x = c then [] :: cutL c l else match cutL c l with
    | [] => [[x]]
    | h :: t => (x :: h) :: t := rfl
theorem cut_ne (c : UInt8) : ∀ l, cutL c l ≠ []
  | [] => by simp [cutL]
  | x :: l => by
    unfold cutL
    split
    · simp
    · split <;> simp
theorem cut_miss (c : UInt8) : ∀ l : List UInt8, c ∉ l → cutL c l = [l]
  | [], _ => rfl
  | x :: l, h => by
    have h1 : ¬ x = c := fun e => h (by simp [e])
    have h2 := cut_miss c l (fun e => h (List.mem_cons_of_mem _ e))
    unfold cutL
    rw [if_neg h1, h2]
theorem cut_hit (c : UInt8) (b : List UInt8) : ∀ a : List UInt8, c ∉ a → cutL c (a ++ c :: b) = a :: cutL c b
  | [], _ => by simp [cutL]
  | x :: a, h => by
    have h1 : ¬ x = c := fun e => h (by simp [e])
    have h2 := cut_hit c b a (fun e => h (List.mem_cons_of_mem _ e))
    show cutL c (x :: (a ++ c :: b)) = _
    rw [cut_cons, if_neg h1, h2]
theorem inter_cons (c : UInt8) (p : List UInt8) {ps : List (List UInt8)} (h : ps ≠ []) : interL c (p :: ps) = p ++ c :: interL c ps := by
  cases ps with
  | nil => exact absurd rfl h
  | cons q ps => rfl
theorem inter_cut (c : UInt8) : ∀ l, interL c (cutL c l) = l
  | [] => rfl
  | x :: l => by
    have ih := inter_cut c l
    have hne := cut_ne c l
    unfold cutL
    split
    · next h => rw [inter_cons c [] hne, ih, h]; rfl
    · split
      · next h => exact absurd h hne
      · next h t he =>
        rw [he] at ih
        cases t with
        | nil =>
          show x :: h = x :: l
          rw [show h = l from ih]
        | cons q t =>
          show x :: h ++ c :: interL c (q :: t) = x :: l
          rw [← ih]; rfl
theorem cut_inter (c : UInt8) : ∀ ps : List (List UInt8), ps ≠ [] → (∀ p ∈ ps, c ∉ p) → cutL c (interL c ps) = ps
  | [], h, _ => absurd rfl h
  | [p], _, h => cut_miss c p (h p (List.mem_cons_self ..))
  | p :: q :: ps, _, h => by
    rw [inter_cons c p (by simp), cut_hit c _ p (h p (List.mem_cons_self ..)), cut_inter c (q :: ps) (by simp) (fun x hx => h x (List.mem_cons_of_mem _ hx))]
theorem cut_clean (c : UInt8) : ∀ l, ∀ p ∈ cutL c l, c ∉ p
  | [], p, hp => by simp [cutL] at hp; subst hp; simp
  | x :: l, p, hp => by
    have ih := cut_clean c l
    have hne := cut_ne c l
    unfold cutL at hp
    split at hp
    · rcases List.mem_cons.1 hp with rfl | hp
      · simp
      · exact ih p hp
    · next h =>
      split at hp
      · next he => exact absurd he hne
      · next hd t he =>
        rw [he] at ih
        rcases List.mem_cons.1 hp with rfl | hp
        · have := ih hd (List.mem_cons_self ..)
          simp [this]
          exact fun e => h e.symm
        · exact ih p (List.mem_cons_of_mem _ hp)
theorem splitK_cut (c : UInt8) : ∀ (k : Nat) (l : List UInt8), l.count c = k → Lib.splitK [c] 0 k l = cutL c l
  | 0, l, h => by
    have hm : c ∉ l := List.count_eq_zero.1 h
    rw [cut_miss c l hm]; rfl
  | k + 1, l, h => by
    have hge := Lib.indexByte_ge l c
    by_cases hi : Lib.indexByte l c = -1
    · exfalso
      have hm : c ∈ l := List.count_pos_iff.1 (by omega)
      obtain ⟨j, hj, he⟩ := List.mem_iff_getElem.1 hm
      exact Lib.indexByte_none hi j (by rw [List.getElem?_eq_getElem hj, he])
    · obtain ⟨o, ho⟩ : ∃ o : Nat, Lib.indexByte l c = o := ⟨(Lib.indexByte l c).toNat, by omega⟩
      obtain ⟨h1, h2⟩ := Lib.indexByte_some ho
      have ho2 : o < l.length := (List.getElem?_eq_some_iff.1 h1).1
      have hsplit : l = l.take o ++ c :: l.drop (o + 1) := by
        have : l[o] = c := (List.getElem?_eq_some_iff.1 h1).2
        rw [← this, List.getElem_cons_drop, List.take_append_drop]
      have hno : c ∉ l.take o := by
        intro hm
        obtain ⟨j, hj, he⟩ := List.mem_iff_getElem.1 hm
        rw [List.length_take] at hj
        rw [List.getElem_take] at he
        exact h2 j (by omega) (by rw [List.getElem?_eq_getElem (by omega), he])
      have hcnt : (l.drop (o + 1)).count c = k := by
        have := congrArg (List.count c) hsplit
        rw [List.count_append, List.count_eq_zero.2 hno, List.count_cons_self] at this
        omega
      have e : Lib.splitK [c] 0 (k + 1) l = l.take o :: Lib.splitK [c] 0 k (l.drop (o + 1)) := by
        rw [Lib.splitK]
        rw [Lib.index_one, ho, if_neg (by simp)]
        simp
      rw [e, splitK_cut c k _ hcnt]
      conv => rhs; rw [hsplit]
      rw [cut_hit c _ _ hno]
theorem pieces_cut (c : UInt8) (s : ByteArray) : (piecesB c s).map (·.data.toList) = cutL c s.data.toList := by
  unfold piecesB
  rw [Lib.splitB_data]
  refine splitK_cut c _ _ ?_
  show _ = Lib.count s.data.toList [c]
  rw [Lib.count_one]
end Go.Proofs.YtakjbjokekbmbaaGreatDoor

/- Plain: what conf's reader makes of lines. -/
namespace Go.Proofs.YtakjbjokekbmbaaGreatDoor
open Go.RowKit
set_option linter.unusedVariables false

structure RdS where
  c : ConfV
  stage : Int
def RdS.start : RdS := ⟨⟨0, 0, 0, 0, []⟩, -1⟩
def noE : EntV := ⟨ByteArray.empty, 0, [], -1, 0, 0, [], [], [], []⟩
def lastE (L : List EntV) : EntV := L.getLast?.getD noE
def newE (name : ByteArray) (tol : Int) : EntV := ⟨name, tol, [], -1, 0, 0, [], [], [], []⟩
def takeE (k : Nat) (name : ByteArray) (n : List Int) (E : EntV) : EntV :=
  if k = 4 then { E with points := E.points ++ [name] }
  else if k = 5 then { E with count := n.getD 0 0, mn := n.getD 1 0, mx := n.getD 2 0 }
  else if k = 6 then { E with gaps := E.gaps ++ [⟨n.getD 0 0, n.getD 1 0, n.getD 2 0, n.getD 3 0⟩] }
  else if k = 7 then { E with edges := E.edges ++ [(n.getD 0 0, n.getD 1 0)] }
  else if k = 8 then { E with first := E.first ++ [n.getD 0 0] }
  else if k = 9 then { E with last := E.last ++ [n.getD 0 0] }
  else E
def takeC (k : Nat) (name : ByteArray) (n : List Int) (C : ConfV) : ConfV :=
  if k = 0 then { C with closed := n.getD 0 0, opn := n.getD 1 0 }
  else if k = 1 then { C with cycle := n.getD 0 0 }
  else if k = 2 then { C with delay := n.getD 0 0 }
  else if k = 3 then { C with ents := C.ents ++ [newE name (n.getD 0 0)] }
  else { C with ents := C.ents.dropLast ++ [takeE k name n (lastE C.ents)] }

/-- The place of a text in a list; -1: it is not there. -/
def idxS (l : List ByteArray) (s : ByteArray) : Int := sidxOf l s
/-- One word of a line: what is known behind it; none: it is bad. -/
def wordStep (pts : List ByteArray) (f : UInt8) (t : ByteArray) (p : List Int × Bool) : Option (List Int × Bool) :=
  if f = 110 then (match numV t with | some k => some (p.1 ++ [(k : Int)], p.2) | none => none)
  else if t.size = 0 then none
  else if f = 112 then some (p.1 ++ [idxS pts t], p.2 || decide (idxS pts t < 0))
  else some p
def wordsUp (pts : List ByteArray) (fs : List UInt8) (ts : List ByteArray) : Nat → Option (List Int × Bool)
  | 0 => some ([], false)
  | k + 1 => match wordsUp pts fs ts k with
    | none => none
    | some p => wordStep pts (fs.getD k 0) (ts.getD k ByteArray.empty) p
theorem wordsUp_none {pts : List ByteArray} {fs : List UInt8} {ts : List ByteArray} {k : Nat} (h : wordsUp pts fs ts k = none) : ∀ m, k ≤ m → wordsUp pts fs ts m = none := by
  intro m
  induction m with
  | zero => intro hk; have hk0 : k = 0 := Nat.le_zero.1 hk; rw [hk0] at h; exact h
  | succ m ih =>
    intro hk
    by_cases he : k = m + 1
    · subst he; exact h
    · unfold wordsUp; rw [ih (by omega)]
/-- A line's words, its first one apart. -/
def lineW (s : ByteArray) : List ByteArray := piecesB 32 s
def lineHd (s : ByteArray) : ByteArray := (lineW s).headD ByteArray.empty
def lineFits (st : RdS) (s : ByteArray) : Bool := formOk (lineHd s) && rightB st.stage (formStage (lineHd s)) && ((lineW s).length - 1 == (formWords (lineHd s)).size)
def lineRes (st : RdS) (s : ByteArray) : Option (List Int × Bool) := wordsUp (lastE st.c.ents).points (formWords (lineHd s)).data.toList (lineW s).tail (formWords (lineHd s)).size
/-- What a line makes: an error's number, what is known behind it. -/
def lineR (st : RdS) (s : ByteArray) : Nat × RdS :=
  if lineFits st s = true then
    match lineRes st s with
    | none => (1, st)
    | some p => if p.2 = true then (5, st) else (0, ⟨takeC (formStage (lineHd s)) ((lineW s).getD 1 ByteArray.empty) p.1 st.c, formStage (lineHd s)⟩)
  else (1, st)
def linesUp (ls : List ByteArray) : Nat → RdS
  | 0 => RdS.start
  | k + 1 => (lineR (linesUp ls k) (ls.getD k ByteArray.empty)).2
def lineAt (ls : List ByteArray) (i : Nat) : Nat := (lineR (linesUp ls i) (ls.getD i ByteArray.empty)).1
def linesF (ls : List ByteArray) : Nat × Int := match (List.range ls.length).find? (fun i => lineAt ls i != 0) with | some i => (lineAt ls i, (i : Int)) | none => (0, -1)
theorem linesF_hit {L : List ByteArray} {k : Nat} (hk : k < L.length) (h : lineAt L k ≠ 0) (hb : ∀ j, j < k → lineAt L j = 0) : linesF L = (lineAt L k, (k : Int)) := by
  have : (List.range L.length).find? (fun i => lineAt L i != 0) = some k := by
    rw [List.find?_range_eq_some]
    refine ⟨by simpa using h, List.mem_range.2 hk, fun j hj => ?_⟩
    simp [hb j hj]
  unfold linesF
  rw [this]
theorem linesF_miss {L : List ByteArray} (h : ∀ j, j < L.length → lineAt L j = 0) : linesF L = (0, -1) := by
  have : (List.range L.length).find? (fun i => lineAt L i != 0) = none := by
    rw [List.find?_eq_none]
    intro i hi
    simp [h i (List.mem_range.1 hi)]
  unfold linesF
  rw [this]
/-- A text's lines: the last sign is none of a line's if it ends one. -/
def textCut (s : ByteArray) : ByteArray := if s.data.toList.getLast? = some 10 then s.extract 0 (s.size - 1) else s
def textLines (s : ByteArray) : List ByteArray := if s.size = 0 then [] else piecesB 10 (textCut s)
def zeroC : ConfV := ⟨0, 0, 0, 0, []⟩
/-- What a text makes: a config, or a fault. -/
def readF (s : ByteArray) : ConfV × (Nat × Int) :=
  if 8000 < s.size then (zeroC, (2, -1))
  else if (linesF (textLines s)).1 ≠ 0 then (zeroC, linesF (textLines s))
  else if (linesUp (textLines s) (textLines s).length).stage < 2 then (zeroC, (1, ((textLines s).length : Int)))
  else if (confF (linesUp (textLines s) (textLines s).length).c).1 ≠ 0 then (zeroC, confF (linesUp (textLines s) (textLines s).length).c)
  else ((linesUp (textLines s) (textLines s).length).c, (0, -1))
end Go.Proofs.YtakjbjokekbmbaaGreatDoor

/- Plain: what is read is written as it was: line by line. -/
namespace Go.Proofs.YtakjbjokekbmbaaGreatDoor
open Go.RowKit
set_option linter.unusedVariables false

theorem line1 (a : W1) : lineB [a] = wordB a ++ [10] := by simp [lineB, upB, sepB, List.range_succ]
theorem line2 (a b : W1) : lineB [a, b] = wordB a ++ 32 :: wordB b ++ [10] := by simp [lineB, upB, sepB, List.range_succ]
theorem line3 (a b c : W1) : lineB [a, b, c] = wordB a ++ 32 :: wordB b ++ 32 :: wordB c ++ [10] := by simp [lineB, upB, sepB, List.range_succ]
theorem line4 (a b c d : W1) : lineB [a, b, c, d] = wordB a ++ 32 :: wordB b ++ 32 :: wordB c ++ 32 :: wordB d ++ [10] := by simp [lineB, upB, sepB, List.range_succ]
theorem line5 (a b c d e : W1) : lineB [a, b, c, d, e] = wordB a ++ 32 :: wordB b ++ 32 :: wordB c ++ 32 :: wordB d ++ 32 :: wordB e ++ [10] := by simp [lineB, upB, sepB, List.range_succ]

/-- What stands behind the stage is empty. -/
structure Fits (E : EntV) (k : Int) : Prop where
  c : k < 5 → E.count = -1
  g : k < 6 → E.gaps = []
  e : k < 7 → E.edges = []
  f : k < 8 → E.first = []
  l : k < 9 → E.last = []
structure RdInv (st : RdS) : Prop where
  lo : -1 ≤ st.stage ∧ st.stage ≤ 9
  no : st.stage < 3 → st.c.ents = []
  ne : 3 ≤ st.stage → st.c.ents ≠ []
  fit : 3 ≤ st.stage → Fits (lastE st.c.ents) st.stage
def txtL (st : RdS) : List (List W1) := (headL st.c).take (st.stage + 1).toNat ++ st.c.ents.flatMap entLn
def txt (st : RdS) : List UInt8 := linesB (txtL st)
theorem inv_start : RdInv RdS.start := ⟨⟨by decide, by decide⟩, fun _ => rfl, fun h => absurd h (by decide), fun h => absurd h (by decide)⟩
theorem txt_start : txt RdS.start = [] := rfl

theorem numV_itoa {t : ByteArray} {k : Nat} (h : numV t = some k) : Lib.itoa (k : Int) = t.data.toList := by
  unfold numV at h
  split at h
  · split at h
    · next v hv hc =>
      obtain rfl := Option.some.inj h
      rw [Int.toNat_of_nonneg hc.2.1]
      exact hc.2.2
    · cases h
  · cases h
theorem bytes_ext {a b : ByteArray} (h : a.data.toList = b.data.toList) : a = b := by
  cases a; cases b
  exact congrArg ByteArray.mk (Array.toList_inj.1 h)
theorem idxS_at {l : List ByteArray} {t : ByteArray} (h : 0 ≤ idxS l t) : l.getD (idxS l t).toNat ByteArray.empty = t ∧ (idxS l t).toNat < l.length := by
  unfold idxS sidxOf at h ⊢
  cases hf : l.findIdx? (fun x => x.toList == t.toList) with
  | none => rw [hf] at h; simp at h
  | some k =>
    obtain ⟨hk, h1, _⟩ := List.findIdx?_eq_some_iff_getElem.1 hf
    simp only [Int.toNat_natCast]
    refine ⟨?_, hk⟩
    rw [List.getD_eq_getElem?_getD, List.getElem?_eq_getElem hk]
    have h2 := eq_of_beq h1
    rw [ByteArray.toList_eq, ByteArray.toList_eq] at h2
    exact bytes_ext h2
theorem last_split {L : List EntV} (h : L ≠ []) : L = L.dropLast ++ [lastE L] := by
  have := List.dropLast_concat_getLast h
  rw [lastE, List.getLast?_eq_some_getLast h]
  exact this.symm
theorem lastE_app (L : List EntV) (E : EntV) : lastE (L ++ [E]) = E := by simp [lastE]

theorem up_succ {pts : List ByteArray} {fs : List UInt8} {ts : List ByteArray} {k : Nat} {q : List Int × Bool} (h : wordsUp pts fs ts (k + 1) = some q) : ∃ p, wordsUp pts fs ts k = some p ∧ wordStep pts (fs.getD k 0) (ts.getD k ByteArray.empty) p = some q := by
  unfold wordsUp at h
  cases hp : wordsUp pts fs ts k with
  | none => rw [hp] at h; cases h
  | some p => rw [hp] at h; exact ⟨p, rfl, h⟩
theorem step_n {pts : List ByteArray} {t : ByteArray} {p q : List Int × Bool} (h : wordStep pts 110 t p = some q) : ∃ k : Nat, numV t = some k ∧ q = (p.1 ++ [(k : Int)], p.2) := by
  unfold wordStep at h
  rw [if_pos rfl] at h
  cases hn : numV t with
  | none => rw [hn] at h; cases h
  | some k => rw [hn] at h; exact ⟨k, rfl, (Option.some.inj h).symm⟩
theorem step_p {pts : List ByteArray} {t : ByteArray} {p q : List Int × Bool} (h : wordStep pts 112 t p = some q) : q = (p.1 ++ [idxS pts t], p.2 || decide (idxS pts t < 0)) := by
  unfold wordStep at h
  rw [if_neg (by decide)] at h
  split at h
  · cases h
  · rw [if_pos rfl] at h
    exact (Option.some.inj h).symm
theorem step_s {pts : List ByteArray} {t : ByteArray} {p q : List Int × Bool} (h : wordStep pts 115 t p = some q) : q = p := by
  unfold wordStep at h
  rw [if_neg (by decide)] at h
  split at h
  · cases h
  · rw [if_neg (by decide)] at h
    exact (Option.some.inj h).symm

theorem form_mem {s : ByteArray} (h : formOk s = true) : ∃ p ∈ formL, p.1 = s ∧ formStage s = p.2.1 ∧ formWords s = p.2.2 := by
  unfold formOk formOf at h
  unfold formStage formWords formOf
  cases hf : formL.find? (fun p => p.1.data.toList == s.data.toList) with
  | none => rw [hf] at h; cases h
  | some p =>
    have h1 := List.find?_some hf
    exact ⟨p, List.mem_of_find?_eq_some hf, bytes_ext (eq_of_beq h1), rfl, rfl⟩
theorem line_join (s : ByteArray) : interL 32 ((lineW s).map (·.data.toList)) = s.data.toList := by
  unfold lineW
  rw [pieces_cut, inter_cut]
theorem lineW_ne (s : ByteArray) : lineW s ≠ [] := by
  intro h
  have := pieces_cut 32 s
  rw [show piecesB 32 s = [] from h] at this
  exact cut_ne 32 _ this.symm
/-- A line that fits: its form, its words. -/
theorem line_fit {st : RdS} {s : ByteArray} (h : lineFits st s = true) : ∃ p ∈ formL, ∃ ts, lineW s = p.1 :: ts ∧ lineHd s = p.1 ∧ ts.length = p.2.2.size ∧ rightB st.stage p.2.1 = true ∧ formStage p.1 = p.2.1 ∧ formWords p.1 = p.2.2 := by
  unfold lineFits at h
  rw [Bool.and_eq_true, Bool.and_eq_true] at h
  obtain ⟨⟨h1, h2⟩, h3⟩ := h
  obtain ⟨p, hp, e, hs, hw⟩ := form_mem h1
  have h3 := eq_of_beq h3
  cases hl : lineW s with
  | nil => exact absurd hl (lineW_ne s)
  | cons a ts =>
    have ha : lineHd s = a := by unfold lineHd; rw [hl]; rfl
    rw [hs] at h2
    rw [hl, hw] at h3
    refine ⟨p, hp, ts, ?_, e.symm, by simpa using h3, h2, by rw [e]; exact hs, by rw [e]; exact hw⟩
    rw [e, ha]
theorem lineR_ok {st st' : RdS} {s : ByteArray} (h : lineR st s = (0, st')) : lineFits st s = true ∧ ∃ n, lineRes st s = some (n, false) ∧ st' = ⟨takeC (formStage (lineHd s)) ((lineW s).getD 1 ByteArray.empty) n st.c, formStage (lineHd s)⟩ := by
  unfold lineR at h
  split at h
  · next hf =>
    refine ⟨hf, ?_⟩
    cases hr : lineRes st s with
    | none => rw [hr] at h; cases h
    | some p =>
      rw [hr] at h
      obtain ⟨n, z⟩ := p
      cases z
      · exact ⟨n, rfl, ((Prod.mk.inj h).2).symm⟩
      · cases h
  · cases h

theorem take_head {C : ConfV} {k : Int} (h : 2 ≤ k) : (headL C).take (k + 1).toNat = headL C := List.take_of_length_le (by show 3 ≤ _; omega)
/-- A state behind a line of an entity. -/
theorem txt_last {st : RdS} {k : Nat} {E' : EntV} {ws : List W1} {C' : ConfV} (h2 : 2 ≤ st.stage) (hk : 2 ≤ k) (hne : st.c.ents ≠ []) (hh : headL C' = headL st.c) (he : C'.ents = st.c.ents.dropLast ++ [E']) (hl : entLn E' = entLn (lastE st.c.ents) ++ [ws]) :
    txt ⟨C', (k : Int)⟩ = txt st ++ lineB ws := by
  unfold txt txtL
  show linesB ((headL C').take ((k : Int) + 1).toNat ++ C'.ents.flatMap entLn) = _
  rw [take_head (by omega), take_head h2, hh, he]
  conv => rhs; rw [last_split hne]
  rw [List.flatMap_append, List.flatMap_append, List.flatMap_singleton, List.flatMap_singleton, hl, linesB_app, linesB_app, linesB_app, linesB_app, linesB_app, linesB_one]
  simp only [List.append_assoc]
theorem inv_last {st : RdS} {k : Nat} {E' : EntV} {C' : ConfV} (hk : 3 ≤ k) (hk9 : k ≤ 9) (he : C'.ents = st.c.ents.dropLast ++ [E']) (hf : Fits E' (k : Int)) : RdInv ⟨C', (k : Int)⟩ := by
  refine ⟨⟨by show (-1 : Int) ≤ k; omega, by show (k : Int) ≤ 9; omega⟩, fun h => absurd h (by show ¬ (k : Int) < 3; omega), fun _ => ?_, fun _ => ?_⟩
  · show C'.ents ≠ []
    rw [he]; simp
  · show Fits (lastE C'.ents) (k : Int)
    rw [he, lastE_app]; exact hf
theorem name_idx {E : EntV} {t : ByteArray} (h : 0 ≤ idxS E.points t) : nameAt E (idxS E.points t) = t := (idxS_at h).1
theorem inv_head {C : ConfV} {k : Int} (h1 : -1 ≤ k) (h2 : k < 3) (he : C.ents = []) : RdInv ⟨C, k⟩ :=
  ⟨⟨h1, by show k ≤ 9; omega⟩, fun _ => he, fun h => absurd (show 3 ≤ k from h) (by omega), fun h => absurd (show 3 ≤ k from h) (by omega)⟩
theorem len1 {ts : List ByteArray} (h : ts.length = 1) : ∃ a, ts = [a] := by
  match ts, h with
  | [a], _ => exact ⟨a, rfl⟩
theorem len2 {ts : List ByteArray} (h : ts.length = 2) : ∃ a b, ts = [a, b] := by
  match ts, h with
  | [a, b], _ => exact ⟨a, b, rfl⟩
theorem len3 {ts : List ByteArray} (h : ts.length = 3) : ∃ a b c, ts = [a, b, c] := by
  match ts, h with
  | [a, b, c], _ => exact ⟨a, b, c, rfl⟩
theorem len4 {ts : List ByteArray} (h : ts.length = 4) : ∃ a b c d, ts = [a, b, c, d] := by
  match ts, h with
  | [a, b, c, d], _ => exact ⟨a, b, c, d, rfl⟩
theorem up_zero {pts : List ByteArray} {fs : List UInt8} {ts : List ByteArray} {q : List Int × Bool} (h : wordsUp pts fs ts 0 = some q) : q = ([], false) := (Option.some.inj h).symm

section
variable {pts : List ByteArray} {a b c d : ByteArray} {n : List Int}
theorem res_n (h : wordsUp pts [110] [a] 1 = some (n, false)) : ∃ k : Nat, numV a = some k ∧ n = [(k : Int)] := by
  obtain ⟨p1, h1, s1⟩ := up_succ h
  obtain rfl := up_zero h1
  obtain ⟨k, hk, e⟩ := step_n s1
  exact ⟨k, hk, (Prod.mk.inj e).1⟩
theorem res_nn (h : wordsUp pts [110, 110] [a, b] 2 = some (n, false)) : ∃ k m : Nat, numV a = some k ∧ numV b = some m ∧ n = [(k : Int), (m : Int)] := by
  obtain ⟨p2, h2, s2⟩ := up_succ h
  obtain ⟨p1, h1, s1⟩ := up_succ h2
  obtain rfl := up_zero h1
  obtain ⟨k, hk, rfl⟩ := step_n s1
  obtain ⟨m, hm, e⟩ := step_n s2
  exact ⟨k, m, hk, hm, (Prod.mk.inj e).1⟩
theorem res_s (h : wordsUp pts [115] [a] 1 = some (n, false)) : n = [] := by
  obtain ⟨p1, h1, s1⟩ := up_succ h
  obtain rfl := up_zero h1
  exact (Prod.mk.inj (step_s s1)).1
theorem res_sn (h : wordsUp pts [115, 110] [a, b] 2 = some (n, false)) : ∃ m : Nat, numV b = some m ∧ n = [(m : Int)] := by
  obtain ⟨p2, h2, s2⟩ := up_succ h
  obtain ⟨p1, h1, s1⟩ := up_succ h2
  obtain rfl := up_zero h1
  obtain rfl := step_s s1
  obtain ⟨m, hm, e⟩ := step_n s2
  exact ⟨m, hm, (Prod.mk.inj e).1⟩
theorem res_p (h : wordsUp pts [112] [a] 1 = some (n, false)) : 0 ≤ idxS pts a ∧ n = [idxS pts a] := by
  obtain ⟨p1, h1, s1⟩ := up_succ h
  obtain rfl := up_zero h1
  have e := step_p s1
  have e2 := (Prod.mk.inj e).2
  simp at e2
  exact ⟨e2, (Prod.mk.inj e).1⟩
theorem res_pp (h : wordsUp pts [112, 112] [a, b] 2 = some (n, false)) : 0 ≤ idxS pts a ∧ 0 ≤ idxS pts b ∧ n = [idxS pts a, idxS pts b] := by
  obtain ⟨p2, h2, s2⟩ := up_succ h
  obtain ⟨p1, h1, s1⟩ := up_succ h2
  obtain rfl := up_zero h1
  obtain rfl := step_p s1
  have e := step_p s2
  have e2 := (Prod.mk.inj e).2
  simp at e2
  exact ⟨e2.1, e2.2, (Prod.mk.inj e).1⟩
theorem res_pnn (h : wordsUp pts [112, 110, 110] [a, b, c] 3 = some (n, false)) : ∃ k m : Nat, 0 ≤ idxS pts a ∧ numV b = some k ∧ numV c = some m ∧ n = [idxS pts a, (k : Int), (m : Int)] := by
  obtain ⟨p3, h3, s3⟩ := up_succ h
  obtain ⟨p2, h2, s2⟩ := up_succ h3
  obtain ⟨p1, h1, s1⟩ := up_succ h2
  obtain rfl := up_zero h1
  obtain rfl := step_p s1
  obtain ⟨k, hk, rfl⟩ := step_n s2
  obtain ⟨m, hm, e⟩ := step_n s3
  have e2 := (Prod.mk.inj e).2
  simp at e2
  exact ⟨k, m, e2, hk, hm, (Prod.mk.inj e).1⟩
theorem res_ppnn (h : wordsUp pts [112, 112, 110, 110] [a, b, c, d] 4 = some (n, false)) : ∃ k m : Nat, 0 ≤ idxS pts a ∧ 0 ≤ idxS pts b ∧ numV c = some k ∧ numV d = some m ∧ n = [idxS pts a, idxS pts b, (k : Int), (m : Int)] := by
  obtain ⟨p4, h4, s4⟩ := up_succ h
  obtain ⟨p3, h3, s3⟩ := up_succ h4
  obtain ⟨p2, h2, s2⟩ := up_succ h3
  obtain ⟨p1, h1, s1⟩ := up_succ h2
  obtain rfl := up_zero h1
  obtain rfl := step_p s1
  obtain rfl := step_p s2
  obtain ⟨k, hk, rfl⟩ := step_n s3
  obtain ⟨m, hm, e⟩ := step_n s4
  have e2 := (Prod.mk.inj e).2
  simp at e2
  exact ⟨k, m, e2.1, e2.2, hk, hm, (Prod.mk.inj e).1⟩
end

theorem line_txt {st st' : RdS} {s : ByteArray} (hI : RdInv st) (h : lineR st s = (0, st')) : RdInv st' ∧ txt st' = txt st ++ (s.data.toList ++ [10]) := by
  obtain ⟨hf, n, hr, rfl⟩ := lineR_ok h
  obtain ⟨p, hp, ts, hl, hh, hlen, hrt, hs, hw⟩ := line_fit hf
  have hj := line_join s
  unfold lineRes at hr
  rw [hh, hw, hl, List.tail_cons] at hr
  rw [hl] at hj
  rw [hh, hs, hl]
  have hlo := hI.lo
  simp only [formL, List.mem_cons, List.not_mem_nil, or_false] at hp
  rcases hp with rfl | rfl | rfl | rfl | rfl | rfl | rfl | rfl | rfl | rfl
  · obtain ⟨a, b, rfl⟩ := len2 hlen
    obtain ⟨k, m, hk, hm, rfl⟩ := res_nn hr
    have hst : st.stage = -1 := by simpa [rightB] using hrt
    have he := hI.no (by omega)
    refine ⟨inv_head (by decide) (by decide) he, ?_⟩
    have e1 : txt st = [] := by unfold txt txtL; rw [hst, he]; rfl
    rw [e1, ← hj, List.nil_append]
    show linesB ([[.str winB, .num k, .num m]] ++ st.c.ents.flatMap entLn) = _
    rw [he]
    show linesB [[.str winB, .num k, .num m]] = _
    rw [linesB_one, line3]
    simp only [wordB, numV_itoa hk, numV_itoa hm, List.map_cons, List.map_nil, interL, winB]
    simp
  · obtain ⟨a, rfl⟩ := len1 hlen
    obtain ⟨k, hk, rfl⟩ := res_n hr
    have hst : st.stage = 0 := by simpa [rightB] using hrt
    have he := hI.no (by omega)
    refine ⟨inv_head (by decide) (by decide) he, ?_⟩
    have e1 : txt st = linesB [[.str winB, .num st.c.closed, .num st.c.opn]] := by unfold txt txtL; rw [hst, he]; rfl
    rw [e1, ← hj]
    show linesB ([[.str winB, .num st.c.closed, .num st.c.opn], [.str cycB, .num k]] ++ st.c.ents.flatMap entLn) = _
    rw [he]
    show linesB ([[.str winB, .num st.c.closed, .num st.c.opn]] ++ [[.str cycB, .num k]]) = _
    rw [linesB_app, linesB_one [.str cycB, .num k], line2]
    simp only [wordB, numV_itoa hk, List.map_cons, List.map_nil, interL, cycB]
  · obtain ⟨a, rfl⟩ := len1 hlen
    obtain ⟨k, hk, rfl⟩ := res_n hr
    have hst : st.stage = 1 := by simpa [rightB] using hrt
    have he := hI.no (by omega)
    refine ⟨inv_head (by decide) (by decide) he, ?_⟩
    have e1 : txt st = linesB [[.str winB, .num st.c.closed, .num st.c.opn], [.str cycB, .num st.c.cycle]] := by unfold txt txtL; rw [hst, he]; rfl
    rw [e1, ← hj]
    show linesB ([[.str winB, .num st.c.closed, .num st.c.opn], [.str cycB, .num st.c.cycle], [.str delB, .num k]] ++ st.c.ents.flatMap entLn) = _
    rw [he]
    show linesB ([[.str winB, .num st.c.closed, .num st.c.opn], [.str cycB, .num st.c.cycle]] ++ [[.str delB, .num k]]) = _
    rw [linesB_app, linesB_one [.str delB, .num k], line2]
    simp only [wordB, numV_itoa hk, List.map_cons, List.map_nil, interL, delB]
  · obtain ⟨a, b, rfl⟩ := len2 hlen
    obtain ⟨m, hm, rfl⟩ := res_sn hr
    have hst : 2 ≤ st.stage := by simpa [rightB] using hrt
    refine ⟨⟨⟨(by decide : (-1 : Int) ≤ 3), (by decide : (3 : Int) ≤ 9)⟩, fun h => absurd h (by decide : ¬ (3 : Int) < 3), fun _ => ?_, fun _ => ?_⟩, ?_⟩
    · show st.c.ents ++ [newE a m] ≠ []
      simp
    · show Fits (lastE (st.c.ents ++ [newE a m])) 3
      rw [lastE_app]
      exact ⟨fun _ => rfl, fun _ => rfl, fun _ => rfl, fun _ => rfl, fun _ => rfl⟩
    · rw [← hj]
      unfold txt txtL
      rw [take_head hst]
      show linesB (headL st.c ++ (st.c.ents ++ [newE a m]).flatMap entLn) = _
      rw [List.flatMap_append, List.flatMap_singleton, show entLn (newE a m) = [[.str entB, .str a, .num m]] from rfl, linesB_app, linesB_app, linesB_app, linesB_one, line3]
      simp only [wordB, numV_itoa hm, List.map_cons, List.map_nil, interL, entB]
      simp
  all_goals
    have hst3 : 3 ≤ st.stage := by
      simp [rightB] at hrt
      omega
    have hne := hI.ne hst3
    have hF := hI.fit hst3
    obtain ⟨E, hE⟩ : ∃ E, E = lastE st.c.ents := ⟨_, rfl⟩
  · obtain ⟨a, rfl⟩ := len1 hlen
    have hst : st.stage ≤ 4 := by simp [rightB] at hrt; omega
    obtain rfl := res_s hr
    have hl' : entLn (takeE 4 a [] (lastE st.c.ents)) = entLn (lastE st.c.ents) ++ [pntL a] := by
      rw [← hE] at hF ⊢
      have h1 := hF.c (by omega)
      have h2 := hF.g (by omega)
      have h3 := hF.e (by omega)
      have h4 := hF.f (by omega)
      have h5 := hF.l (by omega)
      cases E
      simp only at h1 h2 h3 h4 h5
      subst h1 h2 h3 h4 h5
      simp [entLn, takeE, cntLn]
    refine ⟨inv_last (k := 4) (by decide) (by decide) rfl ?_, ?_⟩
    · rw [← hE] at hF ⊢
      show Fits (takeE 4 a [] E) 4
      exact ⟨fun _ => hF.c (by omega), fun _ => hF.g (by omega), fun _ => hF.e (by omega), fun _ => hF.f (by omega), fun _ => hF.l (by omega)⟩
    · refine (txt_last (st := st) (k := 4) (C' := takeC 4 a [] st.c) (by omega) (by decide) hne rfl rfl hl').trans ?_
      rw [← hj]
      unfold pntL
      rw [line2]
      simp only [wordB, List.map_cons, List.map_nil, interL, pntB]
  · obtain ⟨a, b, c, rfl⟩ := len3 hlen
    have hst : st.stage ≤ 4 := by simp [rightB] at hrt; omega
    obtain ⟨k, m, hx, hk, hm, rfl⟩ := res_pnn hr
    have hnm := name_idx hx
    rw [← hE] at hx hnm
    have hl' : entLn (takeE 5 a [idxS (lastE st.c.ents).points a, (k : Int), (m : Int)] (lastE st.c.ents)) = entLn (lastE st.c.ents) ++ [[.str cntB, .str a, .num k, .num m]] := by
      rw [← hE] at hF ⊢
      have h1 := hF.c (by omega)
      have e1 : cntLn E = [] := by unfold cntLn; rw [h1]; rfl
      show [.str entB, .str E.name, .num E.tol] :: (E.points.map pntL ++ (if 0 ≤ idxS E.points a then [[.str cntB, .str (nameAt E (idxS E.points a)), .num k, .num m]] else []) ++ E.gaps.map (gapLn E) ++ E.edges.map (edgLn E) ++ E.first.map (fstLn E) ++ E.last.map (lstLn E)) = _
      rw [if_pos hx, hnm]
      unfold entLn
      rw [e1, hF.g (by omega), hF.e (by omega), hF.f (by omega), hF.l (by omega)]
      simp
    refine ⟨inv_last (k := 5) (by decide) (by decide) rfl ?_, ?_⟩
    · rw [← hE] at hF ⊢
      show Fits (takeE 5 a [idxS E.points a, (k : Int), (m : Int)] E) 5
      exact ⟨fun h => absurd h (by decide), fun _ => hF.g (by omega), fun _ => hF.e (by omega), fun _ => hF.f (by omega), fun _ => hF.l (by omega)⟩
    · refine (txt_last (st := st) (k := 5) (C' := takeC 5 a [idxS (lastE st.c.ents).points a, (k : Int), (m : Int)] st.c) (by omega) (by decide) hne rfl rfl hl').trans ?_
      rw [← hj, line4]
      simp only [wordB, numV_itoa hk, numV_itoa hm, List.map_cons, List.map_nil, interL, cntB]
      simp
  · obtain ⟨a, b, c, d, rfl⟩ := len4 hlen
    have hst : st.stage ≤ 6 := by simp [rightB] at hrt; omega
    obtain ⟨k, m, hx, hy, hk, hm, rfl⟩ := res_ppnn hr
    have hnm := name_idx hx
    have hnn := name_idx hy
    rw [← hE] at hnm hnn
    have hl' : entLn (takeE 6 a [idxS (lastE st.c.ents).points a, idxS (lastE st.c.ents).points b, (k : Int), (m : Int)] (lastE st.c.ents)) = entLn (lastE st.c.ents) ++ [[.str gapB, .str a, .str b, .num k, .num m]] := by
      rw [← hE] at hF ⊢
      show [.str entB, .str E.name, .num E.tol] :: (E.points.map pntL ++ cntLn E ++ (E.gaps ++ [(⟨idxS E.points a, idxS E.points b, (k : Int), (m : Int)⟩ : GapV)]).map (gapLn E) ++ E.edges.map (edgLn E) ++ E.first.map (fstLn E) ++ E.last.map (lstLn E)) = _
      unfold entLn
      rw [hF.e (by omega), hF.f (by omega), hF.l (by omega), List.map_append, List.map_singleton]
      unfold gapLn
      rw [hnm, hnn]
      simp
    refine ⟨inv_last (k := 6) (by decide) (by decide) rfl ?_, ?_⟩
    · rw [← hE] at hF ⊢
      show Fits (takeE 6 a [idxS E.points a, idxS E.points b, (k : Int), (m : Int)] E) 6
      exact ⟨fun h => absurd h (by decide), fun h => absurd h (by decide), fun _ => hF.e (by omega), fun _ => hF.f (by omega), fun _ => hF.l (by omega)⟩
    · refine (txt_last (st := st) (k := 6) (C' := takeC 6 a [idxS (lastE st.c.ents).points a, idxS (lastE st.c.ents).points b, (k : Int), (m : Int)] st.c) (by omega) (by decide) hne rfl rfl hl').trans ?_
      rw [← hj, line5]
      simp only [wordB, numV_itoa hk, numV_itoa hm, List.map_cons, List.map_nil, interL, gapB]
      simp
  · obtain ⟨a, b, rfl⟩ := len2 hlen
    have hst : st.stage ≤ 7 := by simp [rightB] at hrt; omega
    obtain ⟨hx, hy, rfl⟩ := res_pp hr
    have hnm := name_idx hx
    have hnn := name_idx hy
    rw [← hE] at hnm hnn
    have hl' : entLn (takeE 7 a [idxS (lastE st.c.ents).points a, idxS (lastE st.c.ents).points b] (lastE st.c.ents)) = entLn (lastE st.c.ents) ++ [[.str edgB, .str a, .str b]] := by
      rw [← hE] at hF ⊢
      show [.str entB, .str E.name, .num E.tol] :: (E.points.map pntL ++ cntLn E ++ E.gaps.map (gapLn E) ++ (E.edges ++ [(idxS E.points a, idxS E.points b)]).map (edgLn E) ++ E.first.map (fstLn E) ++ E.last.map (lstLn E)) = _
      unfold entLn
      rw [hF.f (by omega), hF.l (by omega), List.map_append, List.map_singleton]
      unfold edgLn
      rw [hnm, hnn]
      simp
    refine ⟨inv_last (k := 7) (by decide) (by decide) rfl ?_, ?_⟩
    · rw [← hE] at hF ⊢
      show Fits (takeE 7 a [idxS E.points a, idxS E.points b] E) 7
      exact ⟨fun h => absurd h (by decide), fun h => absurd h (by decide), fun h => absurd h (by decide), fun _ => hF.f (by omega), fun _ => hF.l (by omega)⟩
    · refine (txt_last (st := st) (k := 7) (C' := takeC 7 a [idxS (lastE st.c.ents).points a, idxS (lastE st.c.ents).points b] st.c) (by omega) (by decide) hne rfl rfl hl').trans ?_
      rw [← hj, line3]
      simp only [wordB, List.map_cons, List.map_nil, interL, edgB]
      simp
  · obtain ⟨a, rfl⟩ := len1 hlen
    have hst : st.stage ≤ 8 := by simp [rightB] at hrt; omega
    obtain ⟨hx, rfl⟩ := res_p hr
    have hnm := name_idx hx
    rw [← hE] at hnm
    have hl' : entLn (takeE 8 a [idxS (lastE st.c.ents).points a] (lastE st.c.ents)) = entLn (lastE st.c.ents) ++ [[.str fstB, .str a]] := by
      rw [← hE] at hF ⊢
      show [.str entB, .str E.name, .num E.tol] :: (E.points.map pntL ++ cntLn E ++ E.gaps.map (gapLn E) ++ E.edges.map (edgLn E) ++ (E.first ++ [idxS E.points a]).map (fstLn E) ++ E.last.map (lstLn E)) = _
      unfold entLn
      rw [hF.l (by omega), List.map_append, List.map_singleton]
      unfold fstLn
      rw [hnm]
      simp
    refine ⟨inv_last (k := 8) (by decide) (by decide) rfl ?_, ?_⟩
    · rw [← hE] at hF ⊢
      show Fits (takeE 8 a [idxS E.points a] E) 8
      exact ⟨fun h => absurd h (by decide), fun h => absurd h (by decide), fun h => absurd h (by decide), fun h => absurd h (by decide), fun _ => hF.l (by omega)⟩
    · refine (txt_last (st := st) (k := 8) (C' := takeC 8 a [idxS (lastE st.c.ents).points a] st.c) (by omega) (by decide) hne rfl rfl hl').trans ?_
      rw [← hj, line2]
      simp only [wordB, List.map_cons, List.map_nil, interL, fstB]
  · obtain ⟨a, rfl⟩ := len1 hlen
    obtain ⟨hx, rfl⟩ := res_p hr
    have hnm := name_idx hx
    rw [← hE] at hnm
    have hl' : entLn (takeE 9 a [idxS (lastE st.c.ents).points a] (lastE st.c.ents)) = entLn (lastE st.c.ents) ++ [[.str lstB, .str a]] := by
      rw [← hE] at hF ⊢
      show [.str entB, .str E.name, .num E.tol] :: (E.points.map pntL ++ cntLn E ++ E.gaps.map (gapLn E) ++ E.edges.map (edgLn E) ++ E.first.map (fstLn E) ++ (E.last ++ [idxS E.points a]).map (lstLn E)) = _
      unfold entLn
      rw [List.map_append, List.map_singleton]
      unfold lstLn
      rw [hnm]
      simp
    refine ⟨inv_last (k := 9) (by decide) (by decide) rfl ?_, ?_⟩
    · exact ⟨fun h => absurd h (by decide), fun h => absurd h (by decide), fun h => absurd h (by decide), fun h => absurd h (by decide), fun h => absurd h (by decide)⟩
    · refine (txt_last (st := st) (k := 9) (C' := takeC 9 a [idxS (lastE st.c.ents).points a] st.c) (by omega) (by decide) hne rfl rfl hl').trans ?_
      rw [← hj, line2]
      simp only [wordB, List.map_cons, List.map_nil, interL, lstB]

theorem lines_txt (ls : List ByteArray) : ∀ k, k ≤ ls.length → (∀ j, j < k → lineAt ls j = 0) → RdInv (linesUp ls k) ∧ txt (linesUp ls k) = (ls.take k).flatMap (fun s => s.data.toList ++ [10])
  | 0, _, _ => ⟨inv_start, by rw [List.take_zero]; exact txt_start⟩
  | k + 1, hk, h => by
    obtain ⟨h1, h2⟩ := lines_txt ls k (by omega) (fun j hj => h j (by omega))
    have h0 := h k (by omega)
    unfold lineAt at h0
    have hd : ls.getD k ByteArray.empty = ls[k] := by rw [List.getD_eq_getElem?_getD, List.getElem?_eq_getElem (by omega)]; rfl
    rw [hd] at h0
    have hq : lineR (linesUp ls k) ls[k] = (0, linesUp ls (k + 1)) := by
      show _ = (0, (lineR (linesUp ls k) (ls.getD k ByteArray.empty)).2)
      rw [hd]
      exact Prod.ext h0 rfl
    obtain ⟨h3, h4⟩ := line_txt h1 hq
    refine ⟨h3, ?_⟩
    rw [h4, h2, List.take_succ_eq_append_getElem (by omega), List.flatMap_append, List.flatMap_singleton]
theorem flat_inter (c : UInt8) : ∀ (L : List (List UInt8)), L ≠ [] → L.flatMap (fun s => s ++ [c]) = interL c L ++ [c]
  | [], h => absurd rfl h
  | [p], _ => by simp [interL]
  | p :: q :: ps, _ => by
    have := flat_inter c (q :: ps) (by simp)
    rw [List.flatMap_cons, this]
    simp [interL]
/-- What is read is written as it was. -/
theorem twice_law {s : ByteArray} (h8 : ¬ 8000 < s.size) (h1 : (linesF (textLines s)).1 = 0) (h2 : ¬ (linesUp (textLines s) (textLines s).length).stage < 2) :
    textB (linesUp (textLines s) (textLines s).length).c = (textCut s).data.toList ++ [10] := by
  have hall : ∀ j, j < (textLines s).length → lineAt (textLines s) j = 0 := by
    intro j hj
    cases hz : lineAt (textLines s) j with
    | zero => rfl
    | succ n =>
      exfalso
      have hmin : ∃ k, k < (textLines s).length ∧ lineAt (textLines s) k ≠ 0 ∧ ∀ i, i < k → lineAt (textLines s) i = 0 := by
        have : ∀ n, (∃ k, k < n ∧ k < (textLines s).length ∧ lineAt (textLines s) k ≠ 0) → ∃ k, k < (textLines s).length ∧ lineAt (textLines s) k ≠ 0 ∧ ∀ i, i < k → lineAt (textLines s) i = 0 := by
          intro n
          induction n with
          | zero => rintro ⟨k, hk, _⟩; omega
          | succ n ih =>
            rintro ⟨k, hk, hl, hh⟩
            by_cases he : ∃ k, k < n ∧ k < (textLines s).length ∧ lineAt (textLines s) k ≠ 0
            · exact ih he
            · refine ⟨k, hl, hh, fun i hi => ?_⟩
              by_cases hi0 : lineAt (textLines s) i = 0
              · exact hi0
              · exact absurd ⟨i, by omega, by omega, hi0⟩ he
        exact this (j + 1) ⟨j, by omega, hj, by rw [hz]; simp⟩
      obtain ⟨k, a, b, c⟩ := hmin
      rw [linesF_hit a b c] at h1
      exact b h1
  obtain ⟨hI, ht⟩ := lines_txt (textLines s) (textLines s).length (Nat.le_refl _) hall
  rw [List.take_length] at ht
  have hne : textLines s ≠ [] := by
    intro e
    rw [e] at h2
    exact h2 (by decide)
  have hcut : textLines s = piecesB 10 (textCut s) := by
    unfold textLines at hne ⊢
    split at hne
    · exact absurd rfl hne
    · next h0 => rw [if_neg h0]
  have e1 : txt (linesUp (textLines s) (textLines s).length) = textB (linesUp (textLines s) (textLines s).length).c := by
    unfold txt txtL textB headB
    rw [take_head (by omega), linesB_app]
    show linesB _ ++ _ = linesB _ ++ _
    unfold linesB
    rw [List.flatMap_assoc]
  rw [← e1, ht]
  have e2 := flat_inter 10 ((textLines s).map (·.data.toList)) (by simpa using hne)
  rw [List.flatMap_map] at e2
  rw [e2, hcut, pieces_cut, inter_cut]
end Go.Proofs.YtakjbjokekbmbaaGreatDoor

/- Plain: numbers of digits. -/
namespace Go.Proofs.YtakjbjokekbmbaaGreatDoor
open Go.RowKit
set_option linter.unusedVariables false

def isDig (c : UInt8) : Bool := decide (48 ≤ c.toNat ∧ c.toNat ≤ 57)
def dval (l : List UInt8) : Nat := l.foldl (fun a c => a * 10 + (c.toNat - 48)) 0
theorem dval_snoc (l : List UInt8) (c : UInt8) : dval (l ++ [c]) = dval l * 10 + (c.toNat - 48) := by simp [dval]
theorem dval_lt : ∀ (n : Nat) (l : List UInt8), l.length = n → (∀ c ∈ l, isDig c = true) → dval l < 10 ^ n
  | 0, l, hl, _ => by obtain rfl := List.eq_nil_of_length_eq_zero hl; simp [dval]
  | n + 1, l, hl, h => by
    have hne : l ≠ [] := by intro e; rw [e] at hl; simp at hl
    have hs := List.dropLast_concat_getLast hne
    have h1 := dval_lt n l.dropLast (by rw [List.length_dropLast]; omega) (fun c hc => h c (List.dropLast_subset _ hc))
    have h2 := h _ (List.getLast_mem hne)
    simp only [isDig, decide_eq_true_eq] at h2
    rw [← hs, dval_snoc, Nat.pow_succ]
    omega
theorem dig_of (i : Nat) (h : i < 10) : (UInt8.ofNat (48 + i)).toNat = 48 + i := by
  rw [UInt8.toNat_ofNat']; omega
theorem decDigits_dig (u : Nat) : ∀ c ∈ Lib.decDigits u, isDig c = true := by
  induction u using Nat.strongRecOn with
  | ind u ih =>
    intro c hc
    rw [Lib.decDigits] at hc
    split at hc
    · next h =>
      obtain rfl := List.mem_singleton.1 hc
      simp only [isDig, decide_eq_true_eq, dig_of u h]; omega
    · next h =>
      rcases List.mem_append.1 hc with hc | hc
      · exact ih (u / 10) (by omega) c hc
      · obtain rfl := List.mem_singleton.1 hc
        simp only [isDig, decide_eq_true_eq, dig_of (u % 10) (by omega)]; omega
theorem dval_dec (u : Nat) : dval (Lib.decDigits u) = u := by
  induction u using Nat.strongRecOn with
  | ind u ih =>
    rw [Lib.decDigits]
    split
    · next h => simp [dval]; rw [Nat.mod_eq_of_lt (by omega)]; omega
    · next h =>
      rw [dval_snoc, ih (u / 10) (by omega), dig_of (u % 10) (by omega)]
      omega
theorem decDigits_ne (u : Nat) : Lib.decDigits u ≠ [] := by
  rw [Lib.decDigits]
  split
  · simp
  · simp
/-- Digits without a naught ahead are the numeral of what they spell. -/
theorem dec_dval : ∀ (n : Nat) (l : List UInt8), l.length = n + 1 → (∀ c ∈ l, isDig c = true) → (n = 0 ∨ l.head? ≠ some 48) → Lib.decDigits (dval l) = l
  | 0, l, hl, h, _ => by
    match l, hl with
    | [c], _ =>
      have h2 := h c (by simp)
      simp only [isDig, decide_eq_true_eq] at h2
      have e : dval [c] = c.toNat - 48 := by simp [dval]
      rw [e, Lib.decDigits_one (by omega)]
      congr 1
      rw [show 48 + (c.toNat - 48) = c.toNat by omega]
      exact UInt8.ofNat_toNat
  | n + 1, l, hl, h, h0 => by
    have hne : l ≠ [] := by intro e; rw [e] at hl; simp at hl
    have hs := List.dropLast_concat_getLast hne
    have hh : l.head? ≠ some 48 := by
      rcases h0 with h0 | h0
      · omega
      · exact h0
    have hd : l.dropLast.head? = l.head? := by
      match l, hl with
      | a :: b :: t, _ => rfl
    have h1 := dec_dval n l.dropLast (by rw [List.length_dropLast]; omega) (fun c hc => h c (List.dropLast_subset _ hc)) (.inr (by rw [hd]; exact hh))
    have h2 := h _ (List.getLast_mem hne)
    simp only [isDig, decide_eq_true_eq] at h2
    have hpos : dval l.dropLast ≠ 0 := by
      intro e
      rw [e] at h1
      have : l.dropLast = [48] := by rw [← h1, Lib.decDigits_one (by decide)]; rfl
      rw [this] at hd
      exact hh hd.symm
    conv => rhs; rw [← hs]
    conv => lhs; rw [← hs]
    rw [dval_snoc, Lib.decDigits, dif_neg (by omega)]
    congr 1
    · rw [show (dval l.dropLast * 10 + ((l.getLast hne).toNat - 48)) / 10 = dval l.dropLast by omega, h1]
    · congr 1
      rw [show 48 + (dval l.dropLast * 10 + ((l.getLast hne).toNat - 48)) % 10 = (l.getLast hne).toNat by omega]
      exact UInt8.ofNat_toNat
theorem parse_snoc (c : UInt8) : ∀ (l : List UInt8) (a n : Nat), Lib.parseUint10 a l = .ok n → Lib.parseUint10 a (l ++ [c]) = Lib.parseUint10 n [c]
  | [], a, n, h => by simp only [Lib.parseUint10] at h; injection h with h; rw [h]; rfl
  | x :: l, a, n, h => by
    simp only [Lib.parseUint10, List.cons_append] at h ⊢
    split at h
    · next hx =>
      rw [if_pos hx]
      split at h
      · cases h
      · next h1 =>
        rw [if_neg h1]
        split at h
        · cases h
        · next h2 =>
          rw [if_neg h2]
          exact parse_snoc c l _ n h
    · cases h
theorem parse_dig : ∀ (n : Nat) (l : List UInt8), l.length = n → n ≤ 13 → (∀ c ∈ l, isDig c = true) → Lib.parseUint10 0 l = .ok (dval l)
  | 0, l, hl, _, _ => by obtain rfl := List.eq_nil_of_length_eq_zero hl; rfl
  | n + 1, l, hl, hn, h => by
    have hne : l ≠ [] := by intro e; rw [e] at hl; simp at hl
    have hs := List.dropLast_concat_getLast hne
    have hD : ∀ c ∈ l.dropLast, isDig c = true := fun c hc => h c (List.dropLast_subset _ hc)
    have h1 := parse_dig n l.dropLast (by rw [List.length_dropLast]; omega) (by omega) hD
    have h2 := h _ (List.getLast_mem hne)
    simp only [isDig, decide_eq_true_eq] at h2
    have hlt := dval_lt n l.dropLast (by rw [List.length_dropLast]; omega) hD
    have hp : 10 ^ n ≤ 10 ^ 12 := Nat.pow_le_pow_right (by decide) (by omega)
    have hp2 : (10 : Nat) ^ 12 = 1000000000000 := by decide
    rw [← hs, parse_snoc _ _ _ _ h1, dval_snoc]
    simp only [Lib.parseUint10]
    rw [if_pos h2, if_neg (by omega), if_neg (by omega)]
/-- Digits: one to thirteen, no naught ahead. -/
def digOk (l : List UInt8) : Bool := decide (1 ≤ l.length) && decide (l.length ≤ 13) && !(decide (1 < l.length) && l.head? == some 48) && l.all isDig
theorem atoi_dig {l : List UInt8} (hl : l.length ≤ 13) (h1 : 1 ≤ l.length) (h : ∀ c ∈ l, isDig c = true) : Lib.atoiAll l = .ok (dval l : Int) := by
  match l, h1 with
  | c :: r, _ =>
    have h2 := h c (by simp)
    simp only [isDig, decide_eq_true_eq] at h2
    rw [Lib.atoiAll_plain c r (by omega) (by omega)]
    unfold Lib.parseMag
    rw [if_neg (by simp), parse_dig _ (c :: r) rfl hl h]
    have hlt := dval_lt _ (c :: r) rfl h
    have hp : 10 ^ (c :: r).length ≤ 10 ^ 13 := Nat.pow_le_pow_right (by decide) hl
    have hp2 : (10 : Nat) ^ 13 = 10000000000000 := by decide
    simp only [Lib.signless]
    rw [if_neg (by omega)]
theorem itoa_dig (k : Nat) : Lib.itoa (k : Int) = Lib.decDigits k := by
  unfold Lib.itoa
  rw [if_neg (by omega), Int.toNat_natCast]
theorem head_dec (k : Nat) (h : 10 ≤ k) : (Lib.decDigits k).head? ≠ some 48 := by
  induction k using Nat.strongRecOn with
  | ind k ih =>
    rw [Lib.decDigits, dif_neg (by omega)]
    by_cases h2 : 10 ≤ k / 10
    · have := ih (k / 10) (by omega) h2
      rw [List.head?_append]
      cases hd : (Lib.decDigits (k / 10)).head? with
      | none => exact absurd (List.head?_eq_none_iff.1 hd) (decDigits_ne _)
      | some c => rw [hd] at this; simpa using this
    · rw [Lib.decDigits_one (by omega)]
      intro e
      have e2 : UInt8.ofNat (48 + k / 10) = 48 := by simpa using e
      have := congrArg UInt8.toNat e2
      rw [dig_of _ (by omega)] at this
      have h48 : (48 : UInt8).toNat = 48 := rfl
      omega
theorem len_dec (k : Nat) (h : 1 < (Lib.decDigits k).length) : 10 ≤ k := by
  rw [Lib.decDigits] at h
  split at h
  · simp at h
  · omega
theorem numV_dig (s : ByteArray) : numV s = if digOk s.data.toList = true then some (dval s.data.toList) else none := by
  have hsz : s.data.toList.length = s.size := by rw [Array.length_toList]; rfl
  split
  · next h =>
    unfold digOk at h
    simp only [Bool.and_eq_true, decide_eq_true_eq, List.all_eq_true, Bool.not_eq_true', Bool.and_eq_false_imp, beq_eq_false_iff_ne] at h
    obtain ⟨⟨⟨h1, h2⟩, h3⟩, h4⟩ := h
    unfold numV
    rw [atoi_dig h2 h1 h4]
    have e : Lib.itoa (dval s.data.toList : Int) = s.data.toList := by
      rw [itoa_dig]
      refine dec_dval (s.data.toList.length - 1) _ (by omega) h4 ?_
      by_cases hl : 1 < s.data.toList.length
      · exact .inr (h3 hl)
      · exact .inl (by omega)
    show (if s.size ≤ 13 ∧ 0 ≤ (dval s.data.toList : Int) ∧ Lib.itoa (dval s.data.toList : Int) = s.data.toList then some (dval s.data.toList : Int).toNat else none) = _
    rw [if_pos ⟨by omega, by omega, e⟩, Int.toNat_natCast]
  · next h =>
    cases hn : numV s with
    | none => rfl
    | some k =>
      exfalso
      apply h
      unfold numV at hn
      split at hn
      · next v hv =>
        split at hn
        · next hc =>
          obtain ⟨h1, h2, h3⟩ := hc
          obtain ⟨m, rfl⟩ : ∃ m : Nat, v = m := ⟨v.toNat, (Int.toNat_of_nonneg h2).symm⟩
          rw [itoa_dig] at h3
          unfold digOk
          simp only [Bool.and_eq_true, decide_eq_true_eq, List.all_eq_true, Bool.not_eq_true', Bool.and_eq_false_imp, beq_eq_false_iff_ne]
          refine ⟨⟨⟨?_, by omega⟩, fun hl => ?_⟩, ?_⟩
          · rw [← h3]
            exact List.length_pos_iff.2 (decDigits_ne m)
          · rw [← h3] at hl ⊢
            exact head_dec m (len_dec m hl)
          · rw [← h3]; exact decDigits_dig m
        · cases hn
      · cases hn
/-- The numeral of a number that is not too great is read as that number. -/
theorem dec_len_le {u k : Nat} (h : u < 10 ^ k) (hk : 1 ≤ k) : (Lib.decDigits u).length ≤ k := by
  induction k generalizing u with
  | zero => omega
  | succ k ih =>
    rw [Lib.decDigits]
    split
    · simp
    · next hu =>
      have hk1 : 1 ≤ k := by
        cases k with
        | zero => simp at h; omega
        | succ k => omega
      have := ih (u := u / 10) (by rw [Nat.pow_succ] at h; omega) hk1
      rw [List.length_append, List.length_singleton]
      omega
theorem numV_itoa_back (k : Nat) (h : k < 10000000000000) : numV ⟨(Lib.itoa (k : Int)).toArray⟩ = some k := by
  rw [numV_dig, itoa_dig]
  have hl := dec_len_le (u := k) (k := 13) (by have : (10 : Nat) ^ 13 = 10000000000000 := by decide
                                               omega) (by decide)
  have h1 := List.length_pos_iff.2 (decDigits_ne k)
  have hd := decDigits_dig k
  have hok : digOk (Lib.decDigits k) = true := by
    unfold digOk
    simp only [Bool.and_eq_true, decide_eq_true_eq, List.all_eq_true, Bool.not_eq_true', Bool.and_eq_false_imp, beq_eq_false_iff_ne]
    exact ⟨⟨⟨h1, hl⟩, fun hh => head_dec k (len_dec k hh)⟩, hd⟩
  show (if digOk (Lib.decDigits k).toArray.toList = true then some (dval (Lib.decDigits k).toArray.toList) else none) = _
  rw [List.toList_toArray, if_pos hok, dval_dec]
end Go.Proofs.YtakjbjokekbmbaaGreatDoor

/- Plain: what is written is read as it was. -/
namespace Go.Proofs.YtakjbjokekbmbaaGreatDoor
open Go.RowKit
set_option linter.unusedVariables false

def wordA : W1 → ByteArray
  | .str s => s
  | .num n => ⟨(Lib.itoa n).toArray⟩
theorem wordA_B (x : W1) : (wordA x).data.toList = wordB x := by cases x <;> simp [wordA, wordB]
def mkLine (ws : List W1) : ByteArray := ⟨(interL 32 (ws.map wordB)).toArray⟩
theorem mkLine_data (ws : List W1) : (mkLine ws).data.toList = interL 32 (ws.map wordB) := by simp [mkLine]
theorem lineB_mk (ws : List W1) (h1 : 1 ≤ ws.length) (h5 : ws.length ≤ 5) : lineB ws = (mkLine ws).data.toList ++ [10] := by
  rw [mkLine_data]
  match ws, h1, h5 with
  | [a], _, _ => rw [line1]; simp [interL]
  | [a, b], _, _ => rw [line2]; simp [interL]
  | [a, b, c], _, _ => rw [line3]; simp [interL]
  | [a, b, c, d], _, _ => rw [line4]; simp [interL]
  | [a, b, c, d, e], _, _ => rw [line5]; simp [interL]
theorem map_data_inj : ∀ {a b : List ByteArray}, a.map (·.data.toList) = b.map (·.data.toList) → a = b
  | [], [], _ => rfl
  | [], _ :: _, h => by cases h
  | _ :: _, [], h => by cases h
  | x :: a, y :: b, h => by
    rw [List.map_cons, List.map_cons] at h
    obtain ⟨h1, h2⟩ := List.cons.inj h
    rw [bytes_ext h1, map_data_inj h2]
def Clean (b : UInt8) (ws : List W1) : Prop := ∀ x ∈ ws, b ∉ wordB x
theorem lineW_mk {ws : List W1} (h1 : ws ≠ []) (h : Clean 32 ws) : lineW (mkLine ws) = ws.map wordA := by
  refine map_data_inj ?_
  unfold lineW
  rw [pieces_cut, mkLine_data, cut_inter 32 _ (by simpa using h1) (fun p hp => by obtain ⟨x, hx, rfl⟩ := List.mem_map.1 hp; exact h x hx), List.map_map]
  exact List.map_congr_left (fun x _ => (wordA_B x).symm)
theorem inter_no (c b : UInt8) (hcb : b ≠ c) : ∀ ps : List (List UInt8), (∀ p ∈ ps, b ∉ p) → b ∉ interL c ps
  | [], _ => by simp [interL]
  | [p], h => h p (by simp)
  | p :: q :: ps, h => by
    have := inter_no c b hcb (q :: ps) (fun x hx => h x (List.mem_cons_of_mem _ hx))
    rw [inter_cons c p (by simp), List.mem_append, List.mem_cons]
    rintro (h1 | h1 | h1)
    · exact h p (by simp) h1
    · exact hcb h1
    · exact this h1
theorem mkLine_no {ws : List W1} (h : Clean 10 ws) : 10 ∉ (mkLine ws).data.toList := by
  rw [mkLine_data]
  exact inter_no 32 10 (by decide) _ (fun p hp => by obtain ⟨x, hx, rfl⟩ := List.mem_map.1 hp; exact h x hx)

theorem lineR_to {st : RdS} {s w0 : ByteArray} {ts : List ByteArray} {k : Nat} {fs : ByteArray} {n : List Int} (hl : lineW s = w0 :: ts) (hk : formOf w0 = some (k, fs)) (hlen : ts.length = fs.size) (hr : rightB st.stage k = true)
    (hu : wordsUp (lastE st.c.ents).points fs.data.toList ts fs.size = some (n, false)) : lineR st s = (0, ⟨takeC k (ts.getD 0 ByteArray.empty) n st.c, (k : Int)⟩) := by
  have hh : lineHd s = w0 := by unfold lineHd; rw [hl]; rfl
  have h1 : formOk w0 = true := by unfold formOk; rw [hk]; rfl
  have h2 : formStage w0 = k := by unfold formStage; rw [hk]; rfl
  have h3 : formWords w0 = fs := by unfold formWords; rw [hk]; rfl
  have hf : lineFits st s = true := by
    unfold lineFits
    rw [hh, h1, h2, h3, hr, hl, List.length_cons, Nat.add_sub_cancel, hlen]
    simp
  have hres : lineRes st s = some (n, false) := by
    unfold lineRes
    rw [hh, h3, hl]
    exact hu
  unfold lineR
  rw [if_pos hf, hres, hh, h2, hl]
  rfl
theorem up_step {pts : List ByteArray} {fs : List UInt8} {ts : List ByteArray} {k : Nat} {p q : List Int × Bool} (h : wordsUp pts fs ts k = some p) (h2 : wordStep pts (fs.getD k 0) (ts.getD k ByteArray.empty) p = some q) : wordsUp pts fs ts (k + 1) = some q := by
  show (match wordsUp pts fs ts k with | none => none | some p => wordStep pts (fs.getD k 0) (ts.getD k ByteArray.empty) p) = some q
  rw [h]; exact h2
theorem to_n {pts : List ByteArray} {t : ByteArray} {p : List Int × Bool} {k : Nat} (h : numV t = some k) : wordStep pts 110 t p = some (p.1 ++ [(k : Int)], p.2) := by
  unfold wordStep
  rw [if_pos rfl, h]
theorem to_p {pts : List ByteArray} {t : ByteArray} {p : List Int × Bool} {i : Int} (h : idxS pts t = i) (h0 : 0 ≤ i) (ht : t.size ≠ 0) : wordStep pts 112 t p = some (p.1 ++ [i], p.2) := by
  unfold wordStep
  rw [if_neg (by decide), if_neg ht, if_pos rfl, h, decide_eq_false (by omega), Bool.or_false]
theorem to_s {pts : List ByteArray} {t : ByteArray} {p : List Int × Bool} (ht : t.size ≠ 0) : wordStep pts 115 t p = some p := by
  unfold wordStep
  rw [if_neg (by decide), if_neg ht, if_neg (by decide)]

/-! ### A right entity -/
structure EntFine (E : EntV) : Prop where
  good : EntGood E
  name : isNameB E.name = true
  pts : ∀ s ∈ E.points, isNameB s = true
  dis : ∀ (i j : Nat) (hi : i < E.points.length) (hj : j < E.points.length), j < i → E.points[j] ≠ E.points[i]
  cmm : E.count = -1 → E.mn = 0 ∧ E.mx = 0
  cnt : E.count = -1 ∨ (0 ≤ E.count ∧ E.count < (E.points.length : Int))
theorem nameB_no {s : ByteArray} (h : isNameB s = true) (b : UInt8) (hb : b.toNat < 45) : b ∉ s.data.toList := by
  intro hm
  obtain ⟨i, hi, he⟩ := List.mem_iff_getElem.1 hm
  have hi' : i < s.size := by rw [Array.length_toList] at hi; exact hi
  by_cases hk : okN i s[i] = true
  · have : s[i] = b := by rw [← he]; rfl
    rw [this] at hk
    simp only [okN, decide_eq_true_eq] at hk
    omega
  · rw [isNameB_bad i hi' (by simpa using hk)] at h
    cases h
theorem nameB_pos {s : ByteArray} (h : isNameB s = true) : s.size ≠ 0 := by
  intro h0
  rw [isNameB_short (by omega)] at h
  cases h
theorem ptsE_zero {P : List ByteArray} (h : ptsE P = 0) : ∀ j, j < P.length → ptE P j = 0 := by
  have hall : ∀ n, ∀ j, j < n → j < P.length → ptE P j = 0 := by
    intro n
    induction n with
    | zero => intro j h1; omega
    | succ n ih =>
      intro j h1 h2
      by_cases hj : j < n
      · exact ih j hj h2
      · obtain rfl : j = n := by omega
        by_cases hz : ptE P j = 0
        · exact hz
        · rw [ptsE_hit h2 hz (fun i hi => ih i hi (by omega))] at h
          exact h
  exact fun j hj => hall (j + 1) j (by omega) hj
theorem fine_of {ah : List ByteArray} {E : EntV} (h : entErr ah E = 0) : EntFine E := by
  have hg := good_of h
  have h1 : isNameB E.name = true := by
    cases hh : isNameB E.name
    · rw [entErr_name hh] at h; cases h
    · rfl
  have h2 : hasStr ah E.name = false := by
    cases hh : hasStr ah E.name
    · rfl
    · rw [entErr_exist h1 hh] at h; cases h
  have h3 : boundB E = false := by
    cases hh : boundB E
    · rfl
    · rw [entErr_bound h1 h2 hh] at h; cases h
  have h4 : ptsE E.points = 0 := by
    by_cases hh : ptsE E.points = 0
    · exact hh
    · rw [entErr_pts h1 h2 h3 hh] at h; exact h
  rw [entErr_tail' h1 h2 h3 h4] at h
  have hr := tail_rules h
  have r0 := hr 0 (by decide)
  have r1 := hr 1 (by decide)
  simp only [ruleB] at r0 r1
  unfold strangP at r0
  rw [Bool.or_eq_false_iff] at r0
  have s2 := r0.1
  simp only [cntW, cmmW, decide_eq_false_iff_not] at s2 r1
  refine ⟨hg, h1, ptsE_names h4, fun i j hi hj hji he => ?_, fun hc => ⟨?_, ?_⟩, by omega⟩
  · have hz := ptsE_zero h4 i hi
    have hn : isNameB E.points[i] = true := ptsE_names h4 _ (List.getElem_mem hi)
    have : ptE E.points i = 6 := ptE_twice hi hn (hasStr_hit j (by rw [List.length_take]; omega) (by rw [List.getElem_take, he]))
    omega
  · by_cases hh : E.mn = 0
    · exact hh
    · exact absurd ⟨hc, .inl hh⟩ r1
  · by_cases hh : E.mx = 0
    · exact hh
    · exact absurd ⟨hc, .inr hh⟩ r1
theorem idx_name {E : EntV} (h : EntFine E) {k : Int} (h0 : 0 ≤ k) (hk : k < (E.points.length : Int)) : idxS E.points (nameAt E k) = k ∧ isNameB (nameAt E k) = true := by
  obtain ⟨n, rfl⟩ : ∃ n : Nat, k = n := ⟨k.toNat, (Int.toNat_of_nonneg h0).symm⟩
  have hn : n < E.points.length := by omega
  have e : nameAt E (n : Int) = E.points[n] := by
    unfold nameAt
    rw [Int.toNat_natCast, List.getD_eq_getElem?_getD, List.getElem?_eq_getElem hn]; rfl
  rw [e]
  refine ⟨sidxOf_hit hn rfl (fun j hj hjn hh => ?_), h.pts _ (List.getElem_mem hn)⟩
  refine h.dis n j hn hj hjn ?_
  rw [ByteArray.toList_eq, ByteArray.toList_eq] at hh
  exact bytes_ext hh
theorem num_clean (n : Int) (h : 0 ≤ n) (b : UInt8) (hb : b.toNat < 45) : b ∉ wordB (.num n) := by
  obtain ⟨m, rfl⟩ : ∃ m : Nat, n = m := ⟨n.toNat, (Int.toNat_of_nonneg h).symm⟩
  show b ∉ Lib.itoa (m : Int)
  rw [itoa_dig]
  intro hm
  have := decDigits_dig m b hm
  simp only [isDig, decide_eq_true_eq] at this
  omega
theorem num_back {n : Int} (h : 0 ≤ n) (h2 : n ≤ 1099511627776) : ∃ k : Nat, n = k ∧ numV (wordA (.num n)) = some k := by
  obtain ⟨m, rfl⟩ : ∃ m : Nat, n = m := ⟨n.toNat, (Int.toNat_of_nonneg h).symm⟩
  exact ⟨m, rfl, numV_itoa_back m (by omega)⟩
/-- Words that are names or numbers of naught and more. -/
def WordFine : W1 → Prop
  | .str s => isNameB s = true ∨ s ∈ [winB, cycB, delB, entB, pntB, cntB, gapB, edgB, fstB, lstB]
  | .num n => 0 ≤ n
theorem fine_clean {ws : List W1} (h : ∀ x ∈ ws, WordFine x) (b : UInt8) (hb : b.toNat < 45) : Clean b ws := by
  intro x hx
  have := h x hx
  cases x with
  | num n => exact num_clean n this b hb
  | str s =>
    rcases this with h1 | h1
    · exact nameB_no h1 b hb
    · have hall : ∀ s ∈ [winB, cycB, delB, entB, pntB, cntB, gapB, edgB, fstB, lstB], ∀ c ∈ s.data.toList, 45 ≤ c.toNat := by decide
      intro hm
      have := hall s h1 b hm
      omega

/-! ### Lines, one behind the other -/
def runL (st : RdS) : List ByteArray → Option RdS
  | [] => some st
  | s :: l => if (lineR st s).1 = 0 then runL (lineR st s).2 l else none
theorem runL_app (st : RdS) (a b : List ByteArray) {st' : RdS} (h : runL st a = some st') : runL st (a ++ b) = runL st' b := by
  induction a generalizing st with
  | nil => obtain rfl := Option.some.inj h; rfl
  | cons s a ih =>
    simp only [runL, List.cons_append] at h ⊢
    split at h
    · next hz => rw [if_pos hz]; exact ih _ h
    · cases h
theorem runL_one {st st' : RdS} {s : ByteArray} (h : lineR st s = (0, st')) : runL st [s] = some st' := by simp [runL, h]
theorem runL_cons {st st1 st' : RdS} {s : ByteArray} {l : List ByteArray} (h : lineR st s = (0, st1)) (h2 : runL st1 l = some st') : runL st (s :: l) = some st' := by simp [runL, h, h2]
end Go.Proofs.YtakjbjokekbmbaaGreatDoor

/- Plain: a right config, part by part. -/
namespace Go.Proofs.YtakjbjokekbmbaaGreatDoor
open Go.RowKit
set_option linter.unusedVariables false

theorem entsF_zero {L : List EntV} (h : entsF L = (0, -1)) : ∀ j, j < L.length → entAt L j = 0 := by
  intro j hj
  unfold entsF at h
  split at h
  · next i hi =>
    have := (Prod.mk.inj h).2
    omega
  · next hn =>
    rw [List.find?_range_eq_none] at hn
    simpa using hn j hj
theorem confF_parts {C : ConfV} (h : confF C = (0, -1)) : boundC C = false ∧ ¬ C.opn < C.cycle ∧ ∀ j, j < C.ents.length → entAt C.ents j = 0 := by
  unfold confF at h
  split at h
  · cases h
  split at h
  · cases h
  next h1 h2 => exact ⟨by simpa using h1, h2, entsF_zero h⟩
end Go.Proofs.YtakjbjokekbmbaaGreatDoor
