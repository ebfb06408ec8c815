/- Package conf: number. -/
import Derived.Test.YtgdaljpimblkgaaGreatDoorR02
import Derived.Lib.AtoiAllCases
import Derived.Lib.AtoiErrMem
import Derived.Deep.DeepCutAuto
import Derived.Test.YtgdaljpimblkgaaGreatDoorR01
import Derived.Test.YtgdaljpimblkgaaGreatDoorShelf
import Derived.Shelf.Strings.SplitCore
import Derived.Lib.SplitLaws
import Derived.Lib.IndexLaws
namespace Go.Proofs.YtgdaljpimblkgaaGreatDoor
open Go.RowKit
set_option linter.unusedVariables false

/-- The number that a word spells as it is written. -/
def numV (s : ByteArray) : Option Nat :=
  match Lib.atoiAll s.data.toList with
  | .ok v => if s.size ≤ 13 ∧ 0 ≤ v ∧ Lib.itoa v = s.data.toList then some v.toNat else none
  | _ => none
/-- What a number is read by: the table, the two errors of package strconv. -/
structure NumB (B : Nat) (w : World) : Prop where
  tab : TabB B w
  es : ∃ t p, w.cell? ⟨16, 0, none⟩ = some (.iface t p)
  er : ∃ t p, w.cell? ⟨17, 0, none⟩ = some (.iface t p)
  low : 16 < B ∧ 17 < B
theorem NumB.below {B C : Nat} {w w' : World} (h : NumB B w) (b : Below C w w') (hC : B ≤ C) : NumB B w' := by
  obtain ⟨t, p, h1⟩ := h.es
  obtain ⟨t', p', h2⟩ := h.er
  have hl := h.low
  exact ⟨h.tab.low b hC, ⟨t, p, by rw [b.cell (p := ⟨16, 0, none⟩) (show 16 < C by omega)]; exact h1⟩, ⟨t', p', by rw [b.cell (p := ⟨17, 0, none⟩) (show 17 < C by omega)]; exact h2⟩, hl⟩

set_option maxHeartbeats 2000000 in
theorem number_any (B : Nat) (s : ByteArray) (hs : s.size ≤ 100000) (w : World) (hN : NumB B w) (hB : B ≤ w.heap.size) :
    Calls Tryz.prog 52 #[.string s] w fun e w' => ∃ n, e = .returned (.tuple #[.int .i64 n, .bool (numV s).isSome]) ∧ (∀ k, numV s = some k → n = k) ∧ Below w.heap.size w w' := by
  have HN := Lib.hid hN
  have HB := Lib.hid hB
  cases hA : Lib.atoiAll s.data.toList
  case ok v =>
    obtain ⟨b0, b1⟩ := Lib.atoiAll_bounds hA
    have HC := Lib.hid (Tryz.strconv_Atoi_ok s (by omega) v hA w)
    have HNV := Lib.hid (show numV s = if s.size ≤ 13 ∧ 0 ≤ v ∧ Lib.itoa v = s.data.toList then some v.toNat else none from by unfold numV; rw [hA])
    have HIT := Lib.hid (fun W (hW : Below w.heap.size w W) => itoa_any B v W ((hN.below hW hB).tab) b0 b1)
    clear hA hN b0 b1 hB hs
    go_enter Tryz.func52, Tryz.ntmps52
    go_wp2_with fail
    refine HC.out.mono ?_
    rintro e w1 ⟨rfl, hw⟩
    have hb1 : Below w.heap.size w w1 := by
      rcases hw with rfl | ⟨t, rfl⟩
      · exact Below.refl _ _
      · exact Lib.bytesWorld_below _ _ _
    clear hw HC
    have HI := Lib.hid (HIT.out w1 hb1)
    clear HIT
    by_cases h13 : (s.size : Int) ≤ 13
    · by_cases h0 : 0 ≤ v
      · obtain ⟨z, hz⟩ : ∃ z, (Lib.itoa v == s.toList) = z := ⟨_, rfl⟩
        have HZ := Lib.hid hz
        have H13 := Lib.hid (show s.size ≤ 13 from by omega)
        have H0 := Lib.hid h0
        have hdat : (Lib.itoa v = s.data.toList) ↔ z = true := by
          rw [← HZ.out, beq_iff_eq, ByteArray.toList_eq]
        have HD := Lib.hid hdat
        clear hdat
        have HR : Hid (z = (numV s).isSome) := (show z = (numV s).isSome from by
          rw [HNV.out]
          cases z
          · rw [if_neg (fun hh => by have := HD.out.1 hh.2.2; cases this)]; rfl
          · rw [if_pos ⟨H13.out, H0.out, HD.out.2 rfl⟩]; rfl)
        have HK : Hid (∀ k, numV s = some k → v = k) := (show ∀ k, numV s = some k → v = k from by
          intro k hk
          rw [HNV.out] at hk
          split at hk
          · have := Option.some.inj hk
            have := H0.out
            omega
          · cases hk)
        go_wp2_with fail
        refine HI.out.mono ?_
        rintro e w2 ⟨rfl, b2⟩
        have hb2 := hb1.trans (b2.mono hb1.size)
        go_wp2_with fail
        refine bodyPost_ret (results_tmp2 rfl _ _ _) rfl ?_
        exact ⟨_, by rw [← HR.out]; rfl, HK.out, hb2⟩
      · have HR : Hid (numV s = none) := (show numV s = none from by rw [HNV.out, if_neg (fun hh => h0 hh.2.1)])
        clear HNV
        go_wp2_with fail
        refine bodyPost_ret (results_tmp2 rfl _ _ _) rfl ?_
        exact ⟨_, by rw [HR.out]; rfl, (fun k hk => by rw [HR.out] at hk; cases hk), hb1⟩
    · have HR : Hid (numV s = none) := (show numV s = none from by rw [HNV.out, if_neg (fun hh => h13 (by omega))])
      clear HNV
      go_wp2_with fail
      refine bodyPost_ret (results_tmp2 rfl _ _ _) rfl ?_
      exact ⟨_, by rw [HR.out]; rfl, (fun k hk => by rw [HR.out] at hk; cases hk), hb1⟩
  case range =>
    obtain ⟨t, p, her⟩ := hN.er
    have HR : Hid (numV s = none) := (show numV s = none from by unfold numV; rw [hA])
    have HC := Lib.hid (Tryz.strconv_Atoi_range s (by omega) hA (.iface t p) w her (.inr ⟨_, _, rfl⟩))
    clear hA hN her hB hs
    go_enter Tryz.func52, Tryz.ntmps52
    go_wp2_with fail
    refine HC.out.mono ?_
    rintro e w1 ⟨N, rfl, _, _, hb1⟩
    clear HC
    go_wp2_with fail
    refine bodyPost_ret (results_tmp2 rfl _ _ _) rfl ?_
    exact ⟨_, by rw [HR.out]; rfl, (fun k hk => by rw [HR.out] at hk; cases hk), hb1⟩
  all_goals
    obtain ⟨t, p, hes⟩ := hN.es
    have HR : Hid (numV s = none) := (show numV s = none from by unfold numV; rw [hA])
    have HC := Lib.hid (Tryz.strconv_Atoi_bad s (by omega) (fun v hv => by rw [hA] at hv; cases hv) (fun hv => by rw [hA] at hv; cases hv) (.iface t p) w hes (.inr ⟨_, _, rfl⟩))
    clear hA hN hes hB hs
    go_enter Tryz.func52, Tryz.ntmps52
    go_wp2_with fail
    refine HC.out.mono ?_
    rintro e w1 ⟨N, rfl, _, _, hb1⟩
    clear HC
    go_wp2_with fail
    refine bodyPost_ret (results_tmp2 rfl _ _ _) rfl ?_
    exact ⟨_, by rw [HR.out]; rfl, (fun k hk => by rw [HR.out] at hk; cases hk), hb1⟩
end Go.Proofs.YtgdaljpimblkgaaGreatDoor

/- strings.Split at a separator of one byte. -/
namespace Go.Proofs.YtgdaljpimblkgaaGreatDoor
open Go.RowKit
set_option linter.unusedVariables false

def piecesB (c : UInt8) (s : ByteArray) : List ByteArray := Lib.splitB ⟨#[c]⟩ 0 (Lib.countB s ⟨#[c]⟩) s
theorem pieces_len (c : UInt8) (s : ByteArray) : (piecesB c s).length = Lib.countB s ⟨#[c]⟩ + 1 := Lib.splitB_all ⟨#[c]⟩ (Nat.le_refl 1) 0 _ s rfl
theorem genSplit_one (s : ByteArray) (c : UInt8) (w : World) (hs : s.size < 4294967281) :
    Calls Tryz.prog 48 #[.string s, .string ⟨#[c]⟩, .int .i64 0, .int .i64 (-1)] w fun e w' =>
      e = .returned (.slice (some ⟨w.heap.size, 0, none⟩) (piecesB c s).length (piecesB c s).length) ∧ w' = w.alloc (.cells ((piecesB c s).map Value.string).toArray 9) := by
  have hle := Lib.countB_le ⟨#[c]⟩ (Nat.le_refl 1) s.size s (Nat.le_refl _)
  have hl := pieces_len c s
  have k := Any.strings_genSplit_core Tryz.lays221 (by kernel_rfl) s ⟨#[c]⟩ 0 (-1) (Lib.countB s ⟨#[c]⟩ + 1) w hs (Nat.le_refl 1) (Nat.zero_le _)
    (fun x cc hx => (Tryz.strings_Index_one x c _).mono fun e w' ⟨he, hw⟩ => ⟨by rw [he]; show _ = Ending.returned (Value.int .i64 (Lib.index x.data.toList [c])); rw [Lib.index_one], hw⟩)
    ((Tryz.strings_Count_one s c w).mono fun e w' ⟨he, hw⟩ => ⟨by
      rw [he]
      show _ = Ending.returned (Value.int .i64 ((Lib.count s.data.toList [c] : Nat) : Int))
      rw [Lib.count_one]
      rfl, hw⟩)
    (by decide) (by decide) (by rw [if_pos (by decide)]; omega)
  rw [Nat.add_sub_cancel, show Lib.splitB ⟨#[c]⟩ 0 (Lib.countB s ⟨#[c]⟩) s = piecesB c s from rfl, ← hl, Lib.cellsOf_full] at k
  exact k
set_option maxHeartbeats 1000000 in
theorem split_one (s : ByteArray) (c : UInt8) (w : World) (hs : s.size < 4294967281) :
    Calls Tryz.prog 27 #[.string s, .string ⟨#[c]⟩] w fun e w' =>
      e = .returned (.slice (some ⟨w.heap.size, 0, none⟩) (piecesB c s).length (piecesB c s).length) ∧ w' = w.alloc (.cells ((piecesB c s).map Value.string).toArray 9) := by
  have HC := Lib.hid (genSplit_one s c w hs)
  obtain ⟨n, hn⟩ : ∃ n, n = (piecesB c s).length := ⟨_, rfl⟩
  rw [← hn] at HC ⊢
  clear hn hs
  go_enter Tryz.func27, Tryz.ntmps27
  go_wp2_with fail
  refine HC.out.mono ?_
  rintro e w1 ⟨rfl, hw⟩
  have HW := Lib.hid hw
  clear hw HC
  go_wp2_with fail
  go_ret
  exact ⟨rfl, HW.out⟩
end Go.Proofs.YtgdaljpimblkgaaGreatDoor

/- Plain: a text cut at a byte, put together again. -/
namespace Go.Proofs.YtgdaljpimblkgaaGreatDoor
open Go.RowKit
set_option linter.unusedVariables false

def cutL (c : UInt8) : List UInt8 → List (List UInt8)
  | [] => [[]]
  | x :: l => if x = c then [] :: cutL c l else match cutL c l with
    | [] => [[x]]
    | h :: t => (x :: h) :: t
def interL (c : UInt8) : List (List UInt8) → List UInt8
  | [] => []
  | [p] => p
  | p :: q :: ps => p ++ c :: interL c (q :: ps)
theorem cut_cons (c x : UInt8) (l : List UInt8) : cutL c (x :: l) = if x = c then [] :: cutL c l else match cutL c l with
    | [] => [[x]]
    | h :: t => (x :: h) :: t := rfl
theorem cut_ne (c : UInt8) : ∀ l, cutL c l ≠ []
  | [] => by simp [cutL]
  | x :: l => by
    unfold cutL
    split
    · simp
    · split <;> simp
theorem cut_miss (c : UInt8) : ∀ l : List UInt8, c ∉ l → cutL c l = [l]
  | [], _ => rfl
  | x :: l, h => by
    have h1 : ¬ x = c := fun e => h (by simp [e])
    have h2 := cut_miss c l (fun e => h (List.mem_cons_of_mem _ e))
    unfold cutL
    rw [if_neg h1, h2]
theorem cut_hit (c : UInt8) (b : List UInt8) : ∀ a : List UInt8, c ∉ a → cutL c (a ++ c :: b) = a :: cutL c b
  | [], _ => by simp [cutL]
  | x :: a, h => by
    have h1 : ¬ x = c := fun e => h (by simp [e])
    have h2 := cut_hit c b a (fun e => h (List.mem_cons_of_mem _ e))
    show cutL c (x :: (a ++ c :: b)) = _
    rw [cut_cons, if_neg h1, h2]
theorem inter_cons (c : UInt8) (p : List UInt8) {ps : List (List UInt8)} (h : ps ≠ []) : interL c (p :: ps) = p ++ c :: interL c ps := by
  cases ps with
  | nil => exact absurd rfl h
  | cons q ps => rfl
theorem inter_cut (c : UInt8) : ∀ l, interL c (cutL c l) = l
  | [] => rfl
  | x :: l => by
    have ih := inter_cut c l
    have hne := cut_ne c l
    unfold cutL
    split
    · next h => rw [inter_cons c [] hne, ih, h]; rfl
    · split
      · next h => exact absurd h hne
      · next h t he =>
        rw [he] at ih
        cases t with
        | nil =>
          show x :: h = x :: l
          rw [show h = l from ih]
        | cons q t =>
          show x :: h ++ c :: interL c (q :: t) = x :: l
          rw [← ih]; rfl
theorem cut_inter (c : UInt8) : ∀ ps : List (List UInt8), ps ≠ [] → (∀ p ∈ ps, c ∉ p) → cutL c (interL c ps) = ps
  | [], h, _ => absurd rfl h
  | [p], _, h => cut_miss c p (h p (List.mem_cons_self ..))
  | p :: q :: ps, _, h => by
    rw [inter_cons c p (by simp), cut_hit c _ p (h p (List.mem_cons_self ..)), cut_inter c (q :: ps) (by simp) (fun x hx => h x (List.mem_cons_of_mem _ hx))]
theorem cut_clean (c : UInt8) : ∀ l, ∀ p ∈ cutL c l, c ∉ p
  | [], p, hp => by simp [cutL] at hp; subst hp; simp
  | x :: l, p, hp => by
    have ih := cut_clean c l
    have hne := cut_ne c l
    unfold cutL at hp
    split at hp
    · rcases List.mem_cons.1 hp with rfl | hp
      · simp
      · exact ih p hp
    · next h =>
      split at hp
      · next he => exact absurd he hne
      · next hd t he =>
        rw [he] at ih
        rcases List.mem_cons.1 hp with rfl | hp
        · have := ih hd (List.mem_cons_self ..)
          simp [this]
          exact fun e => h e.symm
        · exact ih p (List.mem_cons_of_mem _ hp)
theorem splitK_cut (c : UInt8) : ∀ (k : Nat) (l : List UInt8), l.count c = k → Lib.splitK [c] 0 k l = cutL c l
  | 0, l, h => by
    have hm : c ∉ l := List.count_eq_zero.1 h
    rw [cut_miss c l hm]; rfl
  | k + 1, l, h => by
    have hge := Lib.indexByte_ge l c
    by_cases hi : Lib.indexByte l c = -1
    · exfalso
      have hm : c ∈ l := List.count_pos_iff.1 (by omega)
      obtain ⟨j, hj, he⟩ := List.mem_iff_getElem.1 hm
      exact Lib.indexByte_none hi j (by rw [List.getElem?_eq_getElem hj, he])
    · obtain ⟨o, ho⟩ : ∃ o : Nat, Lib.indexByte l c = o := ⟨(Lib.indexByte l c).toNat, by omega⟩
      obtain ⟨h1, h2⟩ := Lib.indexByte_some ho
      have ho2 : o < l.length := (List.getElem?_eq_some_iff.1 h1).1
      have hsplit : l = l.take o ++ c :: l.drop (o + 1) := by
        have : l[o] = c := (List.getElem?_eq_some_iff.1 h1).2
        rw [← this, List.getElem_cons_drop, List.take_append_drop]
      have hno : c ∉ l.take o := by
        intro hm
        obtain ⟨j, hj, he⟩ := List.mem_iff_getElem.1 hm
        rw [List.length_take] at hj
        rw [List.getElem_take] at he
        exact h2 j (by omega) (by rw [List.getElem?_eq_getElem (by omega), he])
      have hcnt : (l.drop (o + 1)).count c = k := by
        have := congrArg (List.count c) hsplit
        rw [List.count_append, List.count_eq_zero.2 hno, List.count_cons_self] at this
        omega
      have e : Lib.splitK [c] 0 (k + 1) l = l.take o :: Lib.splitK [c] 0 k (l.drop (o + 1)) := by
        rw [Lib.splitK]
        rw [Lib.index_one, ho, if_neg (by simp)]
        simp
      rw [e, splitK_cut c k _ hcnt]
      conv => rhs; rw [hsplit]
      rw [cut_hit c _ _ hno]
theorem pieces_cut (c : UInt8) (s : ByteArray) : (piecesB c s).map (·.data.toList) = cutL c s.data.toList := by
  unfold piecesB
  rw [Lib.splitB_data]
  refine splitK_cut c _ _ ?_
  show _ = Lib.count s.data.toList [c]
  rw [Lib.count_one]
end Go.Proofs.YtgdaljpimblkgaaGreatDoor
