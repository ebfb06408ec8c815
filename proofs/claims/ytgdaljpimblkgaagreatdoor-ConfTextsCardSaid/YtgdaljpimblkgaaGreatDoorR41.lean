/- told: the text of a config of three lines. -/
import Derived.Test.YtgdaljpimblkgaaGreatDoorR17
import Derived.Test.YtgdaljpimblkgaaGreatDoorR38
namespace Go.Proofs.YtgdaljpimblkgaaGreatDoor
open Go.RowKit
set_option linter.unusedVariables false
def toldC : ConfV := ⟨1, 2, 1, 0, []⟩
theorem told_head : headB toldC = [119, 105, 110, 100, 111, 119, 32, 49, 32, 50, 10, 99, 121, 99, 108, 101, 32, 49, 10, 100, 101, 108, 97, 121, 32, 48, 10] := by
  have d0 : Lib.itoa 0 = [48] := by rw [show (0 : Int) = ((0 : Nat) : Int) from rfl, Lib.itoa_nonneg, Lib.decDigits_one (by decide)]; rfl
  have d1 : Lib.itoa 1 = [49] := by rw [show (1 : Int) = ((1 : Nat) : Int) from rfl, Lib.itoa_nonneg, Lib.decDigits_one (by decide)]; rfl
  have d2 : Lib.itoa 2 = [50] := by rw [show (2 : Int) = ((2 : Nat) : Int) from rfl, Lib.itoa_nonneg, Lib.decDigits_one (by decide)]; rfl
  simp [headB, headL, toldC, lineB, upB, sepB, wordB, d0, d1, d2, List.range_succ, winB, cycB, delB]
theorem told_fine : confF toldC = (0, -1) := by decide
set_option maxHeartbeats 1000000 in
theorem told_any (B : Nat) (sa : Nat → Addr) (w : World) (hS : SentsC B sa w) (hT : TabB w.heap.size w) :
    Calls Tryz.prog 5 #[] w fun e w' => e = .returned (.bool true) ∧ Below w.heap.size w w' := by
  have HC := Lib.hid (textNil_any B sa toldC w hS hT told_fine rfl ⟨by decide, by decide⟩ ⟨by decide, by decide⟩ ⟨by decide, by decide⟩ ⟨by decide, by decide⟩)
  rw [told_head] at HC
  unfold confCs toldC at HC
  clear hS hT
  go_enter Tryz.func5, Tryz.ntmps5
  go_wp2_with fail
  refine HC.out.mono ?_
  rintro e w2 ⟨rfl, b2⟩
  go_wp2_with fail
  go_ret
  exact ⟨rfl, b2⟩
end Go.Proofs.YtgdaljpimblkgaaGreatDoor

/- ConfTwice walked, the text's contract given. -/
namespace Go.Proofs.YtgdaljpimblkgaaGreatDoor
open Go.RowKit
set_option linter.unusedVariables false

theorem tab_up {B C : Nat} {w : World} (h : TabB B w) (hC : B ≤ C) : TabB C w := fun W hW => h W (hW.mono hC)
theorem good_size {st : RdS} {s : ByteArray} (h : (lineR st s).1 = 0) : 4 ≤ s.size := by
  obtain ⟨hf, n, hr, e⟩ := lineR_ok (st := st) (s := s) (st' := (lineR st s).2) (Prod.ext h rfl)
  obtain ⟨p, hp, ts, hl, hh, hlen, _⟩ := line_fit hf
  have hj := line_join s
  rw [hl] at hj
  have hall : ∀ p ∈ formL, 3 ≤ p.1.size ∧ 1 ≤ p.2.2.size := by decide
  obtain ⟨h3, h1⟩ := hall p hp
  have h2 := congrArg List.length hj
  rw [List.map_cons, inter_cons 32 _ (by intro e; have := congrArg List.length e; simp at this; rw [this] at hlen; simp at hlen; omega), List.length_append, List.length_cons] at h2
  have e1 : p.1.data.toList.length = p.1.size := by rw [Array.length_toList]; rfl
  have e2 : s.data.toList.length = s.size := by rw [Array.length_toList]; rfl
  omega
theorem flat_five (ls : List ByteArray) : ∀ k, k ≤ ls.length → (∀ j, j < k → lineAt ls j = 0) → 5 * k ≤ ((ls.take k).flatMap (fun s => s.data.toList ++ [10])).length
  | 0, _, _ => Nat.zero_le _
  | k + 1, hk, h => by
    have ih := flat_five ls k (by omega) (fun j hj => h j (by omega))
    have h0 := h k (by omega)
    unfold lineAt at h0
    have hg := good_size h0
    rw [List.getD_eq_getElem?_getD, List.getElem?_eq_getElem (by omega)] at hg
    have hg : 4 ≤ (ls[k]'(by omega)).size := hg
    rw [List.take_succ_eq_append_getElem (by omega), List.flatMap_append, List.flatMap_singleton, List.length_append, List.length_append]
    have e1 : (ls[k]'(by omega)).data.toList.length = (ls[k]'(by omega)).size := by rw [Array.length_toList]; rfl
    have e3 : ([10] : List UInt8).length = 1 := rfl
    omega
theorem flat_le (ls : List ByteArray) (k : Nat) : ((ls.take k).flatMap (fun s => s.data.toList ++ [10])).length ≤ (ls.flatMap (fun s => s.data.toList ++ [10])).length := by
  conv => rhs; rw [← List.take_append_drop k ls]
  rw [List.flatMap_append, List.length_append]
  omega
theorem lines_count {s : ByteArray} {k : Nat} (hk : k ≤ (textLines s).length) (h : ∀ j, j < k → lineAt (textLines s) j = 0) : 5 * k ≤ s.size + 1 := by
  have h1 := flat_five _ k hk h
  have h2 := flat_le (textLines s) k
  by_cases hne : textLines s = []
  · rw [hne] at hk; simp at hk; omega
  · have hcut : textLines s = piecesB 10 (textCut s) := by
      unfold textLines at hne ⊢
      split at hne
      · exact absurd rfl hne
      · next h0 => rw [if_neg h0]
    have e2 := flat_inter 10 ((textLines s).map (·.data.toList)) (by simpa using hne)
    rw [List.flatMap_map] at e2
    have e5 : ((textLines s).flatMap (fun s => s.data.toList ++ [10])).length = (textCut s).size + 1 := by
      rw [e2, hcut, pieces_cut, inter_cut, List.length_append, Array.length_toList]
      rfl
    have h3 := textCut_size s
    omega
theorem entsF_code {L : List EntV} (h : (entsF L).1 = 0) : entsF L = (0, -1) := by
  unfold entsF at h ⊢
  split
  · next i hi =>
    exfalso
    have h1 := List.find?_some hi
    rw [hi] at h
    have : entAt L i = 0 := h
    rw [this] at h1
    simp at h1
  · rfl
theorem confF_code {C : ConfV} (h : (confF C).1 = 0) : confF C = (0, -1) := by
  unfold confF at h ⊢
  split at h
  · cases h
  · next h1 =>
    rw [if_neg h1]
    split at h
    · cases h
    · next h2 => rw [if_neg h2]; exact entsF_code h
theorem linesF_code {L : List ByteArray} (h : (linesF L).1 = 0) : linesF L = (0, -1) := by
  unfold linesF at h ⊢
  split
  · next i hi =>
    exfalso
    have h1 := List.find?_some hi
    rw [hi] at h
    have : lineAt L i = 0 := h
    rw [this] at h1
    simp at h1
  · rfl
/-- What a good text tells. -/
theorem readF_good {s : ByteArray} (h : (readF s).2.1 = 0) : ∃ C, readF s = (C, (0, -1)) ∧ confF C = (0, -1) ∧ textB C = (textCut s).data.toList ++ [10] := by
  unfold readF at h ⊢
  split at h
  · cases h
  next h8 =>
  rw [if_neg h8]
  split at h
  · next hl => exact absurd h hl
  next hl =>
  rw [if_neg hl]
  split at h
  · cases h
  next hst =>
  rw [if_neg hst]
  split at h
  · next hc => exact absurd h hc
  next hc =>
  rw [if_neg hc]
  have hl0 : (linesF (textLines s)).1 = 0 := by omega
  exact ⟨_, rfl, confF_code (by omega), twice_law h8 hl0 hst⟩
theorem cut_back (s : ByteArray) : (textCut s).data.toList ++ [10] = s.data.toList ∨ (textCut s).data.toList ++ [10] = s.data.toList ++ [10] := by
  unfold textCut
  have hsz : s.data.toList.length = s.size := by rw [Array.length_toList]; rfl
  by_cases h : s.data.toList.getLast? = some 10
  · left
    have hne : s.data.toList ≠ [] := by intro e; rw [e] at h; cases h
    have hg : s.data.toList.getLast hne = 10 := by rw [List.getLast?_eq_some_getLast hne] at h; exact Option.some.inj h
    have hd := List.dropLast_concat_getLast hne
    rw [hg] at hd
    rw [if_pos h, ByteArray.data_extract, Array.toList_extract, List.extract_eq_take_drop, List.drop_zero, Nat.sub_zero]
    rw [List.dropLast_eq_take, hsz] at hd
    exact hd
  · right
    rw [if_neg h]

end Go.Proofs.YtgdaljpimblkgaaGreatDoor
