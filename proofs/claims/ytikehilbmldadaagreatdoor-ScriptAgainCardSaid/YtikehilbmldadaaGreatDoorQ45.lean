import Derived.Test.YtikehilbmldadaaGreatDoorQ22
import Derived.Test.YtikehilbmldadaaGreatDoorQ15
import Derived.Test.YtikehilbmldadaaGreatDoorQ29
import Derived.Test.YtikehilbmldadaaGreatDoorQ41
import Derived.Test.YtikehilbmldadaaGreatDoorQ44
import Derived.Test.YtikehilbmldadaaGreatDoorQ27
import Derived.Test.YtikehilbmldadaaGreatDoorQ31
import Derived.Test.YtikehilbmldadaaGreatDoorQ40
namespace Go.Proofs.YtikehilbmldadaaGreatDoor
open Go.RowKit
set_option linter.unusedVariables false
def blank : CM := ⟨List.replicate 4096 0, false, -1, 0⟩
theorem blank_len : blank.bs.length = 4096 := by show (List.replicate 4096 (0 : UInt8)).length = _; rw [List.length_replicate]
theorem blank_recs : recsOf blank.bs = [] := recs_zero 4096 (by decide)
theorem blank_inv : RInv blank.bs [] := rinv_zero 4096 (by decide)
theorem cellsNew_blank (w : World) : Calls Tryz.prog 37 #[.int .i64 4096] w fun e w' => ∃ c rb cap, e = .returned (.tuple #[.pointer (some ⟨c, 0, none⟩), .nilIface]) ∧ CellsAt w' c rb (some ⟨rb, 0, none⟩) cap blank ∧ (w.heap.size ≤ c ∧ w.heap.size ≤ rb) ∧ Below w.heap.size w w' := by
  refine (cellsNew_in 4096 w (Nat.le_refl _)).mono ?_
  rintro e w' ⟨rfl, h1, h2⟩
  exact ⟨_, _, _, rfl, h1, ⟨by omega, Nat.le_refl _⟩, h2⟩
def dog0 (C : ConfV) : DogM := ⟨C.closed, C.opn, 0, 0, false, 0⟩
def txtOf (C : ConfV) : ByteArray := ⟨(textB C).toArray⟩
def kp0 (C : ConfV) : KpM := kpOpen C (dog0 C) blank
theorem kp0_ok {C : ConfV} (hC : confF C = (0, -1)) : KpOk (kp0 C) 0 := by
  have hb := boundC_parts (confF_parts hC).1
  refine kpOpen_ok (confF_parts hC).1 (fun E hE => good_light (conf_good hC E hE)) ⟨hb.1, hb.2.1, hb.2.2.1, hb.2.2.2.1, ?_, ?_, ?_, ?_, ?_⟩ ?_ ?_ ⟨neg1_le.1, neg1_le.2, ?_, ?_⟩ blank_len blank_inv ?_ ?_
  all_goals (first | exact Int.le_refl (0 : Int) | (show (0 : Int) ≤ (1099511627776 : Int); omega) | (show (0 : Int) ≤ (1000000 : Int); omega) | (show (0 : Nat) ≤ _; omega) | decide)
theorem good_size {st : RdS} {s : ByteArray} (h : (lineR st s).1 = 0) : 4 ≤ s.size := by
  obtain ⟨hf, n, hr, e⟩ := lineR_ok (st := st) (s := s) (st' := (lineR st s).2) (Prod.ext h rfl)
  obtain ⟨p, hp, ts, hl, hh, hlen, _⟩ := line_fit hf
  have hj := line_join s
  rw [hl] at hj
  have hall : ∀ p ∈ formL, 3 ≤ p.1.size ∧ 1 ≤ p.2.2.size := by decide
  obtain ⟨h3, h1⟩ := hall p hp
  have h2 := congrArg List.length hj
  rw [List.map_cons, inter_cons 32 _ (by intro e; have := congrArg List.length e; simp at this; rw [this] at hlen; simp at hlen; omega), List.length_append, List.length_cons] at h2
  have e1 : p.1.data.toList.length = p.1.size := by rw [Array.length_toList]; rfl
  have e2 : s.data.toList.length = s.size := by rw [Array.length_toList]; rfl
  omega
theorem flat_five (ls : List ByteArray) : ∀ k, k ≤ ls.length → (∀ j, j < k → lineAt ls j = 0) → 5 * k ≤ ((ls.take k).flatMap (fun s => s.data.toList ++ [10])).length
  | 0, _, _ => Nat.zero_le _
  | k + 1, hk, h => by
    have ih := flat_five ls k (by omega) (fun j hj => h j (by omega))
    have h0 := h k (by omega)
    unfold lineAt at h0
    have hg := good_size h0
    rw [List.getD_eq_getElem?_getD, List.getElem?_eq_getElem (by omega)] at hg
    have hg : 4 ≤ (ls[k]'(by omega)).size := hg
    rw [List.take_succ_eq_append_getElem (by omega), List.flatMap_append, List.flatMap_singleton, List.length_append, List.length_append]
    have e1 : (ls[k]'(by omega)).data.toList.length = (ls[k]'(by omega)).size := by rw [Array.length_toList]; rfl
    have e3 : ([10] : List UInt8).length = 1 := rfl
    omega
theorem flat_le (ls : List ByteArray) (k : Nat) : ((ls.take k).flatMap (fun s => s.data.toList ++ [10])).length ≤ (ls.flatMap (fun s => s.data.toList ++ [10])).length := by
  conv => rhs; rw [← List.take_append_drop k ls]
  rw [List.flatMap_append, List.length_append]
  omega
theorem lines_count {s : ByteArray} {k : Nat} (hk : k ≤ (textLines s).length) (h : ∀ j, j < k → lineAt (textLines s) j = 0) : 5 * k ≤ s.size + 1 := by
  have h1 := flat_five _ k hk h
  have h2 := flat_le (textLines s) k
  by_cases hne : textLines s = []
  · rw [hne] at hk; simp at hk; omega
  · have hcut : textLines s = piecesB 10 (textCut s) := by
      unfold textLines at hne ⊢
      split at hne
      · exact absurd rfl hne
      · next h0 => rw [if_neg h0]
    have e2 := flat_inter 10 ((textLines s).map (·.data.toList)) (by simpa using hne)
    rw [List.flatMap_map] at e2
    have e5 : ((textLines s).flatMap (fun s => s.data.toList ++ [10])).length = (textCut s).size + 1 := by
      rw [e2, hcut, pieces_cut, inter_cut, List.length_append, Array.length_toList]
      rfl
    have h3 := textCut_size s
    omega
theorem entsF_code {L : List EntV} (h : (entsF L).1 = 0) : entsF L = (0, -1) := by
  unfold entsF at h ⊢
  split
  · next i hi =>
    exfalso
    have h1 := List.find?_some hi
    rw [hi] at h
    have : entAt L i = 0 := h
    rw [this] at h1
    simp at h1
  · rfl
theorem confF_code {C : ConfV} (h : (confF C).1 = 0) : confF C = (0, -1) := by
  unfold confF at h ⊢
  split at h
  · cases h
  · next h1 =>
    rw [if_neg h1]
    split at h
    · cases h
    · next h2 => rw [if_neg h2]; exact entsF_code h
theorem readF_good {s : ByteArray} (h : (readF s).2.1 = 0) : ∃ C, readF s = (C, (0, -1)) ∧ confF C = (0, -1) ∧ textB C = (textCut s).data.toList ++ [10] := by
  unfold readF at h ⊢
  split at h
  · cases h
  next h8 =>
  rw [if_neg h8]
  split at h
  · next hl => exact absurd h hl
  next hl =>
  rw [if_neg hl]
  split at h
  · cases h
  next hst =>
  rw [if_neg hst]
  split at h
  · next hc => exact absurd h hc
  next hc =>
  rw [if_neg hc]
  have hl0 : (linesF (textLines s)).1 = 0 := by omega
  exact ⟨_, rfl, confF_code (by omega), twice_law h8 hl0 hst⟩
theorem cut_back (s : ByteArray) : (textCut s).data.toList ++ [10] = s.data.toList ∨ (textCut s).data.toList ++ [10] = s.data.toList ++ [10] := by
  unfold textCut
  have hsz : s.data.toList.length = s.size := by rw [Array.length_toList]; rfl
  by_cases h : s.data.toList.getLast? = some 10
  · left
    have hne : s.data.toList ≠ [] := by intro e; rw [e] at h; cases h
    have hg : s.data.toList.getLast hne = 10 := by rw [List.getLast?_eq_some_getLast hne] at h; exact Option.some.inj h
    have hd := List.dropLast_concat_getLast hne
    rw [hg] at hd
    rw [if_pos h, ByteArray.data_extract, Array.toList_extract, List.extract_eq_take_drop, List.drop_zero, Nat.sub_zero]
    rw [List.dropLast_eq_take, hsz] at hd
    exact hd
  · right
    rw [if_neg h]
end Go.Proofs.YtikehilbmldadaaGreatDoor
