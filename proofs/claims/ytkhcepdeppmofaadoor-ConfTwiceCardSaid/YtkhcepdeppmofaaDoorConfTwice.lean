/- ConfTwice walked, the text's contract given. -/
import Derived.Test.YtkhcepdeppmofaaDoorRead
import Derived.Test.YtkhcepdeppmofaaDoorTold
import Derived.Test.YtkhcepdeppmofaaDoorText2
namespace Go.Proofs.YtkhcepdeppmofaaDoor
open Go.RowKit
set_option linter.unusedVariables false

theorem tab_up {B C : Nat} {w : World} (h : TabB B w) (hC : B ≤ C) : TabB C w := fun W hW => h W (hW.mono hC)
theorem good_size {st : RdS} {s : ByteArray} (h : (lineR st s).1 = 0) : 4 ≤ s.size := by
  obtain ⟨hf, n, hr, e⟩ := lineR_ok (st := st) (s := s) (st' := (lineR st s).2) (Prod.ext h rfl)
  obtain ⟨p, hp, ts, hl, hh, hlen, _⟩ := line_fit hf
  have hj := line_join s
  rw [hl] at hj
  have hall : ∀ p ∈ formL, 3 ≤ p.1.size ∧ 1 ≤ p.2.2.size := by decide
  obtain ⟨h3, h1⟩ := hall p hp
  have h2 := congrArg List.length hj
  rw [List.map_cons, inter_cons 32 _ (by intro e; have := congrArg List.length e; simp at this; rw [this] at hlen; simp at hlen; omega), List.length_append, List.length_cons] at h2
  have e1 : p.1.data.toList.length = p.1.size := by rw [Array.length_toList]; rfl
  have e2 : s.data.toList.length = s.size := by rw [Array.length_toList]; rfl
  omega
theorem flat_five (ls : List ByteArray) : ∀ k, k ≤ ls.length → (∀ j, j < k → lineAt ls j = 0) → 5 * k ≤ ((ls.take k).flatMap (fun s => s.data.toList ++ [10])).length
  | 0, _, _ => Nat.zero_le _
  | k + 1, hk, h => by
    have ih := flat_five ls k (by omega) (fun j hj => h j (by omega))
    have h0 := h k (by omega)
    unfold lineAt at h0
    have hg := good_size h0
    rw [List.getD_eq_getElem?_getD, List.getElem?_eq_getElem (by omega)] at hg
    have hg : 4 ≤ (ls[k]'(by omega)).size := hg
    rw [List.take_succ_eq_append_getElem (by omega), List.flatMap_append, List.flatMap_singleton, List.length_append, List.length_append]
    have e1 : (ls[k]'(by omega)).data.toList.length = (ls[k]'(by omega)).size := by rw [Array.length_toList]; rfl
    have e3 : ([10] : List UInt8).length = 1 := rfl
    omega
theorem flat_le (ls : List ByteArray) (k : Nat) : ((ls.take k).flatMap (fun s => s.data.toList ++ [10])).length ≤ (ls.flatMap (fun s => s.data.toList ++ [10])).length := by
  conv => rhs; rw [← List.take_append_drop k ls]
  rw [List.flatMap_append, List.length_append]
  omega
theorem lines_count {s : ByteArray} {k : Nat} (hk : k ≤ (textLines s).length) (h : ∀ j, j < k → lineAt (textLines s) j = 0) : 5 * k ≤ s.size + 1 := by
  have h1 := flat_five _ k hk h
  have h2 := flat_le (textLines s) k
  by_cases hne : textLines s = []
  · rw [hne] at hk; simp at hk; omega
  · have hcut : textLines s = piecesB 10 (textCut s) := by
      unfold textLines at hne ⊢
      split at hne
      · exact absurd rfl hne
      · next h0 => rw [if_neg h0]
    have e2 := flat_inter 10 ((textLines s).map (·.data.toList)) (by simpa using hne)
    rw [List.flatMap_map] at e2
    have e5 : ((textLines s).flatMap (fun s => s.data.toList ++ [10])).length = (textCut s).size + 1 := by
      rw [e2, hcut, pieces_cut, inter_cut, List.length_append, Array.length_toList]
      rfl
    have h3 := textCut_size s
    omega
theorem entsF_code {L : List EntV} (h : (entsF L).1 = 0) : entsF L = (0, -1) := by
  unfold entsF at h ⊢
  split
  · next i hi =>
    exfalso
    have h1 := List.find?_some hi
    rw [hi] at h
    have : entAt L i = 0 := h
    rw [this] at h1
    simp at h1
  · rfl
theorem confF_code {C : ConfV} (h : (confF C).1 = 0) : confF C = (0, -1) := by
  unfold confF at h ⊢
  split at h
  · cases h
  · next h1 =>
    rw [if_neg h1]
    split at h
    · cases h
    · next h2 => rw [if_neg h2]; exact entsF_code h
theorem linesF_code {L : List ByteArray} (h : (linesF L).1 = 0) : linesF L = (0, -1) := by
  unfold linesF at h ⊢
  split
  · next i hi =>
    exfalso
    have h1 := List.find?_some hi
    rw [hi] at h
    have : lineAt L i = 0 := h
    rw [this] at h1
    simp at h1
  · rfl
/-- What a good text tells. -/
theorem readF_good {s : ByteArray} (h : (readF s).2.1 = 0) : ∃ C, readF s = (C, (0, -1)) ∧ confF C = (0, -1) ∧ textB C = (textCut s).data.toList ++ [10] := by
  unfold readF at h ⊢
  split at h
  · cases h
  next h8 =>
  rw [if_neg h8]
  split at h
  · next hl => exact absurd h hl
  next hl =>
  rw [if_neg hl]
  split at h
  · cases h
  next hst =>
  rw [if_neg hst]
  split at h
  · next hc => exact absurd h hc
  next hc =>
  rw [if_neg hc]
  have hl0 : (linesF (textLines s)).1 = 0 := by omega
  exact ⟨_, rfl, confF_code (by omega), twice_law h8 hl0 hst⟩
theorem cut_back (s : ByteArray) : (textCut s).data.toList ++ [10] = s.data.toList ∨ (textCut s).data.toList ++ [10] = s.data.toList ++ [10] := by
  unfold textCut
  have hsz : s.data.toList.length = s.size := by rw [Array.length_toList]; rfl
  by_cases h : s.data.toList.getLast? = some 10
  · left
    have hne : s.data.toList ≠ [] := by intro e; rw [e] at h; cases h
    have hg : s.data.toList.getLast hne = 10 := by rw [List.getLast?_eq_some_getLast hne] at h; exact Option.some.inj h
    have hd := List.dropLast_concat_getLast hne
    rw [hg] at hd
    rw [if_pos h, ByteArray.data_extract, Array.toList_extract, List.extract_eq_take_drop, List.drop_zero, Nat.sub_zero]
    rw [List.dropLast_eq_take, hsz] at hd
    exact hd
  · right
    rw [if_neg h]

set_option maxRecDepth 100000 in
set_option maxHeartbeats 3000000 in
theorem confTwice_walk (B : Nat) (sa : Nat → Addr) (s : ByteArray) (w : World) (hS : SentsC B sa w) (hN : NumB B w) (hT : TabB w.heap.size w)
    (hX : ∀ (C : ConfV) (ao : Option Addr) (n cap : Nat) (X : List EntX) (W : World), SentsC B sa W → TabB W.heap.size W → ConfSl (fun b => b < W.heap.size) W C (.slice ao n cap) X → confF C = (0, -1) →
      Calls Tryd.prog 53 #[.agg (confCs C (.slice ao n cap))] W fun e w' => e = .returned (.tuple #[.string ⟨(textB C).toArray⟩, .nilIface]) ∧ Below W.heap.size W w') :
    Calls Tryd.prog 9 #[.string s] w fun e w' => e = .returned (.bool true) ∧ Below w.heap.size w w' := by
  have HTo := Lib.hid (told_any B sa w hS hT)
  have HS := Lib.hid hS
  have HN := Lib.hid hN
  have HT := Lib.hid hT
  have HX := Lib.hid hX
  clear hS hN hT hX
  by_cases h2 : (2000 : Int) < (s.size : Int)
  · go_enter Tryd.func9, Tryd.ntmps9
    go_wp2_with fail
    refine HTo.out.mono ?_
    rintro e w1 ⟨rfl, b1⟩
    go_wp2_with fail
    go_ret
    exact ⟨rfl, b1⟩
  · have HK : Hid (∀ k, k ≤ (textLines s).length → (∀ j, j < k → lineAt (textLines s) j = 0) → k ≤ 1000) := (show _ from fun k hk h => by have := lines_count hk h; omega)
    have hsz : s.size ≤ 100000 := by omega
    go_enter Tryd.func9, Tryd.ntmps9
    go_wp2_with fail
    refine HTo.out.mono ?_
    rintro e w1 ⟨rfl, b1⟩
    have HB1 := Lib.hid b1
    have HRd := Lib.hid (read_any B sa s w1 (HS.out.on b1) (HN.out.below b1 HS.out.top) hsz HK.out)
    clear b1
    by_cases hz : (readF s).2.1 = 0
    · obtain ⟨C, hr, hc, ht⟩ := readF_good hz
      rw [hr] at HRd
      unfold ReadPost at HRd
      have HC := Lib.hid hc
      have HTx := Lib.hid ht
      clear hr hz hc ht
      go_wp2_with fail
      refine HRd.out.mono ?_
      rintro e w2 ⟨ao, n, cap, u, X, rfl, hu, hcs, -, b2⟩
      have hu0 : u = .nilIface := by
        rcases hu with ⟨_, hu⟩ | ⟨_, hc0, _⟩
        · rw [hu]; rfl
        · exact absurd hc0 (by decide)
      subst hu0
      have hcs := hcs trivial
      have HCS := Lib.hid hcs
      have HB2 := Lib.hid (HB1.out.trans (b2.mono HB1.out.size))
      clear b2 hu hcs
      unfold confCs
      go_upto_region 5 with fail
      have hxb := get_alloc_new w2 (.cells (confCs C (.slice ao n cap)) 72)
      have hbb : Below w2.heap.size w2 (w2.alloc (.cells (confCs C (.slice ao n cap)) 72)) := (Below.refl _ _).alloc (Nat.le_refl _) _
      unfold confCs at hxb hbb
      generalize w2.alloc _ = w3 at hxb hbb ⊢
      have HB3 := Lib.hid (HB2.out.trans (hbb.mono HB2.out.size))
      obtain ⟨c0, c1, c2, c3, c4⟩ := conf_cells (C := C) hxb
      have hTx := HX.out C ao n cap X w3 (HS.out.on HB3.out) (tab_up (HT.out.low HB3.out (Nat.le_refl _)) HB3.out.size) ((HCS.out.below hbb (fun b hb => hb.2)).mono (fun b hb => by have := hbb.size; omega)) HC.out
      unfold confCs at hTx
      obtain ⟨tt, htt⟩ : ∃ tt : ByteArray, tt = ⟨(textB C).toArray⟩ := ⟨_, rfl⟩
      rw [← htt] at hTx
      have hd : tt.data.toList = (textCut s).data.toList ++ [10] := by rw [htt]; show (textB C).toArray.toList = _; rw [List.toList_toArray]; exact HTx.out
      have HTc := Lib.hid hTx
      clear hTx htt hbb hxb
      by_cases he : tt = s
      · subst he
        clear hd
        go_wp2_with fail
        refine HTc.out.mono ?_
        rintro e w4 ⟨rfl, b4⟩
        go_wp2_with fail
        go_ret
        exact ⟨rfl, HB3.out.trans (b4.mono HB3.out.size)⟩
      · have hd2 : tt.data.toList = s.data.toList ++ [10] := by
          rcases cut_back s with h | h
          · exact absurd (bytes_ext (hd.trans h)) he
          · exact hd.trans h
        have HD2 := Lib.hid hd2
        have hne : (tt.toList == s.toList) = false := by
          rw [beq_eq_false_iff_ne]
          intro e
          rw [ByteArray.toList_eq, ByteArray.toList_eq] at e
          exact he (bytes_ext e)
        have HNE := Lib.hid he
        clear hd hd2 he
        go_wp2_with fail
        refine HTc.out.mono ?_
        rintro e w4 ⟨rfl, b4⟩
        go_wp2_with fail
        go_ret
        refine ⟨ret_bool ?_, HB3.out.trans (b4.mono HB3.out.size)⟩
        rw [beq_iff_eq, ByteArray.toList_eq, ByteArray.toList_eq, HD2.out, ByteArray.data_append, Array.toList_append]
    · obtain ⟨r, hr⟩ : ∃ r, r = readF s := ⟨_, rfl⟩
      rw [← hr] at HRd hz
      unfold ReadPost at HRd
      have HZ := Lib.hid hz
      clear hr hz
      go_wp2_with fail
      refine HRd.out.mono ?_
      rintro e w2 ⟨ao, n, cap, u, X, rfl, hu, -, hv, b2⟩
      have HV := hv HZ.out
      obtain ⟨rfl, rfl, rfl⟩ := Value.slice.inj HV
      have hu2 : (∃ k, u = .iface 304 (.pointer (some (sa k)))) ∨ ∃ fb, u = .iface 136 (.pointer (some ⟨fb, 0, none⟩)) := by
        rcases hu with ⟨_, hu⟩ | ⟨_, _, fb, hu, _⟩
        · left
          obtain ⟨k, hk⟩ := Nat.exists_eq_succ_of_ne_zero HZ.out
          exact ⟨k, by rw [hu, hk]; rfl⟩
        · exact .inr ⟨fb, hu⟩
      have HB2 := Lib.hid (HB1.out.trans (b2.mono HB1.out.size))
      clear b2 hu hv HV
      unfold confCs
      have hxb := get_alloc_new w2 (.cells (confCs r.1 (.slice none 0 0)) 72)
      have hbb : Below w2.heap.size w2 (w2.alloc (.cells (confCs r.1 (.slice none 0 0)) 72)) := (Below.refl _ _).alloc (Nat.le_refl _) _
      unfold confCs at hxb hbb
      rcases hu2 with ⟨k, rfl⟩ | ⟨fb, rfl⟩
      all_goals
        go_upto_region 5 with fail
        generalize w2.alloc _ = w3 at hxb hbb ⊢
        have HB3 := Lib.hid (HB2.out.trans (hbb.mono HB2.out.size))
        obtain ⟨c0, c1, c2, c3, c4⟩ := conf_cells (C := r.1) hxb
        clear hbb hxb
        go_wp2_with fail
        go_ret
        exact ⟨rfl, HB3.out⟩
end Go.Proofs.YtkhcepdeppmofaaDoor

/- ConfTwice walked. -/
namespace Go.Proofs.YtkhcepdeppmofaaDoor
open Go.RowKit
set_option linter.unusedVariables false

theorem confTwice_any (B : Nat) (sa : Nat → Addr) (s : ByteArray) (w : World) (hS : SentsC B sa w) (hN : NumB B w) (hT : TabB w.heap.size w) :
    Calls Tryd.prog 9 #[.string s] w fun e w' => e = .returned (.bool true) ∧ Below w.heap.size w w' :=
  confTwice_walk B sa s w hS hN hT (fun C ao n cap X W h1 h2 h3 h4 => text_any B sa (· < W.heap.size) C (.slice ao n cap) X W h1 h2 h3 (fun b hb => hb) h4)
end Go.Proofs.YtkhcepdeppmofaaDoor
