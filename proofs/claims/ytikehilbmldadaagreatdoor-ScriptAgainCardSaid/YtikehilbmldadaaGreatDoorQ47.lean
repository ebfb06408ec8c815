import Derived.Test.YtikehilbmldadaaGreatDoorQ46
import Derived.Test.YtikehilbmldadaaGreatDoorQ24
import Derived.Test.YtikehilbmldadaaGreatDoorQ23
import Derived.Test.YtikehilbmldadaaGreatDoorQ03
import Derived.Test.YtikehilbmldadaaGreatDoorQ25
import Derived.Deep.DeepCutAuto
import Derived.Deep.DeepMust
set_option maxHeartbeats 8000000
set_option maxRecDepth 100000
namespace Go.Proofs.YtikehilbmldadaaGreatDoor
open Go.RowKit
set_option linter.unusedVariables false
def lnF (word : ByteArray) (ns : List Int) : Option (Nat × List Nat) := match scIdx word with
  | none => none
  | some i => if ns.length ≠ scMany i then none else if (∀ k ∈ ns, 0 ≤ k ∧ k ≤ 99999) ∧ (0 < ns.length → ns.getD 0 0 ≤ (formF i : Int)) then some (i, ns.map Int.toNat) else none
def lnUp (word : ByteArray) (ns : List Int) (j : Nat) : List UInt8 := word.data.toList ++ (ns.take j).flatMap (fun k => 32 :: Lib.itoa k)
theorem lnUp_next {word : ByteArray} {ns : List Int} {j : Nat} (h : j < ns.length) : lnUp word ns (j + 1) = lnUp word ns j ++ (32 :: Lib.itoa ns[j]) := by
  unfold lnUp
  rw [List.take_succ_eq_append_getElem h, List.flatMap_append]
  simp
theorem inter_flat (c : UInt8) : ∀ (L : List (List UInt8)) (x : List UInt8), interL c (x :: L) = x ++ L.flatMap (fun y => c :: y)
  | [], x => by simp [interL]
  | y :: L, x => by
    rw [inter_cons c _ (by simp), inter_flat c L y]
    simp
theorem flat_congrA {α : Type} {f g : α → List UInt8} : ∀ (l : List α), (∀ k ∈ l, f k = g k) → l.flatMap f = l.flatMap g
  | [], _ => rfl
  | a :: l, h => by
    rw [List.flatMap_cons, List.flatMap_cons, h a List.mem_cons_self, flat_congrA l (fun k hk => h k (List.mem_cons_of_mem _ hk))]
theorem ln_line {word : ByteArray} {ns : List Int} {i : Nat} (hi : scIdx word = some i) (hn : ∀ k ∈ ns, 0 ≤ k ∧ k ≤ 99999) : lnUp word ns ns.length = lineL i (ns.map Int.toNat) := by
  unfold lnUp lineL
  rw [List.take_length, ← scIdx_word hi, inter_flat, List.map_map, List.flatMap_map]
  congr 1
  refine flat_congrA ns (fun k hk => ?_)
  have := hn k hk
  show 32 :: Lib.itoa k = 32 :: Lib.itoa ((k.toNat : Nat) : Int)
  rw [show ((k.toNat : Nat) : Int) = k by omega]
def LineIs (word : ByteArray) (ns : List Int) (S : ByteArray) (is : Bool) : Prop := match lnF word ns with
  | none => is = false
  | some (i, nn) => is = true ∧ S.data.toList = lineL i nn
theorem lnF_none {word : ByteArray} {ns : List Int} (h : scIdx word = none) : lnF word ns = none := by unfold lnF; rw [h]
theorem lnF_many {word : ByteArray} {ns : List Int} {i : Nat} (h : scIdx word = some i) (hl : ns.length ≠ scMany i) : lnF word ns = none := by unfold lnF; rw [h]; exact if_pos hl
theorem lnF_bad {word : ByteArray} {ns : List Int} {i j : Nat} (h : scIdx word = some i) (hj : j < ns.length) (hb : ns[j] < 0 ∨ (if j = 0 then (formF i : Int) else 99999) < ns[j]) : lnF word ns = none := by
  unfold lnF
  rw [h]
  simp only
  split
  · rfl
  · rw [if_neg]
    rintro ⟨h1, h2⟩
    have h3 := h1 ns[j] (List.getElem_mem hj)
    by_cases h0 : j = 0
    · subst h0
      rw [if_pos rfl] at hb
      have h4 := h2 (by omega)
      rw [List.getD_eq_getElem?_getD, List.getElem?_eq_getElem hj] at h4
      have h4 : ns[0] ≤ (formF i : Int) := h4
      omega
    · rw [if_neg h0] at hb
      omega
theorem formF_le (i : Nat) (h : i < 14) : formF i ≤ 99999 := by
  have hall : ∀ i : Fin 14, formF i.1 ≤ 99999 := by decide
  exact hall ⟨i, h⟩
theorem lnF_good {word : ByteArray} {ns : List Int} {i : Nat} (h : scIdx word = some i) (hl : ns.length = scMany i) (hg : ∀ j (hj : j < ns.length), 0 ≤ ns[j] ∧ ns[j] ≤ (if j = 0 then (formF i : Int) else 99999)) : lnF word ns = some (i, ns.map Int.toNat) ∧ ∀ k ∈ ns, 0 ≤ k ∧ k ≤ 99999 := by
  have hf := formF_le i (scIdx_lt h)
  have hall : ∀ k ∈ ns, 0 ≤ k ∧ k ≤ 99999 := fun k hk => by
    obtain ⟨j, hj, rfl⟩ := List.mem_iff_getElem.1 hk
    have := hg j hj
    split at this <;> omega
  refine ⟨?_, hall⟩
  unfold lnF
  rw [h]
  simp only
  rw [if_neg (fun hh => hh hl), if_pos]
  refine ⟨hall, fun h0 => ?_⟩
  have := (hg 0 h0).2
  rw [if_pos rfl] at this
  rw [List.getD_eq_getElem?_getD, List.getElem?_eq_getElem h0]
  exact this
theorem lnF_ask {word : ByteArray} {ns : List Int} {i : Nat} {nn : List Nat} {S : ByteArray} (h : lnF word ns = some (i, nn)) (hS : S.data.toList = lineL i nn) : scAsk S = some (i, nn) ∧ scIdx word = some i ∧ nn = ns.map Int.toNat ∧ nn.length = scMany i ∧ ∀ k ∈ ns, 0 ≤ k ∧ k ≤ 99999 := by
  unfold lnF at h
  split at h
  · cases h
  · rename_i q hq
    split at h
    · cases h
    · rename_i hl
      split at h
      · rename_i hc
        obtain ⟨rfl, rfl⟩ := Prod.mk.inj (Option.some.inj h)
        have hlen : (ns.map Int.toNat).length = scMany q := by rw [List.length_map]; omega
        refine ⟨scAsk_line (scIdx_lt hq) hlen (fun k hk => ?_) (fun h3 h4 => ?_) hS, hq, rfl, hlen, hc.1⟩
        · obtain ⟨z, hz, rfl⟩ := List.mem_map.1 hk
          have := hc.1 z hz
          omega
        · cases hn : ns with
          | nil => simp
          | cons a r =>
            have h0 := hc.2 (by rw [hn]; simp)
            rw [hn] at h0
            have hf : formF q ≤ 9 := by
              have hall : ∀ i : Fin 14, i.1 ≠ 3 → i.1 ≠ 4 → formF i.1 ≤ 9 := by decide
              exact hall ⟨q, scIdx_lt hq⟩ h3 h4
            simp at h0 ⊢
            omega
      · cases h
theorem int_cellsA {R : Nat → Prop} {w : World} {ao : Option Addr} {n cap : Nat} {l : List Int} (h : SlOf R w (.slice ao n cap) 1 (intCells l) l.length) (h0 : 0 < l.length) :
    ∃ b off, ao = some ⟨b, off, none⟩ ∧ R b ∧ b < w.heap.size ∧ ∀ k (hk : k < l.length), w.cell? ⟨b, off + k, none⟩ = some (.int .i64 l[k]) := by
  obtain ⟨hl, ao', cap', hv, h1, h2, h3, h4⟩ := h
  injection hv with e1 e2 e3
  subst e1
  obtain ⟨b, off, ha, hR, hb, hc⟩ := h4 (by simp [intCells]; exact h0)
  exact ⟨b, off, ha, hR, hb, fun k hk => hc k _ (by simp [intCells, hk])⟩
def LinePost (word : ByteArray) (ns : List Int) (w : World) (e : Ending) (w' : World) : Prop := ∃ S is, e = .returned (.tuple #[.string S, .bool is]) ∧ LineIs word ns S is ∧ Below w.heap.size w w'
theorem lineOf_any (R : Nat → Prop) (word : ByteArray) (ns : List Int) (vn : Value) (w : World) (h : SlOf R w vn 1 (intCells ns) ns.length) (hR : ∀ b, R b → b < w.heap.size) (hw : word.size ≤ 60) (hl : ns.length ≤ 5) (hi64 : ∀ k ∈ ns, -9223372036854775808 ≤ k ∧ k ≤ 9223372036854775807) :
    Calls Tryz.prog 29 #[.agg #[.string word, vn]] w (LinePost word ns w) := by
  obtain ⟨nao, ncap, rfl⟩ := h.val
  have hba : Below w.heap.size w (w.alloc (.cells #[.string word, .slice nao ns.length ncap] 73)) := (Below.refl _ _).alloc (Nat.le_refl _) _
  have hxa := get_alloc_new w (.cells #[.string word, .slice nao ns.length ncap] 73)
  have H := Lib.hid (h.below hba (fun b hb => hR b hb))
  cases hi : scIdx word with
  | none =>
    have HF := Lib.hid (lnF_none (ns := ns) hi)
    have HFo := Lib.hid (fun W => scForm_none word W hi)
    clear h hR hi
    go_enter Tryz.func29, Tryz.ntmps29
    go_upto_region 1 with fail
    generalize w.alloc _ = w1 at hba hxa H ⊢
    obtain ⟨x0, x1, xf⟩ := two_cells hxa
    go_wp2_with fail
    refine (HFo.out w1).mono ?_
    rintro e w2 ⟨rfl, rfl⟩
    go_wp2_with fail
    go_ret2
    exact ⟨_, _, rfl, by unfold LineIs; rw [HF.out], hba⟩
  | some i =>
    have HFo := Lib.hid (fun W => scForm_some word W hi)
    have HI := Lib.hid hi
    obtain ⟨m, hm⟩ : ∃ m, m = scMany i := ⟨_, rfl⟩
    obtain ⟨f0, hf0⟩ : ∃ f0, f0 = formF i := ⟨_, rfl⟩
    have HMm := Lib.hid hm
    have HF0 := Lib.hid hf0
    rw [← hm, ← hf0] at HFo
    by_cases hlm : ns.length = m
    · have hcellN : Hid (∀ j (hj : j < ns.length), ∃ nb no, nao = some ⟨nb, no, none⟩ ∧ nb < w.heap.size ∧ w.cell? ⟨nb, no + j, none⟩ = some (.int .i64 ns[j])) := (show ∀ j (hj : j < ns.length), ∃ nb no, nao = some ⟨nb, no, none⟩ ∧ nb < w.heap.size ∧ w.cell? ⟨nb, no + j, none⟩ = some (.int .i64 ns[j]) from fun j hj => by
        obtain ⟨nb, no, e1, e2, e3, e4⟩ := int_cellsA h (by omega)
        exact ⟨nb, no, e1, e3, e4 j hj⟩)
      have hmb : ((ns.length : Int) != (m : Int)) = false := by rw [hlm]; simp
      have HLM := Lib.hid hlm
      have hm5 : m ≤ 5 := by omega
      have HW0 : Hid (word.data.toList = lnUp word ns 0 ∧ word.size ≤ 60 + 10 * 0 ∧ ∀ k (hk : k < ns.length), k < 0 → 0 ≤ ns[k] ∧ ns[k] ≤ (if k = 0 then (formF i : Int) else 99999)) := (show word.data.toList = lnUp word ns 0 ∧ word.size ≤ 60 + 10 * 0 ∧ ∀ k (hk : k < ns.length), k < 0 → 0 ≤ ns[k] ∧ ns[k] ≤ (if k = 0 then (formF i : Int) else 99999) from ⟨by simp [lnUp], by omega, fun k _ h => absurd h (by omega)⟩)
      clear h hR hi hm hf0 hlm
      go_enter Tryz.func29, Tryz.ntmps29
      go_upto_region 1 with fail
      generalize w.alloc _ = w1 at hba hxa H ⊢
      obtain ⟨x0, x1, xf⟩ := two_cells hxa
      have HX := Lib.hid (And.intro hxa hba)
      clear hxa hba xf
      go_wp2_with fail
      refine (HFo.out w1).mono ?_
      rintro e w2 ⟨rfl, rfl⟩
      have HBf := Lib.hid (Below.refl w1.heap.size w1)
      go_wp2_with fail
      clear x0 x1
      go_loopw [7, 8] (fun s7 s8 wr => ∃ (j : Nat) (W : ByteArray), j ≤ m ∧ s7 = .string W ∧ s8 = .int .i64 j ∧ Hid (W.data.toList = lnUp word ns j ∧ W.size ≤ 60 + 10 * j ∧ ∀ k (hk : k < ns.length), k < j → 0 ≤ ns[k] ∧ ns[k] ≤ (if k = 0 then (formF i : Int) else 99999)) ∧ Hid (Below w1.heap.size w1 wr)) (fun _ s8 _ => m - (intOf s8).toNat)
      case atStart => exact ⟨0, word, Nat.zero_le _, rfl, rfl, HW0, HBf⟩
      case round =>
        obtain ⟨j, W, hj, rfl, rfl, hW, hb⟩ := hrel
        clear HW0 HBf
        have hbw := HX.out.2.trans (hb.out.mono HX.out.2.size)
        obtain ⟨x0, x1, xf⟩ := two_cells (below_get hb.out HX.out.1 (lt_of_get HX.out.1))
        have HBW := Lib.hid hbw
        by_cases hlt : j < m
        · have hltI : (j : Int) < (m : Int) := by omega
          have hjn : j < ns.length := by have := HLM.out; omega
          obtain ⟨nb, no, rfl, hnb, hcell⟩ := hcellN.out j hjn
          have hc : wr.cell? ⟨nb, no + j, none⟩ = some (.int .i64 ns[j]) := by rw [hbw.cell (p := ⟨nb, no + j, none⟩) hnb]; exact hcell
          have HBad := Lib.hid (fun hb => lnF_bad (word := word) (ns := ns) (j := j) HI.out hjn hb)
          have hi64j := hi64 ns[j] (List.getElem_mem hjn)
          have HNx := Lib.hid (fun (z : Int) (hz : z = ns[j]) (h1 : 0 ≤ z) (h2 : z ≤ (if j = 0 then (formF i : Int) else 99999)) (D S : ByteArray) (hD : D.data.toList = Lib.itoa z) (hS : S.data.toList = W.data.toList ++ (32 :: D.data.toList)) (hSz : S.size ≤ 60 + 10 * (j + 1)) => (show S.data.toList = lnUp word ns (j + 1) ∧ S.size ≤ 60 + 10 * (j + 1) ∧ ∀ k (hk : k < ns.length), k < j + 1 → 0 ≤ ns[k] ∧ ns[k] ≤ (if k = 0 then (formF i : Int) else 99999) from
            ⟨by rw [hS, hD, hW.out.1, lnUp_next hjn, hz], hSz, fun k hk hkj => by
              by_cases e : k = j
              · subst e; rw [← hz]; exact ⟨h1, h2⟩
              · exact hW.out.2.2 k hk (by omega)⟩))
          have hWz := hW.out.2.1
          have hmes : Hid (m - (j + 1) < m - j) := (show m - (j + 1) < m - j from by omega)
          obtain ⟨z, hz⟩ : ∃ z, z = ns[j] := ⟨_, rfl⟩
          have HZ := Lib.hid hz
          rw [← hz] at hc HBad hi64j
          clear hW hcell hz hbw
          by_cases hj0 : j = 0
          · have hjb : ((j : Int) == 0) = true := by rw [hj0]; rfl
            simp only [hj0, if_true] at HBad
            rw [← HF0.out] at HBad
            have HL : Hid (∀ z : Int, z ≤ (f0 : Int) → z ≤ (if j = 0 then (formF i : Int) else 99999)) := (show ∀ z : Int, z ≤ (f0 : Int) → z ≤ (if j = 0 then (formF i : Int) else 99999) from fun z hz => by rw [if_pos hj0, ← HF0.out]; exact hz)
            clear hj0
            by_cases hz0 : z < 0
            · have HF := Lib.hid (HBad.out (.inl hz0))
              have HLb : Hid (LineIs word ns ⟨#[]⟩ false) := (show LineIs word ns ⟨#[]⟩ false from by unfold LineIs; rw [HF.out])
              go_wp2_with fail
              go_ret2
              refine ⟨⟨#[]⟩, false, ?_, HLb.out, HBW.out⟩
              rfl
            · by_cases hz1 : (f0 : Int) < z
              · have HF := Lib.hid (HBad.out (.inr hz1))
                have HLb : Hid (LineIs word ns ⟨#[]⟩ false) := (show LineIs word ns ⟨#[]⟩ false from by unfold LineIs; rw [HF.out])
                go_wp2_with fail
                go_ret2
                refine ⟨⟨#[]⟩, false, ?_, HLb.out, HBW.out⟩
                rfl
              · have hzp : 0 ≤ z := by omega
                have HZL := Lib.hid (HL.out z (by omega))
                have hz5 : z ≤ 99999 := by have h1 := HZL.out; have h2 := formF_le i (scIdx_lt HI.out); split at h1 <;> omega
                have HDc := Lib.hid (rDecimal_any z hzp (by omega) wr)
                have hDl : (Lib.itoa z).length ≤ 5 := by
                  obtain ⟨u, rfl⟩ : ∃ u : Nat, z = u := ⟨z.toNat, by omega⟩
                  rw [itoa_dig]
                  exact dec_len_le (by omega) (by omega)
                obtain ⟨D, hD⟩ : ∃ D, D = strV (Lib.itoa z) := ⟨_, rfl⟩
                have hDd : D.data.toList = Lib.itoa z := by rw [hD]; exact strV_data _
                have hDz : D.size ≤ 5 := by rw [hD, strV_size]; exact hDl
                rw [← hD] at HDc
                have HN1 := Lib.hid (fun S hS hSz => HNx.out z HZ.out hzp HZL.out D S hDd hS hSz)
                clear hDl hD hDd HNx HBad
                go_wp2_with fail
                refine HDc.out.mono ?_
                rintro e w4 ⟨rfl, b4⟩
                have HB4 := Lib.hid (hb.out.trans (b4.mono hb.out.size))
                have HFn := Lib.hid (HN1.out (W ++ (⟨#[32]⟩ : ByteArray) ++ D) (by rw [ByteArray.data_append, Array.toList_append, ByteArray.data_append, Array.toList_append]; simp) (by rw [ByteArray.size_append, ByteArray.size_append]; have : (⟨#[32]⟩ : ByteArray).size = 1 := rfl; omega))
                clear b4 HN1
                go_wp2_with fail
                go_roundw
                case rel => exact ⟨j + 1, _, hlt, rfl, by go_num, HFn, HB4⟩
                case measure => simp [intOf]; have := hmes.out; omega
          · have hjb : ((j : Int) == 0) = false := beq_eq_false_iff_ne.2 (by omega)
            simp only [hj0, if_false] at HBad
            have HL : Hid (∀ z : Int, z ≤ 99999 → z ≤ (if j = 0 then (formF i : Int) else 99999)) := (show ∀ z : Int, z ≤ 99999 → z ≤ (if j = 0 then (formF i : Int) else 99999) from fun z hz => by rw [if_neg hj0]; exact hz)
            clear hj0
            by_cases hz0 : z < 0
            · have HF := Lib.hid (HBad.out (.inl hz0))
              have HLb : Hid (LineIs word ns ⟨#[]⟩ false) := (show LineIs word ns ⟨#[]⟩ false from by unfold LineIs; rw [HF.out])
              go_wp2_with fail
              go_ret2
              refine ⟨⟨#[]⟩, false, ?_, HLb.out, HBW.out⟩
              rfl
            · by_cases hz1 : ((99999) : Int) < z
              · have HF := Lib.hid (HBad.out (.inr hz1))
                have HLb : Hid (LineIs word ns ⟨#[]⟩ false) := (show LineIs word ns ⟨#[]⟩ false from by unfold LineIs; rw [HF.out])
                go_wp2_with fail
                go_ret2
                refine ⟨⟨#[]⟩, false, ?_, HLb.out, HBW.out⟩
                rfl
              · have hzp : 0 ≤ z := by omega
                have HZL := Lib.hid (HL.out z (by omega))
                have hz5 : z ≤ 99999 := by have h1 := HZL.out; have h2 := formF_le i (scIdx_lt HI.out); split at h1 <;> omega
                have HDc := Lib.hid (rDecimal_any z hzp (by omega) wr)
                have hDl : (Lib.itoa z).length ≤ 5 := by
                  obtain ⟨u, rfl⟩ : ∃ u : Nat, z = u := ⟨z.toNat, by omega⟩
                  rw [itoa_dig]
                  exact dec_len_le (by omega) (by omega)
                obtain ⟨D, hD⟩ : ∃ D, D = strV (Lib.itoa z) := ⟨_, rfl⟩
                have hDd : D.data.toList = Lib.itoa z := by rw [hD]; exact strV_data _
                have hDz : D.size ≤ 5 := by rw [hD, strV_size]; exact hDl
                rw [← hD] at HDc
                have HN1 := Lib.hid (fun S hS hSz => HNx.out z HZ.out hzp HZL.out D S hDd hS hSz)
                clear hDl hD hDd HNx HBad
                go_wp2_with fail
                refine HDc.out.mono ?_
                rintro e w4 ⟨rfl, b4⟩
                have HB4 := Lib.hid (hb.out.trans (b4.mono hb.out.size))
                have HFn := Lib.hid (HN1.out (W ++ (⟨#[32]⟩ : ByteArray) ++ D) (by rw [ByteArray.data_append, Array.toList_append, ByteArray.data_append, Array.toList_append]; simp) (by rw [ByteArray.size_append, ByteArray.size_append]; have : (⟨#[32]⟩ : ByteArray).size = 1 := rfl; omega))
                clear b4 HN1
                go_wp2_with fail
                go_roundw
                case rel => exact ⟨j + 1, _, hlt, rfl, by go_num, HFn, HB4⟩
                case measure => simp [intOf]; have := hmes.out; omega
        · obtain rfl : j = m := by omega
          have hg := lnF_good (ns := ns) HI.out (by rw [HLM.out]; exact HMm.out) (fun k hk => hW.out.2.2 k hk (by have := HLM.out; omega))
          have HLi : Hid (LineIs word ns W true) := (show LineIs word ns W true from by
            unfold LineIs
            rw [hg.1]
            exact ⟨rfl, by rw [hW.out.1, ← HLM.out]; exact ln_line HI.out hg.2⟩)
          clear hg hW hbw
          have hlI : ¬ (j : Int) < (j : Int) := by omega
          go_wp2_with fail
          go_ret2
          refine ⟨W, true, ?_, HLi.out, HBW.out⟩
          rfl
    · have HF := Lib.hid (lnF_many (ns := ns) hi (by omega))
      have hmb : ((ns.length : Int) != (m : Int)) = true := bne_iff_ne.2 (by omega)
      clear h hR hi hm hf0
      go_enter Tryz.func29, Tryz.ntmps29
      go_upto_region 1 with fail
      generalize w.alloc _ = w1 at hba hxa H ⊢
      obtain ⟨x0, x1, xf⟩ := two_cells hxa
      go_wp2_with fail
      refine (HFo.out w1).mono ?_
      rintro e w2 ⟨rfl, rfl⟩
      go_wp2_with fail
      go_ret2
      exact ⟨_, _, rfl, by unfold LineIs; rw [HF.out], hba⟩
end Go.Proofs.YtikehilbmldadaaGreatDoor
namespace Go.Proofs.YtikehilbmldadaaGreatDoor
open Go.RowKit
set_option linter.unusedVariables false
structure LineV where
  word : ByteArray
  ns : List Int
  vn : Value
def lnCs (r : LineV) : List Value := [.string r.word, r.vn]
structure LinesSl (R : Nat → Prop) (w : World) (v : Value) (l : List LineV) : Prop where
  row : SlOf R w v 2 (l.flatMap lnCs) l.length
  each : ∀ r ∈ l, SlOf R w r.vn 1 (intCells r.ns) r.ns.length
  i64 : ∀ r ∈ l, ∀ k ∈ r.ns, -9223372036854775808 ≤ k ∧ k ≤ 9223372036854775807
theorem line_cells {R : Nat → Prop} {w : World} {ao : Option Addr} {n cap : Nat} {l : List LineV} (h : SlOf R w (.slice ao n cap) 2 (l.flatMap lnCs) l.length) (h0 : 0 < l.length) :
    ∃ b off, ao = some ⟨b, off, none⟩ ∧ R b ∧ b < w.heap.size ∧ ∀ k (hk : k < l.length), w.cell? ⟨b, off + k * 2, none⟩ = some (.string l[k].word) ∧ w.cell? ⟨b, off + k * 2 + 1, none⟩ = some l[k].vn := by
  obtain ⟨b, off, ha, hR, hb, hc⟩ := h.elem (fun _ => rfl) (by decide) h0
  exact ⟨b, off, ha, hR, hb, fun k hk => ⟨hc k hk 0 _ rfl, hc k hk 1 _ rfl⟩⟩
theorem line_size {S : ByteArray} {i : Nat} {nn : List Nat} (hi : i < 14) (hl : nn.length = scMany i) (hk : ∀ k ∈ nn, k < 100000) (hS : S.data.toList = lineL i nn) : S.size ≤ 100 := by
  have hz : S.data.toList.length = S.size := by rw [Array.length_toList]; rfl
  rw [← hz, hS]
  unfold lineL
  rw [inter_flat, List.length_append, List.flatMap_map]
  have hw : (scWords.getD i (ByteArray.empty, 0)).1.data.toList.length ≤ 6 ∧ scMany i ≤ 2 := by
    have hall : ∀ i : Fin 14, (scWords.getD i.1 (ByteArray.empty, 0)).1.data.toList.length ≤ 6 ∧ scMany i.1 ≤ 2 := by decide
    exact hall ⟨i, hi⟩
  have : ∀ nn : List Nat, (∀ k ∈ nn, k < 100000) → (nn.flatMap (fun k : Nat => 32 :: Lib.itoa (k : Int))).length ≤ nn.length * 22 := by
    intro nn
    induction nn with
    | nil => intro _; simp
    | cons k nn ih =>
      intro h
      have h1 := itoa_nat_len (n := k) (by have := h k List.mem_cons_self; omega)
      have h2 := ih (fun q hq => h q (List.mem_cons_of_mem _ hq))
      rw [List.flatMap_cons, List.length_append, List.length_cons, List.length_cons]
      omega
  have h3 := this nn hk
  show _ + (nn.flatMap (fun k : Nat => 32 :: Lib.itoa (k : Int))).length ≤ 100
  omega
theorem one_toNat {ns : List Int} (h : ns.length = 1) (h0 : ∀ k ∈ ns, 0 ≤ k) (hl : 0 < ns.length) : (((ns.map Int.toNat).getD 0 0 : Nat) : Int) = ns[0] := by
  match ns, h with
  | [z], _ =>
    have := h0 z (by simp)
    simp
    omega
structure AgSt (w1 : World) (LS : List ByteArray) (n a : Nat) (t : Int) (v : Value) (wr : World) : Prop where
  own : wr.ownsRow w1.heap.size 9 1 v n (strCells1 LS)
  len : LS.length = n
  bel : Below w1.heap.size w1 wr
  tk : (scTks LS : Int) = t
  sm : ∀ s ∈ LS, s.size ≤ 100
  an : a ≤ n
theorem AgSt.below {w1 wr w' : World} {LS : List ByteArray} {n a : Nat} {t : Int} {v : Value} (h : AgSt w1 LS n a t v wr) (b : Below wr.heap.size wr w') : AgSt w1 LS n a t v w' :=
  ⟨ownsRow_keep' h.own (below_keep b) (fun _ _ _ h => h), h.len, h.bel.trans (b.mono h.bel.size), h.tk, h.sm, h.an⟩
theorem AgSt.next {w1 wz W w' : World} {LS : List ByteArray} {n a a' : Nat} {t t' : Int} {v v' : Value} {S : ByteArray} (h : AgSt w1 LS n a t v wz) (hb : Below wz.heap.size wz W) (ho : w'.ownsRow w1.heap.size 9 1 v' (n + 1) (strCells1 LS ++ strCells1 [S])) (hg : W.grownBy w' v.ownBlock) (ht : t + (scTk S : Int) = t') (hS : S.size ≤ 100) (ha : a' ≤ n + 1) : AgSt w1 (LS ++ [S]) (n + 1) a' t' v' w' := by
  have h2 := h.below hb
  have kg : Keep (fun b => some b = v.ownBlock) W w' := Keep.of_grown hg
  refine ⟨by rw [strCells_one]; exact ho, by simp [h.len], h2.bel.trans (kg.below h2.bel.size (fun b hb => (h2.own.lt b hb.symm).1)), by rw [scTks_snoc]; have := h.tk; omega, fun s hs => ?_, ha⟩
  rcases List.mem_append.1 hs with h1 | h1
  · exact h.sm s h1
  · rw [List.mem_singleton.1 h1]; exact hS
theorem slOf_pre {R : Nat → Prop} {w : World} {ao : Option Addr} {n cap a : Nat} {cs : List Value} (h : SlOf R w (.slice ao n cap) 1 cs n) (ha : a ≤ n) : SlOf R w (.slice ao a cap) 1 (cs.take a) a := by
  obtain ⟨hl, ao', cap', hv, h1, h2, h3, h4⟩ := h
  injection hv with e1 e2 e3
  subst e1; subst e3
  refine ⟨by rw [List.length_take]; omega, _, _, rfl, by omega, h2, h3, fun hp => ?_⟩
  obtain ⟨b, off, h5, h6, h7, h8⟩ := h4 (by rw [List.length_take] at hp; omega)
  refine ⟨b, off, h5, h6, h7, fun k u hu => h8 k u ?_⟩
  rw [List.getElem?_take] at hu
  split at hu
  · exact hu
  · cases hu
theorem strs_take (l : List ByteArray) (a : Nat) : strCells1 (l.take a) = (strCells1 l).take a := by simp [strCells1, List.map_take]
theorem scriptAgain_any (B : Nat) (sa : Nat → Addr) (config : ByteArray) (l : List LineV) (v : Value) (cut : Int) (w : World) (hS : Sents B sa w) (hE : ∀ k, k < 11 → w.cell? (sa k) = some (.string (scErr (k + 1)))) (hN : NumB B w) (hT : TabB w.heap.size w) (hl : LinesSl (· < w.heap.size) w v l) :
    Calls Tryz.prog 5 #[.string config, v, .int .i64 cut] w fun e w' => e = .returned (.bool true) ∧ Below w.heap.size w w' := by
  obtain ⟨i0, hi0, hz0, hz1, hz2⟩ := info_parts Tryz.infoStr
  obtain ⟨sao, scap, rfl⟩ := hl.row.val
  have HHe := Lib.hid (hello_any B sa w hS hE hN hT)
  have HS := Lib.hid hS
  have HE := Lib.hid hE
  have HN := Lib.hid hN
  have HT := Lib.hid hT
  have HL := Lib.hid hl
  obtain ⟨m, hm⟩ : ∃ m, m = l.length := ⟨_, rfl⟩
  have HLn := Lib.hid hm
  rw [← hm]
  have HC : Hid (∀ k (hk : k < l.length), ∃ lb lo, sao = some ⟨lb, lo, none⟩ ∧ lb < w.heap.size ∧ w.cell? ⟨lb, lo + k * 2, none⟩ = some (.string l[k].word) ∧ w.cell? ⟨lb, lo + k * 2 + 1, none⟩ = some l[k].vn) := (show ∀ k (hk : k < l.length), ∃ lb lo, sao = some ⟨lb, lo, none⟩ ∧ lb < w.heap.size ∧ w.cell? ⟨lb, lo + k * 2, none⟩ = some (.string l[k].word) ∧ w.cell? ⟨lb, lo + k * 2 + 1, none⟩ = some l[k].vn from fun k hk => by
    obtain ⟨lb, lo, e1, e2, e3, e4⟩ := line_cells hl.row (by omega)
    exact ⟨lb, lo, e1, e3, e4 k hk⟩)
  clear hS hE hN hT hl hm
  by_cases h2 : (2000 : Int) < (config.size : Int)
  · go_enter Tryz.func5, Tryz.ntmps5
    go_wp2_with fail
    refine HHe.out.mono ?_
    rintro e w1 ⟨rfl, b1⟩
    go_wp2_with fail
    go_ret
    exact ⟨rfl, b1⟩
  · by_cases h3 : (40 : Int) < (m : Int)
    · go_enter Tryz.func5, Tryz.ntmps5
      go_wp2_with fail
      refine HHe.out.mono ?_
      rintro e w1 ⟨rfl, b1⟩
      go_wp2_with fail
      go_ret
      exact ⟨rfl, b1⟩
    · by_cases h4 : cut < 0
      · go_enter Tryz.func5, Tryz.ntmps5
        go_wp2_with fail
        refine HHe.out.mono ?_
        rintro e w1 ⟨rfl, b1⟩
        go_wp2_with fail
        go_ret
        exact ⟨rfl, b1⟩
      · by_cases h5 : (m : Int) < cut
        · go_enter Tryz.func5, Tryz.ntmps5
          go_wp2_with fail
          refine HHe.out.mono ?_
          rintro e w1 ⟨rfl, b1⟩
          go_wp2_with fail
          go_ret
          exact ⟨rfl, b1⟩
        · have h2' : (config.size : Int) ≤ 2000 := by omega
          have h3' : (m : Int) ≤ 40 := by omega
          have h4' : 0 ≤ cut := by omega
          have h5' : cut ≤ (m : Int) := by omega
          clear h2 h3 h4 h5
          go_enter Tryz.func5, Tryz.ntmps5
          go_wp2_with fail
          refine HHe.out.mono ?_
          rintro e w1 ⟨rfl, b1⟩
          have HB1 := Lib.hid b1
          have HST0 : Hid (AgSt w1 [] 0 0 0 (.slice none 0 0) w1) := (show AgSt w1 [] 0 0 0 (.slice none 0 0) w1 from ⟨World.ownsRow_nil _ _ _ _, rfl, Below.refl _ _, rfl, (fun s hs => by cases hs), Nat.le_refl _⟩)
          clear b1 HHe
          go_wp2_with fail
          go_loopw [8, 9, 10, 11] (fun s8 s9 s10 s11 wr => ∃ (i : Nat) (a1 : Option Addr) (n j1 a : Nat) (t : Int) (LS : List ByteArray), i ≤ m ∧ s11 = .int .i64 i ∧ s8 = .slice a1 n j1 ∧ s9 = .int .i64 a ∧ s10 = .int .i64 t ∧ n ≤ i ∧ (0 ≤ t ∧ t ≤ 1500) ∧ Hid (AgSt w1 LS n a t (.slice a1 n j1) wr)) (fun _ _ _ s11 _ => m - (intOf s11).toNat)
          case atStart => exact ⟨0, none, 0, 0, 0, 0, [], Nat.zero_le _, rfl, rfl, rfl, rfl, Nat.le_refl _, by omega, HST0⟩
          case round =>
            obtain ⟨i, a1, n, j1, a, t, LS, hi, rfl, rfl, rfl, rfl, hni0, ht15, hst⟩ := hrel
            clear HST0
            by_cases hlt : i < m
            · have hil : i < l.length := by have := HLn.out; omega
              have hltI : (i : Int) < (m : Int) := by omega
              obtain ⟨lb, lo, rfl, hlb, hcell1, hcell2⟩ := HC.out i hil
              have hbr := HB1.out.trans (hst.out.bel.mono HB1.out.size)
              have hc1 : wr.cell? ⟨lb, lo + i * 2, none⟩ = some (.string l[i].word) := by rw [hbr.cell (p := ⟨lb, lo + i * 2, none⟩) hlb]; exact hcell1
              have hc2 : wr.cell? ⟨lb, lo + i * 2 + 1, none⟩ = some l[i].vn := by rw [hbr.cell (p := ⟨lb, lo + i * 2 + 1, none⟩) hlb]; exact hcell2
              have HR := Lib.hid (HL.out.each l[i] (List.getElem_mem hil))
              have H64 := Lib.hid (HL.out.i64 l[i] (List.getElem_mem hil))
              obtain ⟨r, hr⟩ : ∃ r, r = l[i] := ⟨_, rfl⟩
              rw [← hr] at hc1 hc2 HR H64
              obtain ⟨word, ns, vn⟩ := r
              obtain ⟨nao, ncap, hvn⟩ := HR.out.val
              have hvn' : vn = .slice nao ns.length ncap := hvn
              subst hvn'
              have HRr := Lib.hid (HR.out.below hbr (fun b hb => hb))
              have HBR := Lib.hid hbr
              have HSt := Lib.hid hst.out
              have han : Hid (a ≤ n) := hst.out.an
              have h15 : Hid (0 ≤ t ∧ t ≤ 1500) := ht15
              have hni : Hid (n ≤ i + 1) := (show n ≤ i + 1 from by omega)
              have hni1 : Hid (n + 1 ≤ i + 1) := (show n + 1 ≤ i + 1 from by omega)
              have h63 : Hid (n + 1 ≤ maxLen) := (show n + 1 ≤ maxLen from by unfold maxLen; omega)
              have hby : Hid ((n + 1) * 16 ≤ 140737488355328) := (show (n + 1) * 16 ≤ 140737488355328 from by omega)
              simp only at hc1 hc2 HRr H64
              clear hst hbr hcell1 hcell2 hr hil hvn HR
              by_cases hn5 : (5 : Int) < (ns.length : Int)
              · go_wp2_with fail
                go_ret
                exact ⟨rfl, HBR.out⟩
              · by_cases hw60 : (60 : Int) < (word.size : Int)
                · go_wp2_with fail
                  go_ret
                  exact ⟨rfl, HBR.out⟩
                · have hl5 : ns.length ≤ 5 := by omega
                  have HLo := Lib.hid (lineOf_any (· < wr.heap.size) word ns (.slice nao ns.length ncap) wr HRr.out.here (fun b hb => hb) (by omega) hl5 H64.out)
                  have HL1 := Lib.hid (World.block_lt_of_cell? wr ⟨lb, lo + i * 2, none⟩ hc1)
                  go_wp2_with fail
                  refine HLo.out.mono ?_
                  rintro e w4 ⟨S, is, rfl, hLI, b4⟩
                  have hd1 : w4.cell? ⟨lb, lo + i * 2, none⟩ = some (.string word) := by rw [b4.cell (p := ⟨lb, lo + i * 2, none⟩) HL1.out]; exact hc1
                  have hd2 : w4.cell? ⟨lb, lo + i * 2 + 1, none⟩ = some (.slice nao ns.length ncap) := by rw [b4.cell (p := ⟨lb, lo + i * 2 + 1, none⟩) HL1.out]; exact hc2
                  have HSt4 := Lib.hid (HSt.out.below b4)
                  have HR4 := Lib.hid (HRr.out.here.below b4 (fun b hb => hb))
                  have HB4 := Lib.hid (HBR.out.trans (b4.mono HBR.out.size))
                  unfold LineIs at hLI
                  clear hc1 hc2 HSt HRr b4 HLo HBR
                  cases hq : lnF word ns with
                  | none =>
                    rw [hq] at hLI
                    have his : is = false := hLI
                    subst his
                    clear hLI hq
                    go_wp2_with fail
                    go_roundw
                    case rel => exact ⟨i + 1, a1, n, j1, a, t, LS, hlt, by go_num, rfl, rfl, rfl, hni.out, h15.out, HSt4⟩
                    case measure => simp [intOf]; omega
                  | some qn =>
                    obtain ⟨q, nn⟩ := qn
                    rw [hq] at hLI
                    obtain ⟨rfl, hSd⟩ : is = true ∧ S.data.toList = lineL q nn := hLI
                    obtain ⟨hask, hidx, hnn, hnl, hall⟩ := lnF_ask hq hSd
                    obtain ⟨ht3, -⟩ := scIdx_tick hidx
                    have hSz := line_size (scIdx_lt hidx) hnl (fun k hk => by
                      rw [hnn] at hk
                      obtain ⟨z, hz, rfl⟩ := List.mem_map.1 hk
                      have := hall z hz
                      omega) hSd
                    have htk := scTk_line hask
                    have HNx := Lib.hid (fun (t' : Int) (ht : t + (scTk S : Int) = t') (W w' : World) v' hb ho hg a' ha => HSt4.out.next (W := W) (w' := w') (v' := v') (a' := a') (t' := t') hb ho hg ht hSz ha)
                    have HLay := Lib.hid (fun (y : Obj) => And.intro (HSt4.out.own.alloc y) (show w1.heap.size ≤ (w4.alloc y).heap.size by rw [World.size_alloc]; have := HSt4.out.bel.size; omega))
                    clear hq hSd hask hSz
                    by_cases hq3 : q = 3
                    · have hn1 : ns.length = 1 := by
                        have h1 : nn.length = 1 := by rw [hnl, hq3]; rfl
                        rw [hnn, List.length_map] at h1
                        exact h1
                      obtain ⟨nb, no, rfl, -, -, hcz⟩ := int_cellsA HR4.out (by omega)
                      have hzc := hcz 0 (by omega)
                      rw [Nat.add_zero] at hzc
                      have hzb := hall ns[0] (List.getElem_mem (by omega))
                      have hg0 : (scTk S : Int) = ns[0] := by
                        rw [htk, if_pos hq3, hnn]
                        exact one_toNat hn1 (fun k hk => (hall k hk).1) (by omega)
                      obtain ⟨z, hz⟩ : ∃ z, z = ns[0]'(by omega) := ⟨_, rfl⟩
                      rw [← hz] at hzc hzb hg0
                      rw [hq3] at ht3
                      have hb3 : (word.toList == [116, 105, 99, 107]) = true := ht3
                      have hlI : (0 : Int) < (ns.length : Int) := by omega
                      clear ht3 htk hnn hnl hall hq3 hcz hz hidx hn1
                      by_cases h1500 : (1500 : Int) < t + z
                      · go_wp2_with fail
                        go_ret
                        exact ⟨rfl, HB4.out⟩
                      · have HNy := Lib.hid (HNx.out (t + z) (by omega))
                        have HT15 : Hid (0 ≤ t + z ∧ t + z ≤ 1500) := (show 0 ≤ t + z ∧ t + z ≤ 1500 from by omega)
                        clear HNx
                        by_cases hcut : (i : Int) < cut
                        · go_wp2_with (at_builtin; go_must (refine wpList_append_ownS rfl (.tmp 91) (.tmp 93) 22 rfl w1.heap.size 9 i0 _ 1 16 Tryz.underlying22 hi0 hz0 hz1 hz2 rfl (by decide) _ n _ rfl (HLay.out _).1 ⟨w4.heap.size, 0, none⟩ 1 1 (strCells1 [S]) rfl rfl (new_cells _ (strCells1 [S]) _) (oneCell_strs _) h63.out hby.out (HLay.out _).2 ?_; intro a2 k2 w5 ho hg; have nx := Lib.hid (fun a' (ha : a' ≤ n + 1) => HNy.out _ w5 _ ((Below.refl _ _).alloc (Nat.le_refl _) _) ho hg a' ha); clear ho hg))
                          exact ⟨⟨i + 1, a2, n + 1, k2, n + 1, (t + z), LS ++ [S], hlt, by go_num, rfl, by go_num, rfl, hni1.out, HT15.out, Lib.hid (nx.out (n + 1) (Nat.le_refl _))⟩, by simp [intOf]; omega⟩
                        · go_wp2_with (at_builtin; go_must (refine wpList_append_ownS rfl (.tmp 91) (.tmp 93) 22 rfl w1.heap.size 9 i0 _ 1 16 Tryz.underlying22 hi0 hz0 hz1 hz2 rfl (by decide) _ n _ rfl (HLay.out _).1 ⟨w4.heap.size, 0, none⟩ 1 1 (strCells1 [S]) rfl rfl (new_cells _ (strCells1 [S]) _) (oneCell_strs _) h63.out hby.out (HLay.out _).2 ?_; intro a2 k2 w5 ho hg; have nx := Lib.hid (fun a' (ha : a' ≤ n + 1) => HNy.out _ w5 _ ((Below.refl _ _).alloc (Nat.le_refl _) _) ho hg a' ha); clear ho hg))
                          exact ⟨⟨i + 1, a2, n + 1, k2, a, (t + z), LS ++ [S], hlt, by go_num, rfl, rfl, rfl, hni1.out, HT15.out, Lib.hid (nx.out a (by have := han.out; omega))⟩, by simp [intOf]; omega⟩
                    · have hb3 : (word.toList == [116, 105, 99, 107]) = false := by rw [ht3]; exact decide_eq_false hq3
                      have HNy := Lib.hid (HNx.out t (by rw [htk, if_neg hq3]; simp))
                      clear ht3 htk hnn hnl hall hq3 hidx HNx
                      by_cases hcut : (i : Int) < cut
                      · go_wp2_with (at_builtin; go_must (refine wpList_append_ownS rfl (.tmp 91) (.tmp 93) 22 rfl w1.heap.size 9 i0 _ 1 16 Tryz.underlying22 hi0 hz0 hz1 hz2 rfl (by decide) _ n _ rfl (HLay.out _).1 ⟨w4.heap.size, 0, none⟩ 1 1 (strCells1 [S]) rfl rfl (new_cells _ (strCells1 [S]) _) (oneCell_strs _) h63.out hby.out (HLay.out _).2 ?_; intro a2 k2 w5 ho hg; have nx := Lib.hid (fun a' (ha : a' ≤ n + 1) => HNy.out _ w5 _ ((Below.refl _ _).alloc (Nat.le_refl _) _) ho hg a' ha); clear ho hg))
                        exact ⟨⟨i + 1, a2, n + 1, k2, n + 1, t, LS ++ [S], hlt, by go_num, rfl, by go_num, rfl, hni1.out, h15.out, Lib.hid (nx.out (n + 1) (Nat.le_refl _))⟩, by simp [intOf]; omega⟩
                      · go_wp2_with (at_builtin; go_must (refine wpList_append_ownS rfl (.tmp 91) (.tmp 93) 22 rfl w1.heap.size 9 i0 _ 1 16 Tryz.underlying22 hi0 hz0 hz1 hz2 rfl (by decide) _ n _ rfl (HLay.out _).1 ⟨w4.heap.size, 0, none⟩ 1 1 (strCells1 [S]) rfl rfl (new_cells _ (strCells1 [S]) _) (oneCell_strs _) h63.out hby.out (HLay.out _).2 ?_; intro a2 k2 w5 ho hg; have nx := Lib.hid (fun a' (ha : a' ≤ n + 1) => HNy.out _ w5 _ ((Below.refl _ _).alloc (Nat.le_refl _) _) ho hg a' ha); clear ho hg))
                        exact ⟨⟨i + 1, a2, n + 1, k2, a, t, LS ++ [S], hlt, by go_num, rfl, rfl, rfl, hni1.out, h15.out, Lib.hid (nx.out a (by have := han.out; omega))⟩, by simp [intOf]; omega⟩
            · have hlI : ¬ (i : Int) < (m : Int) := by omega
              have hbr := HB1.out.trans (hst.out.bel.mono HB1.out.size)
              have hlen := hst.out.len
              have hsl' : SlOf (· < wr.heap.size) wr (.slice a1 n j1) 1 (strCells1 LS) n := (slOf_owns hst.out.own).here
              have HBR := Lib.hid hbr
              have hst2 := hst.out
              have HAg := Lib.hid (And.intro hst2.tk (And.intro hst2.sm hst2.an))
              have hown2 := hst2.own.2
              have HSr := Lib.hid (fun W (hW : Below w.heap.size w W) => HS.out.below hW)
              have HNr := Lib.hid (fun W (hW : Below w.heap.size w W) => HN.out.below hW HS.out.top)
              have h23 : config.size ≤ 4000 := by omega
              have hn100 : n ≤ 100 := by omega
              have hby : Hid (n * 16 ≤ 140737488355328) := (show n * 16 ≤ 140737488355328 from by omega)
              have HSL' := Lib.hid hsl'
              have H23 := Lib.hid (And.intro h23 (And.intro hn100 hlen))
              by_cases hf : (readF config).2.1 = 0
              · obtain ⟨C, hr, -, -⟩ := readF_good hf
                have HGo := Lib.hid (fun (W : World) (hW : Below w.heap.size w W) (LL : List ByteArray) (hLL : ∀ s ∈ LL, s.size ≤ 100) (hk : LL.length ≤ 100) (ht : scTks LL ≤ 1500) (R : Nat → Prop) v (hs : SlOf R W v 1 (strCells1 LL) LL.length) =>
                  scRun_good B sa config LL v _ W (HSr.out W hW) (fun k hk => by
                    have h1 := HE.out k hk
                    rw [hW.cell (World.block_lt_of_cell? w (sa k) h1)]; exact h1) (HNr.out W hW) (fun W' hW' => HT.out W' (hW.trans (hW'.mono hW.size))) hs.here (fun b hb => hb) h23 (fun s hs => by have := hLL s hs; omega) (by omega) hk hr)
                have HLs := Lib.hid (fun (LL : List ByteArray) => scRun_len (txtOf C) LL (kp0 C))
                have HTake := Lib.hid (scRun_take (txtOf C) LS a (kp0 C))
                have htk15 : scTks LS ≤ 1500 := by have := HAg.out.1; omega
                have HTk := Lib.hid (And.intro htk15 (scTks_le LS a))
                obtain ⟨ANS, hA⟩ : ∃ ANS, ANS = (scRun (txtOf C) (kp0 C) LS).1 := ⟨_, rfl⟩
                have hlA := HLs.out LS
                rw [← hA] at hlA HTake
                have hla : (LS.take a).length = a := by rw [List.length_take]; have := HAg.out.2.2; omega
                have HAL := Lib.hid (show (ANS.take a).length = a from by rw [List.length_take]; have := HAg.out.2.2; omega)
                have HG1 : Hid (∀ (W : World) (hW : Below w.heap.size w W) (R : Nat → Prop) ao cap (hs : SlOf R W (.slice ao n cap) 1 (strCells1 LS) n), Calls Tryz.prog 8 #[.string config, .slice ao n cap] W fun e w' => ∃ ao cap, e = .returned (.tuple #[.slice ao n cap, .nilIface]) ∧ OwnAt w' W.heap.size 9 1 (.slice ao n cap) n (strCells1 ANS) ∧ Below W.heap.size W w') := Lib.hid (fun W hW R ao cap hs => by
                  have := HGo.out W hW LS HAg.out.2.1 (by omega) HTk.out.1 R (.slice ao n cap) (by rw [hlen]; exact hs)
                  rw [hlen, ← hA] at this
                  exact this)
                have HG2 : Hid (∀ (W : World) (hW : Below w.heap.size w W) (R : Nat → Prop) ao cap (hs : SlOf R W (.slice ao a cap) 1 (strCells1 (LS.take a)) a), Calls Tryz.prog 8 #[.string config, .slice ao a cap] W fun e w' => ∃ ao cap, e = .returned (.tuple #[.slice ao a cap, .nilIface]) ∧ OwnAt w' W.heap.size 9 1 (.slice ao a cap) a (strCells1 (ANS.take a)) ∧ Below W.heap.size W w') := Lib.hid (fun W hW R ao cap hs => by
                  have := HGo.out W hW (LS.take a) (fun s hs => HAg.out.2.1 s (List.mem_of_mem_take hs)) (by have := HAg.out.2.2; omega) (by have := HTk.out; omega) R (.slice ao a cap) (by rw [hla]; exact hs)
                  rw [hla, HTake.out] at this
                  exact this)
                have han := HAg.out.2.2
                have hanI : (a : Int) ≤ (n : Int) := by omega
                clear hst hst2 hbr hsl' hf hr hA hlA hla HGo HLs htk15
                go_wp2_with (at_builtin; go_must (refine wpList_append_copy rfl (.tmp 102) (.tmp 103) 22 rfl 9 i0 _ 1 16 Tryz.underlying22 hi0 hz0 hz1 hz2 rfl (by decide) rfl _ _ n _ rfl HSL'.out (oneCell_strs _) hby.out ?_; intro ao cap w4 hs4 hb4; have HB4 := Lib.hid (HBR.out.trans (hb4.mono HBR.out.size)); have HSP := Lib.hid (fun (W : World) (hW : Below w4.heap.size w4 W) => HSL'.out.below (hb4.trans (hW.mono hb4.size)) (fun b hb => hb)); have HR4 := Lib.hid (HG1.out w4 HB4.out _ ao cap hs4); clear hs4 hb4))
                refine HR4.out.mono ?_
                rintro e w5 ⟨ao2, cap2, rfl, ho2, b5⟩
                have HB5 := Lib.hid (HB4.out.trans (b5.mono HB4.out.size))
                have HS5 := Lib.hid (show SlOf (· < wr.heap.size) w5 (.slice a1 a j1) 1 (strCells1 (LS.take a)) a from by rw [strs_take]; exact slOf_pre (HSP.out w5 b5) han)
                have HO5 := Lib.hid (show SlOf (· < w5.heap.size) w5 (.slice ao2 a cap2) 1 (strCells1 (ANS.take a)) a from by rw [strs_take]; exact slOf_pre ho2.slOf.here han)
                have ho22 := ho2.2
                clear ho2 b5 HR4 HSP
                rcases hown2 with ⟨hv, hn0⟩ | ⟨g, cp, cur, hv, hg⟩
                · obtain ⟨rfl, -, rfl⟩ := Value.slice.inj hv
                  obtain rfl : n = 0 := hn0
                  obtain rfl : a = 0 := by omega
                  clear hv han hanI
                  rcases ho22 with ⟨hv2, -⟩ | ⟨g2, off2, cp2, cur2, hv2, hg2⟩
                  · obtain ⟨rfl, -, rfl⟩ := Value.slice.inj hv2
                    clear hv2
                    have HR2 := Lib.hid (HG2.out w5 HB5.out _ _ _ HS5.out)
                    have HSm := Lib.hid (fun (w6 : World) (b6 : Below w5.heap.size w5 w6) ao3 cap3 (ho : OwnAt w6 w5.heap.size 9 1 (.slice ao3 (0) cap3) (0) (strCells1 (ANS.take (0)))) => sameTexts_eq _ _ (ANS.take (0)) _ (.slice ao3 (0) cap3) w6 (by rw [HAL.out]; exact HO5.out.below b6 (fun b hb => hb)) (by rw [HAL.out]; exact ho.slOf.here) (by rw [HAL.out]; omega))
                    go_wp2_with fail
                    refine HR2.out.mono ?_
                    rintro e w6 ⟨ao3, cap3, rfl, ho3, b6⟩
                    have HSm6 := Lib.hid (HSm.out w6 b6 ao3 cap3 ho3)
                    have HB6 := Lib.hid (HB5.out.trans (b6.mono HB5.out.size))
                    clear b6 ho3 HSm HR2
                    go_wp2_with fail
                    refine HSm6.out.mono ?_
                    rintro e w7 ⟨rfl, q, rfl⟩
                    go_wp2_with fail
                    go_ret
                    exact ⟨rfl, below_drewN' _ HB6.out⟩
                  · obtain ⟨rfl, -, rfl⟩ := Value.slice.inj hv2
                    have hcq : (0 : Int) ≤ (cap2 : Int) := by omega
                    clear hv2 hg2
                    have HR2 := Lib.hid (HG2.out w5 HB5.out _ _ _ HS5.out)
                    have HSm := Lib.hid (fun (w6 : World) (b6 : Below w5.heap.size w5 w6) ao3 cap3 (ho : OwnAt w6 w5.heap.size 9 1 (.slice ao3 (0) cap3) (0) (strCells1 (ANS.take (0)))) => sameTexts_eq _ _ (ANS.take (0)) _ (.slice ao3 (0) cap3) w6 (by rw [HAL.out]; exact HO5.out.below b6 (fun b hb => hb)) (by rw [HAL.out]; exact ho.slOf.here) (by rw [HAL.out]; omega))
                    go_wp2_with fail
                    refine HR2.out.mono ?_
                    rintro e w6 ⟨ao3, cap3, rfl, ho3, b6⟩
                    have HSm6 := Lib.hid (HSm.out w6 b6 ao3 cap3 ho3)
                    have HB6 := Lib.hid (HB5.out.trans (b6.mono HB5.out.size))
                    clear b6 ho3 HSm HR2
                    go_wp2_with fail
                    refine HSm6.out.mono ?_
                    rintro e w7 ⟨rfl, q, rfl⟩
                    go_wp2_with fail
                    go_ret
                    exact ⟨rfl, below_drewN' _ HB6.out⟩
                · obtain ⟨rfl, -, rfl⟩ := Value.slice.inj hv
                  have hcp := hg.2.2.1
                  have haj : (a : Int) ≤ (j1 : Int) := by omega
                  clear hv hg
                  rcases ho22 with ⟨hv2, hn2⟩ | ⟨g2, off2, cp2, cur2, hv2, hg2⟩
                  · obtain ⟨rfl, -, rfl⟩ := Value.slice.inj hv2
                    obtain rfl : n = 0 := hn2
                    obtain rfl : a = 0 := by omega
                    clear hv2 hcp haj han hanI
                    have HR2 := Lib.hid (HG2.out w5 HB5.out _ _ _ HS5.out)
                    have HSm := Lib.hid (fun (w6 : World) (b6 : Below w5.heap.size w5 w6) ao3 cap3 (ho : OwnAt w6 w5.heap.size 9 1 (.slice ao3 (0) cap3) (0) (strCells1 (ANS.take (0)))) => sameTexts_eq _ _ (ANS.take (0)) _ (.slice ao3 (0) cap3) w6 (by rw [HAL.out]; exact HO5.out.below b6 (fun b hb => hb)) (by rw [HAL.out]; exact ho.slOf.here) (by rw [HAL.out]; omega))
                    go_wp2_with fail
                    refine HR2.out.mono ?_
                    rintro e w6 ⟨ao3, cap3, rfl, ho3, b6⟩
                    have HSm6 := Lib.hid (HSm.out w6 b6 ao3 cap3 ho3)
                    have HB6 := Lib.hid (HB5.out.trans (b6.mono HB5.out.size))
                    clear b6 ho3 HSm HR2
                    go_wp2_with fail
                    refine HSm6.out.mono ?_
                    rintro e w7 ⟨rfl, q, rfl⟩
                    go_wp2_with fail
                    go_ret
                    exact ⟨rfl, below_drewN' _ HB6.out⟩
                  · obtain ⟨rfl, -, rfl⟩ := Value.slice.inj hv2
                    have hcp2 := hg2.2.2.1
                    have haj2 : (a : Int) ≤ (cap2 : Int) := by omega
                    clear hv2 hg2 hcp hcp2
                    have HR2 := Lib.hid (HG2.out w5 HB5.out _ _ _ HS5.out)
                    have HSm := Lib.hid (fun (w6 : World) (b6 : Below w5.heap.size w5 w6) ao3 cap3 (ho : OwnAt w6 w5.heap.size 9 1 (.slice ao3 a cap3) a (strCells1 (ANS.take a))) => sameTexts_eq _ _ (ANS.take a) _ (.slice ao3 a cap3) w6 (by rw [HAL.out]; exact HO5.out.below b6 (fun b hb => hb)) (by rw [HAL.out]; exact ho.slOf.here) (by rw [HAL.out]; omega))
                    go_wp2_with fail
                    refine HR2.out.mono ?_
                    rintro e w6 ⟨ao3, cap3, rfl, ho3, b6⟩
                    have HSm6 := Lib.hid (HSm.out w6 b6 ao3 cap3 ho3)
                    have HB6 := Lib.hid (HB5.out.trans (b6.mono HB5.out.size))
                    clear b6 ho3 HSm HR2
                    go_wp2_with fail
                    refine HSm6.out.mono ?_
                    rintro e w7 ⟨rfl, q, rfl⟩
                    go_wp2_with fail
                    go_ret
                    exact ⟨rfl, below_drewN' _ HB6.out⟩
              · have hfc := hf
                obtain ⟨⟨C, f⟩, hr⟩ : ∃ r, r = readF config := ⟨_, rfl⟩
                rw [← hr] at hfc
                have HBd := Lib.hid (fun (W : World) (hW : Below w.heap.size w W) ao cap => (scRun_bad B sa config n ao cap W (HSr.out W hW) (HNr.out W hW) h23 hn100 hr.symm hfc).mono (R' := fun e w' => ∃ t p, e = .returned (.tuple #[.slice none 0 0, .iface t p]) ∧ Below W.heap.size W w') (fun e w' hh => by
                  obtain ⟨u, he, hu, hb⟩ := hh
                  rcases hu with ⟨_, h⟩ | ⟨_, _, fb, h, _⟩
                  · obtain ⟨q, hq⟩ : ∃ q, f.1 = q + 1 := ⟨f.1 - 1, by have : f.1 ≠ 0 := hfc; omega⟩
                    rw [hq, errv_succ] at h
                    exact ⟨_, _, by rw [he, h], hb⟩
                  · exact ⟨_, _, by rw [he, h], hb⟩))
                clear hst hst2 hown2 hbr hsl' hf hr hfc
                go_wp2_with (at_builtin; go_must (refine wpList_append_copy rfl (.tmp 102) (.tmp 103) 22 rfl 9 i0 _ 1 16 Tryz.underlying22 hi0 hz0 hz1 hz2 rfl (by decide) rfl _ _ n _ rfl HSL'.out (oneCell_strs _) hby.out ?_; intro ao cap w4 hs4 hb4; have HB4 := Lib.hid (HBR.out.trans (hb4.mono HBR.out.size)); clear hs4 hb4))
                have HBd4 := Lib.hid (HBd.out w4 HB4.out ao cap)
                refine HBd4.out.mono ?_
                rintro e w5 ⟨ty, pp, rfl, b5⟩
                have HB5 := Lib.hid (HB4.out.trans (b5.mono HB4.out.size))
                clear b5
                go_wp2_with fail
                go_ret
                exact ⟨rfl, HB5.out⟩
end Go.Proofs.YtikehilbmldadaaGreatDoor
namespace Go.Proofs.YtikehilbmldadaaGreatDoor
open Go.ChangeShapes Go.WideShapes Go.ChangeAt Go.RowKit Go.Deep
set_option linter.unusedVariables false
section
variable {H : Type} {enc : TypeId × Value → H} {P : Program} {w : World}
def Rd (enc : TypeId × Value → H) (P : Program) (w : World) (t : TypeId) (cs : List Value) : Prop := ∃ n x, DataW.trod enc P w 0 (fun _ => true) true n t cs = some x
theorem rd_of {t : TypeId} {v : Value} {d : DataW H} {p : List MemPlace} (h : DataW.Trod enc P w 0 (fun _ => true) true t v d p) : Rd enc P w t v.cells.toList := by
  obtain ⟨n, hn⟩ := h
  exact ⟨n, _, hn⟩
theorem Rd.field {t : TypeId} {fs : Array Field} {cs : List Value} (ht : P.underlying t = some (.struct fs)) (h : Rd enc P w t cs) (i : Nat) (f : Field) (hf : fs[i]? = some f) : Rd enc P w f.type ((cs.drop f.offset).take (P.cellsOf f.type)) := by
  obtain ⟨n, x, hx⟩ := h
  obtain ⟨xs, m, _, _, _, hlen, hall⟩ := DataW.trod_struct ht hx
  have hi : i < xs.length := by rw [hlen]; exact (Array.getElem?_eq_some_iff.1 hf).1
  exact ⟨m, xs[i], by rw [hall i f hf]; simp [hi]⟩
theorem Rd.fieldAt {t : TypeId} {fs : Array Field} {cs : List Value} (ht : P.underlying t = some (.struct fs)) (h : Rd enc P w t cs) (i : Nat) {T off k : Nat} (hc : P.cellsOf T = k) (hf : (fs[i]?).map (fun f => (f.type, f.offset)) = some (T, off)) : Rd enc P w T ((cs.drop off).take k) := by
  cases hfi : fs[i]? with
  | none => rw [hfi] at hf; cases hf
  | some f =>
    rw [hfi] at hf
    simp only [Option.map_some, Option.some.injEq, Prod.mk.injEq] at hf
    obtain ⟨rfl, rfl⟩ := hf
    rw [← hc]
    exact h.field ht i f hfi
theorem Rd.len {t : TypeId} {fs : Array Field} {cs : List Value} (ht : P.underlying t = some (.struct fs)) (h : Rd enc P w t cs) : cs.length = P.cellsOf t := by
  obtain ⟨n, x, hx⟩ := h
  obtain ⟨xs, m, _, _, hl, _, _⟩ := DataW.trod_struct ht hx
  exact hl
theorem Rd.int {t : TypeId} {k : IntKind} {cs : List Value} (ht : P.underlying t = some (.int k)) (h : Rd enc P w t cs) : ∃ n, cs = [.int k n] ∧ (Lit.int k n).wf = true := by
  obtain ⟨m, x, hx⟩ := h
  obtain ⟨n, hc, _, hw⟩ := DataW.trod_int ht hx
  exact ⟨n, hc, hw⟩
theorem Rd.bool {t : TypeId} {cs : List Value} (ht : P.underlying t = some .bool) (h : Rd enc P w t cs) : ∃ b, cs = [.bool b] := by
  obtain ⟨m, x, hx⟩ := h
  obtain ⟨n, hc, _⟩ := DataW.trod_bool ht hx
  exact ⟨n, hc⟩
theorem Rd.str {t : TypeId} {cs : List Value} (ht : P.underlying t = some .string) (h : Rd enc P w t cs) : ∃ s : ByteArray, cs = [.string s] ∧ s.size ≤ maxLen := by
  obtain ⟨m, x, hx⟩ := h
  obtain ⟨n, hc, _, hs⟩ := DataW.trod_string ht hx
  exact ⟨n, hc, hs⟩
theorem Rd.rows {α : Type} [Inhabited α] (f : α → List Value) (sz : Nat) (hf : ∀ x, (f x).length = sz) (hsz : 0 < sz) {t e : TypeId} (ht : P.underlying t = some (.slice e)) (hc : P.cellsOf e = sz)
    (Q : α → Prop) (hinv : ∀ cs, Rd enc P w e cs → ∃ r, cs = f r ∧ Q r) {v : Value} (h : Rd enc P w t [v]) : ∃ l : List α, SlOf (· < w.heap.size) w v sz (l.flatMap f) l.length ∧ ∀ r ∈ l, Q r := by
  obtain ⟨n, x, hx⟩ := h
  rcases open_slice ht hx with ⟨hv, _⟩ | ⟨a, len, cap, m, k, D, Pl, hv, _, hl, hm, hmm, _, hall⟩
  · obtain rfl : v = .slice none 0 0 := by simpa using hv
    exact ⟨[], SlOf.nil _ _ _, fun r hr => by cases hr⟩
  · obtain rfl : v = .slice (some a) len cap := by simpa using hv
    obtain rfl : m = cap := by simpa using hmm
    have hrow : ∀ i, i < m → ∃ r, (w.cells? 0 (a.add (i * sz)) sz = some (f r) ∧ Q r) := fun i hi => by
      obtain ⟨cs', h1, h2⟩ := hall i hi
      obtain ⟨r, hr, hq⟩ := hinv cs' ⟨k, _, h2⟩
      rw [hc, hr] at h1
      exact ⟨r, h1, hq⟩
    obtain ⟨r, hr⟩ := choose_lt hrow
    refine ⟨(List.range len).map r, ⟨by rw [flat_len f sz hf], some a, m, by simp, by simpa using hl, hm, (fun h => by cases h), fun hp => ?_⟩, ?_⟩
    · have hlen : 0 < len := by
        rw [flat_len f sz hf, List.length_map, List.length_range] at hp
        exact Nat.pos_of_ne_zero (fun h => by subst h; simp at hp)
      have c0 := World.cells?_some (hr 0 (by omega)).1
      have c00 := c0.2.2 0 hsz
      rw [List.getElem?_eq_getElem (by rw [hf]; exact hsz)] at c00
      obtain ⟨b, off, spot⟩ := a
      have hspot : spot = none := by simpa [Addr.add] using World.cell?_spot c00
      subst hspot
      refine ⟨b, off, rfl, ?_, ?_, ?_⟩
      · have := World.block_lt_of_cell? _ _ c00
        simpa [Addr.add] using this
      · have := World.block_lt_of_cell? _ _ c00
        simpa [Addr.add] using this
      · intro q u hu
        have hq : q < ((List.range len).map r).length * sz := by rw [← flat_len f sz hf]; exact (List.getElem?_eq_some_iff.1 hu).1
        have hq' : q < len * sz := by simpa using hq
        have hi : q / sz < len := (Nat.div_lt_iff_lt_mul hsz).2 hq'
        have hj : q % sz < sz := Nat.mod_lt _ hsz
        have hdm : q / sz * sz + q % sz = q := by rw [Nat.mul_comm]; exact Nat.div_add_mod q sz
        have hg := flat_get f sz hf ((List.range len).map r) (q / sz) (by simpa using hi) (q % sz) hj
        rw [hdm, hu] at hg
        have hce := (World.cells?_some (hr (q / sz) (by omega)).1).2.2 (q % sz) hj
        rw [addr_add, addr_add, Nat.add_assoc, hdm] at hce
        rw [hce]
        simpa using hg.symm
    · intro x hx
      obtain ⟨i, hi, rfl⟩ := List.mem_map.1 hx
      exact (hr i (by have := List.mem_range.1 hi; omega)).2
end
theorem list2 {l : List Value} (h : l.length = 2) : ∃ c0 c1, l = [c0, c1] := by
  match l, h with
  | [c0, c1], _ => exact ⟨_, _, rfl⟩
instance : Inhabited GapV := ⟨⟨0, 0, 0, 0⟩⟩
instance : Inhabited RepV := ⟨⟨0, 0, false⟩⟩
theorem Tryz.cInt : Tryz.prog.cellsOf 3 = 1 := by kernel_rfl
theorem Tryz.cStr : Tryz.prog.cellsOf 9 = 1 := by kernel_rfl
theorem Tryz.cSl4 : Tryz.prog.cellsOf 48 = 1 := by kernel_rfl
def I64 (n : Int) : Prop := -9223372036854775808 ≤ n ∧ n ≤ 9223372036854775807
theorem i64_of_wf {n : Int} (h : (Lit.int .i64 n).wf = true) : I64 n := by
  simp [Lit.wf, IntKind.min, IntKind.max, IntKind.signed, IntKind.bits] at h
  unfold I64; omega
section
variable {H : Type} {enc : TypeId × Value → H} {w : World}
theorem rd_int (cs : List Value) (h : Rd enc Tryz.prog w 3 cs) : ∃ r : Int, cs = [.int .i64 r] ∧ I64 r := by
  obtain ⟨n, hn, wn⟩ := h.int Tryz.underlying3
  exact ⟨n, hn, i64_of_wf wn⟩
theorem flat_one {α : Type} (g : α → Value) (l : List α) : l.flatMap (fun x => [g x]) = l.map g := by
  induction l with
  | nil => rfl
  | cons x l ih => simp [ih]
end
end Go.Proofs.YtikehilbmldadaaGreatDoor
namespace Go.Proofs.YtikehilbmldadaaGreatDoor
open Go.ChangeShapes Go.WideShapes Go.ChangeAt Go.RowKit Go.Deep
set_option linter.unusedVariables false
instance : Inhabited LineV := ⟨⟨ByteArray.empty, [], .slice none 0 0⟩⟩
theorem Tryz.cLine : Tryz.prog.cellsOf 73 = 2 := by kernel_rfl
theorem rd_line {H : Type} {enc : TypeId × Value → H} {w : World} (cs : List Value) (h : Rd enc Tryz.prog w 73 cs) : ∃ r : LineV, cs = lnCs r ∧ (SlOf (· < w.heap.size) w r.vn 1 (intCells r.ns) r.ns.length ∧ ∀ k ∈ r.ns, I64 k) := by
  obtain ⟨c0, c1, rfl⟩ := list2 ((h.len Tryz.underlying73).trans Tryz.cLine)
  obtain ⟨n0, h0, w0⟩ := (show Rd enc Tryz.prog w 9 [c0] from h.fieldAt Tryz.underlying73 0 Tryz.cStr rfl).str Tryz.underlying9
  have r1 : Rd enc Tryz.prog w 48 [c1] := h.fieldAt Tryz.underlying73 1 Tryz.cSl4 rfl
  simp at h0
  subst h0
  obtain ⟨ln, sn, qn⟩ := r1.rows (fun n : Int => [Value.int .i64 n]) 1 (fun _ => rfl) (by decide) Tryz.underlying48 Tryz.cInt _ rd_int
  rw [flat_one] at sn
  exact ⟨⟨n0, ln, c1⟩, rfl, sn, qn⟩
end Go.Proofs.YtikehilbmldadaaGreatDoor
