/- Package conf: points; the library's Grow and Concat; strangers. -/
import Derived.Test.YtkhcepdeppmofaaDoorConfD
import Derived.Test.YtkhcepdeppmofaaDoorSentsC
import Derived.Lib.AppendZerosOnto
namespace Go.Proofs.YtkhcepdeppmofaaDoor
open Go.RowKit
set_option linter.unusedVariables false

theorem sidx_take {P : List ByteArray} {k : Nat} (hk : k < P.length) : hasStr (P.take k) P[k] = decide (sidxOf P P[k] < k) := by
  unfold sidxOf
  cases h : P.findIdx? (fun y => y.toList == P[k].toList) with
  | none =>
    rw [List.findIdx?_eq_none_iff] at h
    have := h P[k] (List.getElem_mem hk)
    simp at this
  | some i =>
    rw [List.findIdx?_eq_some_iff_getElem] at h
    obtain ⟨hi, he, hmin⟩ := h
    by_cases hik : i < k
    · rw [decide_eq_true (by simp only; omega)]
      exact hasStr_hit i (by rw [List.length_take]; omega) (by simpa using he)
    · rw [decide_eq_false (by simp only; omega)]
      exact hasStr_miss (fun j hj => by
        rw [List.length_take] at hj
        have := hmin j (by omega)
        simpa using this)
theorem ptE_name {P : List ByteArray} {k : Nat} (hk : k < P.length) (h : isNameB P[k] = false) : ptE P k = 4 := by rw [ptE_at hk, if_pos h]
theorem ptE_twice {P : List ByteArray} {k : Nat} (hk : k < P.length) (h : isNameB P[k] = true) (h2 : hasStr (P.take k) P[k] = true) : ptE P k = 6 := by
  rw [sidx_take hk] at h2
  rw [ptE_at hk, if_neg (by rw [h]; decide), if_pos (of_decide_eq_true h2)]
theorem ptE_good {P : List ByteArray} {k : Nat} (hk : k < P.length) (h : isNameB P[k] = true) (h2 : hasStr (P.take k) P[k] = false) : ptE P k = 0 := by
  rw [sidx_take hk] at h2
  rw [ptE_at hk, if_neg (by rw [h]; decide), if_neg (of_decide_eq_false h2)]
theorem SlOf.cutS {R : Nat → Prop} {w : World} {ao : Option Addr} {cap : Nat} {l : List ByteArray} (h : SlOf R w (.slice ao l.length cap) 1 (strCells1 l) l.length) (k : Nat) (hk : k ≤ l.length) : SlOf R w (.slice ao k cap) 1 (strCells1 (l.take k)) (l.take k).length := by
  rw [← flat_strs] at h ⊢
  exact SlOf.cut (f := fun x => [Value.string x]) h (fun _ => rfl) k hk

set_option maxHeartbeats 1000000 in
theorem points_any (B : Nat) (sa : Nat → Addr) (R : Nat → Prop) (l : List ByteArray) (v : Value) (w : World) (hS : SentsC B sa w) (h : SlOf R w v 1 (strCells1 l) l.length) (hR : ∀ b, R b → b < w.heap.size) (hn : l.length ≤ 100000) :
    Calls Tryd.prog 105 #[v] w fun e w' => e = .returned (errv sa (ptsE l)) ∧ Below w.heap.size w w' := by
  obtain ⟨ao, cap, rfl⟩ := h.val
  have H := Lib.hid h
  have HS := Lib.hid hS
  obtain ⟨hc1, hc2⟩ := h.capB
  clear h hS
  go_enter Tryd.func105, Tryd.ntmps105
  go_wp2_with fail
  go_loopw [7] (fun s wr => ∃ i : Nat, i ≤ l.length ∧ s = .int .i64 i ∧ Below w.heap.size w wr ∧ Hid (∀ j, j < i → ptE l j = 0)) (fun s _ => l.length - (intOf s).toNat)
  case atStart => exact ⟨0, Nat.zero_le _, rfl, Below.refl _ _, fun j h => by omega⟩
  case round =>
    obtain ⟨i, hi, rfl, hbl, hall⟩ := hrel
    by_cases hlt : i < l.length
    · obtain ⟨b, off, rfl, hRb, _, hc⟩ := str_cells H.out (by omega)
      have q := hc i hlt
      rw [← hbl.cell (hR b hRb)] at q
      have HN := Lib.hid (confName_any l[i] wr)
      clear hc
      cases hn1 : isNameB l[i]
      · rw [hn1] at HN
        have HP := Lib.hid (show ptsE l = 4 from by
          have e := ptE_name hlt hn1
          rw [ptsE_hit hlt (by rw [e]; decide) hall.out, e])
        clear hn1 hall
        go_wp2_with fail
        refine HN.out.mono ?_
        rintro e w1 ⟨rfl, b1⟩
        have hb1 := hbl.trans (b1.mono hbl.size)
        obtain ⟨_, _, _, g3, _, _⟩ := (HS.out.on hb1).all
        go_wp2_with fail
        go_ret
        rw [HP.out]
        exact ⟨rfl, hb1⟩
      · rw [hn1] at HN
        have hi2 : (i : Int) ≤ (cap : Int) := by omega
        have hsub := fun W => run_sub_strs W b off l.length cap i (by omega)
        have HC := Lib.hid (fun W (hB : Below w.heap.size w W) => containsStrs_any R (l.take i) (.slice (some ⟨b, off, none⟩) i cap) l[i] W ((H.out.cutS i (by omega)).below hB hR))
        cases ht : hasStr (l.take i) l[i]
        · rw [ht] at HC
          have nx : Hid (∀ j, j < i + 1 → ptE l j = 0) := (show ∀ j, j < i + 1 → ptE l j = 0 from fun j hj => by
            by_cases e : j = i
            · subst e; exact ptE_good hlt hn1 ht
            · exact hall.out j (by omega))
          clear hn1 ht hall
          go_wp2_with fail
          refine HN.out.mono ?_
          rintro e w1 ⟨rfl, b1⟩
          have hb1 := hbl.trans (b1.mono hbl.size)
          clear b1 q
          go_wp2_with fail
          refine (HC.out w1 hb1).mono ?_
          rintro e w' ⟨rfl, rfl⟩
          go_wp2_with fail
          go_roundw
          case rel => exact ⟨i + 1, by omega, by go_num, hb1, nx⟩
          case measure => simp [intOf]; omega
        · rw [ht] at HC
          have HP := Lib.hid (show ptsE l = 6 from by
            have e := ptE_twice hlt hn1 ht
            rw [ptsE_hit hlt (by rw [e]; decide) hall.out, e])
          clear hn1 ht hall
          go_wp2_with fail
          refine HN.out.mono ?_
          rintro e w1 ⟨rfl, b1⟩
          have hb1 := hbl.trans (b1.mono hbl.size)
          clear b1 q
          go_wp2_with fail
          refine (HC.out w1 hb1).mono ?_
          rintro e w' ⟨rfl, rfl⟩
          obtain ⟨_, _, _, _, _, g5⟩ := (HS.out.on hb1).all
          go_wp2_with fail
          go_ret
          rw [HP.out]
          exact ⟨rfl, hb1⟩
    · have HP := Lib.hid (ptsE_miss (P := l) (fun j hj => hall.out j (by omega)))
      clear hall
      go_wp2_with fail
      go_ret
      rw [HP.out]
      exact ⟨rfl, hbl⟩
end Go.Proofs.YtkhcepdeppmofaaDoor
