/- The document's twice, strangers. -/
import Derived.Test.YtkhcepdeppmofaaDoorEntN
import Derived.Test.YtkhcepdeppmofaaDoorRHas
import Derived.Test.YtkhcepdeppmofaaDoorFlow
import Derived.Test.YtkhcepdeppmofaaDoorSame
import Derived.Deep.RegionHeld3
namespace Go.Proofs.YtkhcepdeppmofaaDoor
open Go.RowKit
set_option linter.unusedVariables false

/-- Is a number twice in a list? -/
def twiceB (l : List Int) : Bool := (List.range l.length).any (fun i => decide (l.getD i 0 ∈ l.take i))
theorem twiceB_hit {l : List Int} (i : Nat) (hi : i < l.length) (h : l[i] ∈ l.take i) : twiceB l = true := by
  unfold twiceB
  rw [List.any_eq_true]
  exact ⟨i, List.mem_range.2 hi, by rw [List.getD_eq_getElem?_getD, List.getElem?_eq_getElem hi]; exact decide_eq_true h⟩
theorem twiceB_miss {l : List Int} (h : ∀ i (hi : i < l.length), l[i] ∉ l.take i) : twiceB l = false := by
  unfold twiceB
  rw [List.any_eq_false]
  intro i hi
  have hi := List.mem_range.1 hi
  rw [List.getD_eq_getElem?_getD, List.getElem?_eq_getElem hi]
  simpa using h i hi
theorem SlOf.take {R : Nat → Prop} {w : World} {ao : Option Addr} {cap : Nat} {l : List Int} (h : SlOf R w (.slice ao l.length cap) 1 (intCells l) l.length) (k : Nat) (hk : k ≤ l.length) : SlOf R w (.slice ao k cap) 1 (intCells (l.take k)) (l.take k).length := by
  obtain ⟨hl, ao', cap', hv, h1, h2, h3, h4⟩ := h
  simp at hv
  obtain ⟨rfl, rfl⟩ := hv
  have hlt : (l.take k).length = k := by simp; omega
  refine ⟨by simp [intCells], ao, cap, by rw [hlt], by rw [hlt]; omega, h2, h3, fun hp => ?_⟩
  have hp2 : 0 < (intCells l).length := by simp [intCells] at hp ⊢; omega
  obtain ⟨b, off, ha, hR, hb, hc⟩ := h4 hp2
  refine ⟨b, off, ha, hR, hb, fun j u hu => hc j u ?_⟩
  have hj : j < k := by
    have := (List.getElem?_eq_some_iff.1 hu).1
    simp [intCells] at this; omega
  simp [intCells, hj] at hu ⊢
  exact hu

theorem quiet_of_eqE {P : Program} {f : FuncId} {args : Array Value} {w : World} {n : Nat} {v : Value}
    (h : Calls P f args (w.drewN n) fun e w' => e = .returned v ∧ w.drewN n = w') : Calls P f args (w.drewN n) fun e w'' => e = .returned v ∧ ∃ m, w'' = w.drewN m :=
  h.mono fun _ _ ⟨he, hm⟩ => ⟨he, n, hm.symm⟩
theorem run_sub_ints (w : World) (b off len cap i : Nat) (hi : i ≤ cap) :
    (Instr.slice 25 (.slice (some ⟨b, off, none⟩) len cap) none (some (.int .i64 i)) none).run Tryd.prog w = .ok (.slice (some ⟨b, off, none⟩) i cap) w := by
  have ht : Tryd.prog.underlying 25 = some (.slice (Tryd.prog.elem 25)) := by kernel_rfl
  have hs : ((sizeOf (Tryd.prog.elem 25)).run Tryd.prog w) = .ok 1 w := by kernel_rfl
  rw [run_slice_h w 25 (some ⟨b, off, none⟩) len cap ht .i64 i (by omega) (by omega), hs]
  show Result.ok (sliced _ _ _ _ _) w = _
  unfold sliced
  simp
  intro _
  rw [addr_add, Nat.add_zero]
set_option maxHeartbeats 1000000 in
theorem twice_any (R : Nat → Prop) (l : List Int) (v : Value) (w : World) (h : SlOf R w v 1 (intCells l) l.length) (hn : l.length ≤ 100000) :
    Calls Tryd.prog 56 #[v] w fun e w' => e = .returned (.bool (twiceB l)) ∧ ∃ q, w' = w.drewN q := by
  obtain ⟨ao, cap, rfl⟩ := h.val
  have H := Lib.hid h
  have hcap : (l.length : Int) ≤ (cap : Int) ∧ (cap : Int) ≤ 9223372036854775807 := by
    obtain ⟨_, _, _, hv, h1, h2, _⟩ := h
    simp at hv
    obtain ⟨rfl, rfl⟩ := hv
    unfold maxLen at h2
    omega
  have hc1 := hcap.1
  have hc2 := hcap.2
  clear h hcap
  go_enter Tryd.func56, Tryd.ntmps56
  go_wp2_with fail
  go_loopw [3] (fun s wr => ∃ i q : Nat, i ≤ l.length ∧ s = .int .i64 i ∧ Hid (∀ j (hj : j < l.length), j < i → l[j] ∉ l.take j) ∧ wr = w.drewN q) (fun s _ => l.length - (intOf s).toNat)
  case atStart => exact ⟨0, 0, Nat.zero_le _, rfl, fun j _ h => by omega, rfl⟩
  case round =>
    obtain ⟨i, q, hi, rfl, hall, rfl⟩ := hrel
    by_cases hlt : i < l.length
    · obtain ⟨b, off, rfl, _, _, hc⟩ := int_cells H.out (by omega)
      generalize hwq : World.drewN w q = wq
      have q1 : wq.cell? ⟨b, off + i, none⟩ = some (.int .i64 l[i]) := by rw [← hwq]; exact hc i hlt
      clear hc
      have hs : SlOf R wq (.slice (some ⟨b, off, none⟩) i cap) 1 (intCells (l.take i)) (l.take i).length := by
        rw [← hwq]
        exact (H.out.take i (by omega)).keep (keep_drewN q (Keep.refl (fun _ => False) w)) (fun _ _ h => h)
      have HWQ := Lib.hid hwq
      clear hwq
      have hT : Hid (∀ n, Calls Tryd.prog 84 #[.slice (some ⟨b, off, none⟩) i cap, .int .i64 l[i]] (wq.drewN n) fun e w' => e = .returned (.bool (decide (l[i] ∈ l.take i))) ∧ wq.drewN n = w') := (show ∀ n, Calls Tryd.prog 84 #[.slice (some ⟨b, off, none⟩) i cap, .int .i64 l[i]] (wq.drewN n) fun e w' => e = .returned (.bool (decide (l[i] ∈ l.take i))) ∧ wq.drewN n = w' from fun n => hasInts_any R (l.take i) _ l[i] _ (hs.keep (keep_drewN n (Keep.refl (fun _ => False) wq)) (fun _ _ h => h)))
      clear hs
      obtain ⟨tb, htb⟩ : ∃ tb, tb = decide (l[i] ∈ l.take i) := ⟨_, rfl⟩
      rw [← htb] at hT
      have HTB := Lib.hid htb
      clear htb
      have hi2 : (i : Int) ≤ (cap : Int) := by omega
      have hsub := fun W => run_sub_ints W b off l.length cap i (by omega)
      go_wp2_with fail
      go_quiet ((go_at_call 84; exact quiet_of_eqE (hT.out _)))
      have hdd : ∀ n, ∃ c, wq.drewN n = w.drewN c := fun n => by rw [← HWQ.out]; exact drewN_drewN _ _ _
      have HDD := Lib.hid hdd
      clear hdd
      cases tb with
      | true =>
        have hbad := Lib.hid (twiceB_hit i hlt (of_decide_eq_true HTB.out.symm))
        go_wp2_with fail
        go_ret
        exact ⟨ret_bool hbad.out.symm, HDD.out _⟩
      | false =>
        have hgood := Lib.hid (of_decide_eq_false HTB.out.symm)
        go_wp2_with fail
        go_roundw
        case rel =>
          obtain ⟨c, hc⟩ := HDD.out _
          exact ⟨i + 1, c, by omega, by go_num, (show ∀ j (hj : j < l.length), j < i + 1 → l[j] ∉ l.take j from fun j hj hji => by
            by_cases e : j = i
            · subst e; exact hgood.out
            · exact hall.out j hj (by omega)), hc⟩
        case measure => simp [intOf]; omega
    · have HB := Lib.hid (twiceB_miss (l := l) (fun j hj => hall.out j hj (by omega)))
      go_wp2_with fail
      go_ret
      exact ⟨ret_bool HB.out.symm, _, rfl⟩
end Go.Proofs.YtkhcepdeppmofaaDoor
