/- The document's Has. -/
import Derived.Test.YtgdaljpimblkgaaGreatDoorR04
import Derived.Deep.RegionHeld3
import Derived.Deep.QuietTactic
import Derived.BigQuiet
namespace Go.Proofs.YtgdaljpimblkgaaGreatDoor
open Go.RowKit
set_option linter.unusedVariables false

set_option maxHeartbeats 400000 in
theorem hasInts_any (R : Nat → Prop) (l : List Int) (v : Value) (x : Int) (w : World) (h : SlOf R w v 1 (intCells l) l.length) :
    Calls Tryz.prog 59 #[v, .int .i64 x] w fun e w' => e = .returned (.bool (decide (x ∈ l))) ∧ w = w' := by
  obtain ⟨hl, ao, cap, rfl, h1, h2, h3, h4⟩ := h
  have hsl : SlOf R w (.slice ao l.length cap) 1 (intCells l) l.length := ⟨hl, _, _, rfl, h1, h2, h3, h4⟩
  have hn : l.length ≤ 9223372036854775807 := by unfold maxLen at h2; omega
  have H := Lib.hid hsl
  clear hl h1 h2 h3 h4 hsl
  go_enter Tryz.func59, Tryz.ntmps59
  go_wp2_with fail
  go_loop [5] (fun s => ∃ k : Nat, k ≤ l.length ∧ s = .int .i64 k ∧ Hid (∀ j (hj : j < l.length), j < k → l[j] ≠ x)) (fun s => l.length - (intOf s).toNat)
  case atStart => exact ⟨0, Nat.zero_le _, rfl, fun j hj h => by omega⟩
  case round =>
    obtain ⟨k, hk, rfl, hall⟩ := hrel
    by_cases hlt : k < l.length
    · obtain ⟨b, off, rfl, hRb, _, hc⟩ := int_cells H.out (by omega)
      have q := hc k hlt
      clear hc
      by_cases hx : l[k] = x
      · have hxb : (l[k] == x) = true := beq_iff_eq.2 hx
        have HI := Lib.hid (show x ∈ l from hx ▸ List.getElem_mem hlt)
        clear hx
        go_wp2_with fail
        go_ret
        exact ⟨ret_bool (decide_eq_true HI.out).symm, rfl⟩
      · have hxb : (l[k] == x) = false := by simp [hx]
        go_wp2_with fail
        go_round
        case rel =>
          refine ⟨k + 1, by omega, by go_num, fun j hj h => ?_⟩
          by_cases hjk : j = k
          · subst hjk; exact hx
          · exact hall.out j hj (by omega)
        case measure => simp [intOf]; omega
    · have HI := Lib.hid (show x ∉ l from fun h => by
        obtain ⟨j, hj, e⟩ := List.mem_iff_getElem.1 h
        exact hall.out j hj (by omega) e)
      go_wp2_with fail
      go_ret
      exact ⟨ret_bool (decide_eq_false HI.out).symm, rfl⟩
end Go.Proofs.YtgdaljpimblkgaaGreatDoor

/- Flow: New, may, then, Report, End, At. -/
namespace Go.Proofs.YtgdaljpimblkgaaGreatDoor
open Go.RowKit
set_option linter.unusedVariables false

theorem fn_keep {B : Nat} {w1 w' : World} (hs : B < w1.heap.size) (h : Below w1.heap.size w1 w') : (∀ o, w'.cell? ⟨B, o, none⟩ = w1.cell? ⟨B, o, none⟩) ∧ Below w1.heap.size w1 w' := ⟨fun o => h.cell (p := ⟨B, o, none⟩) hs, h⟩

theorem below_alloc1 {w1 w' : World} (h : Below w1.heap.size w1 w') (o : Obj) : Below w1.heap.size w1 (w'.alloc o) := h.alloc h.size o
theorem below_step {w1 w' w'' : World} (h : Below w1.heap.size w1 w') (k : Below w'.heap.size w' w'') : Below w1.heap.size w1 w'' := h.trans (k.mono h.size)
theorem slOf_new {R : Nat → Prop} {w : World} {v : Value} {sz : Nat} {cs : List Value} {n lo hi : Nat} {f mb : Nat} (h : SlOf R w v sz cs n) (hlo : ∀ b, R b → lo ≤ b) (hhi : w.heap.size ≤ hi) (hf : ∀ b, R b → b < w.heap.size → b ≠ f) (hm : ∀ b, R b → b < w.heap.size → b ≠ mb) : SlOf (fun b => lo ≤ b ∧ b < hi ∧ b ≠ f ∧ b ≠ mb) w v sz cs n := by
  obtain ⟨hl, ao, cap, hv, h1, h2, h3, h4⟩ := h
  refine ⟨hl, ao, cap, hv, h1, h2, h3, fun hp => ?_⟩
  obtain ⟨b, off, ha, hR, hb, hc⟩ := h4 hp
  exact ⟨b, off, ha, ⟨hlo b hR, Nat.lt_of_lt_of_le hb hhi, hf b hR hb, hm b hR hb⟩, hb, hc⟩
theorem SlOf.imp {R S : Nat → Prop} {w : World} {v : Value} {sz : Nat} {cs : List Value} {n : Nat} (h : SlOf R w v sz cs n) (hd : ∀ b, R b → b < w.heap.size → S b) : SlOf S w v sz cs n := by
  obtain ⟨hl, ao, cap, hv, h1, h2, h3, h4⟩ := h
  refine ⟨hl, ao, cap, hv, h1, h2, h3, fun hp => ?_⟩
  obtain ⟨b, off, ha, hR, hb, hc⟩ := h4 hp
  exact ⟨b, off, ha, hd b hR hb, hb, hc⟩
theorem pairsAt_new (w : World) : PairsAt (w.alloc (.map #[] 0)) w.heap.size [] := ⟨#[], 0, heap_alloc_new w _, rfl⟩

theorem six_cells {w : World} {b : Nat} {c0 c1 c2 c3 c4 c5 : Value} {t : TypeId} (h : w.heap[b]? = some (.cells #[c0, c1, c2, c3, c4, c5] t)) :
    w.cell? ⟨b, 0, none⟩ = some c0 ∧ w.cell? ⟨b, 1, none⟩ = some c1 ∧ w.cell? ⟨b, 2, none⟩ = some c2 ∧ w.cell? ⟨b, 3, none⟩ = some c3 ∧ w.cell? ⟨b, 4, none⟩ = some c4 ∧ w.cell? ⟨b, 5, none⟩ = some c5 ∧ ∀ o, w.frozen? ⟨b, o, none⟩ = false := by
  simp [World.cell?, World.frozen?, h]
theorem Tryz.pairInfo : (Tryz.prog.info? 3).map (·.size) = some 1 := by kernel_rfl
theorem Tryz.pairZero : (Tryz.prog.info? 4).map (·.zero) = some (some (.bool false)) := by kernel_rfl
end Go.Proofs.YtgdaljpimblkgaaGreatDoor

/- The document's SameInts. -/
namespace Go.Proofs.YtgdaljpimblkgaaGreatDoor
open Go.RowKit
set_option linter.unusedVariables false

theorem drewN_drewN (w : World) (a b : Nat) : ∃ c, (w.drewN a).drewN b = w.drewN c := ⟨a + b, World.drewN_drewN w a b⟩

set_option maxHeartbeats 1000000 in
theorem sameInts_any (R : Nat → Prop) (la lb : List Int) (va vb : Value) (w : World) (ha : SlOf R w va 1 (intCells la) la.length) (hb : SlOf R w vb 1 (intCells lb) lb.length) (hn : la.length ≤ 100000) (hn2 : lb.length ≤ 100000) :
    Calls Tryz.prog 56 #[va, vb] w fun e w' => e = .returned (.bool (decide (la = lb))) ∧ ∃ q, w' = w.drewN q := by
  obtain ⟨ao, cap, rfl⟩ := ha.val
  obtain ⟨bo, cap2, rfl⟩ := hb.val
  have HA := Lib.hid ha
  have HB := Lib.hid hb
  clear ha hb
  by_cases hl : la.length = lb.length
  · have hl2 : ((la.length : Int) == (lb.length : Int)) = true := by simp [hl]
    have HL := Lib.hid hl
    clear hl
    go_enter Tryz.func56, Tryz.ntmps56
    go_wp2_with fail
    go_loopw [5] (fun s wr => ∃ i q : Nat, i ≤ la.length ∧ s = .int .i64 i ∧ Hid (∀ j, j < i → la[j]? = lb[j]?) ∧ wr = w.drewN q) (fun s _ => la.length - (intOf s).toNat)
    case atStart => exact ⟨0, 0, Nat.zero_le _, rfl, fun j hj => by omega, rfl⟩
    case round =>
      obtain ⟨i, q, hi, rfl, hall, rfl⟩ := hrel
      by_cases hlt : i < la.length
      · have hlt2 : i < lb.length := by have := HL.out; omega
        obtain ⟨b1, o1, rfl, _, hb1, hc1⟩ := int_cells HA.out (by omega)
        obtain ⟨b2, o2, rfl, _, hb2, hc2⟩ := int_cells HB.out (by omega)
        have q1 := hc1 i hlt
        have q2 := hc2 i hlt2
        clear hc1 hc2
        have hi2 : (i : Int) < (lb.length : Int) := by omega
        by_cases he : la[i] = lb[i]
        · have heb : (la[i] == lb[i]) = true := by simp [he]
          have heb2 : (la[i] != lb[i]) = false := by simp [he]
          have HE := Lib.hid he
          clear he
          go_wp2_with fail
          go_quiet (fail)
          go_wp2_with fail
          go_roundw
          case rel => exact ⟨i + 1, _, by omega, by go_num, (show ∀ j, j < i + 1 → la[j]? = lb[j]? from fun j hj => by
            by_cases hji : j = i
            · subst hji; rw [List.getElem?_eq_getElem hlt, List.getElem?_eq_getElem hlt2, HE.out]
            · exact hall.out j (by omega)), rfl⟩
          case measure => simp [intOf]; omega
        · have heb : (la[i] == lb[i]) = false := by simp [he]
          have heb2 : (la[i] != lb[i]) = true := by simp [he]
          have HE := Lib.hid he
          clear he
          go_wp2_with fail
          go_quiet (fail)
          go_wp2_with fail
          go_ret
          refine ⟨ret_bool (decide_eq_false (fun e => HE.out ?_)).symm, drewN_drewN _ _ _⟩
          subst e; rfl
      · go_wp2_with fail
        go_ret
        refine ⟨ret_bool (decide_eq_true ?_).symm, _, rfl⟩
        apply List.ext_getElem?
        intro j
        by_cases hj : j < la.length
        · exact hall.out j (by omega)
        · rw [List.getElem?_eq_none (by omega), List.getElem?_eq_none (by have := HL.out; omega)]
  · have hl2 : ((la.length : Int) == (lb.length : Int)) = false := by simp; omega
    have HL := Lib.hid hl
    clear hl
    go_enter Tryz.func56, Tryz.ntmps56
    go_wp2_with fail
    go_ret
    exact ⟨ret_bool (decide_eq_false (fun e => HL.out (by rw [e]))).symm, 0, rfl⟩
end Go.Proofs.YtgdaljpimblkgaaGreatDoor
