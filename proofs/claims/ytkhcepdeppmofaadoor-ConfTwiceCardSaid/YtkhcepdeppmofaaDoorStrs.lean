/- Contains, Index of texts. -/
import Derived.Test.YtkhcepdeppmofaaDoorFlow0
namespace Go.Proofs.YtkhcepdeppmofaaDoor
open Go.RowKit
set_option linter.unusedVariables false

/-- Does a text stand in a list? Its place; -1: none. (Texts are compared byte by byte.) -/
def hasStr (l : List ByteArray) (x : ByteArray) : Bool := l.any (fun y => y.toList == x.toList)
def sidxOf (l : List ByteArray) (x : ByteArray) : Int := match l.findIdx? (fun y => y.toList == x.toList) with | some i => (i : Int) | none => -1
theorem sidxOf_hit {l : List ByteArray} {x : ByteArray} {k : Nat} (hk : k < l.length) (hx : l[k].toList = x.toList) (hb : ∀ j (hj : j < l.length), j < k → l[j].toList ≠ x.toList) : sidxOf l x = k := by
  have : l.findIdx? (fun y => y.toList == x.toList) = some k := by
    rw [List.findIdx?_eq_some_iff_getElem]
    exact ⟨hk, by simp [hx], fun j hj => by have := hb j (by omega) hj; simpa using this⟩
  simp [sidxOf, this]
theorem sidxOf_miss {l : List ByteArray} {x : ByteArray} (h : ∀ j (hj : j < l.length), l[j].toList ≠ x.toList) : sidxOf l x = -1 := by
  have : l.findIdx? (fun y => y.toList == x.toList) = none := by
    rw [List.findIdx?_eq_none_iff]
    intro y hy
    obtain ⟨j, hj, rfl⟩ := List.mem_iff_getElem.1 hy
    simpa using h j hj
  simp [sidxOf, this]
theorem sidxOf_nonneg (l : List ByteArray) (x : ByteArray) : decide (0 ≤ sidxOf l x) = hasStr l x := by
  unfold sidxOf hasStr
  cases h : l.findIdx? (fun y => y.toList == x.toList) with
  | none =>
    rw [List.findIdx?_eq_none_iff] at h
    have : l.any (fun y => y.toList == x.toList) = false := by
      rw [List.any_eq_false]; intro y hy; simpa using h y hy
    rw [this]; decide
  | some i =>
    rw [List.findIdx?_eq_some_iff_getElem] at h
    obtain ⟨hi, he, _⟩ := h
    have : l.any (fun y => y.toList == x.toList) = true := List.any_eq_true.2 ⟨l[i], List.getElem_mem hi, he⟩
    rw [this]
    simp

theorem flat_strs (l : List ByteArray) : l.flatMap (fun x => [Value.string x]) = strCells1 l := by
  unfold strCells1
  induction l with
  | nil => rfl
  | cons x l ih => simp [ih]
theorem str_cells {R : Nat → Prop} {w : World} {ao : Option Addr} {n cap : Nat} {l : List ByteArray} (h : SlOf R w (.slice ao n cap) 1 (strCells1 l) l.length) (h0 : 0 < l.length) :
    ∃ b off, ao = some ⟨b, off, none⟩ ∧ R b ∧ b < w.heap.size ∧ ∀ k (hk : k < l.length), w.cell? ⟨b, off + k, none⟩ = some (.string l[k]) := by
  have h' : SlOf R w (.slice ao n cap) 1 (l.flatMap (fun x => [Value.string x])) l.length := by
    rw [flat_strs]; exact h
  obtain ⟨b, off, ha, hR, hb, hc⟩ := h'.elem (fun _ => rfl) (by decide) h0
  refine ⟨b, off, ha, hR, hb, fun k hk => ?_⟩
  have := hc k hk 0 _ rfl
  simpa using this

set_option maxHeartbeats 400000 in
theorem indexStrs_any (R : Nat → Prop) (l : List ByteArray) (v : Value) (x : ByteArray) (w : World) (h : SlOf R w v 1 (strCells1 l) l.length) :
    Calls Tryd.prog 114 #[v, .string x] w fun e w' => e = .returned (.int .i64 (sidxOf l x)) ∧ w = w' := by
  obtain ⟨hl, ao, cap, rfl, h1, h2, h3, h4⟩ := h
  have hsl : SlOf R w (.slice ao l.length cap) 1 (strCells1 l) l.length := ⟨hl, _, _, rfl, h1, h2, h3, h4⟩
  have hn : l.length ≤ 9223372036854775807 := by unfold maxLen at h2; omega
  have H := Lib.hid hsl
  clear hl h1 h2 h3 h4 hsl
  go_enter Tryd.func114, Tryd.ntmps114
  go_wp2_with fail
  go_loop [8] (fun s => ∃ k : Nat, k ≤ l.length ∧ s = .int .i64 k ∧ Hid (∀ j (hj : j < l.length), j < k → l[j].toList ≠ x.toList)) (fun s => l.length - (intOf s).toNat)
  case atStart => exact ⟨0, Nat.zero_le _, rfl, fun j hj h => by omega⟩
  case round =>
    obtain ⟨k, hk, rfl, hall⟩ := hrel
    by_cases hlt : k < l.length
    · obtain ⟨b, off, rfl, hRb, _, hc⟩ := str_cells H.out (by omega)
      have q := hc k hlt
      clear hc
      by_cases hx : x.toList = l[k].toList
      · have hxb : (x.toList == l[k].toList) = true := by simp [hx]
        have hI := sidxOf_hit hlt hx.symm hall.out
        have HI := Lib.hid hI
        clear hx hI
        go_wp2_with fail
        go_ret
        exact ⟨ret_int HI.out.symm, rfl⟩
      · have hxb : (x.toList == l[k].toList) = false := by simp [hx]
        go_wp2_with fail
        go_round
        case rel =>
          refine ⟨k + 1, by omega, by go_num, fun j hj h => ?_⟩
          by_cases hjk : j = k
          · subst hjk; exact fun h => hx h.symm
          · exact hall.out j hj (by omega)
        case measure => simp [intOf]; omega
    · have hI := sidxOf_miss (l := l) (x := x) (fun j hj => hall.out j hj (by omega))
      have HI := Lib.hid hI
      clear hI
      go_wp2_with fail
      go_ret
      exact ⟨ret_int HI.out.symm, rfl⟩

set_option maxHeartbeats 400000 in
theorem containsStrs_any (R : Nat → Prop) (l : List ByteArray) (v : Value) (x : ByteArray) (w : World) (h : SlOf R w v 1 (strCells1 l) l.length) :
    Calls Tryd.prog 143 #[v, .string x] w fun e w' => e = .returned (.bool (hasStr l x)) ∧ w = w' := by
  obtain ⟨ao, cap, rfl⟩ := h.val
  have H := Lib.hid h
  clear h
  go_enter Tryd.func143, Tryd.ntmps143
  go_wp2_with fail
  refine (indexStrs_any R l _ x _ H.out).mono ?_
  rintro e w' ⟨rfl, rfl⟩
  go_wp2_with fail
  go_ret
  exact ⟨ret_bool (sidxOf_nonneg l x), rfl⟩
end Go.Proofs.YtkhcepdeppmofaaDoor
