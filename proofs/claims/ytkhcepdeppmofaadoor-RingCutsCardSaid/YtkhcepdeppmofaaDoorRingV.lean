/- A string's bytes as a row of one's own; a byte turned. -/
import Derived.Test.YtkhcepdeppmofaaDoorRingU
import Derived.Laws.IdiomStrings
namespace Go.Proofs.YtkhcepdeppmofaaDoor
open Go.RowKit
set_option linter.unusedVariables false

/-- Bytes of a row, wherever it ends. -/
structure RowB (w : World) (a : Nat) (l : List UInt8) : Prop where
  at_ : ∀ j (hj : j < l.length), w.cell? ⟨a, j, none⟩ = some (.int .u8 (l[j].toNat : Int))
  free : ∀ j, j < l.length → w.frozen? ⟨a, j, none⟩ = false
theorem run_str_bytes (w : World) (l : List UInt8) : ∃ cap w', (convert 9 63 (.string (strOf l))).run Tryd.prog w = .ok (.slice (some ⟨w.heap.size, 0, none⟩) l.length cap) w' ∧ RowB w' w.heap.size l ∧ Below w.heap.size w w' := by
  have h := run_bytes_of_string w 9 63 5 (strOf l) Tryd.underlying9 Tryd.underlying63 Tryd.underlying5
  rw [strOf_size] at h
  refine ⟨_, _, h, ⟨fun j hj => ?_, fun j hj => ?_⟩, ((Below.refl w.heap.size w).drew).alloc (Nat.le_refl _) _⟩
  · have e : w.heap.size = w.drew.heap.size := rfl
    conv => lhs; arg 2; rw [e]
    rw [World.cell?_alloc_mark]
    exact bytesRow_at (strOf l) _ j (by show j < (strOf l).size; rw [strOf_size]; exact hj)
  · have e : w.heap.size = w.drew.heap.size := rfl
    conv => lhs; arg 2; rw [e]
    rw [World.frozen?_alloc_mark]
    have hs : l.length ≤ (bytesRow (strOf l) (grownCap w l.length 0 5)).size := by
      unfold bytesRow
      rw [Array.size_append, Array.size_map]
      have : (strOf l).data.size = l.length := strOf_size l
      omega
    rw [decide_eq_false (by omega)]
    rfl
theorem RowB.set {w : World} {a : Nat} {l : List UInt8} (h : RowB w a l) (k : Nat) (x : UInt8) (hk : k < l.length) : RowB (w.setCell ⟨a, k, none⟩ (.int .u8 (x.toNat : Int))) a (l.set k x) := by
  refine ⟨fun j hj0 => ?_, fun j hj0 => ?_⟩
  · have hj : j < l.length := by simpa using hj0
    by_cases e : j = k
    · subst e
      rw [List.getElem_set_self]
      exact World.cell?_setCell_same _ _ _ (h.at_ j hj)
    · rw [List.getElem_set_ne (fun h => e h.symm), World.cell?_setCell_other _ _ _ _ (fun hh => e (congrArg Addr.off hh).symm)]
      exact h.at_ j hj
  · have hj : j < l.length := by simpa using hj0
    have := h.free j hj
    simpa using this
theorem u8_xor (a b : Nat) (ha : a < 256) (hb : b < 256) : bits .xor .u8 (a : Int) (b : Int) = ((a ^^^ b : Nat) : Int) := by
  have hx : a ^^^ b < 2 ^ 8 := Nat.xor_lt_two_pow (by omega) (by omega)
  show IntKind.u8.wrap ((BitVec.ofInt 8 (a : Int) ^^^ BitVec.ofInt 8 (b : Int)).toNat : Int) = _
  have e : ∀ n : Nat, n < 256 → (BitVec.ofInt 8 (n : Int)).toNat = n := fun n hn => by
    rw [BitVec.toNat_ofInt]; omega
  rw [BitVec.toNat_xor, e a ha, e b hb]
  show ((a ^^^ b : Nat) : Int).emod _ = _
  exact Int.emod_eq_of_lt (by omega) (by have e2 : (2 : Int) ^ IntKind.u8.bits = 256 := by decide
                                         rw [e2]; omega)
theorem xor_turns {x : UInt8} {b : Nat} (h0 : b ≠ 0) (hb : b < 256) : UInt8.ofNat (x.toNat ^^^ b) ≠ x := by
  intro h
  have h1 := congrArg UInt8.toNat h
  have hx : x.toNat ^^^ b < 2 ^ 8 := Nat.xor_lt_two_pow (by have := x.toNat_lt; omega) (by omega)
  rw [UInt8.toNat_ofNat', Nat.mod_eq_of_lt hx] at h1
  apply h0
  have : x.toNat ^^^ (x.toNat ^^^ b) = x.toNat ^^^ x.toNat := by rw [h1]
  rw [← Nat.xor_assoc, Nat.xor_self, Nat.zero_xor] at this
  exact this
theorem rSlotOf_any (s : Nat) (hs : 1 ≤ s) (hs2 : s ≤ 4294967296) (w : World) : Calls Tryd.prog 32 #[.int .i64 s] w fun e w' => e = .returned (.int .i64 ((s - 1) % 9 : Nat)) ∧ w = w' := by
  obtain ⟨S, rfl⟩ : ∃ S, s = S + 1 := ⟨s - 1, by omega⟩
  have h1 : (S : Int) < 4294967296 := by omega
  clear hs hs2
  go_enter Tryd.func32, Tryd.ntmps32
  go_wp2_with fail
  go_ret
  exact ⟨by simp, rfl⟩
end Go.Proofs.YtkhcepdeppmofaaDoor
