/- RingTurned: what the turned bytes show; what Records shows. -/
import Derived.Test.YtkhcepdeppmofaaDoorRingV
namespace Go.Proofs.YtkhcepdeppmofaaDoor
open Go.RowKit
set_option linter.unusedVariables false

/-- What RingTurned appends. -/
def turnD (n : Nat) : List RecV := (List.range n).map fun i => ⟨i + 1, i % 8, 1 + i % 3, i⟩
theorem turnD_len (n : Nat) : (turnD n).length = n := by simp [turnD]
theorem turnD_succ (n : Nat) : turnD (n + 1) = turnD n ++ [⟨n + 1, n % 8, 1 + n % 3, n⟩] := by
  unfold turnD; rw [List.range_succ, List.map_append]; rfl
theorem turn_next (n : Nat) : nextRec (turnD n) ((n : Int) % 8) (1 + (n : Int) % 3) n = ⟨n + 1, n % 8, 1 + n % 3, n⟩ := by
  unfold nextRec
  rw [turnD_len, show ((n : Int) % 8).toNat = n % 8 by omega, show (1 + (n : Int) % 3).toNat = 1 + n % 3 by omega]
  rfl
theorem turn_ok (n : Nat) (h : n ≤ 40) : appOk ((n : Int) % 8) (1 + (n : Int) % 3) n = true := by
  apply decide_eq_true
  omega
theorem turn_app {m : CM} {n : Nat} (h : Log m (turnD n) (18 * n)) (hc : m.cut = -1) (hn : n ≤ 40) :
    ∃ m', ringApp m (lastR (turnD n)) false ((n : Int) % 8) (1 + (n : Int) % 3) n = (0, ⟨n + 1, n % 8, 1 + n % 3, n⟩, m', lastR (turnD (n + 1)), false) ∧ m'.cut = -1 ∧ Log m' (turnD (n + 1)) (18 * (n + 1 : Nat)) := by
  obtain ⟨m', h1, h2, h3⟩ := log_on h (turn_ok n hn) hc (by rw [turnD_len]; omega)
  rw [turn_next, ← turnD_succ] at h1 h2
  exact ⟨m', h1, h3, ⟨h2.inv, h2.ok.mono (by omega), h2.on, h2.dn⟩⟩
theorem turnD_seq {b : List UInt8} {n : Nat} (h : RInv b (turnD n)) : (lastZ (lastR (turnD n))).seq = n := by
  rw [lastZ_lastR (fun j hj => (h.seq j hj).1), turnD_len]
theorem runDown_le (H : Nat → Option RecV) : ∀ f s, (runDown H f s).length ≤ f
  | 0, s => by unfold runDown; exact Nat.le_refl _
  | f + 1, 0 => by unfold runDown; exact Nat.zero_le _
  | f + 1, s + 1 => by
    unfold runDown
    cases H (s % 9) with
    | none => exact Nat.zero_le _
    | some r =>
      simp only
      split
      · rw [List.length_append]
        exact Nat.add_le_add (runDown_le H f s) (Nat.le_refl _)
      · exact Nat.zero_le _
theorem recs_le (b : List UInt8) : (recsOf b).length ≤ 8 := runDown_le _ _ _
theorem turn_arith (i H A : Nat) (h : 1 ≤ i ∧ i ≤ 40 ∧ H < 8 ∧ H < i ∧ A < 17) : ∃ S k9 K : Nat, S = i - H ∧ k9 = (S - 1) % 9 ∧ K = k9 * 17 + A ∧ (i : Int) - (H : Int) = (S : Int) ∧ (k9 : Int) * 17 + (A : Int) = (K : Int) ∧ K < 153 ∧ wrap64 (S : Int) = (S : Int) ∧ wrap64 (K : Int) = (K : Int) ∧ wrap64 ((k9 : Int) * 17) = (k9 : Int) * 17 ∧ 1 ≤ S ∧ S ≤ 4294967296 := by
  obtain ⟨h1, h2, h3, h4, h5⟩ := h
  have h6 : (i - H - 1) % 9 < 9 := Nat.mod_lt _ (by decide)
  exact ⟨i - H, (i - H - 1) % 9, (i - H - 1) % 9 * 17 + A, rfl, rfl, rfl, by omega, by omega, by omega, IntWalk.wrap64_in _ (by omega), IntWalk.wrap64_in _ (by omega), IntWalk.wrap64_in _ (by omega), by omega, by omega⟩
theorem u8_range {n : Int} (h : (Lit.int IntKind.u8 n).wf = true) : 0 ≤ n ∧ n < 256 := by
  simp [Lit.wf, IntKind.min, IntKind.max, IntKind.signed, IntKind.bits] at h
  omega
theorem turn_wraps (i H A : Nat) (h : 1 ≤ i ∧ i ≤ 40 ∧ H < 8 ∧ H < i ∧ A < 17) : wrap64 ((i : Int) - (H : Int)) = (i : Int) - (H : Int) ∧ wrap64 ((i : Int) - (H : Int) + 1) = (i : Int) - (H : Int) + 1 :=
  ⟨IntWalk.wrap64_in _ (by omega), IntWalk.wrap64_in _ (by omega)⟩
theorem turned_zero {b : List UInt8} {n A K : Nat} {x : UInt8} (h : RInv b (turnD n)) (h1 : 1 ≤ n) (ha : A < 17) (hk : K = (n - 1) % 9 * 17 + A) (hx : b[K]? ≠ some x) :
    (recsOf (b.set K x)).length ≤ 8 ∧ (recsOf (b.set K x)).isEmpty = decide (n = 1) ∧ (1 < n → (lastZ (recsOf (b.set K x))).seq = n - 1) := by
  subst hk
  have := turned_last h (a := A) (x := x) (by rw [turnD_len]; omega) ha (by rw [turnD_len]; exact hx)
  rw [turnD_len] at this
  exact ⟨recs_le _, this⟩
theorem turned_more {b : List UInt8} {n H A K : Nat} {x : UInt8} (h : RInv b (turnD n)) (h1 : H < n) (h0 : 0 < H) (h8 : H < 8) (ha : A < 17) (hk : K = (n - H - 1) % 9 * 17 + A) (hx : b[K]? ≠ some x) :
    (recsOf (b.set K x)).length = H ∧ (∀ hh : 0 < (recsOf (b.set K x)).length, ((recsOf (b.set K x))[0]).seq = n - H + 1) ∧ (∀ hh : H - 1 < (recsOf (b.set K x)).length, ((recsOf (b.set K x))[H - 1]).seq = n) := by
  subst hk
  have := turned_recs h (n := H) (a := A) (x := x) (by rw [turnD_len]; omega) h8 h0 ha (by rw [turnD_len]; exact hx)
  rw [turnD_len] at this
  have hl : (recsOf (b.set ((n - H - 1) % 9 * 17 + A) x)).length = H := by rw [this, List.length_drop, turnD_len]; omega
  refine ⟨hl, fun hh => ?_, fun hh => ?_⟩
  · simp only [this]
    rw [List.getElem_drop]
    simp [turnD]
  · simp only [this]
    rw [List.getElem_drop]
    simp [turnD]; omega
theorem recs_st {B : Nat} {sa : Nat → Addr} {w0 w : World} {rg c rb cap : Nat} {m : CM} {dead : Bool} {L : List RecV} {lv : Value} (h : RSt B sa w0 rg c rb cap m dead L lv w) (hn : L.length ≤ 1000) :
    Calls Tryd.prog 34 #[.pointer (some ⟨rg, 0, none⟩)] w fun e w' => ∃ ao cap, e = .returned (.slice ao L.length cap) ∧ Below w.heap.size w w' ∧ SlOf (fun b => w.heap.size ≤ b) w' (.slice ao L.length cap) 4 (L.flatMap recCells) L.length := by
  refine (ringRecords_any w rg c lv dead L _ h.ring hn).mono ?_
  rintro e w' ⟨v, rfl, hv, b⟩
  obtain ⟨ao, cp, rfl⟩ := hv.val
  exact ⟨ao, cp, rfl, b, hv⟩
end Go.Proofs.YtkhcepdeppmofaaDoor
