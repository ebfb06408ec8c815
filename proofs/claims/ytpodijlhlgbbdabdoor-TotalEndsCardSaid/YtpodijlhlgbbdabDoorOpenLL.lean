/- An argument of type [][]string opened. -/
import Derived.Test.YtpodijlhlgbbdabDoorOpen
import Derived.Test.YtpodijlhlgbbdabDoorSummed
namespace Go.Proofs.YtpodijlhlgbbdabDoor
open Go.ChangeShapes Go.WideShapes Go.ChangeAt Go.RowKit Go.Deep
set_option linter.unusedVariables false

theorem Tryd.cSS : Tryd.prog.cellsOf 45 = 1 := by kernel_rfl
theorem choose_each {α β : Type} {P : α → β → Prop} : ∀ (vs : List α), (∀ v ∈ vs, ∃ l, P v l) → ∃ LL : List β, LL.length = vs.length ∧ ∀ k (h1 : k < vs.length) (h2 : k < LL.length), P vs[k] LL[k]
  | [], _ => ⟨[], rfl, fun k h => by simp at h⟩
  | v :: vs, h => by
    obtain ⟨l, hl⟩ := h v (by simp)
    obtain ⟨LL, hL, hk⟩ := choose_each vs (fun v hv => h v (by simp [hv]))
    refine ⟨l :: LL, by simp [hL], fun k h1 h2 => ?_⟩
    cases k with
    | zero => exact hl
    | succ k => exact hk k (by simpa using h1) (by simpa using h2)
section
variable {H : Type} {enc : TypeId × Value → H} {w : World}
instance : Inhabited Value := ⟨.bool false⟩
theorem rd_strs (cs : List Value) (h : Rd enc Tryd.prog w 45 cs) (hl : ∃ v, cs = [v]) : ∃ r : Value, cs = [r] ∧ ∃ l : List ByteArray, SlOf (· < w.heap.size) w r 1 (strCells1 l) l.length := by
  obtain ⟨v, rfl⟩ := hl
  obtain ⟨l, s, _⟩ := h.rows (fun s : ByteArray => [Value.string s]) 1 (fun _ => rfl) (by decide) Tryd.underlying45 Tryd.cStr _ rd_str
  rw [flat_one] at s
  exact ⟨v, rfl, l, s⟩
theorem Rd.sl1 {t e : TypeId} {cs : List Value} (ht : Tryd.prog.underlying t = some (.slice e)) (h : Rd enc Tryd.prog w t cs) : ∃ v, cs = [v] := by
  obtain ⟨n, x, hx⟩ := h
  rcases open_slice ht hx with ⟨hv, _⟩ | ⟨a, len, cap, m, k, D, Pl, hv, _⟩
  · exact ⟨_, hv⟩
  · exact ⟨_, hv⟩
theorem open_strss {v : Value} (h : Rd enc Tryd.prog w 37 [v]) : ∃ LL, SlLL (· < w.heap.size) w v LL := by
  obtain ⟨vs, s, q⟩ := h.rows (fun v : Value => [v]) 1 (fun _ => rfl) (by decide) Tryd.underlying37 Tryd.cSS (fun r => ∃ l : List ByteArray, SlOf (· < w.heap.size) w r 1 (strCells1 l) l.length)
    (fun cs hcs => rd_strs cs hcs (hcs.sl1 Tryd.underlying45))
  have e : vs.flatMap (fun v : Value => [v]) = vs := by rw [flat_one]; simp
  rw [e] at s
  obtain ⟨LL, hL, hk⟩ := choose_each vs q
  exact ⟨LL, vs, hL.symm, by rw [hL]; exact s, fun k h1 h2 => hk k h2 h1⟩
end
end Go.Proofs.YtpodijlhlgbbdabDoor
