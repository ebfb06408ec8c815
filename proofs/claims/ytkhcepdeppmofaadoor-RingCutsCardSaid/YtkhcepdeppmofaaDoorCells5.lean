/- Package cells: Copy. -/
import Derived.Test.YtkhcepdeppmofaaDoorCells4
namespace Go.Proofs.YtkhcepdeppmofaaDoor
open Go.RowKit
set_option linter.unusedVariables false

def byteVs (l : List UInt8) : List Value := l.map (fun b => Value.int .u8 (b.toNat : Int))
theorem byteVs_one (l : List UInt8) : ∀ u ∈ byteVs l, u.oneCell' = true := by
  intro u hu
  simp only [byteVs, List.mem_map] at hu
  obtain ⟨b, _, rfl⟩ := hu
  rfl
theorem own_bytes {w : World} {base n k1 : Nat} {a1 : Option Addr} {bs : List UInt8} (h : w.ownsRow base 5 1 (.slice a1 n k1) n (byteVs bs)) :
    ∃ rb2, (a1 = some ⟨rb2, 0, none⟩ ∨ (bs = [] ∧ a1 = none)) ∧ (a1 = some ⟨rb2, 0, none⟩ → BytesAt w rb2 bs) ∧ base ≤ rb2 ∧ n = bs.length ∧ n ≤ k1 := by
  obtain ⟨hl, hv⟩ := h
  have hn : n = bs.length := by simpa [byteVs] using hl.symm
  rcases hv with ⟨hv, h0⟩ | ⟨g, cap, cur, hv, hb, hg, h1, h2, h3, h4⟩
  · simp at hv
    obtain ⟨rfl, rfl, rfl⟩ := hv
    refine ⟨base, .inr ⟨List.eq_nil_of_length_eq_zero hn.symm, rfl⟩, (fun h => by cases h), Nat.le_refl _, hn, Nat.le_refl _⟩
  · simp at hv
    obtain ⟨rfl, rfl⟩ := hv
    refine ⟨g, .inl rfl, fun _ => ⟨cur, _, hg, by omega, fun i hi => ?_⟩, hb, hn, h1⟩
    have : (cur.toList.take (n * 1))[i]? = (byteVs bs)[i]? := by rw [h4]
    rw [List.getElem?_take] at this
    rw [if_pos (by omega)] at this
    simp [byteVs, hi] at this
    simpa using this

end Go.Proofs.YtkhcepdeppmofaaDoor
