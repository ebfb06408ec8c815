/- Acts on cells as plain data. -/
import Derived.Test.YtpodijlhlgbbdabDoorOpen
namespace Go.Proofs.YtpodijlhlgbbdabDoor
open Go.RowKit
set_option linter.unusedVariables false

structure Act1V where
  kind : ByteArray
  b : ByteArray
  at_ : Int
  n : Int
def act1Cells (a : Act1V) : List Value := [.string a.kind, .string a.b, .int .i64 a.at_, .int .i64 a.n]
instance : Inhabited Act1V := ⟨⟨⟨#[]⟩, ⟨#[]⟩, 0, 0⟩⟩
theorem Tryd.cAct1 : Tryd.prog.cellsOf 64 = 4 := by kernel_rfl
structure Act1Ok (a : Act1V) : Prop where
  kind : a.kind.size ≤ maxLen
  b : a.b.size ≤ maxLen
  at_ : I64 a.at_
  n : I64 a.n
theorem act1_cells {R : Nat → Prop} {w : World} {ao : Option Addr} {n cap : Nat} {l : List Act1V} (h : SlOf R w (.slice ao n cap) 4 (l.flatMap act1Cells) l.length) (h0 : 0 < l.length) :
    ∃ b off, ao = some ⟨b, off, none⟩ ∧ R b ∧ b < w.heap.size ∧ ∀ k (hk : k < l.length), w.cell? ⟨b, off + k * 4, none⟩ = some (.string l[k].kind) ∧ w.cell? ⟨b, off + k * 4 + 1, none⟩ = some (.string l[k].b) ∧ w.cell? ⟨b, off + k * 4 + 2, none⟩ = some (.int .i64 l[k].at_) ∧ w.cell? ⟨b, off + k * 4 + 3, none⟩ = some (.int .i64 l[k].n) := by
  obtain ⟨b, off, ha, hR, hb, hc⟩ := h.elem (fun _ => rfl) (by decide) h0
  exact ⟨b, off, ha, hR, hb, fun k hk => ⟨hc k hk 0 _ rfl, hc k hk 1 _ rfl, hc k hk 2 _ rfl, hc k hk 3 _ rfl⟩⟩
theorem rd_act1 {H : Type} {enc : TypeId × Value → H} {w : World} (cs : List Value) (h : Rd enc Tryd.prog w 64 cs) : ∃ r, cs = act1Cells r ∧ Act1Ok r := by
  obtain ⟨c0, c1, c2, c3, rfl⟩ := list4 ((h.len Tryd.underlying64).trans Tryd.cAct1)
  obtain ⟨n0, h0, w0⟩ := (show Rd enc Tryd.prog w 9 [c0] from h.fieldAt Tryd.underlying64 0 Tryd.cStr rfl).str Tryd.underlying9
  obtain ⟨n1, h1, w1⟩ := (show Rd enc Tryd.prog w 9 [c1] from h.fieldAt Tryd.underlying64 1 Tryd.cStr rfl).str Tryd.underlying9
  obtain ⟨n2, h2, w2⟩ := (show Rd enc Tryd.prog w 3 [c2] from h.fieldAt Tryd.underlying64 2 Tryd.cInt rfl).int Tryd.underlying3
  obtain ⟨n3, h3, w3⟩ := (show Rd enc Tryd.prog w 3 [c3] from h.fieldAt Tryd.underlying64 3 Tryd.cInt rfl).int Tryd.underlying3
  simp at h0 h1 h2 h3
  subst h0 h1 h2 h3
  exact ⟨⟨n0, n1, n2, n3⟩, rfl, w0, w1, i64_of_wf w2, i64_of_wf w3⟩
end Go.Proofs.YtpodijlhlgbbdabDoor
