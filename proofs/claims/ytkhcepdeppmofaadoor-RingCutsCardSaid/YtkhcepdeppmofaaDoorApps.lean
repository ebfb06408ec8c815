/- Appends to a ring as plain data. -/
import Derived.Test.YtkhcepdeppmofaaDoorOpen
namespace Go.Proofs.YtkhcepdeppmofaaDoor
open Go.RowKit
set_option linter.unusedVariables false

structure AppV where
  ent : Int
  kind : Int
  tick : Int
  cut : Int
  boot : Bool
def appCells (a : AppV) : List Value := [.int .i64 a.ent, .int .i64 a.kind, .int .i64 a.tick, .int .i64 a.cut, .bool a.boot]
instance : Inhabited AppV := ⟨⟨0, 0, 0, 0, false⟩⟩
theorem Tryd.cApp : Tryd.prog.cellsOf 85 = 5 := by kernel_rfl
structure AppIn (a : AppV) : Prop where
  ent : I64 a.ent
  kind : I64 a.kind
  tick : I64 a.tick
  cut : I64 a.cut
theorem app_cells {R : Nat → Prop} {w : World} {ao : Option Addr} {n cap : Nat} {l : List AppV} (h : SlOf R w (.slice ao n cap) 5 (l.flatMap appCells) l.length) (h0 : 0 < l.length) :
    ∃ b off, ao = some ⟨b, off, none⟩ ∧ R b ∧ b < w.heap.size ∧ ∀ k (hk : k < l.length), w.cell? ⟨b, off + k * 5, none⟩ = some (.int .i64 l[k].ent) ∧ w.cell? ⟨b, off + k * 5 + 1, none⟩ = some (.int .i64 l[k].kind) ∧ w.cell? ⟨b, off + k * 5 + 2, none⟩ = some (.int .i64 l[k].tick) ∧
      w.cell? ⟨b, off + k * 5 + 3, none⟩ = some (.int .i64 l[k].cut) ∧ w.cell? ⟨b, off + k * 5 + 4, none⟩ = some (.bool l[k].boot) := by
  obtain ⟨b, off, ha, hR, hb, hc⟩ := h.elem (fun _ => rfl) (by decide) h0
  exact ⟨b, off, ha, hR, hb, fun k hk => ⟨hc k hk 0 _ rfl, hc k hk 1 _ rfl, hc k hk 2 _ rfl, hc k hk 3 _ rfl, hc k hk 4 _ rfl⟩⟩
theorem list5 {l : List Value} (h : l.length = 5) : ∃ c0 c1 c2 c3 c4, l = [c0, c1, c2, c3, c4] := by
  match l, h with
  | [c0, c1, c2, c3, c4], _ => exact ⟨c0, c1, c2, c3, c4, rfl⟩
theorem rd_app {H : Type} {enc : TypeId × Value → H} {w : World} (cs : List Value) (h : Rd enc Tryd.prog w 85 cs) : ∃ r, cs = appCells r ∧ AppIn r := by
  obtain ⟨c0, c1, c2, c3, c4, rfl⟩ := list5 ((h.len Tryd.underlying85).trans Tryd.cApp)
  obtain ⟨n0, h0, w0⟩ := (show Rd enc Tryd.prog w 3 [c0] from h.fieldAt Tryd.underlying85 0 Tryd.cInt rfl).int Tryd.underlying3
  obtain ⟨n1, h1, w1⟩ := (show Rd enc Tryd.prog w 3 [c1] from h.fieldAt Tryd.underlying85 1 Tryd.cInt rfl).int Tryd.underlying3
  obtain ⟨n2, h2, w2⟩ := (show Rd enc Tryd.prog w 3 [c2] from h.fieldAt Tryd.underlying85 2 Tryd.cInt rfl).int Tryd.underlying3
  obtain ⟨n3, h3, w3⟩ := (show Rd enc Tryd.prog w 3 [c3] from h.fieldAt Tryd.underlying85 3 Tryd.cInt rfl).int Tryd.underlying3
  obtain ⟨n4, h4⟩ := (show Rd enc Tryd.prog w 4 [c4] from h.fieldAt Tryd.underlying85 4 Tryd.cBool rfl).bool Tryd.underlying4
  simp at h0 h1 h2 h3 h4
  subst h0 h1 h2 h3 h4
  exact ⟨⟨n0, n1, n2, n3, n4⟩, rfl, i64_of_wf w0, i64_of_wf w1, i64_of_wf w2, i64_of_wf w3⟩
end Go.Proofs.YtkhcepdeppmofaaDoor
