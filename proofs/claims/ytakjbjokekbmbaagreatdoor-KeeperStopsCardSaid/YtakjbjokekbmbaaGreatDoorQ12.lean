/- Gaps: Report and End. -/
import Derived.Test.YtakjbjokekbmbaaGreatDoorQ11
namespace Go.Proofs.YtakjbjokekbmbaaGreatDoor
open Go.RowKit
set_option linter.unusedVariables false

/-- The ticks of the latest starts are ticks. -/
def GsOk (L : List GapS) : Prop := ∀ x ∈ L, 0 ≤ x.since ∧ x.since ≤ 1099511627776
theorem GsOk.step {L : List GapS} (h : GsOk L) {p t : Int} (h0 : 0 ≤ t) (h1 : t ≤ 1099511627776) : GsOk (L.map (gsStep · p t)) := by
  intro x hx
  obtain ⟨y, hy, rfl⟩ := List.mem_map.1 hx
  have := h y hy
  unfold gsStep
  split
  · exact ⟨h0, h1⟩
  · exact this

set_option maxHeartbeats 400000 in
theorem gapsEnd_any (base : Nat) (ro : Option Nat) (g : Nat) (L : List GapS) (bad : Bool) (w : World) (h : GapsAt base ro w g L bad) :
    Calls Tryz.prog 111 #[.pointer (some ⟨g, 0, none⟩)] w fun e w' => e = .returned (.bool (!bad)) ∧ GapsAt base ro w' g L false ∧ Keep (fun b => b = g ∨ ro = some b) w w' := by
  obtain ⟨ao, cap, hg, ho, hgb, hro⟩ := h
  obtain ⟨g0, g1, gf⟩ := two_cells hg
  have n1 := get_setCell (o := 1) (.bool false) hg
  have n2 := keep_set w g 1 (.bool false)
  have fin : GapsAt base ro (w.setCell ⟨g, 1, none⟩ (.bool false)) g L false ∧ Keep (fun b => b = g ∨ ro = some b) w (w.setCell ⟨g, 1, none⟩ (.bool false)) :=
    ⟨⟨ao, cap, n1, ownsRow_keepO ho n2 (fun b hb hb' => by have := (ho.lt b hb).1; omega), hgb, hro⟩, n2.mono (fun b _ hb => .inl hb)⟩
  have FIN := Lib.hid fin
  clear fin n1 n2 hg ho
  go_enter Tryz.func111, Tryz.ntmps111
  go_wp2_with fail
  go_ret
  exact ⟨by cases bad <;> rfl, FIN.out⟩
end Go.Proofs.YtakjbjokekbmbaaGreatDoor
