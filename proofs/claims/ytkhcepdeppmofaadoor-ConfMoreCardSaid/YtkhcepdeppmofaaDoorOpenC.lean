/- A config argument opened; the tables at the head of a card's list. -/
import Derived.Test.YtkhcepdeppmofaaDoorConfK
import Derived.Test.YtkhcepdeppmofaaDoorOpen
import Derived.Test.YtkhcepdeppmofaaDoorLaid
import Derived.Test.YtkhcepdeppmofaaDoorPage
import Derived.Lib.LaidTab
import Derived.Stop.LaidErr
namespace Go.Proofs.YtkhcepdeppmofaaDoor
open Go.ChangeShapes Go.WideShapes Go.ChangeAt Go.RowKit Go.Deep
set_option linter.unusedVariables false

theorem list5 {l : List Value} (h : l.length = 5) : ∃ c0 c1 c2 c3 c4, l = [c0, c1, c2, c3, c4] := by
  match l, h with
  | [c0, c1, c2, c3, c4], _ => exact ⟨_, _, _, _, _, rfl⟩
instance : Inhabited EntX := ⟨⟨⟨ByteArray.empty, 0, [], 0, 0, 0, [], [], [], []⟩, .slice none 0 0, .slice none 0 0, .slice none 0 0, .slice none 0 0, .slice none 0 0⟩⟩
theorem Tryd.cConf : Tryd.prog.cellsOf 72 = 5 := by kernel_rfl
theorem Tryd.cSlE : Tryd.prog.cellsOf 32 = 1 := by kernel_rfl
/-- The numbers of a config are int's. -/
structure ConfWf (C : ConfV) : Prop where
  closed : I64 C.closed
  opn : I64 C.opn
  cycle : I64 C.cycle
  delay : I64 C.delay
  ents : ∀ E ∈ C.ents, EntWf E
section
variable {H : Type} {enc : TypeId × Value → H} {w : World}
theorem rd_entX (cs : List Value) (h : Rd enc Tryd.prog w 27 cs) : ∃ x : EntX, cs = entXCells x ∧ (EntSl (· < w.heap.size) w x.E x.p x.g x.e x.f x.l ∧ EntWf x.E) := by
  obtain ⟨E, vp, vg, ve, vf, vl, hv, hs, hw⟩ := rd_ent (v := .agg cs.toArray) ⟨_, rfl⟩ h
  refine ⟨⟨E, vp, vg, ve, vf, vl⟩, ?_, hs, hw⟩
  have := congrArg Array.toList (Value.agg.inj hv)
  simpa [entXCells] using this
theorem rd_conf {v : Value} (hv : ∃ cs : Array Value, v = .agg cs) (h : Rd enc Tryd.prog w 72 v.cells.toList) : ∃ C X vX, v = .agg (confCs C vX) ∧ EntsSl (· < w.heap.size) w vX X ∧ C.ents = X.map EntX.E ∧ ConfWf C := by
  obtain ⟨cs, rfl⟩ := hv
  have h' : Rd enc Tryd.prog w 72 cs.toList := h
  obtain ⟨c0, c1, c2, c3, c4, hcs⟩ := list5 ((h'.len Tryd.underlying72).trans Tryd.cConf)
  obtain rfl : cs = #[c0, c1, c2, c3, c4] := by cases cs; simp_all
  obtain ⟨n0, h0, w0⟩ := (show Rd enc Tryd.prog w 3 [c0] from h'.fieldAt Tryd.underlying72 0 Tryd.cInt rfl).int Tryd.underlying3
  obtain ⟨n1, h1, w1⟩ := (show Rd enc Tryd.prog w 3 [c1] from h'.fieldAt Tryd.underlying72 1 Tryd.cInt rfl).int Tryd.underlying3
  obtain ⟨n2, h2, w2⟩ := (show Rd enc Tryd.prog w 3 [c2] from h'.fieldAt Tryd.underlying72 2 Tryd.cInt rfl).int Tryd.underlying3
  obtain ⟨n3, h3, w3⟩ := (show Rd enc Tryd.prog w 3 [c3] from h'.fieldAt Tryd.underlying72 3 Tryd.cInt rfl).int Tryd.underlying3
  have r4 : Rd enc Tryd.prog w 32 [c4] := h'.fieldAt Tryd.underlying72 4 Tryd.cSlE rfl
  simp at h0 h1 h2 h3
  subst h0 h1 h2 h3
  obtain ⟨X, sX, qX⟩ := r4.rows entXCells 10 (fun _ => rfl) (by decide) Tryd.underlying32 Tryd.cEnt _ rd_entX
  refine ⟨⟨n0, n1, n2, n3, X.map EntX.E⟩, X, c4, rfl, ⟨sX, fun x hx => (qX x hx).1⟩, rfl, ⟨i64_of_wf w0, i64_of_wf w1, i64_of_wf w2, i64_of_wf w3, fun E hE => ?_⟩⟩
  obtain ⟨x, hx, rfl⟩ := List.mem_map.1 hE
  exact (qX x hx).2
end

theorem Tryd.powName : Tryd.prog.globalNamed "internal/strconv.uint64pow10" = some 17 := by kernel_rfl
theorem tabB_of {W : World} {rest : List (String × DataW Unit)} (h : laidMet Tryd.prog (("internal/strconv.uint64pow10", Lib.tabData .u64 Lib.pow10Tab) :: rest) W) : TabB W.heap.size W :=
  Lib.tabBelow_of_tabIs (Lib.tabIs_of_head Tryd.powName rfl Tryd.underlying301 Tryd.underlying227 (by kernel_rfl) (by kernel_rfl) h)
end Go.Proofs.YtkhcepdeppmofaaDoor
