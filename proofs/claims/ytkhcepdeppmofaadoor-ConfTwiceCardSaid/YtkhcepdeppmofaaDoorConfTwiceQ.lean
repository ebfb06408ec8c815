/- A config argument opened; the tables at the head of a card's list. -/
import Derived.Test.YtkhcepdeppmofaaDoorConfK
import Derived.Test.YtkhcepdeppmofaaDoorOpen
import Derived.Test.YtkhcepdeppmofaaDoorLaid
import Derived.Test.YtkhcepdeppmofaaDoorPage
import Derived.Lib.LaidTab
import Derived.Stop.LaidErr
import Derived.Test.YtkhcepdeppmofaaDoorNumber
import Derived.Test.YtkhcepdeppmofaaDoorSentsC
import Derived.Test.YtkhcepdeppmofaaDoorRows
import Derived.LaidMore
import Derived.LaidSub
import Derived.Lay
import Derived.LaidOnce
import Derived.MakeChecks
import Derived.Stop.Joined
namespace Go.Proofs.YtkhcepdeppmofaaDoor
open Go.ChangeShapes Go.WideShapes Go.ChangeAt Go.RowKit Go.Deep
set_option linter.unusedVariables false

theorem list5 {l : List Value} (h : l.length = 5) : ∃ c0 c1 c2 c3 c4, l = [c0, c1, c2, c3, c4] := by
  match l, h with
  | [c0, c1, c2, c3, c4], _ => exact ⟨_, _, _, _, _, rfl⟩
instance : Inhabited EntX := ⟨⟨⟨ByteArray.empty, 0, [], 0, 0, 0, [], [], [], []⟩, .slice none 0 0, .slice none 0 0, .slice none 0 0, .slice none 0 0, .slice none 0 0⟩⟩
theorem Tryd.cConf : Tryd.prog.cellsOf 72 = 5 := by kernel_rfl
theorem Tryd.cSlE : Tryd.prog.cellsOf 32 = 1 := by kernel_rfl
/-- The numbers of a config are int's. -/
structure ConfWf (C : ConfV) : Prop where
  closed : I64 C.closed
  opn : I64 C.opn
  cycle : I64 C.cycle
  delay : I64 C.delay
  ents : ∀ E ∈ C.ents, EntWf E
section
variable {H : Type} {enc : TypeId × Value → H} {w : World}
theorem rd_entX (cs : List Value) (h : Rd enc Tryd.prog w 27 cs) : ∃ x : EntX, cs = entXCells x ∧ (EntSl (· < w.heap.size) w x.E x.p x.g x.e x.f x.l ∧ EntWf x.E) := by
  obtain ⟨E, vp, vg, ve, vf, vl, hv, hs, hw⟩ := rd_ent (v := .agg cs.toArray) ⟨_, rfl⟩ h
  refine ⟨⟨E, vp, vg, ve, vf, vl⟩, ?_, hs, hw⟩
  have := congrArg Array.toList (Value.agg.inj hv)
  simpa [entXCells] using this
theorem rd_conf {v : Value} (hv : ∃ cs : Array Value, v = .agg cs) (h : Rd enc Tryd.prog w 72 v.cells.toList) : ∃ C X vX, v = .agg (confCs C vX) ∧ EntsSl (· < w.heap.size) w vX X ∧ C.ents = X.map EntX.E ∧ ConfWf C := by
  obtain ⟨cs, rfl⟩ := hv
  have h' : Rd enc Tryd.prog w 72 cs.toList := h
  obtain ⟨c0, c1, c2, c3, c4, hcs⟩ := list5 ((h'.len Tryd.underlying72).trans Tryd.cConf)
  obtain rfl : cs = #[c0, c1, c2, c3, c4] := by cases cs; simp_all
  obtain ⟨n0, h0, w0⟩ := (show Rd enc Tryd.prog w 3 [c0] from h'.fieldAt Tryd.underlying72 0 Tryd.cInt rfl).int Tryd.underlying3
  obtain ⟨n1, h1, w1⟩ := (show Rd enc Tryd.prog w 3 [c1] from h'.fieldAt Tryd.underlying72 1 Tryd.cInt rfl).int Tryd.underlying3
  obtain ⟨n2, h2, w2⟩ := (show Rd enc Tryd.prog w 3 [c2] from h'.fieldAt Tryd.underlying72 2 Tryd.cInt rfl).int Tryd.underlying3
  obtain ⟨n3, h3, w3⟩ := (show Rd enc Tryd.prog w 3 [c3] from h'.fieldAt Tryd.underlying72 3 Tryd.cInt rfl).int Tryd.underlying3
  have r4 : Rd enc Tryd.prog w 32 [c4] := h'.fieldAt Tryd.underlying72 4 Tryd.cSlE rfl
  simp at h0 h1 h2 h3
  subst h0 h1 h2 h3
  obtain ⟨X, sX, qX⟩ := r4.rows entXCells 10 (fun _ => rfl) (by decide) Tryd.underlying32 Tryd.cEnt _ rd_entX
  refine ⟨⟨n0, n1, n2, n3, X.map EntX.E⟩, X, c4, rfl, ⟨sX, fun x hx => (qX x hx).1⟩, rfl, ⟨i64_of_wf w0, i64_of_wf w1, i64_of_wf w2, i64_of_wf w3, fun E hE => ?_⟩⟩
  obtain ⟨x, hx, rfl⟩ := List.mem_map.1 hE
  exact (qX x hx).2
end

theorem Tryd.powName : Tryd.prog.globalNamed "internal/strconv.uint64pow10" = some 17 := by kernel_rfl
theorem tabB_of {W : World} {rest : List (String × DataW Unit)} (h : laidMet Tryd.prog (("internal/strconv.uint64pow10", Lib.tabData .u64 Lib.pow10Tab) :: rest) W) : TabB W.heap.size W :=
  Lib.tabBelow_of_tabIs (Lib.tabIs_of_head Tryd.powName rfl Tryd.underlying301 Tryd.underlying227 (by kernel_rfl) (by kernel_rfl) h)
end Go.Proofs.YtkhcepdeppmofaaDoor

/- What ConfTwice's card lists. -/
namespace Go.Proofs.YtkhcepdeppmofaaDoor.confTwice
open Go.ChangeShapes Go.WideShapes Go.ChangeAt Go.RowKit
set_option linter.unusedVariables false

theorem six_eq : Rows.confTwiceRow.laid.filter (fun x => decide (x.1 ∈ ["nightwatch/api.ErrText", "nightwatch/api.ErrBound", "nightwatch/api.ErrShape", "nightwatch/api.ErrName", "nightwatch/api.ErrNone", "nightwatch/api.ErrExist"])) = (([0, 1, 2, 3, 4, 5] : List Nat).map fun k => ((sentL.getD k ("", [])).1, sentD (sentL.getD k ("", [])).2)) := by kernel_rfl
def numL : List (String × List UInt8) := [("strconv.ErrRange", [118, 97, 108, 117, 101, 32, 111, 117, 116, 32, 111, 102, 32, 114, 97, 110, 103, 101]), ("strconv.ErrSyntax", [105, 110, 118, 97, 108, 105, 100, 32, 115, 121, 110, 116, 97, 120])]
theorem num_eq : Rows.confTwiceRow.laid.filter (fun x => decide (x.1 ∈ ["strconv.ErrRange", "strconv.ErrSyntax"])) = (numL.map fun x => (x.1, sentD x.2)) := by kernel_rfl
theorem nm0 : Tryd.prog.globalNamed "strconv.ErrRange" = some 16 := by kernel_rfl
theorem nm1 : Tryd.prog.globalNamed "strconv.ErrSyntax" = some 15 := by kernel_rfl
theorem ty0 : (Tryd.prog.globals[16]?).map (·.type) = some 44 := by kernel_rfl
theorem ty1 : (Tryd.prog.globals[15]?).map (·.type) = some 44 := by kernel_rfl
theorem nums_of {W : World} (h : laidMet Tryd.prog (numL.map fun x => (x.1, sentD x.2)) W) : (∃ t p, W.cell? ⟨16, 0, none⟩ = some (.iface t p)) ∧ ∃ t p, W.cell? ⟨15, 0, none⟩ = some (.iface t p) := by
  obtain ⟨ps, hv, hnd, hrows⟩ := h
  obtain ⟨bs, q1, q2, q3, q4⟩ := laid_each Tryd.underlying44 Tryd.rowE Tryd.underlying304 Tryd.underlying306 rfl rfl Tryd.underlying9 Tryd.cellsE Tryd.cellsS numL [16, 15] rfl (fun k h1 h2 => by
    match k, h1 with
    | 0, _ => exact ⟨nm0, ty0⟩
    | 1, _ => exact ⟨nm1, ty1⟩) ps hv hnd hrows
  have h2 : bs.length = 2 := q1
  exact ⟨⟨_, _, q4 0 (by decide) (by decide) (by omega)⟩, ⟨_, _, q4 1 (by decide) (by decide) (by omega)⟩⟩
theorem laid_twice {W : World} (h : laidMet Tryd.prog Rows.confTwiceRow.laid W) : ∃ sa, SentsC W.heap.size sa W ∧ NumB W.heap.size W ∧ TabB W.heap.size W := by
  have h6 := laidMet.filter (fun x => decide (x.1 ∈ ["nightwatch/api.ErrText", "nightwatch/api.ErrBound", "nightwatch/api.ErrShape", "nightwatch/api.ErrName", "nightwatch/api.ErrNone", "nightwatch/api.ErrExist"])) h
  rw [six_eq] at h6
  have h2 := laidMet.filter (fun x => decide (x.1 ∈ ["strconv.ErrRange", "strconv.ErrSyntax"])) h
  rw [num_eq] at h2
  obtain ⟨sa, hs⟩ := some_sents [0, 1, 2, 3, 4, 5] (by decide) h6
  obtain ⟨er, es⟩ := nums_of h2
  have hT : TabB W.heap.size W := tabB_of (rest := (Rows.confTwiceRow.laid.drop 3)) (laidMet.tail (laidMet.tail (show laidMet Tryd.prog (("math/bits.deBruijn32tab", Rows.laid_math_bits_deBruijn32tab) :: ("math/bits.deBruijn64tab", Rows.laid_math_bits_deBruijn64tab) :: ("internal/strconv.uint64pow10", Lib.tabData .u64 Lib.pow10Tab) :: Rows.confTwiceRow.laid.drop 3) W from h)))
  have hl : ∀ {g : Nat} {v : Value}, W.cell? ⟨g, 0, none⟩ = some v → g < W.heap.size := fun hc => World.block_lt_of_cell? _ ⟨_, 0, none⟩ hc
  refine ⟨sa, ⟨fun k hk => hs k (by simp; omega), fun k hk => hl (hs k (by simp; omega)), Nat.le_refl _⟩, ⟨hT, es, er, ?_⟩, hT⟩
  obtain ⟨_, _, e1⟩ := er
  obtain ⟨_, _, e2⟩ := es
  exact ⟨hl e2, hl e1⟩

theorem door_met (os : Os) (args : Array Value) : laidMetH Tryd.prog Rows.confTwiceRow.laid ((World.laidAll Tryd.prog os Rows.confTwiceRow.laid).forCall (fun _ _ => 0) ⟨#[], args, []⟩).memory := by
  rw [MakeChecks.laidMetH_plain _ _ _ (by kernel_rfl)]
  exact laidMet_laidAll _ (by kernel_rfl) (by kernel_rfl)
end Go.Proofs.YtkhcepdeppmofaaDoor.confTwice
