/- What the card of ConfTexts lists. -/
import Derived.Test.YtgdaljpimblkgaaGreatDoorR44
import Derived.Test.YtgdaljpimblkgaaGreatDoorR19
import Derived.Test.YtgdaljpimblkgaaGreatDoorR12
import Derived.Test.YtgdaljpimblkgaaGreatDoorRows
import Derived.LaidMore
import Derived.LaidSub
import Derived.LaidHandle
import Derived.Lay
import Derived.LaidOnce
import Derived.MakeChecks
import Derived.Stop.Joined
import Derived.Test.YtgdaljpimblkgaaGreatDoorR52
import Derived.Test.YtgdaljpimblkgaaGreatDoorCards
import Derived.Test.YtgdaljpimblkgaaGreatDoorTie
import Derived.SevenTiedAt
namespace Go.Proofs.YtgdaljpimblkgaaGreatDoor.confTexts
open Go.ChangeShapes Go.WideShapes Go.ChangeAt Go.RowKit
set_option linter.unusedVariables false

/-- The listed variables but the handle. -/
def plainL : List (String × DataW Unit) := Rows.confTextsRow.laid.filter fun x => x.2.handleName?.isNone
def numL : List (String × List UInt8) := [("strconv.ErrRange", [118, 97, 108, 117, 101, 32, 111, 117, 116, 32, 111, 102, 32, 114, 97, 110, 103, 101]), ("strconv.ErrSyntax", [105, 110, 118, 97, 108, 105, 100, 32, 115, 121, 110, 116, 97, 120])]
theorem num_eq : plainL.filter (fun x => decide (x.1 ∈ ["strconv.ErrRange", "strconv.ErrSyntax"])) = (numL.map fun x => (x.1, sentD x.2)) := by kernel_rfl
theorem sent_eq : plainL.filter (fun x => decide (x.1 ∈ sentL.map (·.1))) = (sentL.map fun x => (x.1, sentD x.2)) := by kernel_rfl
theorem nm0 : Tryz.prog.globalNamed "strconv.ErrRange" = some 17 := by kernel_rfl
theorem nm1 : Tryz.prog.globalNamed "strconv.ErrSyntax" = some 16 := by kernel_rfl
theorem ty0 : (Tryz.prog.globals[17]?).map (·.type) = some 31 := by kernel_rfl
theorem ty1 : (Tryz.prog.globals[16]?).map (·.type) = some 31 := by kernel_rfl
theorem nums_of {W : World} (h : laidMet Tryz.prog (numL.map fun x => (x.1, sentD x.2)) W) : (∃ t p, W.cell? ⟨17, 0, none⟩ = some (.iface t p)) ∧ ∃ t p, W.cell? ⟨16, 0, none⟩ = some (.iface t p) := by
  obtain ⟨ps, hv, hnd, hrows⟩ := h
  obtain ⟨bs, q1, q2, q3, q4⟩ := laid_each Tryz.underlying31 Tryz.rowE Tryz.underlying209 Tryz.underlying211 rfl rfl Tryz.underlying9 Tryz.cellsE Tryz.cellsS numL [17, 16] rfl (fun k h1 h2 => by
    match k, h1 with
    | 0, _ => exact ⟨nm0, ty0⟩
    | 1, _ => exact ⟨nm1, ty1⟩) ps hv hnd hrows
  have h2 : bs.length = 2 := q1
  exact ⟨⟨_, _, q4 0 (by decide) (by decide) (by omega)⟩, ⟨_, _, q4 1 (by decide) (by decide) (by omega)⟩⟩
theorem laid_all {W : World} (h : laidMetH Tryz.prog Rows.confTextsRow.laid W) : ∃ sa, Sents W.heap.size sa W ∧ NumB W.heap.size W ∧ TabB W.heap.size W := by
  have hL2 : laidMet Tryz.prog plainL W ∧ handlesMet Tryz.prog [("errors.errorType", handleD)] W := h
  have h6 := laidMet.filter (fun x => decide (x.1 ∈ sentL.map (·.1))) hL2.1
  rw [sent_eq] at h6
  have h2 := laidMet.filter (fun x => decide (x.1 ∈ ["strconv.ErrRange", "strconv.ErrSyntax"])) hL2.1
  rw [num_eq] at h2
  obtain ⟨sa, hs⟩ := sents_of h6 hL2.2
  obtain ⟨er, es⟩ := nums_of h2
  have hT : TabB W.heap.size W := tabB_of (rest := (plainL.drop 3)) (laidMet.tail (laidMet.tail (show laidMet Tryz.prog (("math/bits.deBruijn32tab", Rows.laid_math_bits_deBruijn32tab) :: ("math/bits.deBruijn64tab", Rows.laid_math_bits_deBruijn64tab) :: ("internal/strconv.uint64pow10", Lib.tabData .u64 Lib.pow10Tab) :: plainL.drop 3) W from hL2.1)))
  have hl : ∀ {g : Nat} {v : Value}, W.cell? ⟨g, 0, none⟩ = some v → g < W.heap.size := fun hc => World.block_lt_of_cell? _ ⟨_, 0, none⟩ hc
  refine ⟨sa, hs, ⟨hT, es, er, ?_⟩, hT⟩
  obtain ⟨_, _, e1⟩ := er
  obtain ⟨_, _, e2⟩ := es
  exact ⟨hl e2, hl e1⟩

/-- The witness's world: the handle stored, the others laid. -/
noncomputable def base0 (os : Os) : World := (World.holding Tryz.prog os ⟨#[], #[], []⟩).setCell ⟨11, 0, none⟩ (.iface 149 (.agg #[.pointer (some ⟨20, 31, none⟩)]))
noncomputable def doorW (os : Os) : World := (base0 os).layVars Tryz.prog plainL
theorem doorW_os (os : Os) : (doorW os).os = os := World.layVars_os _ _ _
theorem plain_met (os : Os) (args : Array Value) : laidMet Tryz.prog plainL ((doorW os).forCall (fun _ _ => 0) ⟨#[], args, []⟩).memory := by
  have e1 : (plainL.filter fun x => (plainL.map (·.1)).contains x.1) = plainL := List.filter_eq_self.2 fun x hx => List.contains_iff_mem.2 (List.mem_map.2 ⟨x, hx, rfl⟩)
  have e2 : (plainL.filter fun x => !(plainL.map (·.1)).contains x.1) = [] := List.filter_eq_nil_iff.2 fun x hx => by rw [List.contains_iff_mem.2 (List.mem_map.2 ⟨x, hx, rfl⟩)]; simp
  have h : laidMet Tryz.prog plainL (doorW os) := laidMet_layVars (w0 := base0 os) (plainL.map (·.1)) [] (by rw [e1]; rfl) (by rw [e1]; kernel_rfl) (by rw [e1]; kernel_rfl) (by rw [e2]; exact LaidIn.none)
  exact h.of_heap (by simp [World.memory, World.forCall, Input.heap])
theorem door_met (os : Os) (args : Array Value) : laidMetH Tryz.prog Rows.confTextsRow.laid ((doorW os).forCall (fun _ _ => 0) ⟨#[], args, []⟩).memory :=
  laidMetH_of_parts (plain_met os args) (by kernel_rfl)
end Go.Proofs.YtgdaljpimblkgaaGreatDoor.confTexts

/- ConfTexts: the row and its tied card. -/
namespace Go.Proofs.YtgdaljpimblkgaaGreatDoor.confTexts
open Go.ChangeShapes Go.WideShapes Go.ChangeAt Go.RowKit
set_option linter.unusedVariables false

theorem own : ownKnob Tryz.prog.godebug = none := by kernel_rfl
theorem laidOut : laidOutB Tryz.prog = true := by kernel_rfl
set_option maxRecDepth 100000 in
theorem lifted (os : Os) (started : os.Started) (H : Type) (enc : TypeId × Value → H) :
    ReturnsInHanded {} Tryz.checked os 3 .any (fun w args => (Rows.confTextsSpec.pre enc Tryz.prog Tryz.f3 Rows.confTextsRow.domain false w args ∧ laidMetH Tryz.prog Rows.confTextsRow.laid w) ∧ sizedMet enc Tryz.prog Tryz.f3 (OpenSpec.ofChange Rows.confTextsSpec) false w args) (Rows.confTextsSpec.post enc Tryz.prog Tryz.f3 false true false false) := by
  refine returnsInHanded_of_change_and (C := Tryz.checked) (X := fun w _ => laidMetH Tryz.prog Rows.confTextsRow.laid w) (fun _ _ _ hh h => h.of_heap hh) own started (by kernel_rfl) Tryz.func3
    (ChangeSpec.witness_shaped (enc := enc) (C := Tryz.checked) (os := os) (X := fun w _ => laidMetH Tryz.prog Rows.confTextsRow.laid w) false (doorW os) #[.agg #[.int .i64 0, .int .i64 0, .int .i64 0, .int .i64 0, .slice none 0 0]] 8 (doorW_os os) (World.shaped_of_ZipB (by kernel_rfl) (by kernel_rfl)) (by kernel_rfl) (by kernel_rfl) (by kernel_rfl) (door_met os _)) ?_
  intro W base args ds gs before hval0 hW hcnd _ hL _
  have hval : ∀ (j : Nat) t v, Tryz.f3.params[j]? = some t → args[j]? = some v → Value.okWide Tryz.prog W .any base t v := hval0
  have hW' := hW
  obtain ⟨p, q, hA0, hV, rfl, hfz, hnd⟩ := hW
  have hA : DataW.TrodAll enc Tryz.prog W 0 (fun _ => true) true Tryz.f3.params.toList args.toList ds p := hA0
  rw [Tryz.params3] at hA hval
  obtain ⟨v0, vs0, d0, ds0, p0, q0, hargs, rfl, rfl, h0, r0⟩ := trodAll_cons hA
  obtain ⟨rfl, rfl, rfl⟩ := trodAll_nil r0
  obtain rfl : args = #[v0] := by cases args; simp_all
  obtain ⟨rfl, rfl⟩ := trodVars_none hV
  obtain ⟨cs0, hcs0, _⟩ := okWide_struct Tryz.underlying24 (hval 0 24 v0 rfl rfl)
  obtain ⟨C0, X0, vX0, rfl, sl0, eq0, wf0⟩ := rd_conf ⟨cs0, hcs0⟩ (rd_of h0)
  obtain ⟨sa, hSn, hNum, hTab⟩ := laid_all hL
  clear hA0 hval0
  simp only [List.append_nil] at hW'
  refine (confTexts_any _ sa (· < W.heap.size) C0 vX0 X0 W hSn hNum hTab sl0 eq0 (fun b hb => hb)).mono fun e W' ⟨he, hb⟩ => ?_
  subst he
  exact ⟨_, rfl, post_law laidOut (by kernel_rfl) rfl rfl Tryz.underlying4 hW' rfl hb⟩

theorem over : Rows.confTextsRow.holds Tryz.pinned (OpenSpec.ofChange Rows.confTextsSpec) :=
  OpenClaim.holds_of_wide 3 Tryz.f3 rfl rfl rfl rfl rfl rfl rfl ⟨rfl, rfl, rfl, rfl, rfl⟩ rfl rfl rfl rfl rfl (by kernel_rfl) Tryz.func3 (by kernel_rfl)
    (of_decide_eq_true (by kernel_rfl)) (by unfold Func.isWrapper; first | (rw [if_pos (by decide +kernel)]; kernel_rfl) | (rw [if_neg (by decide +kernel)]; exact ⟨rfl, rfl⟩))
    (fun os started H enc _ => lifted os started H enc)

theorem proved : Rows.ConfTextsSaid := over

theorem card : Rows.ConfTextsCardSaid :=
  Claim7.holds_tied_plain_at .later [] Rows.confTextsCard.laidKinds true Rows.confTextsCard.stood.harness Rows.confTextsCard.stood.looks
    proved (fun _ h => by cases h) (by kernel_rfl) (fun _ h => by cases h) confTexts_row_tie rfl ⟨rfl, rfl⟩ (by kernel_rfl) rfl
    (fun f fn hf hfn => by
      obtain rfl : f = 3 := Option.some.inj ((show Tryz.prog.funcNamed "nightwatch/nightwatchlaw1.ConfTexts" = some 3 by kernel_rfl).symm.trans hf) |>.symm
      obtain rfl : fn = Tryz.f3 := (Option.some.inj (Tryz.func3.symm.trans hfn)).symm
      exact ⟨by kernel_rfl, fun j t ht => by
        rw [Tryz.params3] at ht
        have hall : ((#[24] : Array TypeId).toList.all fun u => !Tryz.prog.wantsStandIn u) = true := by kernel_rfl
        exact (show Tryz.prog.wantsStandIn t = false by simpa using List.all_eq_true.1 hall t (Array.mem_toList_iff.2 (Array.mem_of_getElem? ht)))⟩)
    (by kernel_rfl)
#print axioms card
end Go.Proofs.YtgdaljpimblkgaaGreatDoor.confTexts
