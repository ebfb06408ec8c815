/-
  NARROWER THAN 'FOR EVERY INPUT', by the rows' own cells (each row's printed sentence says how): TotalStops: laid · FlowBegins: laid · LocalKinds: laid · LocalStays: laid · LocalTolerance: laid · Names: laid.
  DERIVED. THE GIVEN ROWS OF THIS SEAT. 6 by the template 'for every input the law returns true; each argument reads behind the call as it read before'; 0 by the template 'total and deterministic' (their statements: YtpodijlhlgbbdaaDoorTotals.lean).
  GIVEN WITH THE SEED: the statements are not yours to turn. If you find one false, say at which input.
  Laid BY PROGRAM, IN A SANDBOX (cutbox-rows.mjs): the forced cells as the released guide's own fill.sh prints them over the translation 2825248b8876a792… (all of the seat's roots in one cut). By AI agents, Wed Nov 11 2026. No macro, syntax, notation, axiom, sorry.
-/
import Derived.Test.YtpodijlhlgbbdaaDoorChecked
import GoSem.Claim
import GoSem.ClaimJoined
import GoSem.ClaimMapViews
import Derived.JoinedTies
import Derived.KernelRfl
namespace Go.Proofs.YtpodijlhlgbbdaaDoor
/- THE CELL 'sum', in the pinned program and in every row, IS THE sha256 OF THE DUMP (.gsa) THAT YtpodijlhlgbbdaaDoorProg.lean LOADS. Nothing in Lean hashes anything: it is a label: what it is worth is what the hold of that sum in a sandbox is worth. -/
noncomputable def Tryd.pinned : Pinned := { name := "ytpodijlhlgbbdaadoor", sum := "2825248b8876a7926c095180fabe27a25cc403fab88de61e6debad27085baa55", checked := Tryd.checked }
namespace Rows
def none {H : Type} : Left H := { results := [], args := [] }

/- WHAT THE LISTED PACKAGE-LEVEL VARIABLES READ AS WHEN THE CALL BEGINS. Each datum BY PROGRAM (the guide's laid-datum.mjs) off the statement by which the dump's own 'gosem.cut.vars' lays the variable. In a bare row this is a premise. The card (YtpodijlhlgbbdaaDoorCards.lean) ties it to the program's text. -/
def laid_nightwatch_api_ErrBound {H : Type} : DataW H := .iface "*errors.errorString" (.ptr (.agg [.lit (.string [110, 105, 103, 104, 116, 119, 97, 116, 99, 104, 58, 32, 98, 111, 117, 110, 100])]))
def laid_nightwatch_api_ErrNone {H : Type} : DataW H := .iface "*errors.errorString" (.ptr (.agg [.lit (.string [110, 105, 103, 104, 116, 119, 97, 116, 99, 104, 58, 32, 110, 111, 110, 101])]))
def laid_nightwatch_api_ErrIdle {H : Type} : DataW H := .iface "*errors.errorString" (.ptr (.agg [.lit (.string [110, 105, 103, 104, 116, 119, 97, 116, 99, 104, 58, 32, 105, 100, 108, 101])]))
def laid_nightwatch_api_ErrHeld {H : Type} : DataW H := .iface "*errors.errorString" (.ptr (.agg [.lit (.string [110, 105, 103, 104, 116, 119, 97, 116, 99, 104, 58, 32, 104, 101, 108, 100])]))
def laid_errors_errorType {H : Type} : DataW H := .iface "internal/reflectlite.rtype" (.agg [.ptr (.lit (.string [101, 114, 114, 111, 114]))])
def laid_nightwatch_api_ErrText {H : Type} : DataW H := .iface "*errors.errorString" (.ptr (.agg [.lit (.string [110, 105, 103, 104, 116, 119, 97, 116, 99, 104, 58, 32, 116, 101, 120, 116])]))
def laid_nightwatch_api_ErrShape {H : Type} : DataW H := .iface "*errors.errorString" (.ptr (.agg [.lit (.string [110, 105, 103, 104, 116, 119, 97, 116, 99, 104, 58, 32, 115, 104, 97, 112, 101])]))
def laid_nightwatch_api_ErrName {H : Type} : DataW H := .iface "*errors.errorString" (.ptr (.agg [.lit (.string [110, 105, 103, 104, 116, 119, 97, 116, 99, 104, 58, 32, 110, 97, 109, 101])]))
def laid_nightwatch_api_ErrExist {H : Type} : DataW H := .iface "*errors.errorString" (.ptr (.agg [.lit (.string [110, 105, 103, 104, 116, 119, 97, 116, 99, 104, 58, 32, 101, 120, 105, 115, 116])]))
def laid_nightwatch_api_ErrFull {H : Type} : DataW H := .iface "*errors.errorString" (.ptr (.agg [.lit (.string [110, 105, 103, 104, 116, 119, 97, 116, 99, 104, 58, 32, 102, 117, 108, 108])]))
def laid_nightwatch_api_ErrOff {H : Type} : DataW H := .iface "*errors.errorString" (.ptr (.agg [.lit (.string [110, 105, 103, 104, 116, 119, 97, 116, 99, 104, 58, 32, 111, 102, 102])]))
def laid_nightwatch_api_ErrReset {H : Type} : DataW H := .iface "*errors.errorString" (.ptr (.agg [.lit (.string [110, 105, 103, 104, 116, 119, 97, 116, 99, 104, 58, 32, 114, 101, 115, 101, 116])]))

/-- 'nightwatchlaw2.TotalStops': WHATEVER THE INPUT: true; the input reads as it did. -/
def totalStopsSpec : ChangeSpec := { name := "totalStops", fn := fun _ => fun
  | [d1, d2, d3] => { results := [.lit (.bool true)], args := [d1, d2, d3] }
  | _ => none }
def totalStopsRow : OpenClaim := { program := "ytpodijlhlgbbdaadoor", sum := "2825248b8876a7926c095180fabe27a25cc403fab88de61e6debad27085baa55", func := "nightwatch/nightwatchlaw2.TotalStops", spec := "totalStops", named := ["nightwatch/api.ErrBound"], plainKeys := false, apart := false, laid := [("nightwatch/api.ErrBound", laid_nightwatch_api_ErrBound)] }
def TotalStopsSaid : Prop := totalStopsRow.holds Tryd.pinned (OpenSpec.ofChange totalStopsSpec)

/-- ITS FALSE NEIGHBOUR: 'it returns false'. Refute it at one input. -/
def totalStopsWrong : ChangeSpec := { name := "totalStops", fn := fun _ => fun
  | [d1, d2, d3] => { results := [.lit (.bool false)], args := [d1, d2, d3] }
  | _ => none }
def TotalStopsWrongFalsely : Prop := totalStopsRow.holds Tryd.pinned (OpenSpec.ofChange totalStopsWrong)

/-- 'nightwatchlaw2.FlowBegins': WHATEVER THE INPUT: true; the input reads as it did. -/
def flowBeginsSpec : ChangeSpec := { name := "flowBegins", fn := fun _ => fun
  | [d1, d2, d3] => { results := [.lit (.bool true)], args := [d1, d2, d3] }
  | _ => none }
def flowBeginsRow : OpenClaim := { program := "ytpodijlhlgbbdaadoor", sum := "2825248b8876a7926c095180fabe27a25cc403fab88de61e6debad27085baa55", func := "nightwatch/nightwatchlaw2.FlowBegins", spec := "flowBegins", named := ["nightwatch/api.ErrBound"], plainKeys := false, apart := false, laid := [("nightwatch/api.ErrBound", laid_nightwatch_api_ErrBound)] }
def FlowBeginsSaid : Prop := flowBeginsRow.holds Tryd.pinned (OpenSpec.ofChange flowBeginsSpec)

/-- ITS FALSE NEIGHBOUR: 'it returns false'. Refute it at one input. -/
def flowBeginsWrong : ChangeSpec := { name := "flowBegins", fn := fun _ => fun
  | [d1, d2, d3] => { results := [.lit (.bool false)], args := [d1, d2, d3] }
  | _ => none }
def FlowBeginsWrongFalsely : Prop := flowBeginsRow.holds Tryd.pinned (OpenSpec.ofChange flowBeginsWrong)

/-- 'nightwatchlaw2.LocalKinds': WHATEVER THE INPUT: true; the input reads as it did. -/
def localKindsSpec : ChangeSpec := { name := "localKinds", fn := fun _ => fun
  | [d1, d2] => { results := [.lit (.bool true)], args := [d1, d2] }
  | _ => none }
def localKindsRow : OpenClaim := { program := "ytpodijlhlgbbdaadoor", sum := "2825248b8876a7926c095180fabe27a25cc403fab88de61e6debad27085baa55", func := "nightwatch/nightwatchlaw2.LocalKinds", spec := "localKinds", named := ["nightwatch/api.ErrHeld", "nightwatch/api.ErrIdle", "nightwatch/api.ErrNone"], plainKeys := false, apart := false, laid := [("nightwatch/api.ErrNone", laid_nightwatch_api_ErrNone), ("nightwatch/api.ErrIdle", laid_nightwatch_api_ErrIdle), ("nightwatch/api.ErrHeld", laid_nightwatch_api_ErrHeld)] }
def LocalKindsSaid : Prop := localKindsRow.holds Tryd.pinned (OpenSpec.ofChange localKindsSpec)

/-- ITS FALSE NEIGHBOUR: 'it returns false'. Refute it at one input. -/
def localKindsWrong : ChangeSpec := { name := "localKinds", fn := fun _ => fun
  | [d1, d2] => { results := [.lit (.bool false)], args := [d1, d2] }
  | _ => none }
def LocalKindsWrongFalsely : Prop := localKindsRow.holds Tryd.pinned (OpenSpec.ofChange localKindsWrong)

/-- 'nightwatchlaw2.LocalStays': WHATEVER THE INPUT: true; the input reads as it did. -/
def localStaysSpec : ChangeSpec := { name := "localStays", fn := fun _ => fun
  | [d1, d2] => { results := [.lit (.bool true)], args := [d1, d2] }
  | _ => none }
def localStaysRow : OpenClaim := { program := "ytpodijlhlgbbdaadoor", sum := "2825248b8876a7926c095180fabe27a25cc403fab88de61e6debad27085baa55", func := "nightwatch/nightwatchlaw2.LocalStays", spec := "localStays", named := ["nightwatch/api.ErrHeld", "nightwatch/api.ErrIdle", "nightwatch/api.ErrNone"], plainKeys := false, apart := false, laid := [("nightwatch/api.ErrNone", laid_nightwatch_api_ErrNone), ("nightwatch/api.ErrIdle", laid_nightwatch_api_ErrIdle), ("nightwatch/api.ErrHeld", laid_nightwatch_api_ErrHeld)] }
def LocalStaysSaid : Prop := localStaysRow.holds Tryd.pinned (OpenSpec.ofChange localStaysSpec)

/-- ITS FALSE NEIGHBOUR: 'it returns false'. Refute it at one input. -/
def localStaysWrong : ChangeSpec := { name := "localStays", fn := fun _ => fun
  | [d1, d2] => { results := [.lit (.bool false)], args := [d1, d2] }
  | _ => none }
def LocalStaysWrongFalsely : Prop := localStaysRow.holds Tryd.pinned (OpenSpec.ofChange localStaysWrong)

/-- 'nightwatchlaw2.LocalTolerance': WHATEVER THE INPUT: true; the input reads as it did. -/
def localToleranceSpec : ChangeSpec := { name := "localTolerance", fn := fun _ => fun
  | [d1, d2, d3] => { results := [.lit (.bool true)], args := [d1, d2, d3] }
  | _ => none }
def localToleranceRow : OpenClaim := { program := "ytpodijlhlgbbdaadoor", sum := "2825248b8876a7926c095180fabe27a25cc403fab88de61e6debad27085baa55", func := "nightwatch/nightwatchlaw2.LocalTolerance", spec := "localTolerance", named := ["nightwatch/api.ErrHeld", "nightwatch/api.ErrIdle", "nightwatch/api.ErrNone"], plainKeys := false, apart := false, laid := [("nightwatch/api.ErrNone", laid_nightwatch_api_ErrNone), ("nightwatch/api.ErrIdle", laid_nightwatch_api_ErrIdle), ("nightwatch/api.ErrHeld", laid_nightwatch_api_ErrHeld)] }
def LocalToleranceSaid : Prop := localToleranceRow.holds Tryd.pinned (OpenSpec.ofChange localToleranceSpec)

/-- ITS FALSE NEIGHBOUR: 'it returns false'. Refute it at one input. -/
def localToleranceWrong : ChangeSpec := { name := "localTolerance", fn := fun _ => fun
  | [d1, d2, d3] => { results := [.lit (.bool false)], args := [d1, d2, d3] }
  | _ => none }
def LocalToleranceWrongFalsely : Prop := localToleranceRow.holds Tryd.pinned (OpenSpec.ofChange localToleranceWrong)

/-- 'nightwatchlaw1.Names': WHATEVER THE INPUT: true; the input reads as it did. -/
def namesSpec : ChangeSpec := { name := "names", fn := fun _ => fun
  | [] => { results := [.lit (.bool true)], args := [] }
  | _ => none }
def namesRow : OpenClaim := { program := "ytpodijlhlgbbdaadoor", sum := "2825248b8876a7926c095180fabe27a25cc403fab88de61e6debad27085baa55", func := "nightwatch/nightwatchlaw1.Names", spec := "names", inPlace := ["internal/reflectlite.ValueOf", "(internal/reflectlite.Value).Type", "(internal/reflectlite.Value).IsNil", "internal/reflectlite.TypeOf", "(internal/reflectlite.Value).Elem", "(internal/reflectlite.Value).Set"], unfollowed := true, recurses := true, named := ["nightwatch/api.ErrText", "nightwatch/api.ErrBound", "nightwatch/api.ErrShape", "nightwatch/api.ErrName", "nightwatch/api.ErrNone", "nightwatch/api.ErrExist", "nightwatch/api.ErrFull", "nightwatch/api.ErrOff", "nightwatch/api.ErrIdle", "nightwatch/api.ErrHeld", "nightwatch/api.ErrReset", "errors.errorType"], plainKeys := false, apart := false, laid := [("errors.errorType", laid_errors_errorType), ("nightwatch/api.ErrText", laid_nightwatch_api_ErrText), ("nightwatch/api.ErrBound", laid_nightwatch_api_ErrBound), ("nightwatch/api.ErrShape", laid_nightwatch_api_ErrShape), ("nightwatch/api.ErrName", laid_nightwatch_api_ErrName), ("nightwatch/api.ErrNone", laid_nightwatch_api_ErrNone), ("nightwatch/api.ErrExist", laid_nightwatch_api_ErrExist), ("nightwatch/api.ErrFull", laid_nightwatch_api_ErrFull), ("nightwatch/api.ErrOff", laid_nightwatch_api_ErrOff), ("nightwatch/api.ErrIdle", laid_nightwatch_api_ErrIdle), ("nightwatch/api.ErrHeld", laid_nightwatch_api_ErrHeld), ("nightwatch/api.ErrReset", laid_nightwatch_api_ErrReset)] }
def NamesSaid : Prop := namesRow.holds Tryd.pinned (OpenSpec.ofChange namesSpec)

/-- ITS FALSE NEIGHBOUR: 'it returns false'. Refute it at one input. -/
def namesWrong : ChangeSpec := { name := "names", fn := fun _ => fun
  | [] => { results := [.lit (.bool false)], args := [] }
  | _ => none }
def NamesWrongFalsely : Prop := namesRow.holds Tryd.pinned (OpenSpec.ofChange namesWrong)

/- THE SECOND FORM. 'bulk': how many values and letters a reading holds, each counted each time it is reached (what is shared counts as often as it is met; a slice's spare places count too). A statement '..UptoSaid' is the law's where the arguments, and the package variables that the reading takes, are together of bulk at most 1048576: NARROWER than '..Said'. Prove '..Said' where nothing that the law and all that it calls make is longer than what came in: it says more and counts as full. Else prove '..UptoSaid'. A law counts once. -/
mutual
def uptoBulk {H : Type} : DataW H → Nat
  | .lit (.string bytes) => bytes.length + 1
  | .lit _ => 1
  | .nil => 1
  | .ptr d => uptoBulk d + 1
  | .slice elems spare => uptoBulkAll elems + uptoBulkAll spare + 1
  | .agg parts => uptoBulkAll parts + 1
  | .iface _ d => uptoBulk d + 1
  | .map entries => uptoBulkEntries entries + 1
  | .held _ => 1
def uptoBulkAll {H : Type} : List (DataW H) → Nat
  | [] => 0
  | d :: r => uptoBulk d + uptoBulkAll r
def uptoBulkEntries {H : Type} : List (Lit × DataW H) → Nat
  | [] => 0
  | x :: r => uptoBulkEntry x + uptoBulkEntries r
def uptoBulkEntry {H : Type} : Lit × DataW H → Nat
  | (.string bytes, d) => bytes.length + uptoBulk d + 1
  | (_, d) => uptoBulk d + 1
 end
def uptoSmall : (H : Type) → List (DataW H) → Bool := fun _ ds => decide (uptoBulkAll ds ≤ 1048576)
def OpenSpec.upto (s : _root_.Go.ChangeSpec) : _root_.Go.OpenSpec := { _root_.Go.OpenSpec.ofChange s with cond := some uptoSmall }

/-- 'nightwatchlaw2.TotalStops', WHERE WHAT IT READS IS OF BULK AT MOST 1048576: true; the input reads as it did. -/
def totalStopsUptoRow : OpenClaim := { program := "ytpodijlhlgbbdaadoor", sum := "2825248b8876a7926c095180fabe27a25cc403fab88de61e6debad27085baa55", func := "nightwatch/nightwatchlaw2.TotalStops", spec := "totalStops", named := ["nightwatch/api.ErrBound"], plainKeys := false, apart := false, laid := [("nightwatch/api.ErrBound", laid_nightwatch_api_ErrBound)], narrowed := true }
def TotalStopsUptoSaid : Prop := totalStopsUptoRow.holds Tryd.pinned (OpenSpec.upto totalStopsSpec)

/-- 'nightwatchlaw2.FlowBegins', WHERE WHAT IT READS IS OF BULK AT MOST 1048576: true; the input reads as it did. -/
def flowBeginsUptoRow : OpenClaim := { program := "ytpodijlhlgbbdaadoor", sum := "2825248b8876a7926c095180fabe27a25cc403fab88de61e6debad27085baa55", func := "nightwatch/nightwatchlaw2.FlowBegins", spec := "flowBegins", named := ["nightwatch/api.ErrBound"], plainKeys := false, apart := false, laid := [("nightwatch/api.ErrBound", laid_nightwatch_api_ErrBound)], narrowed := true }
def FlowBeginsUptoSaid : Prop := flowBeginsUptoRow.holds Tryd.pinned (OpenSpec.upto flowBeginsSpec)

/-- 'nightwatchlaw2.LocalKinds', WHERE WHAT IT READS IS OF BULK AT MOST 1048576: true; the input reads as it did. -/
def localKindsUptoRow : OpenClaim := { program := "ytpodijlhlgbbdaadoor", sum := "2825248b8876a7926c095180fabe27a25cc403fab88de61e6debad27085baa55", func := "nightwatch/nightwatchlaw2.LocalKinds", spec := "localKinds", named := ["nightwatch/api.ErrHeld", "nightwatch/api.ErrIdle", "nightwatch/api.ErrNone"], plainKeys := false, apart := false, laid := [("nightwatch/api.ErrNone", laid_nightwatch_api_ErrNone), ("nightwatch/api.ErrIdle", laid_nightwatch_api_ErrIdle), ("nightwatch/api.ErrHeld", laid_nightwatch_api_ErrHeld)], narrowed := true }
def LocalKindsUptoSaid : Prop := localKindsUptoRow.holds Tryd.pinned (OpenSpec.upto localKindsSpec)

/-- 'nightwatchlaw2.LocalStays', WHERE WHAT IT READS IS OF BULK AT MOST 1048576: true; the input reads as it did. -/
def localStaysUptoRow : OpenClaim := { program := "ytpodijlhlgbbdaadoor", sum := "2825248b8876a7926c095180fabe27a25cc403fab88de61e6debad27085baa55", func := "nightwatch/nightwatchlaw2.LocalStays", spec := "localStays", named := ["nightwatch/api.ErrHeld", "nightwatch/api.ErrIdle", "nightwatch/api.ErrNone"], plainKeys := false, apart := false, laid := [("nightwatch/api.ErrNone", laid_nightwatch_api_ErrNone), ("nightwatch/api.ErrIdle", laid_nightwatch_api_ErrIdle), ("nightwatch/api.ErrHeld", laid_nightwatch_api_ErrHeld)], narrowed := true }
def LocalStaysUptoSaid : Prop := localStaysUptoRow.holds Tryd.pinned (OpenSpec.upto localStaysSpec)

/-- 'nightwatchlaw2.LocalTolerance', WHERE WHAT IT READS IS OF BULK AT MOST 1048576: true; the input reads as it did. -/
def localToleranceUptoRow : OpenClaim := { program := "ytpodijlhlgbbdaadoor", sum := "2825248b8876a7926c095180fabe27a25cc403fab88de61e6debad27085baa55", func := "nightwatch/nightwatchlaw2.LocalTolerance", spec := "localTolerance", named := ["nightwatch/api.ErrHeld", "nightwatch/api.ErrIdle", "nightwatch/api.ErrNone"], plainKeys := false, apart := false, laid := [("nightwatch/api.ErrNone", laid_nightwatch_api_ErrNone), ("nightwatch/api.ErrIdle", laid_nightwatch_api_ErrIdle), ("nightwatch/api.ErrHeld", laid_nightwatch_api_ErrHeld)], narrowed := true }
def LocalToleranceUptoSaid : Prop := localToleranceUptoRow.holds Tryd.pinned (OpenSpec.upto localToleranceSpec)

/-- 'nightwatchlaw1.Names', WHERE WHAT IT READS IS OF BULK AT MOST 1048576: true; the input reads as it did. -/
def namesUptoRow : OpenClaim := { program := "ytpodijlhlgbbdaadoor", sum := "2825248b8876a7926c095180fabe27a25cc403fab88de61e6debad27085baa55", func := "nightwatch/nightwatchlaw1.Names", spec := "names", inPlace := ["internal/reflectlite.ValueOf", "(internal/reflectlite.Value).Type", "(internal/reflectlite.Value).IsNil", "internal/reflectlite.TypeOf", "(internal/reflectlite.Value).Elem", "(internal/reflectlite.Value).Set"], unfollowed := true, recurses := true, named := ["nightwatch/api.ErrText", "nightwatch/api.ErrBound", "nightwatch/api.ErrShape", "nightwatch/api.ErrName", "nightwatch/api.ErrNone", "nightwatch/api.ErrExist", "nightwatch/api.ErrFull", "nightwatch/api.ErrOff", "nightwatch/api.ErrIdle", "nightwatch/api.ErrHeld", "nightwatch/api.ErrReset", "errors.errorType"], plainKeys := false, apart := false, laid := [("errors.errorType", laid_errors_errorType), ("nightwatch/api.ErrText", laid_nightwatch_api_ErrText), ("nightwatch/api.ErrBound", laid_nightwatch_api_ErrBound), ("nightwatch/api.ErrShape", laid_nightwatch_api_ErrShape), ("nightwatch/api.ErrName", laid_nightwatch_api_ErrName), ("nightwatch/api.ErrNone", laid_nightwatch_api_ErrNone), ("nightwatch/api.ErrExist", laid_nightwatch_api_ErrExist), ("nightwatch/api.ErrFull", laid_nightwatch_api_ErrFull), ("nightwatch/api.ErrOff", laid_nightwatch_api_ErrOff), ("nightwatch/api.ErrIdle", laid_nightwatch_api_ErrIdle), ("nightwatch/api.ErrHeld", laid_nightwatch_api_ErrHeld), ("nightwatch/api.ErrReset", laid_nightwatch_api_ErrReset)], narrowed := true }
def NamesUptoSaid : Prop := namesUptoRow.holds Tryd.pinned (OpenSpec.upto namesSpec)

end Rows
end Go.Proofs.YtpodijlhlgbbdaaDoor
