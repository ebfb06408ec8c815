/-
  No cell of these rows narrows 'for every input' (looked for: loops, veiled, ifaces, maps, wideKeys, modest, calm, conditions, laid).
  DERIVED. THE GIVEN ROWS OF THIS SEAT. 5 by the template 'for every input the law returns true; each argument reads behind the call as it read before'; 0 by the template 'total and deterministic' (their statements: YtpodijlhlgbbdaaTotals.lean).
  GIVEN WITH THE SEED: the statements are not yours to turn. If you find one false, say at which input.
  Laid BY PROGRAM, IN A SANDBOX (cutbox-rows.mjs): the forced cells as the released guide's own fill.sh prints them over the translation 6155527252430684… (all of the seat's roots in one cut). By AI agents, Wed Nov 11 2026. No macro, syntax, notation, axiom, sorry.
-/
import Derived.Test.YtpodijlhlgbbdaaChecked
import GoSem.Claim
import GoSem.ClaimJoined
import GoSem.ClaimMapViews
import Derived.JoinedTies
import Derived.KernelRfl
namespace Go.Proofs.Ytpodijlhlgbbdaa
/- THE CELL 'sum', in the pinned program and in every row, IS THE sha256 OF THE DUMP (.gsa) THAT YtpodijlhlgbbdaaProg.lean LOADS. Nothing in Lean hashes anything: it is a label: what it is worth is what the hold of that sum in a sandbox is worth. -/
noncomputable def Try.pinned : Pinned := { name := "ytpodijlhlgbbdaa", sum := "61555272524306846c4d3d45b8109129c02228211165ff4ffc9b43cf37e33ecc", checked := Try.checked }
namespace Rows
def none {H : Type} : Left H := { results := [], args := [] }

/-- 'nightwatchlaw2.AliveMany': WHATEVER THE INPUT: true; the input reads as it did. -/
def aliveManySpec : ChangeSpec := { name := "aliveMany", fn := fun _ => fun
  | [d1, d2] => { results := [.lit (.bool true)], args := [d1, d2] }
  | _ => none }
def aliveManyRow : OpenClaim := { program := "ytpodijlhlgbbdaa", sum := "61555272524306846c4d3d45b8109129c02228211165ff4ffc9b43cf37e33ecc", func := "nightwatch/nightwatchlaw2.AliveMany", spec := "aliveMany", plainKeys := false, apart := false }
def AliveManySaid : Prop := aliveManyRow.holds Try.pinned (OpenSpec.ofChange aliveManySpec)

/-- ITS FALSE NEIGHBOUR: 'it returns false'. Refute it at one input. -/
def aliveManyWrong : ChangeSpec := { name := "aliveMany", fn := fun _ => fun
  | [d1, d2] => { results := [.lit (.bool false)], args := [d1, d2] }
  | _ => none }
def AliveManyWrongFalsely : Prop := aliveManyRow.holds Try.pinned (OpenSpec.ofChange aliveManyWrong)

/-- 'nightwatchlaw2.AliveEnds': WHATEVER THE INPUT: true; the input reads as it did. -/
def aliveEndsSpec : ChangeSpec := { name := "aliveEnds", fn := fun _ => fun
  | [d1, d2, d3] => { results := [.lit (.bool true)], args := [d1, d2, d3] }
  | _ => none }
def aliveEndsRow : OpenClaim := { program := "ytpodijlhlgbbdaa", sum := "61555272524306846c4d3d45b8109129c02228211165ff4ffc9b43cf37e33ecc", func := "nightwatch/nightwatchlaw2.AliveEnds", spec := "aliveEnds", plainKeys := false, apart := false }
def AliveEndsSaid : Prop := aliveEndsRow.holds Try.pinned (OpenSpec.ofChange aliveEndsSpec)

/-- ITS FALSE NEIGHBOUR: 'it returns false'. Refute it at one input. -/
def aliveEndsWrong : ChangeSpec := { name := "aliveEnds", fn := fun _ => fun
  | [d1, d2, d3] => { results := [.lit (.bool false)], args := [d1, d2, d3] }
  | _ => none }
def AliveEndsWrongFalsely : Prop := aliveEndsRow.holds Try.pinned (OpenSpec.ofChange aliveEndsWrong)

/-- 'nightwatchlaw2.GapsEven': WHATEVER THE INPUT: true; the input reads as it did. -/
def gapsEvenSpec : ChangeSpec := { name := "gapsEven", fn := fun _ => fun
  | [d1, d2, d3, d4] => { results := [.lit (.bool true)], args := [d1, d2, d3, d4] }
  | _ => none }
def gapsEvenRow : OpenClaim := { program := "ytpodijlhlgbbdaa", sum := "61555272524306846c4d3d45b8109129c02228211165ff4ffc9b43cf37e33ecc", func := "nightwatch/nightwatchlaw2.GapsEven", spec := "gapsEven", plainKeys := false, apart := false }
def GapsEvenSaid : Prop := gapsEvenRow.holds Try.pinned (OpenSpec.ofChange gapsEvenSpec)

/-- ITS FALSE NEIGHBOUR: 'it returns false'. Refute it at one input. -/
def gapsEvenWrong : ChangeSpec := { name := "gapsEven", fn := fun _ => fun
  | [d1, d2, d3, d4] => { results := [.lit (.bool false)], args := [d1, d2, d3, d4] }
  | _ => none }
def GapsEvenWrongFalsely : Prop := gapsEvenRow.holds Try.pinned (OpenSpec.ofChange gapsEvenWrong)

/-- 'nightwatchlaw2.GapsEnds': WHATEVER THE INPUT: true; the input reads as it did. -/
def gapsEndsSpec : ChangeSpec := { name := "gapsEnds", fn := fun _ => fun
  | [d1, d2] => { results := [.lit (.bool true)], args := [d1, d2] }
  | _ => none }
def gapsEndsRow : OpenClaim := { program := "ytpodijlhlgbbdaa", sum := "61555272524306846c4d3d45b8109129c02228211165ff4ffc9b43cf37e33ecc", func := "nightwatch/nightwatchlaw2.GapsEnds", spec := "gapsEnds", plainKeys := false, apart := false }
def GapsEndsSaid : Prop := gapsEndsRow.holds Try.pinned (OpenSpec.ofChange gapsEndsSpec)

/-- ITS FALSE NEIGHBOUR: 'it returns false'. Refute it at one input. -/
def gapsEndsWrong : ChangeSpec := { name := "gapsEnds", fn := fun _ => fun
  | [d1, d2] => { results := [.lit (.bool false)], args := [d1, d2] }
  | _ => none }
def GapsEndsWrongFalsely : Prop := gapsEndsRow.holds Try.pinned (OpenSpec.ofChange gapsEndsWrong)

/-- 'nightwatchlaw2.FlowEnds': WHATEVER THE INPUT: true; the input reads as it did. -/
def flowEndsSpec : ChangeSpec := { name := "flowEnds", fn := fun _ => fun
  | [d1, d2] => { results := [.lit (.bool true)], args := [d1, d2] }
  | _ => none }
def flowEndsRow : OpenClaim := { program := "ytpodijlhlgbbdaa", sum := "61555272524306846c4d3d45b8109129c02228211165ff4ffc9b43cf37e33ecc", func := "nightwatch/nightwatchlaw2.FlowEnds", spec := "flowEnds", plainKeys := false, apart := false }
def FlowEndsSaid : Prop := flowEndsRow.holds Try.pinned (OpenSpec.ofChange flowEndsSpec)

/-- ITS FALSE NEIGHBOUR: 'it returns false'. Refute it at one input. -/
def flowEndsWrong : ChangeSpec := { name := "flowEnds", fn := fun _ => fun
  | [d1, d2] => { results := [.lit (.bool false)], args := [d1, d2] }
  | _ => none }
def FlowEndsWrongFalsely : Prop := flowEndsRow.holds Try.pinned (OpenSpec.ofChange flowEndsWrong)

/- THE SECOND FORM. 'bulk': how many values and letters a reading holds, each counted each time it is reached (what is shared counts as often as it is met; a slice's spare places count too). A statement '..UptoSaid' is the law's where the arguments, and the package variables that the reading takes, are together of bulk at most 1048576: NARROWER than '..Said'. Prove '..Said' where nothing that the law and all that it calls make is longer than what came in: it says more and counts as full. Else prove '..UptoSaid'. A law counts once. -/
mutual
def uptoBulk {H : Type} : DataW H → Nat
  | .lit (.string bytes) => bytes.length + 1
  | .lit _ => 1
  | .nil => 1
  | .ptr d => uptoBulk d + 1
  | .slice elems spare => uptoBulkAll elems + uptoBulkAll spare + 1
  | .agg parts => uptoBulkAll parts + 1
  | .iface _ d => uptoBulk d + 1
  | .map entries => uptoBulkEntries entries + 1
  | .held _ => 1
def uptoBulkAll {H : Type} : List (DataW H) → Nat
  | [] => 0
  | d :: r => uptoBulk d + uptoBulkAll r
def uptoBulkEntries {H : Type} : List (Lit × DataW H) → Nat
  | [] => 0
  | x :: r => uptoBulkEntry x + uptoBulkEntries r
def uptoBulkEntry {H : Type} : Lit × DataW H → Nat
  | (.string bytes, d) => bytes.length + uptoBulk d + 1
  | (_, d) => uptoBulk d + 1
 end
def uptoSmall : (H : Type) → List (DataW H) → Bool := fun _ ds => decide (uptoBulkAll ds ≤ 1048576)
def OpenSpec.upto (s : _root_.Go.ChangeSpec) : _root_.Go.OpenSpec := { _root_.Go.OpenSpec.ofChange s with cond := some uptoSmall }

/-- 'nightwatchlaw2.AliveMany', WHERE WHAT IT READS IS OF BULK AT MOST 1048576: true; the input reads as it did. -/
def aliveManyUptoRow : OpenClaim := { program := "ytpodijlhlgbbdaa", sum := "61555272524306846c4d3d45b8109129c02228211165ff4ffc9b43cf37e33ecc", func := "nightwatch/nightwatchlaw2.AliveMany", spec := "aliveMany", plainKeys := false, apart := false, narrowed := true }
def AliveManyUptoSaid : Prop := aliveManyUptoRow.holds Try.pinned (OpenSpec.upto aliveManySpec)

/-- 'nightwatchlaw2.AliveEnds', WHERE WHAT IT READS IS OF BULK AT MOST 1048576: true; the input reads as it did. -/
def aliveEndsUptoRow : OpenClaim := { program := "ytpodijlhlgbbdaa", sum := "61555272524306846c4d3d45b8109129c02228211165ff4ffc9b43cf37e33ecc", func := "nightwatch/nightwatchlaw2.AliveEnds", spec := "aliveEnds", plainKeys := false, apart := false, narrowed := true }
def AliveEndsUptoSaid : Prop := aliveEndsUptoRow.holds Try.pinned (OpenSpec.upto aliveEndsSpec)

/-- 'nightwatchlaw2.GapsEven', WHERE WHAT IT READS IS OF BULK AT MOST 1048576: true; the input reads as it did. -/
def gapsEvenUptoRow : OpenClaim := { program := "ytpodijlhlgbbdaa", sum := "61555272524306846c4d3d45b8109129c02228211165ff4ffc9b43cf37e33ecc", func := "nightwatch/nightwatchlaw2.GapsEven", spec := "gapsEven", plainKeys := false, apart := false, narrowed := true }
def GapsEvenUptoSaid : Prop := gapsEvenUptoRow.holds Try.pinned (OpenSpec.upto gapsEvenSpec)

/-- 'nightwatchlaw2.GapsEnds', WHERE WHAT IT READS IS OF BULK AT MOST 1048576: true; the input reads as it did. -/
def gapsEndsUptoRow : OpenClaim := { program := "ytpodijlhlgbbdaa", sum := "61555272524306846c4d3d45b8109129c02228211165ff4ffc9b43cf37e33ecc", func := "nightwatch/nightwatchlaw2.GapsEnds", spec := "gapsEnds", plainKeys := false, apart := false, narrowed := true }
def GapsEndsUptoSaid : Prop := gapsEndsUptoRow.holds Try.pinned (OpenSpec.upto gapsEndsSpec)

/-- 'nightwatchlaw2.FlowEnds', WHERE WHAT IT READS IS OF BULK AT MOST 1048576: true; the input reads as it did. -/
def flowEndsUptoRow : OpenClaim := { program := "ytpodijlhlgbbdaa", sum := "61555272524306846c4d3d45b8109129c02228211165ff4ffc9b43cf37e33ecc", func := "nightwatch/nightwatchlaw2.FlowEnds", spec := "flowEnds", plainKeys := false, apart := false, narrowed := true }
def FlowEndsUptoSaid : Prop := flowEndsUptoRow.holds Try.pinned (OpenSpec.upto flowEndsSpec)

end Rows
end Go.Proofs.Ytpodijlhlgbbdaa
