/- errors.Is at an *api.Fault; plain.Code of it. -/
import Derived.Test.YtakjbjokekbmbaaGreatDoorQ23
namespace Go.Proofs.YtakjbjokekbmbaaGreatDoor
open Go.RowKit Go.Extern.Stop Go.Stop Go.Extern
set_option linter.unusedVariables false

/-- A fault's memory: its place, its error. -/
def FaultAt (w : World) (fb : Nat) (at_ : Int) (v : Value) : Prop := w.heap[fb]? = some (.cells #[.int .i64 at_, v] 127)
end Go.Proofs.YtakjbjokekbmbaaGreatDoor
