import Derived.Test.YtikehilbmldadaaGreatDoorQ20
namespace Go.Proofs.YtikehilbmldadaaGreatDoor
open Go.RowKit Go.Extern.Stop Go.Stop Go.Extern
set_option linter.unusedVariables false
def FaultAt (w : World) (fb : Nat) (at_ : Int) (v : Value) : Prop := w.heap[fb]? = some (.cells #[.int .i64 at_, v] 156)
end Go.Proofs.YtikehilbmldadaaGreatDoor
