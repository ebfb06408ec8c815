import Derived.Test.YtikehilbmldadaaGreatDoorQ01
namespace Go.Proofs.YtikehilbmldadaaGreatDoor
open Go.RowKit Go.Extern.Stop Go.Stop Go.Extern
set_option linter.unusedVariables false
end Go.Proofs.YtikehilbmldadaaGreatDoor
