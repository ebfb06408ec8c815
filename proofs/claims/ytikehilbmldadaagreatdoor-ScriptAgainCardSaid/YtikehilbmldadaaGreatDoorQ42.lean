import Derived.Test.YtikehilbmldadaaGreatDoorQ41
import Derived.Deep.RegionHeld3
namespace Go.Proofs.YtikehilbmldadaaGreatDoor
open Go.RowKit
set_option linter.unusedVariables false
end Go.Proofs.YtikehilbmldadaaGreatDoor
