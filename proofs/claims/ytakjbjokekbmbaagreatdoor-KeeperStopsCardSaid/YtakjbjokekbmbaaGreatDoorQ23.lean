/- errors.As, errors.Is at an *api.Fault; plain.Code of it. -/
import Derived.Test.YtakjbjokekbmbaaGreatDoorQ03
namespace Go.Proofs.YtakjbjokekbmbaaGreatDoor
open Go.RowKit Go.Extern.Stop Go.Stop Go.Extern
set_option linter.unusedVariables false

end Go.Proofs.YtakjbjokekbmbaaGreatDoor
