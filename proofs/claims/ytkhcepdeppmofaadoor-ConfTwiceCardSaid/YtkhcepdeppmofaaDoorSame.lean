/- The document's SameInts. -/
import Derived.Test.YtkhcepdeppmofaaDoorFlow0
import Derived.Deep.QuietTactic
import Derived.BigQuiet
namespace Go.Proofs.YtkhcepdeppmofaaDoor
open Go.RowKit
set_option linter.unusedVariables false

theorem drewN_drewN (w : World) (a b : Nat) : ∃ c, (w.drewN a).drewN b = w.drewN c := ⟨a + b, World.drewN_drewN w a b⟩

end Go.Proofs.YtkhcepdeppmofaaDoor
