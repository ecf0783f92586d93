/- The walk of the reference's ProofOk. No condition. -/
import Derived.Test.YtchldcjieijkaaaPf
import Derived.Deep.QuietTactic
namespace Go.Proofs.Ytchldcjieijkaaa
open Go.RowKit
set_option linter.unusedVariables false
end Go.Proofs.Ytchldcjieijkaaa
