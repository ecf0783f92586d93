/- The walks of the laws' helpers on proofs: sizes, comparisons, marks. No condition. -/
import Derived.Test.YtchldcjieijkaaaInt
namespace Go.Proofs.Ytchldcjieijkaaa
open Go.RowKit
set_option linter.unusedVariables false
end Go.Proofs.Ytchldcjieijkaaa
