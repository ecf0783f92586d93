/- The walks of the laws' helpers on slices: copies, comparisons, marks. No condition. -/
import Derived.Test.YtchldcjieijkaaaOpen2
namespace Go.Proofs.Ytchldcjieijkaaa
open Go.RowKit
set_option linter.unusedVariables false

end Go.Proofs.Ytchldcjieijkaaa
