/- The walks of the laws' helpers on slices: copies, comparisons, marks. No condition. -/
import Derived.Test.YtaealkfnhhmmcaaOpen2
namespace Go.Proofs.Ytaealkfnhhmmcaa
open Go.RowKit
set_option linter.unusedVariables false

end Go.Proofs.Ytaealkfnhhmmcaa
