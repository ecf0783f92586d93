/- The walks of the laws' helpers on slices: copies, comparisons, marks. No condition. -/
import Derived.Test.YtmekjkhkbdkdoaaOpen2
namespace Go.Proofs.Ytmekjkhkbdkdoaa
open Go.RowKit
set_option linter.unusedVariables false

end Go.Proofs.Ytmekjkhkbdkdoaa
