/- The walks of the laws on hinges: each returns true. No condition. -/
import Derived.Test.YtlpbmdoggcclpaaHg
namespace Go.Proofs.Ytlpbmdoggcclpaa
open Go.RowKit
set_option linter.unusedVariables false
theorem szI_in {n : Nat} (h : n ≤ 1048576) : szI 1048576 n = 1048576 - (n : Int) := by unfold szI; rw [if_neg (by omega)]
theorem szI_out {n : Nat} (h : ¬ n ≤ 1048576) : szI 1048576 n = -1 := by unfold szI; rw [if_pos (by omega)]
end Go.Proofs.Ytlpbmdoggcclpaa
