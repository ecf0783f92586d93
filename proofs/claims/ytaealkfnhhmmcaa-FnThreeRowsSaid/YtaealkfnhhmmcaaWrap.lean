/- Plain arithmetic: inner wraps of sums, differences and products go away under an outer one; bounds of determinants. No condition. -/
import Derived.Test.YtaealkfnhhmmcaaNum
namespace Go.Proofs.Ytaealkfnhhmmcaa
open Go.RowKit
theorem wrap64_bmod (n : Int) : wrap64 n = Int.bmod n 18446744073709551616 := by
  unfold wrap64; rw [Int.bmod_def]; split <;> omega
theorem w64_add_l (x y : Int) : wrap64 (wrap64 x + y) = wrap64 (x + y) := by simp only [wrap64_bmod, Int.bmod_add_bmod]
theorem w64_add_r (x y : Int) : wrap64 (x + wrap64 y) = wrap64 (x + y) := by simp only [wrap64_bmod, Int.add_bmod_bmod]
theorem w64_sub_l (x y : Int) : wrap64 (wrap64 x - y) = wrap64 (x - y) := by simp only [wrap64_bmod, Int.bmod_sub_bmod]
theorem w64_sub_r (x y : Int) : wrap64 (x - wrap64 y) = wrap64 (x - y) := by simp only [wrap64_bmod, Int.sub_bmod_bmod]
theorem w64_mul_l (x y : Int) : wrap64 (wrap64 x * y) = wrap64 (x * y) := by simp only [wrap64_bmod, Int.bmod_mul_bmod]
theorem w64_mul_r (x y : Int) : wrap64 (x * wrap64 y) = wrap64 (x * y) := by simp only [wrap64_bmod, Int.mul_bmod_bmod]

end Go.Proofs.Ytaealkfnhhmmcaa
