/- The walks of rows and thrusts together: each returns what the plain function gives. No condition. -/
import Derived.Test.YtchldcjieijkaaaThr
namespace Go.Proofs.Ytchldcjieijkaaa
open Go.RowKit
set_option linter.unusedVariables false
theorem l10Holds_any (h v m n a b c d : Int) (w : World) (k1 : thB h v m n = true) (k2 : rowB a b c d = true) : Calls Try.prog 21 #[.agg #[.int .i64 h, .int .i64 v, .int .i64 m, .int .i64 n], .agg #[.int .i64 a, .int .i64 b, .int .i64 c, .int .i64 d]] w fun e w' => e = .returned (.bool (decide (lefI a b c h v m ≤ rigI d n))) ∧ Up w w' := by
  obtain ⟨p1, p2, p3, p4, p5, p6, p7, p8⟩ := side_bds k1 k2
  clear k1 k2
  go_enter Try.func21, Try.ntmps21
  go_wp2
  go_ret
  exact ⟨by simp only [lefI, rigI]; first | rfl | congr, (by repeat (first | with_reducible exact Up.refl _ | with_reducible refine Up.alloc ?_ _ | with_reducible refine Up.drew ?_ | with_reducible refine Up.drewN ?_ _ | (with_reducible refine Up.setCell ?_ (by first | omega | (simp; done) | (simp; omega)) _) | with_reducible assumption | (with_reducible refine Up.trans ?_ (by with_reducible assumption))))⟩
end Go.Proofs.Ytchldcjieijkaaa
