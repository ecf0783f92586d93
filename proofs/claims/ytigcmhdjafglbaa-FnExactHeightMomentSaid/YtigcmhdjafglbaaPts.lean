/- The walks of the small tests and sums on numbers, points, joints, rows and piers: each returns what the plain function of this text gives. No condition. -/
import Derived.Test.YtigcmhdjafglbaaBase
namespace Go.Proofs.Ytigcmhdjafglbaa
open Go.RowKit
theorem within_any (n lo hi : Int) (w : World) : Calls Try.prog 82 #[.int .i64 n, .int .i64 lo, .int .i64 hi] w fun e w' => e = .returned (.bool (inB lo n hi)) ∧ w = w' := by
  go_enter Try.func82, Try.ntmps82
  go_wp2
  all_goals (go_ret; exact ⟨by simp [inB, *] <;> omega, rfl⟩)
theorem l01In_any (n lo hi : Int) (w : World) : Calls Try.prog 80 #[.int .i64 n, .int .i64 lo, .int .i64 hi] w fun e w' => e = .returned (.bool (inB lo n hi)) ∧ w = w' := by
  go_enter Try.func80, Try.ntmps80
  go_wp2
  all_goals (go_ret; exact ⟨by simp [inB, *] <;> omega, rfl⟩)
theorem isPlace_any (n : Int) (w : World) : Calls Try.prog 117 #[.int .i64 n] w fun e w' => e = .returned (.bool (inB (-60) n 60)) ∧ w = w' := by
  go_enter Try.func117, Try.ntmps117
  go_wp2_with (go_at_call 82; (with_reducible refine (within_any _ _ _ _).mono ?_); rintro e w1 ⟨rfl, rfl⟩)
  go_ret
  exact ⟨rfl, rfl⟩
theorem ptOk_any (x y : Int) (w : World) : Calls Try.prog 104 #[.agg #[.int .i64 x, .int .i64 y]] w fun e w' => e = .returned (.bool (ptB x y)) ∧ Up w w' := by
  go_enter Try.func104, Try.ntmps104
  go_wp2_with (go_at_call 117; (with_reducible refine (isPlace_any _ _).mono ?_); rintro e w1 ⟨rfl, rfl⟩)
  all_goals (go_ret; exact ⟨by simp [ptB, *], (by repeat (first | with_reducible exact Up.refl _ | with_reducible refine Up.alloc ?_ _ | with_reducible refine Up.drew ?_ | with_reducible refine Up.drewN ?_ _ | (with_reducible refine Up.setCell ?_ (by first | omega | (simp; done) | (simp; omega)) _) | with_reducible assumption | (with_reducible refine Up.trans ?_ (by with_reducible assumption))))⟩)
theorem sPointOk_any (x y : Int) (w : World) : Calls Try.prog 99 #[.agg #[.int .i64 x, .int .i64 y]] w fun e w' => e = .returned (.bool (ptB x y)) ∧ Up w w' := by
  go_enter Try.func99, Try.ntmps99
  go_wp2_with (go_at_call 80; (with_reducible refine (l01In_any _ _ _ _).mono ?_); rintro e w1 ⟨rfl, rfl⟩)
  all_goals (go_ret; exact ⟨by simp [ptB, *], (by repeat (first | with_reducible exact Up.refl _ | with_reducible refine Up.alloc ?_ _ | with_reducible refine Up.drew ?_ | with_reducible refine Up.drewN ?_ _ | (with_reducible refine Up.setCell ?_ (by first | omega | (simp; done) | (simp; omega)) _) | with_reducible assumption | (with_reducible refine Up.trans ?_ (by with_reducible assumption))))⟩)
theorem toPoint_any (x y : Int) (w : World) : Calls Try.prog 115 #[.agg #[.int .i64 x, .int .i64 y]] w fun e w' => e = .returned (.agg #[.int .i64 x, .int .i64 y]) ∧ Up w w' := by
  go_enter Try.func115, Try.ntmps115
  go_wp2
  exact bodyPost_ret (v := .agg #[.int .i64 x, .int .i64 y]) (by simp [results, Try.results115, go_sem]) rfl ⟨rfl, (by repeat (first | with_reducible exact Up.refl _ | with_reducible refine Up.alloc ?_ _ | with_reducible refine Up.drew ?_ | with_reducible refine Up.drewN ?_ _ | (with_reducible refine Up.setCell ?_ (by first | omega | (simp; done) | (simp; omega)) _) | with_reducible assumption | (with_reducible refine Up.trans ?_ (by with_reducible assumption))))⟩
theorem side_any (x y z t u v : Int) (w : World) (h1 : ptB z t = true) (h2 : ptB u v = true) (h3 : ptB x y = true) : Calls Try.prog 105 #[.agg #[.int .i64 x, .int .i64 y], .agg #[.int .i64 z, .int .i64 t], .agg #[.int .i64 u, .int .i64 v]] w fun e w' => e = .returned (.int .i64 (sideI z t u v x y)) ∧ Up w w' := by
  obtain ⟨a1, a2, a3, a4⟩ := ptB_bd h1
  obtain ⟨b1, b2, b3, b4⟩ := ptB_bd h2
  obtain ⟨c1, c2, c3, c4⟩ := ptB_bd h3
  obtain ⟨m1, m2⟩ := mul_bd (a := u - z) (b := y - t) 120 120 (by omega) (by omega) (by omega) (by omega)
  obtain ⟨n1, n2⟩ := mul_bd (a := v - t) (b := x - z) 120 120 (by omega) (by omega) (by omega) (by omega)
  clear h1 h2 h3
  go_enter Try.func105, Try.ntmps105
  go_wp2
  go_ret
  exact ⟨by simp [sideI], (by repeat (first | with_reducible exact Up.refl _ | with_reducible refine Up.alloc ?_ _ | with_reducible refine Up.drew ?_ | with_reducible refine Up.drewN ?_ _ | (with_reducible refine Up.setCell ?_ (by first | omega | (simp; done) | (simp; omega)) _) | with_reducible assumption | (with_reducible refine Up.trans ?_ (by with_reducible assumption))))⟩
theorem l02Side_any (x y z t u v : Int) (w : World) (h1 : ptB x y = true) (h2 : ptB z t = true) (h3 : ptB u v = true) : Calls Try.prog 100 #[.agg #[.int .i64 x, .int .i64 y], .agg #[.int .i64 z, .int .i64 t], .agg #[.int .i64 u, .int .i64 v]] w fun e w' => e = .returned (.int .i64 (sideI x y z t u v)) ∧ Up w w' := by
  obtain ⟨a1, a2, a3, a4⟩ := ptB_bd h1
  obtain ⟨b1, b2, b3, b4⟩ := ptB_bd h2
  obtain ⟨c1, c2, c3, c4⟩ := ptB_bd h3
  obtain ⟨m1, m2⟩ := mul_bd (a := z - x) (b := v - y) 120 120 (by omega) (by omega) (by omega) (by omega)
  obtain ⟨n1, n2⟩ := mul_bd (a := t - y) (b := u - x) 120 120 (by omega) (by omega) (by omega) (by omega)
  clear h1 h2 h3
  go_enter Try.func100, Try.ntmps100
  go_wp2
  go_ret
  exact ⟨by simp [sideI], (by repeat (first | with_reducible exact Up.refl _ | with_reducible refine Up.alloc ?_ _ | with_reducible refine Up.drew ?_ | with_reducible refine Up.drewN ?_ _ | (with_reducible refine Up.setCell ?_ (by first | omega | (simp; done) | (simp; omega)) _) | with_reducible assumption | (with_reducible refine Up.trans ?_ (by with_reducible assumption))))⟩
theorem toRow_any (a b c d : Int) (w : World) : Calls Try.prog 81 #[.agg #[.int .i64 a, .int .i64 b, .int .i64 c, .int .i64 d]] w fun e w' => e = .returned (.agg #[.int .i64 a, .int .i64 b, .int .i64 c, .int .i64 d]) ∧ Up w w' := by
  go_enter Try.func81, Try.ntmps81
  go_wp2
  exact bodyPost_ret (v := .agg #[.int .i64 a, .int .i64 b, .int .i64 c, .int .i64 d]) (by simp [results, Try.results81, go_sem]) rfl ⟨rfl, (by repeat (first | with_reducible exact Up.refl _ | with_reducible refine Up.alloc ?_ _ | with_reducible refine Up.drew ?_ | with_reducible refine Up.drewN ?_ _ | (with_reducible refine Up.setCell ?_ (by first | omega | (simp; done) | (simp; omega)) _) | with_reducible assumption | (with_reducible refine Up.trans ?_ (by with_reducible assumption))))⟩
theorem RowOk_any (a b c d : Int) (w : World) : Calls Try.prog 89 #[.agg #[.int .i64 a, .int .i64 b, .int .i64 c, .int .i64 d]] w fun e w' => e = .returned (.bool (rowB a b c d)) ∧ Up w w' := by
  go_enter Try.func89, Try.ntmps89
  go_wp2_with (go_at_call 82; (with_reducible refine (within_any _ _ _ _).mono ?_); rintro e w1 ⟨rfl, rfl⟩)
  all_goals (go_ret; exact ⟨by simp [rowB, *], (by repeat (first | with_reducible exact Up.refl _ | with_reducible refine Up.alloc ?_ _ | with_reducible refine Up.drew ?_ | with_reducible refine Up.drewN ?_ _ | (with_reducible refine Up.setCell ?_ (by first | omega | (simp; done) | (simp; omega)) _) | with_reducible assumption | (with_reducible refine Up.trans ?_ (by with_reducible assumption))))⟩)
theorem sRowOk_any (a b c d : Int) (w : World) : Calls Try.prog 86 #[.agg #[.int .i64 a, .int .i64 b, .int .i64 c, .int .i64 d]] w fun e w' => e = .returned (.bool (rowB a b c d)) ∧ Up w w' := by
  go_enter Try.func86, Try.ntmps86
  go_wp2_with (go_at_call 80; (with_reducible refine (l01In_any _ _ _ _).mono ?_); rintro e w1 ⟨rfl, rfl⟩)
  all_goals (go_ret; exact ⟨by simp [rowB, *], (by repeat (first | with_reducible exact Up.refl _ | with_reducible refine Up.alloc ?_ _ | with_reducible refine Up.drew ?_ | with_reducible refine Up.drewN ?_ _ | (with_reducible refine Up.setCell ?_ (by first | omega | (simp; done) | (simp; omega)) _) | with_reducible assumption | (with_reducible refine Up.trans ?_ (by with_reducible assumption))))⟩)
theorem eqPoint_any (x y z t : Int) (w : World) : Calls Try.prog 118 #[.agg #[.int .i64 x, .int .i64 y], .agg #[.int .i64 z, .int .i64 t]] w fun e w' => e = .returned (.bool (x == z && y == t)) ∧ Up w w' := by
  by_cases h1 : x = z
  · by_cases h2 : y = t
    all_goals
      go_enter Try.func118, Try.ntmps118
      go_wp2
      go_ret
      exact ⟨by simp [h1, h2], (by repeat (first | with_reducible exact Up.refl _ | with_reducible refine Up.alloc ?_ _ | with_reducible refine Up.drew ?_ | with_reducible refine Up.drewN ?_ _ | (with_reducible refine Up.setCell ?_ (by first | omega | (simp; done) | (simp; omega)) _) | with_reducible assumption | (with_reducible refine Up.trans ?_ (by with_reducible assumption))))⟩
  · go_enter Try.func118, Try.ntmps118
    go_wp2
    go_ret
    exact ⟨by simp [h1], (by repeat (first | with_reducible exact Up.refl _ | with_reducible refine Up.alloc ?_ _ | with_reducible refine Up.drew ?_ | with_reducible refine Up.drewN ?_ _ | (with_reducible refine Up.setCell ?_ (by first | omega | (simp; done) | (simp; omega)) _) | with_reducible assumption | (with_reducible refine Up.trans ?_ (by with_reducible assumption))))⟩
end Go.Proofs.Ytigcmhdjafglbaa
