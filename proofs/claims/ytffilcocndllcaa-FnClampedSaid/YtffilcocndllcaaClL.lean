/- The walk of the law FnClamped: it returns true. No condition. -/
import Derived.Test.YtffilcocndllcaaDraw3
import Derived.Test.YtffilcocndllcaaOpen4
import Derived.Test.YtffilcocndllcaaPts
namespace Go.Proofs.Ytffilcocndllcaa
open Go.RowKit
set_option linter.unusedVariables false
theorem clamp_is (n lo hi X : Int) (h : clI n lo hi = X) : ∀ W : World, Calls Try.prog 58 #[.int .i64 n, .int .i64 lo, .int .i64 hi] W fun e w' => e = .returned (.int .i64 X) ∧ W = w' := fun W => by have hh := Clamp_any n lo hi W; rw [h] at hh; exact hh
set_option maxHeartbeats 1000000 in
set_option maxRecDepth 100000 in
theorem law_FnClamped (u : Value) (n : Nat) (B : Nat → Int) (w : World) (hm : n ≤ maxLen) (hA : Sl w 0 w.heap.size 1 u n (bytF B)) (hB : ∀ i, i < n → 0 ≤ B i ∧ B i ≤ 255) :
    Calls Try.prog 10 #[u] w fun e w' => e = .returned (.bool true) ∧ Up w w' := by
  by_cases hn : n ≤ 1048576
  rotate_left
  · have hd : decide (1048576 < n) = true := decide_eq_true (by omega)
    go_enter Try.func10, Try.ntmps10
    go_wp2_with fail
    (go_at_call 38; (with_reducible refine (big_any _ _ _ _ _ _ hA hm).mono ?_); rintro e wx ⟨rfl, rfl⟩)
    go_wp2
    go_ret
    exact ⟨rfl, (by repeat (first | with_reducible exact Up.refl _ | with_reducible refine Up.alloc ?_ _ | with_reducible refine Up.drew ?_ | with_reducible refine Up.drewN ?_ _ | (with_reducible refine Up.setCell ?_ (by first | omega | (simp; done) | (simp; omega)) _) | with_reducible assumption | (with_reducible refine Up.trans ?_ (by with_reducible assumption))))⟩
  · have hd : decide (1048576 < n) = false := decide_eq_false (by omega)
    have h735 := clamp_is 7 3 5 5 (by decide)
    go_enter Try.func10, Try.ntmps10
    go_wp2_with fail
    (go_at_call 38; (with_reducible refine (big_any _ _ _ _ _ _ hA hm).mono ?_); rintro e wx ⟨rfl, rfl⟩)
    go_wp2_with fail
    (go_at_call 57; (with_reducible refine (DrawClamp_any _ _ _ _ _ _ hA hn hB).mono ?_); rintro e w1 ⟨x, y, z, rfl, hx, hy, hz, hU1⟩)
    by_cases hzy : z < y
    · have c1 := clamp_is x y z y (by rw [clI, if_pos (.inl hzy)])
      go_wp2_with (first | (go_at_call 58; (with_reducible refine (c1 _).mono ?_); rintro e w1 ⟨rfl, rfl⟩) | (go_at_call 58; (with_reducible refine (h735 _).mono ?_); rintro e w1 ⟨rfl, rfl⟩))
      go_ret
      exact ⟨rfl, hU1⟩
    have hzy2 : y ≤ z := by omega
    by_cases hxy : x < y
    · have c1 := clamp_is x y z y (by rw [clI, if_pos (.inr hxy)])
      have c2 := clamp_is y y z y (by rw [clI, if_neg (by omega), if_neg (by omega)])
      go_wp2_with (first | (go_at_call 58; (with_reducible refine (c1 _).mono ?_); rintro e w1 ⟨rfl, rfl⟩) | (go_at_call 58; (with_reducible refine (h735 _).mono ?_); rintro e w1 ⟨rfl, rfl⟩) | (go_at_call 58; (with_reducible refine (c2 _).mono ?_); rintro e w1 ⟨rfl, rfl⟩))
      go_ret
      exact ⟨rfl, hU1⟩
    by_cases hxz : z < x
    · have c1 := clamp_is x y z z (by rw [clI, if_neg (by omega), if_pos (by omega)])
      have c2 := clamp_is z y z z (by rw [clI, if_neg (by omega), if_neg (by omega)])
      go_wp2_with (first | (go_at_call 58; (with_reducible refine (c1 _).mono ?_); rintro e w1 ⟨rfl, rfl⟩) | (go_at_call 58; (with_reducible refine (h735 _).mono ?_); rintro e w1 ⟨rfl, rfl⟩) | (go_at_call 58; (with_reducible refine (c2 _).mono ?_); rintro e w1 ⟨rfl, rfl⟩))
      go_ret
      exact ⟨rfl, hU1⟩
    · have hxy2 : y ≤ x := by omega
      have hxz2 : x ≤ z := by omega
      have c1 := clamp_is x y z x (by rw [clI, if_neg (by omega), if_neg (by omega)])
      go_wp2_with (first | (go_at_call 58; (with_reducible refine (c1 _).mono ?_); rintro e w1 ⟨rfl, rfl⟩) | (go_at_call 58; (with_reducible refine (h735 _).mono ?_); rintro e w1 ⟨rfl, rfl⟩))
      go_ret
      exact ⟨rfl, hU1⟩
end Go.Proofs.Ytffilcocndllcaa
