/- The walks of divisors and thrusts: each returns what the plain function gives. No condition. -/
import Derived.Test.YtchldcjieijkaaaPts
import Derived.Test.YtchldcjieijkaaaNum
import Derived.Deep.RegionHeld3
namespace Go.Proofs.Ytchldcjieijkaaa
open Go.RowKit
set_option linter.unusedVariables false
theorem l08Gcd_any (a b : Int) (w : World) (ha : a.natAbs ≤ 9223372036854775807) (hb : b.natAbs ≤ 9223372036854775807) : Calls Try.prog 31 #[.int .i64 a, .int .i64 b] w fun e w' => e = .returned (.int .i64 (Nat.gcd a.natAbs b.natAbs : Int)) ∧ Up w w' := by
  go_enter Try.func31, Try.ntmps31
  go_wp2
  go_loopw [0, 1] (fun x y wr => ∃ X Y : Int, x = .int .i64 X ∧ y = .int .i64 Y ∧ Nat.gcd X.natAbs Y.natAbs = Nat.gcd a.natAbs b.natAbs ∧ X.natAbs ≤ 9223372036854775807 ∧ Y.natAbs ≤ 9223372036854775807 ∧ Up w wr) (fun _ y _ => (intOf y).natAbs)
  case atStart => exact ⟨_, _, rfl, rfl, rfl, ha, hb, Up.refl _⟩
  case round =>
    obtain ⟨X, Y, rfl, rfl, hg, hX, hY, hup⟩ := hrel
    have HG := Lib.hid hg
    clear hg
    by_cases hY0 : Y = 0
    · subst hY0
      by_cases hX0 : X < 0
      · go_wp2
        go_ret
        exact ⟨ret_int (by rw [← HG.out]; simp; omega), hup⟩
      · go_wp2
        go_ret
        exact ⟨ret_int (by rw [← HG.out]; simp; omega), hup⟩
    · have hb1 : (Y != 0) = true := by rw [bne_iff_ne]; omega
      have hb2 : (Y == 0) = false := by rw [beq_eq_false_iff_ne]; omega
      have hg := Lib.hid (gcd_tmod X Y)
      have hmod : (X.tmod Y).natAbs < Y.natAbs := by rw [Int.natAbs_tmod]; exact Nat.mod_lt _ (by omega)
      have HM := Lib.hid hmod
      clear hmod
      go_wp2
      (refine wp_region_up (by kernel_rfl) (by kernel_rfl) ?_; (repeat (refine wpQuiet_step (fun K hK => ?_); go_simp; first | (refine hK _ ?_; clear hK K) | (apply Exists.intro; refine ⟨fun wq hwq => ?_, hK _ ?_⟩; (obtain ⟨hcq, hfq⟩ := hwq.cells; (try go_simp); first | done | rfl | exact ⟨rfl, rfl⟩ | fail); clear hK K))); refine wpQuiet_nil ?_; intro w1 hb1; obtain ⟨hc1, hf1⟩ := hb1.cells; have hl1 := hb1.lt; have hle1 := hb1.le; have hs1 := hb1.size; (try simp at hs1); (try have hs1a : wr.heap.size < w1.heap.size := by omega); (try have hs1aa : wr.heap.size ≤ w1.heap.size := by omega); (try have hs1b : wr.heap.size + 1 < w1.heap.size := by omega); (try have hs1bb : wr.heap.size + 1 ≤ w1.heap.size := by omega); (try have hs1c : wr.heap.size + 1 + 1 < w1.heap.size := by omega); (try have hs1cc : wr.heap.size + 1 + 1 ≤ w1.heap.size := by omega); (try have hs1d : wr.heap.size + 1 + 1 + 1 < w1.heap.size := by omega); (try have hs1dd : wr.heap.size + 1 + 1 + 1 ≤ w1.heap.size := by omega); (try have hs1L := Nat.lt_of_succ_le hs1); (try have hs1M := Nat.lt_of_succ_lt hs1L); (try have hs1N := Nat.lt_of_succ_lt hs1M); (try have hs1LE := Nat.le_of_lt hs1L); (try have hs1ME := Nat.le_of_lt hs1M))
      go_wp2
      go_roundw
      case rel => exact ⟨Y, _, rfl, rfl, hg.out.trans HG.out, hY, by have := HM.out; omega, hup.trans hb1⟩
      case measure => exact HM.out
theorem sThrustOk_any (h v m d : Int) (w : World) : Calls Try.prog 19 #[.agg #[.int .i64 h, .int .i64 v, .int .i64 m, .int .i64 d]] w fun e w' => e = .returned (.bool (thB h v m d)) ∧ Up w w' := by
  by_cases k1 : inB 1 d 1000000 = true
  rotate_left
  · go_enter Try.func19, Try.ntmps19
    go_wp2_with (go_at_call 30; (with_reducible refine (l01In_any _ _ _ _).mono ?_); rintro e w1 ⟨rfl, rfl⟩)
    go_ret
    exact ⟨by simp [thB, *], (by repeat (first | with_reducible exact Up.refl _ | with_reducible refine Up.alloc ?_ _ | with_reducible refine Up.drew ?_ | with_reducible refine Up.drewN ?_ _ | (with_reducible refine Up.setCell ?_ (by first | omega | (simp; done) | (simp; omega)) _) | with_reducible assumption | (with_reducible refine Up.trans ?_ (by with_reducible assumption))))⟩
  by_cases k2 : inB 0 h 1000000000000 = true
  rotate_left
  · go_enter Try.func19, Try.ntmps19
    go_wp2_with (go_at_call 30; (with_reducible refine (l01In_any _ _ _ _).mono ?_); rintro e w1 ⟨rfl, rfl⟩)
    go_ret
    exact ⟨by simp [thB, *], (by repeat (first | with_reducible exact Up.refl _ | with_reducible refine Up.alloc ?_ _ | with_reducible refine Up.drew ?_ | with_reducible refine Up.drewN ?_ _ | (with_reducible refine Up.setCell ?_ (by first | omega | (simp; done) | (simp; omega)) _) | with_reducible assumption | (with_reducible refine Up.trans ?_ (by with_reducible assumption))))⟩
  by_cases k3 : inB (-10000000000000) v 10000000000000 = true
  rotate_left
  · go_enter Try.func19, Try.ntmps19
    go_wp2_with (go_at_call 30; (with_reducible refine (l01In_any _ _ _ _).mono ?_); rintro e w1 ⟨rfl, rfl⟩)
    go_ret
    exact ⟨by simp [thB, *], (by repeat (first | with_reducible exact Up.refl _ | with_reducible refine Up.alloc ?_ _ | with_reducible refine Up.drew ?_ | with_reducible refine Up.drewN ?_ _ | (with_reducible refine Up.setCell ?_ (by first | omega | (simp; done) | (simp; omega)) _) | with_reducible assumption | (with_reducible refine Up.trans ?_ (by with_reducible assumption))))⟩
  by_cases k4 : inB (-10000000000000) m 10000000000000 = true
  rotate_left
  · go_enter Try.func19, Try.ntmps19
    go_wp2_with (go_at_call 30; (with_reducible refine (l01In_any _ _ _ _).mono ?_); rintro e w1 ⟨rfl, rfl⟩)
    go_ret
    exact ⟨by simp [thB, *], (by repeat (first | with_reducible exact Up.refl _ | with_reducible refine Up.alloc ?_ _ | with_reducible refine Up.drew ?_ | with_reducible refine Up.drewN ?_ _ | (with_reducible refine Up.setCell ?_ (by first | omega | (simp; done) | (simp; omega)) _) | with_reducible assumption | (with_reducible refine Up.trans ?_ (by with_reducible assumption))))⟩
  have b1 := inB_true.1 k1
  have b2 := inB_true.1 k2
  have b3 := inB_true.1 k3
  have b4 := inB_true.1 k4
  have g1 : Nat.gcd h.natAbs v.natAbs ≤ 9223372036854775807 := gcd_le_of _ _ _ (by omega) (by omega)
  have g2 : Nat.gcd m.natAbs d.natAbs ≤ 9223372036854775807 := gcd_le_of _ _ _ (by omega) (by omega)
  go_enter Try.func19, Try.ntmps19
  go_wp2_with (go_at_call 30; (with_reducible refine (l01In_any _ _ _ _).mono ?_); rintro e w1 ⟨rfl, rfl⟩)
  (refine wp_region_up (by kernel_rfl) (by kernel_rfl) ?_; (repeat (refine wpQuiet_step (fun K hK => ?_); go_simp; first | (refine hK _ ?_; clear hK K) | (apply Exists.intro; refine ⟨fun wq hwq => ?_, hK _ ?_⟩; (obtain ⟨hcq, hfq⟩ := hwq.cells; (try go_simp); first | done | rfl | exact ⟨rfl, rfl⟩ | (go_at_call 31; exact up_of hwq (l08Gcd_any _ _ _ (by omega) (by omega)))); clear hK K))); refine wpQuiet_nil ?_; intro w1 hb1; obtain ⟨hc1, hf1⟩ := hb1.cells; have hl1 := hb1.lt; have hle1 := hb1.le; have hs1 := hb1.size; (try simp at hs1); (try have hs1a : w.heap.size < w1.heap.size := by omega); (try have hs1aa : w.heap.size ≤ w1.heap.size := by omega); (try have hs1b : w.heap.size + 1 < w1.heap.size := by omega); (try have hs1bb : w.heap.size + 1 ≤ w1.heap.size := by omega); (try have hs1c : w.heap.size + 1 + 1 < w1.heap.size := by omega); (try have hs1cc : w.heap.size + 1 + 1 ≤ w1.heap.size := by omega); (try have hs1d : w.heap.size + 1 + 1 + 1 < w1.heap.size := by omega); (try have hs1dd : w.heap.size + 1 + 1 + 1 ≤ w1.heap.size := by omega); (try have hs1L := Nat.lt_of_succ_le hs1); (try have hs1M := Nat.lt_of_succ_lt hs1L); (try have hs1N := Nat.lt_of_succ_lt hs1M); (try have hs1LE := Nat.le_of_lt hs1L); (try have hs1ME := Nat.le_of_lt hs1M))
  go_wp2
  go_ret
  exact ⟨by simp [thB, g4, *], (by repeat (first | with_reducible exact Up.refl _ | with_reducible refine Up.alloc ?_ _ | with_reducible refine Up.drew ?_ | with_reducible refine Up.drewN ?_ _ | (with_reducible refine Up.setCell ?_ (by first | omega | (simp; done) | (simp; omega)) _) | with_reducible assumption | (with_reducible refine Up.trans ?_ (by with_reducible assumption))))⟩
end Go.Proofs.Ytchldcjieijkaaa
