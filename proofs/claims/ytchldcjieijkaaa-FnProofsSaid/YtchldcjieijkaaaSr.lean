/- The walks of SumOfRows. No condition. -/
import Derived.Test.YtchldcjieijkaaaPf2
import Derived.Test.YtchldcjieijkaaaMp
namespace Go.Proofs.Ytchldcjieijkaaa
open Go.RowKit
set_option linter.unusedVariables false
/-- The first j rows of the proof, times their factors, added up at component c (no wrapping). -/
def smI (R P F : Nat → Nat → Int) (c : Nat) : Nat → Int
  | 0 => 0
  | j + 1 => smI R P F c j + F j 0 * R (P j 0).toNat c
def srI (k n m : Nat) (R P F : Nat → Nat → Int) (c : Nat) : Int := if pfOk k n m R P F then wrap64 (smI R P F c n) else 0
theorem srI_t {k n m : Nat} {R P F : Nat → Nat → Int} (h : pfOk k n m R P F = true) (c : Nat) : srI k n m R P F c = wrap64 (smI R P F c n) := by rw [srI, h]; rfl
theorem srI_f {k n m : Nat} {R P F : Nat → Nat → Int} (h : pfOk k n m R P F = false) (c : Nat) : srI k n m R P F c = 0 := by rw [srI, h]; rfl
theorem wrap_step (x y : Int) : (wrap64 x + wrap64 y + 9223372036854775808) % 18446744073709551616 - 9223372036854775808 = wrap64 (x + y) := by
  simp only [wrap64]; omega
theorem smI_step (R P F : Nat → Nat → Int) (c j : Nat) : wrap64 (wrap64 (smI R P F c j) + wrap64 (F j 0 * R (P j 0).toNat c)) = wrap64 (smI R P F c (j + 1)) := by
  rw [smI]
  generalize smI R P F c j = x
  generalize F j 0 * R (P j 0).toNat c = y
  simp only [wrap64]; omega
theorem pf_inv {k n m : Nat} {R P F : Nat → Nat → Int} (h : pfOk k n m R P F = true) : m = n ∧ 1 ≤ n ∧ n ≤ 4 ∧ k ≤ 40 ∧ (∀ i, i < n → 0 ≤ P i 0 ∧ P i 0 < (k : Int)) ∧ ∀ i, i + 1 < n → P i 0 < P (i + 1) 0 := by
  simp only [pfOk, Bool.and_eq_true, decide_eq_true_eq] at h
  obtain ⟨⟨⟨⟨⟨h1, h2⟩, h3⟩, h4⟩, h5⟩, h6⟩ := h
  have h3 := inB_true.1 h3
  refine ⟨h4, by omega, by omega, h1, fun i hi => ?_, fun i hi => ?_⟩
  · have := allN_get h5 hi
    rw [ascI, Bool.and_eq_true] at this
    have := inB_true.1 this.1
    omega
  · have := allN_get h5 hi
    rw [ascI, Bool.and_eq_true] at this
    have := this.2
    simp at this
    omega
theorem asc_lt {n : Nat} {P : Nat → Nat → Int} (h : ∀ i, i + 1 < n → P i 0 < P (i + 1) 0) : ∀ d i, i + d + 1 < n → P i 0 < P (i + d + 1) 0
  | 0, i, hd => h i hd
  | d + 1, i, hd => Int.lt_trans (asc_lt h d i (by omega)) (h (i + d + 1) (by omega))
