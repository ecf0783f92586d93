/- The walks of the functions on hinges. No condition. -/
import Derived.Test.YtaealkfnhhmmcaaSlT
namespace Go.Proofs.Ytaealkfnhhmmcaa
open Go.RowKit
set_option linter.unusedVariables false
def cnt (p : Nat → Bool) : Nat → Nat
  | 0 => 0
  | n + 1 => cnt p n + if p n then 1 else 0
theorem cnt_le (p : Nat → Bool) (n : Nat) : cnt p n ≤ n := by
  induction n with
  | zero => simp [cnt]
  | succ n ih => simp only [cnt]; split <;> omega
theorem cnt_t {p : Nat → Bool} {n : Nat} (h : p n = true) : cnt p (n + 1) = cnt p n + 1 := by simp [cnt, h]
theorem cnt_f {p : Nat → Bool} {n : Nat} (h : p n = false) : cnt p (n + 1) = cnt p n := by simp [cnt, h]
/-- Is there a turn at hinge i? -/
def turn (O : Nat → Bool) (i : Nat) : Bool := decide (1 ≤ i) && (O i != O (i - 1))
def htI (O : Nat → Bool) (n : Nat) : Int := (cnt (turn O) n : Int)
theorem ht_end {O : Nat → Bool} {n m : Nat} (h : m + 1 ≤ n ∨ m = 0) (h2 : ¬ m + 1 < n) : cnt (turn O) (m + 1) = cnt (turn O) n := by
  rcases h with h | h
  · rw [show n = m + 1 from by omega]
  · subst h
    have : cnt (turn O) 1 = 0 := by simp [cnt, turn]
    rcases Nat.eq_zero_or_pos n with h0 | h0
    · subst h0; rw [this]; rfl
    · rw [show n = 1 from by omega]
end Go.Proofs.Ytaealkfnhhmmcaa
