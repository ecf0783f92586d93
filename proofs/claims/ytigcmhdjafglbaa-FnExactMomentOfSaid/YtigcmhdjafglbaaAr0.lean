/- Sums over the corners of a stone: plain lemmas. No condition. -/
import Derived.Test.YtigcmhdjafglbaaSt3
namespace Go.Proofs.Ytigcmhdjafglbaa
open Go.RowKit
set_option linter.unusedVariables false
/-- Twice the area that corner i and the next one make with 0, 0. -/
def crQ (R : Nat → Nat → Int) (i q : Nat) : Int := R i 0 * R q 1 - R i 1 * R q 0
/-- The factor: 1, the sum of X, the sum of Y. -/
def fkQ (k : Nat) (R : Nat → Nat → Int) (i q : Nat) : Int := if k = 0 then 1 else if k = 1 then R i 0 + R q 0 else R i 1 + R q 1
def arS (k n : Nat) (R : Nat → Nat → Int) : Nat → Int
  | 0 => 0
  | j + 1 => arS k n R j + fkQ k R j ((j + 1) % n) * crQ R j ((j + 1) % n)
def arI (k n : Nat) (R : Nat → Nat → Int) : Int := if stOk n R then arS k n R n else 0
theorem arI_t {k n : Nat} {R : Nat → Nat → Int} (h : stOk n R = true) : arI k n R = arS k n R n := by rw [arI, h]; rfl
theorem arI_f {k n : Nat} {R : Nat → Nat → Int} (h : stOk n R = false) : arI k n R = 0 := by rw [arI, h]; rfl
theorem st_inv {n : Nat} {R : Nat → Nat → Int} (h : stOk n R = true) : 3 ≤ n ∧ n ≤ 6 ∧ ∀ i, i < n → ptB (R i 0) (R i 1) = true := by
  simp only [stOk, Bool.and_eq_true] at h
  obtain ⟨⟨h1, h2⟩, h3⟩ := h
  have := inB_true.1 h1
  exact ⟨by omega, by omega, fun i hi => allN_get h2 hi⟩
/-- One corner's numbers are small. -/
theorem ar_bd {k : Nat} {R : Nat → Nat → Int} {i q : Nat} (h1 : ptB (R i 0) (R i 1) = true) (h2 : ptB (R q 0) (R q 1) = true) :
    -3600 ≤ R i 0 * R q 1 ∧ R i 0 * R q 1 ≤ 3600 ∧ -3600 ≤ R i 1 * R q 0 ∧ R i 1 * R q 0 ≤ 3600 ∧ -7200 ≤ crQ R i q ∧ crQ R i q ≤ 7200 ∧ -120 ≤ fkQ k R i q ∧ fkQ k R i q ≤ 120 ∧ -864000 ≤ fkQ k R i q * crQ R i q ∧ fkQ k R i q * crQ R i q ≤ 864000 := by
  obtain ⟨a1, a2, a3, a4⟩ := ptB_bd h1
  obtain ⟨b1, b2, b3, b4⟩ := ptB_bd h2
  have e1 := mul_bd (a := R i 0) (b := R q 1) 60 60 (by omega) (by omega) (by omega) (by omega)
  have e2 := mul_bd (a := R i 1) (b := R q 0) 60 60 (by omega) (by omega) (by omega) (by omega)
  have e3 : -7200 ≤ crQ R i q ∧ crQ R i q ≤ 7200 := by unfold crQ; omega
  have e4 : -120 ≤ fkQ k R i q ∧ fkQ k R i q ≤ 120 := by
    unfold fkQ
    split
    · omega
    · split <;> omega
  have e5 := mul_bd (a := fkQ k R i q) (b := crQ R i q) 120 7200 (by omega) (by omega) (by omega) (by omega)
  omega
theorem arS_bd {k n : Nat} {R : Nat → Nat → Int} (hn : 0 < n) (h : ∀ i, i < n → ptB (R i 0) (R i 1) = true) : ∀ j, j ≤ n → -864000 * (j : Int) ≤ arS k n R j ∧ arS k n R j ≤ 864000 * (j : Int)
  | 0, _ => by simp [arS]
  | j + 1, hj => by
    have ih := arS_bd (k := k) hn h j (by omega)
    have hb := ar_bd (k := k) (h j (by omega)) (h ((j + 1) % n) (Nat.mod_lt _ hn))
    rw [arS]
    generalize arS k n R j = x at ih ⊢
    generalize fkQ k R j ((j + 1) % n) * crQ R j ((j + 1) % n) = y at hb ⊢
    omega
end Go.Proofs.Ytigcmhdjafglbaa
