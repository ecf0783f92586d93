/- Plain lemmas on proofs: where a proof holds every thrust breaks a row; a scaled proof's sums. No condition. -/
import Derived.Test.YtchldcjieijkaaaSp
import Derived.Test.YtchldcjieijkaaaIp
import Derived.Test.YtchldcjieijkaaaRw
import Derived.Test.YtchldcjieijkaaaPt
import Derived.Test.YtchldcjieijkaaaDrawB
namespace Go.Proofs.Ytchldcjieijkaaa
open Go.RowKit
set_option linter.unusedVariables false
theorem pf_parts {k n m : Nat} {R P F : Nat → Nat → Int} (h : pfOk k n m R P F = true) : k ≤ 40 ∧ allN (rowR R) k = true ∧ (1 ≤ n ∧ n ≤ 4) ∧ m = n ∧ allN (ascI 0 ((k : Int) - 1) P) n = true ∧ allN (facI F) n = true := by
  simp only [pfOk, Bool.and_eq_true, decide_eq_true_eq, inB_true] at h
  obtain ⟨⟨⟨⟨⟨h1, h2⟩, h3⟩, h4⟩, h5⟩, h6⟩ := h
  exact ⟨h1, h2, by omega, h4, h5, h6⟩
theorem pf_idx {k n m : Nat} {R P F : Nat → Nat → Int} (h : pfOk k n m R P F = true) {j : Nat} (hj : j < n) : (P j 0).toNat < k ∧ 1 ≤ F j 0 ∧ F j 0 ≤ 1000000 := by
  obtain ⟨h1, h2, h3, h4, h5, h6⟩ := pf_parts h
  have a := allN_get h5 hj
  have b := inB_true.1 (allN_get h6 hj)
  simp only [ascI, Bool.and_eq_true] at a
  have c := inB_true.1 a.1
  omega
theorem pf_row {k n m : Nat} {R P F : Nat → Nat → Int} (h : pfOk k n m R P F = true) {i : Nat} (hi : i < k) : rowB (R i 0) (R i 1) (R i 2) (R i 3) = true := allN_get (pf_parts h).2.1 hi
theorem pf_bd {k n m : Nat} {R P F : Nat → Nat → Int} (h : pfOk k n m R P F = true) {j c : Nat} (hj : j < n) (hc : c < 4) : -1000000000000000 ≤ F j 0 * R (P j 0).toNat c ∧ F j 0 * R (P j 0).toNat c ≤ 1000000000000000 := by
  obtain ⟨h1, h2, h3⟩ := pf_idx h hj
  have h4 := rowB_bd (pf_row h h1)
  have h5 : -1000000000 ≤ R (P j 0).toNat c ∧ R (P j 0).toNat c ≤ 1000000000 := by
    have hcc : c = 0 ∨ c = 1 ∨ c = 2 ∨ c = 3 := by omega
    rcases hcc with rfl | rfl | rfl | rfl <;> omega
  have h6 := mul_bd (a := F j 0) (b := R (P j 0).toNat c) 1000000 1000000000 (by omega) (by omega) (by omega) (by omega)
  omega
theorem sm_bd {k n m : Nat} {R P F : Nat → Nat → Int} (h : pfOk k n m R P F = true) {c : Nat} (hc : c < 4) (j : Nat) (hj : j ≤ n) : -(1000000000000000 * (j : Int)) ≤ smI R P F c j ∧ smI R P F c j ≤ 1000000000000000 * (j : Int) := by
  induction j with
  | zero => simp [smI]
  | succ j ih =>
    have h1 := ih (by omega)
    have h2 := pf_bd h (j := j) (c := c) (by omega) hc
    rw [smI]
    push_cast
    omega
theorem sr_eq {k n m : Nat} {R P F : Nat → Nat → Int} (h : pfOk k n m R P F = true) {c : Nat} (hc : c < 4) : srI k n m R P F c = smI R P F c n := by
  have h1 := sm_bd h hc n (Nat.le_refl _)
  have h2 := (pf_parts h).2.2.1
  rw [srI_t h]
  simp only [wrap64]
  omega
theorem sm_scale (R P F : Nat → Nat → Int) (s : Int) (c j : Nat) : smI R P (scF s F) c j = s * smI R P F c j := by
  induction j with
  | zero => simp [smI]
  | succ j ih =>
    rw [smI, smI, ih, scF]
    grind
theorem sm_holds {k n m : Nat} {R P F : Nat → Nat → Int} (h : pfOk k n m R P F = true) (x y z d : Int) (hall : ∀ i, i < k → R i 0 * x + R i 1 * y + R i 2 * z ≤ R i 3 * d) (j : Nat) (hj : j ≤ n) :
    smI R P F 0 j * x + smI R P F 1 j * y + smI R P F 2 j * z ≤ smI R P F 3 j * d := by
  induction j with
  | zero => simp [smI]
  | succ j ih =>
    have h1 := ih (by omega)
    obtain ⟨h2, h3, h4⟩ := pf_idx h (j := j) (by omega)
    have h5 := Int.mul_le_mul_of_nonneg_left (hall _ h2) (show 0 ≤ F j 0 by omega)
    simp only [smI]
    generalize R (P j 0).toNat 0 = a at h5 ⊢
    generalize R (P j 0).toNat 1 = b at h5 ⊢
    generalize R (P j 0).toNat 2 = c at h5 ⊢
    generalize R (P j 0).toNat 3 = e at h5 ⊢
    generalize F j 0 = f at h5 ⊢
    generalize smI R P F 0 j = s0 at h1 ⊢
    generalize smI R P F 1 j = s1 at h1 ⊢
    generalize smI R P F 2 j = s2 at h1 ⊢
    generalize smI R P F 3 j = s3 at h1 ⊢
    have e1 : (s0 + f * a) * x + (s1 + f * b) * y + (s2 + f * c) * z = (s0 * x + s1 * y + s2 * z) + f * (a * x + b * y + c * z) := by grind
    have e2 : (s3 + f * e) * d = s3 * d + f * (e * d) := by grind
    rw [e1, e2]
    omega
theorem cnt_zero {p : Nat → Bool} {n : Nat} (h : cnt p n = 0) {i : Nat} (hi : i < n) : p i = false := by
  induction n with
  | zero => omega
  | succ n ih =>
    rw [cnt] at h
    by_cases hin : i < n
    · exact ih (by omega) hin
    · rw [show i = n from by omega]
      cases hp : p n with
      | false => rfl
      | true => rw [hp] at h; simp at h
theorem ip_parts {p : Bool} {x0 x1 x2 x3 : Int} (h : ipB p x0 x1 x2 x3 = true) : p = true ∧ x0 = 0 ∧ x1 = 0 ∧ x2 = 0 ∧ x3 < 0 := by
  simp only [ipB, Bool.and_eq_true, decide_eq_true_eq] at h
  obtain ⟨⟨⟨⟨h1, h2⟩, h3⟩, h4⟩, h5⟩ := h
  exact ⟨h1, h2, h3, h4, h5⟩
theorem fp_broken {k n m : Nat} {R P F : Nat → Nat → Int} {x y z d : Int} (ht : thB x y z d = true) (h : ipB (pfOk k n m R P F) (srI k n m R P F 0) (srI k n m R P F 1) (srI k n m R P F 2) (srI k n m R P F 3) = true) : 1 ≤ cbI x y z d R k := by
  obtain ⟨hp, s0, s1, s2, s3⟩ := ip_parts h
  rw [sr_eq hp (by omega)] at s0 s1 s2 s3
  rw [cbI, ht, if_pos rfl]
  have hd := thB_bd ht
  rcases Nat.eq_zero_or_pos (cnt (brk x y z d R) k) with h0 | h0
  · have hall : ∀ i, i < k → R i 0 * x + R i 1 * y + R i 2 * z ≤ R i 3 * d := by
      intro i hi
      have h1 := cnt_zero h0 hi
      simp only [brk, pf_row hp hi, Bool.true_and, Bool.not_eq_false', decide_eq_true_eq] at h1
      simpa [lefI, rigI] using h1
    have h2 := sm_holds hp x y z d hall n (Nat.le_refl _)
    rw [s0, s1, s2] at h2
    have h3 : smI R P F 3 n * d < 0 := Int.mul_neg_of_neg_of_pos s3 (by omega)
    omega
  · omega
theorem fp_scale {k n m : Nat} {R P F : Nat → Nat → Int} (h : spB k n m 3 R P F = true) {c : Nat} (hc : c < 4) : srI k n m R P (scF 3 F) c = 3 * srI k n m R P F c ∧ wrap64 (3 * srI k n m R P F c) = 3 * srI k n m R P F c := by
  simp only [spB, Bool.and_eq_true] at h
  obtain ⟨⟨h1, h2⟩, h3⟩ := h
  have h4 := sm_bd h2 hc n (Nat.le_refl _)
  have h5 := (pf_parts h2).2.2.1
  rw [sr_eq h2 hc, sr_eq h3 hc, sm_scale]
  refine ⟨rfl, ?_⟩
  simp only [wrap64]
  omega
theorem fp_again {k n m : Nat} {R P F : Nat → Nat → Int} (h : spB k n m 3 R P F = true) : ipB (pfOk k n m R P (scF 3 F)) (srI k n m R P (scF 3 F) 0) (srI k n m R P (scF 3 F) 1) (srI k n m R P (scF 3 F) 2) (srI k n m R P (scF 3 F) 3) = ipB (pfOk k n m R P F) (srI k n m R P F 0) (srI k n m R P F 1) (srI k n m R P F 2) (srI k n m R P F 3) := by
  rw [(fp_scale h (c := 0) (by omega)).1, (fp_scale h (c := 1) (by omega)).1, (fp_scale h (c := 2) (by omega)).1, (fp_scale h (c := 3) (by omega)).1]
  simp only [spB, Bool.and_eq_true] at h
  obtain ⟨⟨h1, h2⟩, h3⟩ := h
  rw [h2, h3]
  simp only [ipB, Bool.true_and]
  congr 1
  · congr 1
    · congr 1
      all_goals (rw [decide_eq_decide]; omega)
    · rw [decide_eq_decide]; omega
  · rw [decide_eq_decide]; omega
/-- The law's own two rows and its proof. -/
def oneR (i j : Nat) : Int := [1, 0, 0, -1, -1, 0, 0, 0].getD (i * 4 + j) 0
theorem fp_one : ipB (pfOk 2 2 2 oneR (litR [0, 1]) (litR [1, 1])) (srI 2 2 2 oneR (litR [0, 1]) (litR [1, 1]) 0) (srI 2 2 2 oneR (litR [0, 1]) (litR [1, 1]) 1) (srI 2 2 2 oneR (litR [0, 1]) (litR [1, 1]) 2) (srI 2 2 2 oneR (litR [0, 1]) (litR [1, 1]) 3) = true := by kernel_rfl
theorem fp_text : ptT 2 2 (litR [0, 1]) (litR [2, 1]) = [50, 120, 48, 32, 49, 120, 49] := by kernel_rfl
end Go.Proofs.Ytchldcjieijkaaa
