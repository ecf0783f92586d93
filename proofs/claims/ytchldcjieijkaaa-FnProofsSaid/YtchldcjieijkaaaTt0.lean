/- Plain laws of thrusts: one form; what is halfway lies between. No Go in sight; no condition. -/
import Derived.Test.YtchldcjieijkaaaNum
namespace Go.Proofs.Ytchldcjieijkaaa
open Go.RowKit
set_option linter.unusedVariables false
theorem g4_def (a b c d : Int) : g4 a b c d = Nat.gcd (Nat.gcd a.natAbs b.natAbs) (Nat.gcd c.natAbs d.natAbs) := rfl
theorem g4_dvd (a b c d : Int) : (g4 a b c d : Int) ∣ a ∧ (g4 a b c d : Int) ∣ b ∧ (g4 a b c d : Int) ∣ c ∧ (g4 a b c d : Int) ∣ d := by
  rw [g4_def]
  refine ⟨Int.ofNat_dvd_left.2 ?_, Int.ofNat_dvd_left.2 ?_, Int.ofNat_dvd_left.2 ?_, Int.ofNat_dvd_left.2 ?_⟩
  · exact Nat.dvd_trans (Nat.gcd_dvd_left _ _) (Nat.gcd_dvd_left _ _)
  · exact Nat.dvd_trans (Nat.gcd_dvd_left _ _) (Nat.gcd_dvd_right _ _)
  · exact Nat.dvd_trans (Nat.gcd_dvd_right _ _) (Nat.gcd_dvd_left _ _)
  · exact Nat.dvd_trans (Nat.gcd_dvd_right _ _) (Nat.gcd_dvd_right _ _)
theorem g4_mul (k a b c d : Int) : g4 (k * a) (k * b) (k * c) (k * d) = k.natAbs * g4 a b c d := by
  simp only [g4_def, Int.natAbs_mul, Nat.gcd_mul_left]
/-- The quotients by the divisor have no common divisor. -/
theorem g4_one {g a b c d : Int} (hg : g ≠ 0) (h : (g4 (g * a) (g * b) (g * c) (g * d) : Int) = g.natAbs) : g4 a b c d = 1 := by
  rw [g4_mul] at h
  have h1 : g.natAbs * g4 a b c d = g.natAbs := by exact_mod_cast h
  have h2 : 0 < g.natAbs := by omega
  have h3 : g.natAbs * g4 a b c d = g.natAbs * 1 := by rw [h1, Nat.mul_one]
  exact Nat.eq_of_mul_eq_mul_left h2 h3
theorem tdiv_mul {g a : Int} (hg : g ≠ 0) : (g * a).tdiv g = a := Int.mul_tdiv_cancel_left a hg
theorem thB_mk {h v m d : Int} (h1 : 1 ≤ d) (h2 : d ≤ 1000000) (h3 : 0 ≤ h) (h4 : h ≤ 1000000000000) (h5 : -10000000000000 ≤ v) (h6 : v ≤ 10000000000000) (h7 : -10000000000000 ≤ m) (h8 : m ≤ 10000000000000) (hg : g4 h v m d = 1) : thB h v m d = true := by
  simp [thB, inB, hg]; omega
/-- MakeThrust of a thrust's multiples, turned about. -/
theorem mk_back {k h v m n : Int} (hk : 1 ≤ k) (hk2 : k ≤ 9) (ht : thB h v m n = true) (hb : h ≤ 1000 ∧ -1000 ≤ v ∧ v ≤ 1000 ∧ -1000 ≤ m ∧ m ≤ 1000 ∧ n ≤ 1000) :
    mkB (-k * h) (-k * v) (-k * m) (-k * n) = true ∧ mkD (-k * h) (-k * v) (-k * m) (-k * n) = -k := by
  obtain ⟨a1, a2, a3, a4, a5, a6, a7, a8, hg⟩ := thB_bd ht
  have hgk : g4 (-k * h) (-k * v) (-k * m) (-k * n) = k.natAbs := by rw [g4_mul, hg, Int.natAbs_neg, Nat.mul_one]
  have b1 := mul_bd (a := -k) (b := h) 9 1000 (by omega) (by omega) (by omega) (by omega)
  have b2 := mul_bd (a := -k) (b := v) 9 1000 (by omega) (by omega) (by omega) (by omega)
  have b3 := mul_bd (a := -k) (b := m) 9 1000 (by omega) (by omega) (by omega) (by omega)
  have b4 := mul_bd (a := -k) (b := n) 9 1000 (by omega) (by omega) (by omega) (by omega)
  have hneg : -k * n < 0 := Int.mul_neg_of_neg_of_pos (by omega) (by omega)
  have hD : mkD (-k * h) (-k * v) (-k * m) (-k * n) = -k := by
    rw [mkD, if_pos hneg, hgk]; omega
  refine ⟨?_, hD⟩
  have hk0 : -k ≠ 0 := by omega
  rw [mkB, hD, tdiv_mul hk0, tdiv_mul hk0, tdiv_mul hk0, tdiv_mul hk0, ht, Bool.and_true]
  simp only [mkIn, inB, Bool.and_eq_true, decide_eq_true_eq, Bool.not_eq_true', beq_eq_false_iff_ne]
  refine ⟨⟨⟨⟨⟨?_, ?_⟩, ⟨?_, ?_⟩⟩, ⟨?_, ?_⟩⟩, ⟨?_, ?_⟩⟩, ?_⟩ <;> omega
theorem mk_back_P {k h v m n : Int} (hk : 1 ≤ k) (hk2 : k ≤ 9) (ht : thB h v m n = true) (hb : h ≤ 1000 ∧ -1000 ≤ v ∧ v ≤ 1000 ∧ -1000 ≤ m ∧ m ≤ 1000 ∧ n ≤ 1000) (x : Int) : mkP (-k * x) (-k * h) (-k * v) (-k * m) (-k * n) = x := by
  obtain ⟨h1, h2⟩ := mk_back hk hk2 ht hb
  rw [mkP, h1, h2, if_pos rfl, tdiv_mul (by omega)]
/-- What MakeThrust makes of numbers in small ranges, the last above 0. -/
theorem mk_small {h v m n H M N : Int} (h1 : 0 ≤ h) (h2 : h ≤ H) (h3 : -M ≤ v) (h4 : v ≤ M) (h5 : -M ≤ m) (h6 : m ≤ M) (h7 : 1 ≤ n) (h8 : n ≤ N) (hH : H ≤ 1000000000000) (hM : M ≤ 10000000000000) (hN : N ≤ 1000000) :
    ∃ g a b c d : Int, 0 < g ∧ h = g * a ∧ v = g * b ∧ m = g * c ∧ n = g * d ∧ mkD h v m n = g ∧ mkB h v m n = true ∧ thB a b c d = true ∧ 0 ≤ a ∧ a ≤ H ∧ -M ≤ b ∧ b ≤ M ∧ -M ≤ c ∧ c ≤ M ∧ 1 ≤ d ∧ d ≤ N := by
  obtain ⟨⟨a, ha⟩, ⟨b, hb⟩, ⟨c, hc⟩, ⟨d, hd⟩⟩ := g4_dvd h v m n
  have hgp := g4_pos (h := h) (v := v) (m := m) (n := n) (by omega)
  have hD : mkD h v m n = (g4 h v m n : Int) := by rw [mkD, if_neg (by omega)]
  have hg1 : g4 a b c d = 1 := by
    refine g4_one (g := (g4 h v m n : Int)) (by omega) ?_
    rw [← ha, ← hb, ← hc, ← hd]
    simp
  have hg0 : 0 < ((g4 h v m n : Nat) : Int) := by omega
  clear hgp
  generalize ((g4 h v m n : Nat) : Int) = g at *
  have small : ∀ x y K : Int, x = g * y → -K ≤ x → x ≤ K → -K ≤ y ∧ y ≤ K := by
    intro x y K e l u
    have e1 : y.natAbs ≤ x.natAbs := by
      rw [e, Int.natAbs_mul]
      exact Nat.le_mul_of_pos_left _ (by omega)
    omega
  have pos : ∀ x y : Int, x = g * y → 0 ≤ x → 0 ≤ y := by
    intro x y e l
    by_cases q : y < 0
    · have := Int.mul_neg_of_pos_of_neg hg0 q
      omega
    · omega
  have p1 := pos _ _ ha h1
  have s1 := small _ _ H ha (by omega) h2
  have s2 := small _ _ M hb h3 h4
  have s3 := small _ _ M hc h5 h6
  have s4 := small _ _ N hd (by omega) h8
  have p4 := pos _ _ hd (by omega)
  have hd1 : 1 ≤ d := by
    by_cases q : 0 < d
    · omega
    · have : d = 0 := by omega
      subst this
      omega
  have ht : thB a b c d = true := thB_mk hd1 (by omega) p1 (by omega) (by omega) (by omega) (by omega) (by omega) hg1
  refine ⟨g, a, b, c, d, hg0, ha, hb, hc, hd, hD, ?_, ht, p1, s1.2, s2.1, s2.2, s3.1, s3.2, hd1, s4.2⟩
  have hgne : g ≠ 0 := by omega
  rw [mkB, hD]
  have e1 : h.tdiv g = a := by rw [ha]; exact tdiv_mul hgne
  have e2 : v.tdiv g = b := by rw [hb]; exact tdiv_mul hgne
  have e3 : m.tdiv g = c := by rw [hc]; exact tdiv_mul hgne
  have e4 : n.tdiv g = d := by rw [hd]; exact tdiv_mul hgne
  rw [e1, e2, e3, e4, ht, Bool.and_true]
  simp only [mkIn, inB, Bool.and_eq_true, decide_eq_true_eq, Bool.not_eq_true', beq_eq_false_iff_ne]
  refine ⟨⟨⟨⟨⟨?_, ?_⟩, ⟨?_, ?_⟩⟩, ⟨?_, ?_⟩⟩, ⟨?_, ?_⟩⟩, ?_⟩ <;> omega
theorem cmp_swap (a b : Int) : cmpI b a = -cmpI a b := by unfold cmpI; split <;> split <;> omega
theorem cmp_pos {g a b : Int} (hg : 0 < g) : cmpI (g * a) (g * b) = cmpI a b := by
  have h1 : g * a < g * b ↔ a < b := ⟨fun h => Int.lt_of_mul_lt_mul_left h (by omega), fun h => Int.mul_lt_mul_of_pos_left h hg⟩
  have h2 : g * b < g * a ↔ b < a := ⟨fun h => Int.lt_of_mul_lt_mul_left h (by omega), fun h => Int.mul_lt_mul_of_pos_left h hg⟩
  unfold cmpI
  simp only [h1, h2]
theorem cmp_shift (a b c : Int) : cmpI (a + c) (b + c) = cmpI a b := by unfold cmpI; split <;> split <;> (try split) <;> (try split) <;> omega
theorem cmp_same (a : Int) : cmpI a a = 0 := by unfold cmpI; split <;> (try split) <;> omega
/-- A thrust, what is halfway, another thrust. -/
theorem mix_left {h n x t g P D : Int} (hn : 1 ≤ n) (hg : 0 < g) (hP : h * t + x * n = g * P) (hD : 2 * n * t = g * D) : cmpI (h * D) (P * n) = cmpI (h * t) (x * n) := by
  have e2 : g * (h * D) = n * (h * t + h * t) := by
    rw [show g * (h * D) = h * (g * D) by grind, ← hD]; grind
  have e3 : g * (P * n) = n * (x * n + h * t) := by
    rw [show g * (P * n) = (g * P) * n by grind, ← hP]; grind
  rw [← cmp_pos (a := h * D) (b := P * n) hg, e2, e3, cmp_pos (by omega), cmp_shift]
theorem mix_right {h n x t g P D : Int} (ht : 1 ≤ t) (hg : 0 < g) (hP : h * t + x * n = g * P) (hD : 2 * n * t = g * D) : cmpI (P * t) (x * D) = cmpI (h * t) (x * n) := by
  have e2 : g * (P * t) = t * (h * t + x * n) := by
    rw [show g * (P * t) = (g * P) * t by grind, ← hP]; grind
  have e3 : g * (x * D) = t * (x * n + x * n) := by
    rw [show g * (x * D) = x * (g * D) by grind, ← hD]; grind
  rw [← cmp_pos (a := P * t) (b := x * D) hg, e2, e3, cmp_pos (by omega), cmp_shift]
end Go.Proofs.Ytchldcjieijkaaa
