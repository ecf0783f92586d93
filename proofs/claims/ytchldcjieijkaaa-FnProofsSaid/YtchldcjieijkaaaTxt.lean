/- Plain laws of decimal and hexadecimal texts. No Go in sight; no condition. -/
import Derived.Test.YtchldcjieijkaaaBase
namespace Go.Proofs.Ytchldcjieijkaaa
open Go.RowKit

/-- The decimal digits of a number. -/
def decN (n : Nat) : List UInt8 := if n < 10 then [UInt8.ofNat (48 + n)] else decN (n / 10) ++ [UInt8.ofNat (48 + n % 10)]
/-- FormatInt. -/
def fmtI (n : Int) : List UInt8 := if n < 0 then 45 :: decN n.natAbs else decN n.natAbs
theorem decN_lt {n : Nat} (h : n < 10) : decN n = [UInt8.ofNat (48 + n)] := by rw [decN, if_pos h]
theorem decN_ge {n : Nat} (h : ¬ n < 10) : decN n = decN (n / 10) ++ [UInt8.ofNat (48 + n % 10)] := by rw [decN, if_neg h]
theorem decN_length_pos (n : Nat) : 0 < (decN n).length := by rw [decN]; split <;> simp
theorem decN_length_le (n k : Nat) (h : n < 10 ^ (k + 1)) : (decN n).length ≤ k + 1 := by
  induction k generalizing n with
  | zero => rw [decN_lt (by simpa using h)]; simp
  | succ k ih =>
    by_cases h10 : n < 10
    · rw [decN_lt h10]; simp
    · rw [decN_ge h10]
      have : n / 10 < 10 ^ (k + 1) := by rw [Nat.pow_succ] at h; omega
      have := ih _ this
      simp; omega
theorem fmtI_length_le (n : Int) (h : I64 n) : (fmtI n).length ≤ 20 := by
  obtain ⟨h1, h2⟩ := h
  have := decN_length_le n.natAbs 18 (by omega)
  unfold fmtI; split <;> simp <;> omega
/-- The loop that lays the digits from the back: what is still to be laid, and what has been. -/
def digI (N : Nat) (u : Nat) (acc : List UInt8) : Prop := u * 10 ^ acc.length ≤ N ∧ (acc = [] ∧ u = N ∨ 0 < u) ∧ decN N = decN u ++ acc
theorem digI_start (N : Nat) : digI N N [] := ⟨by simp, .inl ⟨rfl, rfl⟩, by simp⟩
theorem digI_last {N u : Nat} {acc : List UInt8} (h : digI N u acc) (hu : u / 10 = 0) : decN N = UInt8.ofNat (48 + u % 10) :: acc := by
  have h10 : u < 10 := by omega
  rw [h.2.2, decN_lt h10]
  simp [Nat.mod_eq_of_lt h10]
theorem digI_step {N u : Nat} {acc : List UInt8} (h : digI N u acc) (hu : u / 10 ≠ 0) : digI N (u / 10) (UInt8.ofNat (48 + u % 10) :: acc) := by
  have h10 : ¬ u < 10 := by omega
  refine ⟨?_, .inr (by omega), ?_⟩
  · have h1 := h.1
    rw [List.length_cons, Nat.pow_succ, Nat.mul_comm (10 ^ acc.length) 10, ← Nat.mul_assoc]
    exact Nat.le_trans (Nat.mul_le_mul_right _ (Nat.div_mul_le_self u 10)) h1
  · rw [h.2.2, decN_ge h10]; simp
theorem digI_len {N u : Nat} {acc : List UInt8} (h : digI N u acc) (hN : N < 10 ^ 19) : acc.length ≤ 18 := by
  rcases h.2.1 with ⟨rfl, _⟩ | hu
  · simp
  · have h1 : 10 ^ acc.length ≤ N := Nat.le_trans (Nat.le_mul_of_pos_left _ hu) h.1
    rcases Nat.lt_or_ge acc.length 19 with hl | hl
    · omega
    · have := Nat.pow_le_pow_right (n := 10) (by omega) hl
      omega

/-- A hexadecimal figure. -/
def hexF (x : Nat) : UInt8 := if x < 10 then UInt8.ofNat (48 + x) else UInt8.ofNat (87 + x)
def hexL : List UInt8 → List UInt8
  | [] => []
  | c :: l => hexF (c.toNat / 16) :: hexF (c.toNat % 16) :: hexL l
theorem hexL_length (l : List UInt8) : (hexL l).length = 2 * l.length := by induction l <;> simp_all [hexL]; omega
theorem hexL_append (a b : List UInt8) : hexL (a ++ b) = hexL a ++ hexL b := by induction a <;> simp_all [hexL]
end Go.Proofs.Ytchldcjieijkaaa
