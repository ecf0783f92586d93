/- The walk of FormatInt, the reference's: the decimal text. No condition. -/
import Derived.Test.YtchldcjieijkaaaFmt
namespace Go.Proofs.Ytchldcjieijkaaa
open Go.RowKit
set_option linter.unusedVariables false
def decZ (n : Nat) : List UInt8 := if n = 0 then [] else decN n
theorem decZ_zero : decZ 0 = [] := if_pos rfl
theorem decZ_pos {n : Nat} (h : n ≠ 0) : decZ n = decN n := if_neg h
theorem hexF_lt {n : Nat} (h : n < 10) : hexF n = UInt8.ofNat (48 + n) := if_pos h
theorem decZ_step {n : Nat} (h : n ≠ 0) : decZ n = decZ (n / 10) ++ [hexF (n % 10)] := by
  rw [decZ_pos h, hexF_lt (by omega)]
  by_cases h1 : n < 10
  · rw [show n / 10 = 0 from by omega, decZ_zero, decN_lt h1, show n % 10 = n from by omega]; rfl
  · rw [decZ_pos (by omega), decN_ge h1]
theorem ba_app (a b : List UInt8) : ((⟨a.toArray⟩ : ByteArray) ++ (⟨b.toArray⟩ : ByteArray)) = ⟨(a ++ b).toArray⟩ := by
  apply ByteArray.ext
  simp [ByteArray.data_append]
theorem tmodP (m : Nat) : (m : Int).tmod 10 = ((m % 10 : Nat) : Int) := by rw [Int.tmod_eq_emod_of_nonneg (by omega)]; omega
theorem tmodM (m : Nat) : (-(m : Int)).tmod 10 = -((m % 10 : Nat) : Int) := by rw [Int.neg_tmod, tmodP]
theorem tdivP (m : Nat) : (m : Int).tdiv 10 = ((m / 10 : Nat) : Int) := by rw [Int.tdiv_eq_ediv_of_nonneg (by omega)]; omega
theorem tdivM (m : Nat) : (-(m : Int)).tdiv 10 = -((m / 10 : Nat) : Int) := by rw [Int.neg_tdiv, tdivP]
def figI (n : Nat) : Int := ((hexF n).toNat : Int)
theorem cap_of {N M : Nat} {acc : List UInt8} (hN : N ≤ 9223372036854775808) (h : decN N = decZ M ++ acc) : ¬ 9223372036854775807 < 1 + acc.length ∧ ¬ 9223372036854775807 < acc.length + 1 := by
  have h1 := decN_length_le N 18 (by omega)
  rw [h] at h1
  simp at h1
  omega
theorem figI_lt {n : Nat} (h : n < 10) : figI n = 48 + (n : Int) := by rw [figI, hexF_lt h, byte_of _ (by omega)]; simp
theorem figI_ge {n : Nat} (h : ¬ n < 10) (h2 : n < 16) : figI n = 87 + (n : Int) := by rw [figI, hexF, if_neg h, byte_of _ (by omega)]; simp
end Go.Proofs.Ytchldcjieijkaaa
