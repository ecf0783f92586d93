/- The walk of FormatInt, the reference's: the decimal text. No condition. -/
import Derived.Test.YtmekjkhkbdkdoaaFmt
namespace Go.Proofs.Ytmekjkhkbdkdoaa
open Go.RowKit
set_option linter.unusedVariables false
def decZ (n : Nat) : List UInt8 := if n = 0 then [] else decN n
theorem decZ_zero : decZ 0 = [] := if_pos rfl
theorem decZ_pos {n : Nat} (h : n ≠ 0) : decZ n = decN n := if_neg h
theorem hexF_lt {n : Nat} (h : n < 10) : hexF n = UInt8.ofNat (48 + n) := if_pos h
theorem decZ_step {n : Nat} (h : n ≠ 0) : decZ n = decZ (n / 10) ++ [hexF (n % 10)] := by
  rw [decZ_pos h, hexF_lt (by omega)]
  by_cases h1 : n < 10
  · rw [show n / 10 = 0 from by omega, decZ_zero, decN_lt h1, show n % 10 = n from by omega]; rfl
  · rw [decZ_pos (by omega), decN_ge h1]
theorem ba_app (a b : List UInt8) : ((⟨a.toArray⟩ : ByteArray) ++ (⟨b.toArray⟩ : ByteArray)) = ⟨(a ++ b).toArray⟩ := by
  apply ByteArray.ext
  simp [ByteArray.data_append]
theorem tmodP (m : Nat) : (m : Int).tmod 10 = ((m % 10 : Nat) : Int) := by rw [Int.tmod_eq_emod_of_nonneg (by omega)]; omega
theorem tmodM (m : Nat) : (-(m : Int)).tmod 10 = -((m % 10 : Nat) : Int) := by rw [Int.neg_tmod, tmodP]
theorem tdivP (m : Nat) : (m : Int).tdiv 10 = ((m / 10 : Nat) : Int) := by rw [Int.tdiv_eq_ediv_of_nonneg (by omega)]; omega
theorem tdivM (m : Nat) : (-(m : Int)).tdiv 10 = -((m / 10 : Nat) : Int) := by rw [Int.neg_tdiv, tdivP]
def figI (n : Nat) : Int := ((hexF n).toNat : Int)
theorem cap_of {N M : Nat} {acc : List UInt8} (hN : N ≤ 9223372036854775808) (h : decN N = decZ M ++ acc) : ¬ 9223372036854775807 < 1 + acc.length ∧ ¬ 9223372036854775807 < acc.length + 1 := by
  have h1 := decN_length_le N 18 (by omega)
  rw [h] at h1
  simp at h1
  omega
theorem figI_lt {n : Nat} (h : n < 10) : figI n = 48 + (n : Int) := by rw [figI, hexF_lt h, byte_of _ (by omega)]; simp
theorem figI_ge {n : Nat} (h : ¬ n < 10) (h2 : n < 16) : figI n = 87 + (n : Int) := by rw [figI, hexF, if_neg h, byte_of _ (by omega)]; simp
theorem conv1 (wx : World) (r : Nat) : (convert 30 9 (.slice (some ⟨wx.heap.size, 0, none⟩) 1 1)).run Try.prog (wx.alloc (.cells #[.int .u8 (figI r)] 5)) = .ok (.string ⟨[hexF r].toArray⟩) (wx.alloc (.cells #[.int .u8 (figI r)] 5)) := by
  exact Go.run_convert_bytes_back (P := Try.prog) _ 30 9 5 ⟨wx.heap.size, 0, none⟩ 1 [hexF r] (by go_simp) (by go_simp) (by go_simp) (fun j hj => by
    have hj0 : j = 0 := by simpa using hj
    subst hj0
    rw [show (⟨wx.heap.size, 0, none⟩ : Addr).add 0 = ⟨wx.heap.size, 0, none⟩ from by simp [Addr.add], World.cell?_alloc_mark]
    rfl)
theorem l01Figure_any (x : Int) (n : Nat) (w : World) (hx : x = (n : Int)) (hn : n < 16) : Calls Try.prog 22 #[.int .i64 x] w fun e w' => e = .returned (.int .u8 (figI n)) ∧ Up w w' := by
  subst hx
  have h2 : (n : Int) < 16 := by omega
  by_cases h : n < 10
  · rw [figI_lt h]
    have h1 : (n : Int) < 10 := by omega
    go_enter Try.func22, Try.ntmps22
    go_wp2
    all_goals exact bodyPost_ret (v := .int .u8 (48 + (n : Int))) (by simp only [results]; go_simp) rfl ⟨rfl, (by repeat (first | with_reducible exact Up.refl _ | with_reducible refine Up.alloc ?_ _ | with_reducible refine Up.drew ?_ | with_reducible refine Up.drewN ?_ _ | (with_reducible refine Up.setCell ?_ (by first | omega | (simp; done) | (simp; omega)) _) | with_reducible assumption | (with_reducible refine Up.trans ?_ (by with_reducible assumption))))⟩
  · rw [figI_ge h hn]
    have h1 : ¬ (n : Int) < 10 := by omega
    have h3 : (97 + (n : Int) - 10) = 87 + (n : Int) := by omega
    go_enter Try.func22, Try.ntmps22
    go_wp2
    all_goals exact bodyPost_ret (v := .int .u8 (87 + (n : Int))) (by simp only [results]; go_simp; try simp [h3]) rfl ⟨rfl, (by repeat (first | with_reducible exact Up.refl _ | with_reducible refine Up.alloc ?_ _ | with_reducible refine Up.drew ?_ | with_reducible refine Up.drewN ?_ _ | (with_reducible refine Up.setCell ?_ (by first | omega | (simp; done) | (simp; omega)) _) | with_reducible assumption | (with_reducible refine Up.trans ?_ (by with_reducible assumption))))⟩
end Go.Proofs.Ytmekjkhkbdkdoaa
