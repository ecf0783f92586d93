/- The walk of FormatInt, the reference's: the decimal text. No condition. -/
import Derived.Test.YtfbhhdbnghghjaaFmt
namespace Go.Proofs.Ytfbhhdbnghghjaa
open Go.RowKit
set_option linter.unusedVariables false
def decZ (n : Nat) : List UInt8 := if n = 0 then [] else decN n
theorem decZ_zero : decZ 0 = [] := if_pos rfl
theorem decZ_pos {n : Nat} (h : n ≠ 0) : decZ n = decN n := if_neg h
theorem hexF_lt {n : Nat} (h : n < 10) : hexF n = UInt8.ofNat (48 + n) := if_pos h
theorem decZ_step {n : Nat} (h : n ≠ 0) : decZ n = decZ (n / 10) ++ [hexF (n % 10)] := by
  rw [decZ_pos h, hexF_lt (by omega)]
  by_cases h1 : n < 10
  · rw [show n / 10 = 0 from by omega, decZ_zero, decN_lt h1, show n % 10 = n from by omega]; rfl
  · rw [decZ_pos (by omega), decN_ge h1]
theorem ba_app (a b : List UInt8) : ((⟨a.toArray⟩ : ByteArray) ++ (⟨b.toArray⟩ : ByteArray)) = ⟨(a ++ b).toArray⟩ := by
  apply ByteArray.ext
  simp [ByteArray.data_append]
theorem tmodP (m : Nat) : (m : Int).tmod 10 = ((m % 10 : Nat) : Int) := by rw [Int.tmod_eq_emod_of_nonneg (by omega)]; omega
theorem tmodM (m : Nat) : (-(m : Int)).tmod 10 = -((m % 10 : Nat) : Int) := by rw [Int.neg_tmod, tmodP]
theorem tdivP (m : Nat) : (m : Int).tdiv 10 = ((m / 10 : Nat) : Int) := by rw [Int.tdiv_eq_ediv_of_nonneg (by omega)]; omega
theorem tdivM (m : Nat) : (-(m : Int)).tdiv 10 = -((m / 10 : Nat) : Int) := by rw [Int.neg_tdiv, tdivP]
def figI (n : Nat) : Int := ((hexF n).toNat : Int)
theorem cap_of {N M : Nat} {acc : List UInt8} (hN : N ≤ 9223372036854775808) (h : decN N = decZ M ++ acc) : ¬ 9223372036854775807 < 1 + acc.length ∧ ¬ 9223372036854775807 < acc.length + 1 := by
  have h1 := decN_length_le N 18 (by omega)
  rw [h] at h1
  simp at h1
  omega
theorem figI_lt {n : Nat} (h : n < 10) : figI n = 48 + (n : Int) := by rw [figI, hexF_lt h, byte_of _ (by omega)]; simp
theorem figI_ge {n : Nat} (h : ¬ n < 10) (h2 : n < 16) : figI n = 87 + (n : Int) := by rw [figI, hexF, if_neg h, byte_of _ (by omega)]; simp
theorem conv1 (wx : World) (r : Nat) : (convert 40 9 (.slice (some ⟨wx.heap.size, 0, none⟩) 1 1)).run Try.prog (wx.alloc (.cells #[.int .u8 (figI r)] 5)) = .ok (.string ⟨[hexF r].toArray⟩) (wx.alloc (.cells #[.int .u8 (figI r)] 5)) := by
  exact Go.run_convert_bytes_back (P := Try.prog) _ 40 9 5 ⟨wx.heap.size, 0, none⟩ 1 [hexF r] (by go_simp) (by go_simp) (by go_simp) (fun j hj => by
    have hj0 : j = 0 := by simpa using hj
    subst hj0
    rw [show (⟨wx.heap.size, 0, none⟩ : Addr).add 0 = ⟨wx.heap.size, 0, none⟩ from by simp [Addr.add], World.cell?_alloc_mark]
    rfl)
theorem l01Figure_any (x : Int) (n : Nat) (w : World) (hx : x = (n : Int)) (hn : n < 16) : Calls Try.prog 53 #[.int .i64 x] w fun e w' => e = .returned (.int .u8 (figI n)) ∧ Up w w' := by
  subst hx
  have h2 : (n : Int) < 16 := by omega
  by_cases h : n < 10
  · rw [figI_lt h]
    have h1 : (n : Int) < 10 := by omega
    go_enter Try.func53, Try.ntmps53
    go_wp2
    all_goals exact bodyPost_ret (v := .int .u8 (48 + (n : Int))) (by simp only [results]; go_simp) rfl ⟨rfl, (by repeat (first | with_reducible exact Up.refl _ | with_reducible refine Up.alloc ?_ _ | with_reducible refine Up.drew ?_ | with_reducible refine Up.drewN ?_ _ | (with_reducible refine Up.setCell ?_ (by first | omega | (simp; done) | (simp; omega)) _) | with_reducible assumption | (with_reducible refine Up.trans ?_ (by with_reducible assumption))))⟩
  · rw [figI_ge h hn]
    have h1 : ¬ (n : Int) < 10 := by omega
    have h3 : (97 + (n : Int) - 10) = 87 + (n : Int) := by omega
    go_enter Try.func53, Try.ntmps53
    go_wp2
    all_goals exact bodyPost_ret (v := .int .u8 (87 + (n : Int))) (by simp only [results]; go_simp; try simp [h3]) rfl ⟨rfl, (by repeat (first | with_reducible exact Up.refl _ | with_reducible refine Up.alloc ?_ _ | with_reducible refine Up.drew ?_ | with_reducible refine Up.drewN ?_ _ | (with_reducible refine Up.setCell ?_ (by first | omega | (simp; done) | (simp; omega)) _) | with_reducible assumption | (with_reducible refine Up.trans ?_ (by with_reducible assumption))))⟩
set_option maxRecDepth 100000 in
theorem sFormatInt_any (n : Int) (w : World) (hn : I64 n) : Calls Try.prog 16 #[.int .i64 n] w fun e w' => e = .returned (.string ⟨(fmtI n).toArray⟩) ∧ Up w w' := by
  obtain ⟨h1, h2⟩ := hn
  by_cases h00 : n = 0
  · subst h00
    rw [show fmtI 0 = [48] from by rw [fmtI, if_neg (by omega), decN_lt (by omega)]; rfl]
    go_enter Try.func16, Try.ntmps16
    go_wp2
    exact bodyPost_ret (v := .string ⟨#[48]⟩) (by simp only [results]; go_simp; try simp) rfl ⟨rfl, (by repeat (first | with_reducible exact Up.refl _ | with_reducible refine Up.alloc ?_ _ | with_reducible refine Up.drew ?_ | with_reducible refine Up.drewN ?_ _ | (with_reducible refine Up.setCell ?_ (by first | omega | (simp; done) | (simp; omega)) _) | with_reducible assumption | (with_reducible refine Up.trans ?_ (by with_reducible assumption))))⟩
  by_cases h0 : n < 0
  · obtain ⟨N, hN⟩ : ∃ N : Nat, n = -(N : Int) := ⟨n.natAbs, by omega⟩
    have hNb : N ≤ 9223372036854775808 := by omega
    have hN0 : N ≠ 0 := by omega
    have z0 : (n == 0) = false := by rw [beq_eq_false_iff_ne]; omega
    have hcat : ∀ acc, decN N = decZ 0 ++ acc → fmtI n = 45 :: acc := by
      intro acc h
      rw [fmtI, if_pos (by omega), show n.natAbs = N from by omega, h, decZ_zero]; rfl
    have HC := Lib.hid hcat
    clear hcat
    have HN := Lib.hid hN
    clear hN
    go_enter Try.func16, Try.ntmps16
    go_wp2
    go_loopw [0, 4] (fun a s wr => ∃ (M : Nat) (acc : List UInt8), a = .int .i64 (-(M : Int)) ∧ s = .string ⟨acc.toArray⟩ ∧ Hid (M ≤ N ∧ decN N = decZ M ++ acc) ∧ Up w wr) (fun a _ _ => (intOf a).natAbs)
    case atStart => exact ⟨N, [], by rw [HN.out], rfl, ⟨Nat.le_refl _, by rw [decZ_pos hN0]; simp⟩, (by repeat (first | with_reducible exact Up.refl _ | with_reducible refine Up.alloc ?_ _ | with_reducible refine Up.drew ?_ | with_reducible refine Up.drewN ?_ _ | (with_reducible refine Up.setCell ?_ (by first | omega | (simp; done) | (simp; omega)) _) | with_reducible assumption | (with_reducible refine Up.trans ?_ (by with_reducible assumption))))⟩
    case round =>
      obtain ⟨M, acc, rfl, rfl, hd, hup⟩ := hrel
      have hM : M ≤ 9223372036854775808 := Nat.le_trans hd.out.1 hNb
      by_cases hq : M = 0
      · subst hq
        have hcat := HC.out _ hd.out.2
        obtain ⟨hcap, hcap'⟩ := cap_of hNb hd.out.2
        have hap := ba_app [45] acc
        go_wp2
        exact bodyPost_ret (v := .string ⟨(fmtI n).toArray⟩) (by rw [hcat]; simp only [results]; go_simp; try simp [← hap]) rfl ⟨rfl, (by repeat (first | with_reducible exact Up.refl _ | with_reducible refine Up.alloc ?_ _ | with_reducible refine Up.drew ?_ | with_reducible refine Up.drewN ?_ _ | (with_reducible refine Up.setCell ?_ (by first | omega | (simp; done) | (simp; omega)) _) | with_reducible assumption | (with_reducible refine Up.trans ?_ (by with_reducible assumption))))⟩
      · have hst := decZ_step hq
        obtain ⟨r, hr⟩ : ∃ r : Nat, r = M % 10 := ⟨_, rfl⟩
        have hr1 : (-(M : Int)).tmod 10 = -(r : Int) := by rw [hr]; exact tmodM _
        have hr2 : (-(M : Int)).tdiv 10 = -((M / 10 : Nat) : Int) := tdivM _
        have hr3 : r < 10 := by omega
        obtain ⟨hcap, hcap'⟩ := cap_of hNb hd.out.2
        have hr4 : (r : Int) < 10 := by omega
        have hr5 : (0 : Int) ≤ (r : Int) := by omega
        have z1 : (-(M : Int) == 0) = false := by rw [beq_eq_false_iff_ne]; omega
        have z2 : (-(M : Int) != 0) = true := by rw [bne_iff_ne]; omega
        have HR := Lib.hid hr
        clear hr
        by_cases hr0 : 0 < r
        · go_wp2_with fail
          (go_at_call 53; (with_reducible refine (l01Figure_any _ r _ (by omega) (by omega)).mono ?_); rintro e w1 ⟨rfl, hb1⟩)
          have hcv := conv1 w1 r
          have hap := ba_app [hexF r] acc
          go_wp2
          case roundEnd =>
            refine ⟨⟨M / 10, hexF r :: acc, ?_, ?_, ⟨?_, ?_⟩, (by repeat (first | with_reducible exact Up.refl _ | with_reducible refine Up.alloc ?_ _ | with_reducible refine Up.drew ?_ | with_reducible refine Up.drewN ?_ _ | (with_reducible refine Up.setCell ?_ (by first | omega | (simp; done) | (simp; omega)) _) | with_reducible assumption | (with_reducible refine Up.trans ?_ (by with_reducible assumption))))⟩, ?_⟩
            · rfl
            · simp
            · exact Nat.le_trans (Nat.div_le_self _ _) hd.out.1
            · rw [hd.out.2, hst, HR.out]; simp
            · simp only [intOf]; omega
        · go_wp2_with fail
          (go_at_call 53; (with_reducible refine (l01Figure_any _ r _ (by omega) (by omega)).mono ?_); rintro e w1 ⟨rfl, hb1⟩)
          have hcv := conv1 w1 r
          have hap := ba_app [hexF r] acc
          go_wp2
          case roundEnd =>
            refine ⟨⟨M / 10, hexF r :: acc, ?_, ?_, ⟨?_, ?_⟩, (by repeat (first | with_reducible exact Up.refl _ | with_reducible refine Up.alloc ?_ _ | with_reducible refine Up.drew ?_ | with_reducible refine Up.drewN ?_ _ | (with_reducible refine Up.setCell ?_ (by first | omega | (simp; done) | (simp; omega)) _) | with_reducible assumption | (with_reducible refine Up.trans ?_ (by with_reducible assumption))))⟩, ?_⟩
            · rfl
            · simp
            · exact Nat.le_trans (Nat.div_le_self _ _) hd.out.1
            · rw [hd.out.2, hst, HR.out]; simp
            · simp only [intOf]; omega
  · obtain ⟨N, hN⟩ : ∃ N : Nat, n = (N : Int) := ⟨n.natAbs, by omega⟩
    have hNb : N ≤ 9223372036854775808 := by omega
    have hN0 : N ≠ 0 := by omega
    have z0 : (n == 0) = false := by rw [beq_eq_false_iff_ne]; omega
    have hcat : ∀ acc, decN N = decZ 0 ++ acc → fmtI n = acc := by
      intro acc h
      rw [fmtI, if_neg (by omega), show n.natAbs = N from by omega, h, decZ_zero]; rfl
    have HC := Lib.hid hcat
    clear hcat
    have HN := Lib.hid hN
    clear hN
    go_enter Try.func16, Try.ntmps16
    go_wp2
    go_loopw [0, 4] (fun a s wr => ∃ (M : Nat) (acc : List UInt8), a = .int .i64 ((M : Int)) ∧ s = .string ⟨acc.toArray⟩ ∧ Hid (M ≤ N ∧ decN N = decZ M ++ acc) ∧ Up w wr) (fun a _ _ => (intOf a).natAbs)
    case atStart => exact ⟨N, [], by rw [HN.out], rfl, ⟨Nat.le_refl _, by rw [decZ_pos hN0]; simp⟩, (by repeat (first | with_reducible exact Up.refl _ | with_reducible refine Up.alloc ?_ _ | with_reducible refine Up.drew ?_ | with_reducible refine Up.drewN ?_ _ | (with_reducible refine Up.setCell ?_ (by first | omega | (simp; done) | (simp; omega)) _) | with_reducible assumption | (with_reducible refine Up.trans ?_ (by with_reducible assumption))))⟩
    case round =>
      obtain ⟨M, acc, rfl, rfl, hd, hup⟩ := hrel
      have hM : M ≤ 9223372036854775808 := Nat.le_trans hd.out.1 hNb
      by_cases hq : M = 0
      · subst hq
        have hcat := HC.out _ hd.out.2
        obtain ⟨hcap, hcap'⟩ := cap_of hNb hd.out.2
        go_wp2
        exact bodyPost_ret (v := .string ⟨(fmtI n).toArray⟩) (by rw [hcat]; simp only [results]; go_simp; try simp) rfl ⟨rfl, (by repeat (first | with_reducible exact Up.refl _ | with_reducible refine Up.alloc ?_ _ | with_reducible refine Up.drew ?_ | with_reducible refine Up.drewN ?_ _ | (with_reducible refine Up.setCell ?_ (by first | omega | (simp; done) | (simp; omega)) _) | with_reducible assumption | (with_reducible refine Up.trans ?_ (by with_reducible assumption))))⟩
      · have hst := decZ_step hq
        obtain ⟨r, hr⟩ : ∃ r : Nat, r = M % 10 := ⟨_, rfl⟩
        have hr1 : ((M : Int)).tmod 10 = (r : Int) := by rw [hr]; exact tmodP _
        have hr2 : ((M : Int)).tdiv 10 = ((M / 10 : Nat) : Int) := tdivP _
        have hr3 : r < 10 := by omega
        obtain ⟨hcap, hcap'⟩ := cap_of hNb hd.out.2
        have hr4 : (r : Int) < 10 := by omega
        have hr5 : (0 : Int) ≤ (r : Int) := by omega
        have z1 : ((M : Int) == 0) = false := by rw [beq_eq_false_iff_ne]; omega
        have z2 : ((M : Int) != 0) = true := by rw [bne_iff_ne]; omega
        have HR := Lib.hid hr
        clear hr
        go_wp2_with fail
        (go_at_call 53; (with_reducible refine (l01Figure_any _ r _ (by omega) (by omega)).mono ?_); rintro e w1 ⟨rfl, hb1⟩)
        have hcv := conv1 w1 r
        have hap := ba_app [hexF r] acc
        go_wp2
        case roundEnd =>
          refine ⟨⟨M / 10, hexF r :: acc, ?_, ?_, ⟨?_, ?_⟩, (by repeat (first | with_reducible exact Up.refl _ | with_reducible refine Up.alloc ?_ _ | with_reducible refine Up.drew ?_ | with_reducible refine Up.drewN ?_ _ | (with_reducible refine Up.setCell ?_ (by first | omega | (simp; done) | (simp; omega)) _) | with_reducible assumption | (with_reducible refine Up.trans ?_ (by with_reducible assumption))))⟩, ?_⟩
          · rfl
          · simp
          · exact Nat.le_trans (Nat.div_le_self _ _) hd.out.1
          · rw [hd.out.2, hst, HR.out]; simp
          · simp only [intOf]; omega
end Go.Proofs.Ytfbhhdbnghghjaa
