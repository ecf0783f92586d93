/- The walks of ThrustText, the program's and the reference's, and of its law. No condition. -/
import Derived.Test.YtlpbmdoggcclpaaTx
namespace Go.Proofs.Ytlpbmdoggcclpaa
open Go.RowKit
set_option linter.unusedVariables false
def p3T (x y z : Int) : List UInt8 := pT x y ++ 44 :: fmtI z
def p4T (x y z t : Int) : List UInt8 := p3T x y z ++ 44 :: fmtI t
theorem thT_yes' {x y z t : Int} (h : thB x y z t = true) : thT x y z t = p4T x y z t := by rw [thT_yes h]; simp [p4T, p3T, pT]
theorem p3T_1000 {x y z : Int} (hx : I64 x) (hy : I64 y) (hz : I64 z) : (p3T x y z).length ≤ 1000 := by
  have h1 := pT_len hx hy
  have h2 := fmtI_length_le z hz
  simp [p3T]; omega
theorem app_pT (x y : Int) : ((⟨(fmtI x ++ [44]).toArray⟩ : ByteArray) ++ (⟨(fmtI y).toArray⟩ : ByteArray)) = ⟨(pT x y).toArray⟩ := by rw [ba_app]; simp [pT]
theorem app_p3T (x y z : Int) : ((⟨(pT x y ++ [44]).toArray⟩ : ByteArray) ++ (⟨(fmtI z).toArray⟩ : ByteArray)) = ⟨(p3T x y z).toArray⟩ := by rw [ba_app]; simp [p3T]
theorem app_p4T (x y z t : Int) : ((⟨(p3T x y z ++ [44]).toArray⟩ : ByteArray) ++ (⟨(fmtI t).toArray⟩ : ByteArray)) = ⟨(p4T x y z t).toArray⟩ := by rw [ba_app]; simp [p4T]
set_option maxRecDepth 100000 in
theorem ThrustText_any (x y z t : Int) (w : World) : Calls Try.prog 40 #[.agg #[.int .i64 x, .int .i64 y, .int .i64 z, .int .i64 t]] w fun e w' => e = .returned (.string ⟨(thT x y z t).toArray⟩) ∧ Up w w' := by
  by_cases k : thB x y z t = true
  · rw [thT_yes' k]
    obtain ⟨hx, hy, hz, ht⟩ : I64 x ∧ I64 y ∧ I64 z ∧ I64 t := by have := thB_bd k; unfold I64; omega
    have c1 := ba_app (fmtI x) [44]
    have c2 := app_pT x y
    have c3 := ba_app (pT x y) [44]
    have c4 := app_p3T x y z
    have c5 := ba_app (p3T x y z) [44]
    have c6 := app_p4T x y z t
    obtain ⟨k1, k2⟩ := cat_caps (fmt_1000 hx) (fmt_1000 hy)
    obtain ⟨k3, k4⟩ := cat_caps (pT_1000 hx hy) (fmt_1000 hz)
    obtain ⟨k5, k6⟩ := cat_caps (p3T_1000 hx hy hz) (fmt_1000 ht)
    go_enter Try.func40, Try.ntmps40
    go_wp2_with (go_at_call 39; (with_reducible refine (ThrustOk_any _ _ _ _ _).mono ?_); rintro e w1 ⟨rfl, hb1⟩; obtain ⟨hc1, hf1⟩ := hb1.cells; have hl1 := hb1.lt; have hle1 := hb1.le; have hs1 := hb1.size; (try simp at hs1); (try have hs1a : w.heap.size < w1.heap.size := by omega); (try have hs1aa : w.heap.size ≤ w1.heap.size := by omega); (try have hs1b : w.heap.size + 1 < w1.heap.size := by omega); (try have hs1bb : w.heap.size + 1 ≤ w1.heap.size := by omega); (try have hs1c : w.heap.size + 1 + 1 < w1.heap.size := by omega); (try have hs1cc : w.heap.size + 1 + 1 ≤ w1.heap.size := by omega); (try have hs1d : w.heap.size + 1 + 1 + 1 < w1.heap.size := by omega); (try have hs1dd : w.heap.size + 1 + 1 + 1 ≤ w1.heap.size := by omega); (try have hs1L := Nat.lt_of_succ_le hs1); (try have hs1M := Nat.lt_of_succ_lt hs1L); (try have hs1N := Nat.lt_of_succ_lt hs1M); (try have hs1LE := Nat.le_of_lt hs1L); (try have hs1ME := Nat.le_of_lt hs1M))
    (refine wp_region_up (by kernel_rfl) (by kernel_rfl) ?_; (repeat (refine wpQuiet_step (fun K hK => ?_); go_simp; first | (refine hK _ ?_; clear hK K) | (apply Exists.intro; refine ⟨fun wq hwq => ?_, hK _ ?_⟩; (obtain ⟨hcq, hfq⟩ := hwq.cells; (try go_simp); first | done | rfl | exact ⟨rfl, rfl⟩ | ((go_at_call 57; exact up_of hwq (FormatInt_any _ _ (by assumption))))); clear hK K))); refine wpQuiet_nil ?_; intro w1 hb1; obtain ⟨hc1, hf1⟩ := hb1.cells; have hl1 := hb1.lt; have hle1 := hb1.le; have hs1 := hb1.size; (try simp at hs1); (try have hs1a : w1.heap.size < w1.heap.size := by omega); (try have hs1aa : w1.heap.size ≤ w1.heap.size := by omega); (try have hs1b : w1.heap.size + 1 < w1.heap.size := by omega); (try have hs1bb : w1.heap.size + 1 ≤ w1.heap.size := by omega); (try have hs1c : w1.heap.size + 1 + 1 < w1.heap.size := by omega); (try have hs1cc : w1.heap.size + 1 + 1 ≤ w1.heap.size := by omega); (try have hs1d : w1.heap.size + 1 + 1 + 1 < w1.heap.size := by omega); (try have hs1dd : w1.heap.size + 1 + 1 + 1 ≤ w1.heap.size := by omega); (try have hs1L := Nat.lt_of_succ_le hs1); (try have hs1M := Nat.lt_of_succ_lt hs1L); (try have hs1N := Nat.lt_of_succ_lt hs1M); (try have hs1LE := Nat.le_of_lt hs1L); (try have hs1ME := Nat.le_of_lt hs1M))
    go_wp2
    all_goals exact bodyPost_ret (v := .string ⟨(p4T x y z t).toArray⟩) (by simp only [results]; go_simp) rfl ⟨rfl, (by repeat (first | with_reducible exact Up.refl _ | with_reducible refine Up.alloc ?_ _ | with_reducible refine Up.drew ?_ | with_reducible refine Up.drewN ?_ _ | (with_reducible refine Up.setCell ?_ (by first | omega | (simp; done) | (simp; omega)) _) | with_reducible assumption | (with_reducible refine Up.trans ?_ (by with_reducible assumption))))⟩
  · have k := Bool.eq_false_iff.2 k
    rw [thT_no k]
    go_enter Try.func40, Try.ntmps40
    go_wp2_with (go_at_call 39; (with_reducible refine (ThrustOk_any _ _ _ _ _).mono ?_); rintro e w1 ⟨rfl, hb1⟩; obtain ⟨hc1, hf1⟩ := hb1.cells; have hl1 := hb1.lt; have hle1 := hb1.le; have hs1 := hb1.size; (try simp at hs1); (try have hs1a : w.heap.size < w1.heap.size := by omega); (try have hs1aa : w.heap.size ≤ w1.heap.size := by omega); (try have hs1b : w.heap.size + 1 < w1.heap.size := by omega); (try have hs1bb : w.heap.size + 1 ≤ w1.heap.size := by omega); (try have hs1c : w.heap.size + 1 + 1 < w1.heap.size := by omega); (try have hs1cc : w.heap.size + 1 + 1 ≤ w1.heap.size := by omega); (try have hs1d : w.heap.size + 1 + 1 + 1 < w1.heap.size := by omega); (try have hs1dd : w.heap.size + 1 + 1 + 1 ≤ w1.heap.size := by omega); (try have hs1L := Nat.lt_of_succ_le hs1); (try have hs1M := Nat.lt_of_succ_lt hs1L); (try have hs1N := Nat.lt_of_succ_lt hs1M); (try have hs1LE := Nat.le_of_lt hs1L); (try have hs1ME := Nat.le_of_lt hs1M))
    all_goals exact bodyPost_ret (v := .string ⟨#[]⟩) (by simp only [results]; go_simp) rfl ⟨rfl, (by repeat (first | with_reducible exact Up.refl _ | with_reducible refine Up.alloc ?_ _ | with_reducible refine Up.drew ?_ | with_reducible refine Up.drewN ?_ _ | (with_reducible refine Up.setCell ?_ (by first | omega | (simp; done) | (simp; omega)) _) | with_reducible assumption | (with_reducible refine Up.trans ?_ (by with_reducible assumption))))⟩
end Go.Proofs.Ytlpbmdoggcclpaa
