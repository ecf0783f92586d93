/- The walks of the reference's SolveRows and of MixThrusts: each returns what the plain function gives. No condition. -/
import Derived.Test.YtaealkfnhhmmcaaDet2
namespace Go.Proofs.Ytaealkfnhhmmcaa
open Go.RowKit
set_option linter.unusedVariables false
set_option maxRecDepth 100000 in
set_option maxHeartbeats 4000000 in
theorem sSolveRows_any (a b c d e f g h i j k l : Int) (w : World) : Calls Try.prog 37 #[.agg #[.int .i64 a, .int .i64 b, .int .i64 c, .int .i64 d], .agg #[.int .i64 e, .int .i64 f, .int .i64 g, .int .i64 h], .agg #[.int .i64 i, .int .i64 j, .int .i64 k, .int .i64 l]] w fun en w' =>
    en = .returned (.tuple #[.agg #[.int .i64 (slP 0 a b c d e f g h i j k l), .int .i64 (slP 1 a b c d e f g h i j k l), .int .i64 (slP 2 a b c d e f g h i j k l), .int .i64 (slP 3 a b c d e f g h i j k l)], .bool (slB a b c d e f g h i j k l)]) ∧ Up w w' := by
  by_cases h1 : drI a b c d e f g h i j k l = 0
  · have hB : slB a b c d e f g h i j k l = false := by
      cases hr : (rowB a b c d && rowB e f g h && rowB i j k l) with
      | false => simp [slB, hr]
      | true =>
        have : slD a b c e f g i j k = 0 := by rw [drI, if_pos hr] at h1; rw [slD, ← detI_turn]; exact h1
        simp [slB, this]
    have z1 : (drI a b c d e f g h i j k l == 0) = true := by rw [beq_iff_eq]; exact h1
    have H1 := Lib.hid h1
    clear h1
    go_enter Try.func37, Try.ntmps37
    go_wp2_with (go_at_call 69; (with_reducible refine (sDetOfRows_any _ _ _ _ _ _ _ _ _ _ _ _ _).mono ?_); rintro e w1 ⟨rfl, hb1⟩; obtain ⟨hc1, hf1⟩ := hb1.cells; have hl1 := hb1.lt; have hle1 := hb1.le; have hs1 := hb1.size; (try simp at hs1); (try have hs1a : w.heap.size < w1.heap.size := by omega); (try have hs1aa : w.heap.size ≤ w1.heap.size := by omega); (try have hs1b : w.heap.size + 1 < w1.heap.size := by omega); (try have hs1bb : w.heap.size + 1 ≤ w1.heap.size := by omega); (try have hs1c : w.heap.size + 1 + 1 < w1.heap.size := by omega); (try have hs1cc : w.heap.size + 1 + 1 ≤ w1.heap.size := by omega); (try have hs1d : w.heap.size + 1 + 1 + 1 < w1.heap.size := by omega); (try have hs1dd : w.heap.size + 1 + 1 + 1 ≤ w1.heap.size := by omega); (try have hs1L := Nat.lt_of_succ_le hs1); (try have hs1M := Nat.lt_of_succ_lt hs1L); (try have hs1N := Nat.lt_of_succ_lt hs1M); (try have hs1LE := Nat.le_of_lt hs1L); (try have hs1ME := Nat.le_of_lt hs1M))
    exact bodyPost_ret (v := .tuple #[.agg #[.int .i64 (slP 0 a b c d e f g h i j k l), .int .i64 (slP 1 a b c d e f g h i j k l), .int .i64 (slP 2 a b c d e f g h i j k l), .int .i64 (slP 3 a b c d e f g h i j k l)], .bool (slB a b c d e f g h i j k l)]) (by simp [results, Try.results37, go_sem, slP, *]) rfl ⟨rfl, (by repeat (first | with_reducible exact Up.refl _ | with_reducible refine Up.alloc ?_ _ | with_reducible refine Up.drew ?_ | with_reducible refine Up.drewN ?_ _ | (with_reducible refine Up.setCell ?_ (by first | omega | (simp; done) | (simp; omega)) _) | with_reducible assumption | (with_reducible refine Up.trans ?_ (by with_reducible assumption))))⟩
  · have hr : (rowB a b c d && rowB e f g h && rowB i j k l) = true := by
      cases hr : (rowB a b c d && rowB e f g h && rowB i j k l) with
      | true => rfl
      | false => exact absurd (by simp [drI, hr]) h1
    have hdr : drI a b c d e f g h i j k l = slD a b c e f g i j k := by rw [drI, if_pos hr, slD, ← detI_turn]
    simp only [Bool.and_eq_true] at hr
    obtain ⟨⟨k1, k2⟩, k3⟩ := hr
    obtain ⟨d0, d1, d2, d3, d4⟩ := rows_dets k1 k2 k3
    have hsd : ¬ slD a b c e f g i j k = 0 := by rw [← hdr]; exact h1
    have z1 : (slD a b c e f g i j k == 0) = false := by rw [beq_eq_false_iff_ne]; exact hsd
    have hB : slB a b c d e f g h i j k l = mkB (slD d b c h f g l j k) (slD a d c e h g i l k) (slD a b d e f h i j l) (slD a b c e f g i j k) := by simp [slB, k1, k2, k3, z1]
    have i1 : I64 (detI d h l b f j c g k) := by have := inB_true.1 d1; constructor <;> omega
    have i2 : I64 (detI a e i d h l c g k) := by have := inB_true.1 d2; constructor <;> omega
    have i3 : I64 (detI a e i b f j d h l) := by have := inB_true.1 d3; constructor <;> omega
    have E0 := Lib.hid (show slP 0 a b c d e f g h i j k l = mkP (slD d b c h f g l j k) (slD d b c h f g l j k) (slD a d c e h g i l k) (slD a b d e f h i j l) (slD a b c e f g i j k) by cases hm : mkB (slD d b c h f g l j k) (slD a d c e h g i l k) (slD a b d e f h i j l) (slD a b c e f g i j k) <;> simp [slP, hB, mkP, hm])
    have E1 := Lib.hid (show slP 1 a b c d e f g h i j k l = mkP (slD a d c e h g i l k) (slD d b c h f g l j k) (slD a d c e h g i l k) (slD a b d e f h i j l) (slD a b c e f g i j k) by cases hm : mkB (slD d b c h f g l j k) (slD a d c e h g i l k) (slD a b d e f h i j l) (slD a b c e f g i j k) <;> simp [slP, hB, mkP, hm])
    have E2 := Lib.hid (show slP 2 a b c d e f g h i j k l = mkP (slD a b d e f h i j l) (slD d b c h f g l j k) (slD a d c e h g i l k) (slD a b d e f h i j l) (slD a b c e f g i j k) by cases hm : mkB (slD d b c h f g l j k) (slD a d c e h g i l k) (slD a b d e f h i j l) (slD a b c e f g i j k) <;> simp [slP, hB, mkP, hm])
    have E3 := Lib.hid (show slP 3 a b c d e f g h i j k l = mkP (slD a b c e f g i j k) (slD d b c h f g l j k) (slD a d c e h g i l k) (slD a b d e f h i j l) (slD a b c e f g i j k) by cases hm : mkB (slD d b c h f g l j k) (slD a d c e h g i l k) (slD a b d e f h i j l) (slD a b c e f g i j k) <;> simp [slP, hB, mkP, hm])
    have HB := Lib.hid hB
    have HDR := Lib.hid hdr
    clear d0 d1 d2 d3 d4 hsd hB h1 k1 k2 k3
    have hdet := sDetOfRows_any a b c d e f g h i j k l
    rw [hdr] at hdet
    clear hdr
    have HDET := Lib.hid hdet
    clear hdet
    go_enter Try.func37, Try.ntmps37
    go_wp2_with (first | (go_at_call 69; (with_reducible refine (HDET.out _).mono ?_); rintro e w1 ⟨rfl, hb1⟩; obtain ⟨hc1, hf1⟩ := hb1.cells; have hl1 := hb1.lt; have hle1 := hb1.le; have hs1 := hb1.size; (try simp at hs1); (try have hs1a : w.heap.size < w1.heap.size := by omega); (try have hs1aa : w.heap.size ≤ w1.heap.size := by omega); (try have hs1b : w.heap.size + 1 < w1.heap.size := by omega); (try have hs1bb : w.heap.size + 1 ≤ w1.heap.size := by omega); (try have hs1c : w.heap.size + 1 + 1 < w1.heap.size := by omega); (try have hs1cc : w.heap.size + 1 + 1 ≤ w1.heap.size := by omega); (try have hs1d : w.heap.size + 1 + 1 + 1 < w1.heap.size := by omega); (try have hs1dd : w.heap.size + 1 + 1 + 1 ≤ w1.heap.size := by omega); (try have hs1L := Nat.lt_of_succ_le hs1); (try have hs1M := Nat.lt_of_succ_lt hs1L); (try have hs1N := Nat.lt_of_succ_lt hs1M); (try have hs1LE := Nat.le_of_lt hs1L); (try have hs1ME := Nat.le_of_lt hs1M)) | (go_at_call 70; (with_reducible refine (l11Det_any _ _ _ _ _ _ _ _ _ _ (by rw [← detI_turn]; assumption)).mono ?_); rintro e w1 ⟨rfl, hb1⟩; obtain ⟨hc1, hf1⟩ := hb1.cells; have hl1 := hb1.lt; have hle1 := hb1.le; have hs1 := hb1.size; (try simp at hs1); (try have hs1a : w.heap.size < w1.heap.size := by omega); (try have hs1aa : w.heap.size ≤ w1.heap.size := by omega); (try have hs1b : w.heap.size + 1 < w1.heap.size := by omega); (try have hs1bb : w.heap.size + 1 ≤ w1.heap.size := by omega); (try have hs1c : w.heap.size + 1 + 1 < w1.heap.size := by omega); (try have hs1cc : w.heap.size + 1 + 1 ≤ w1.heap.size := by omega); (try have hs1d : w.heap.size + 1 + 1 + 1 < w1.heap.size := by omega); (try have hs1dd : w.heap.size + 1 + 1 + 1 ≤ w1.heap.size := by omega); (try have hs1L := Nat.lt_of_succ_le hs1); (try have hs1M := Nat.lt_of_succ_lt hs1L); (try have hs1N := Nat.lt_of_succ_lt hs1M); (try have hs1LE := Nat.le_of_lt hs1L); (try have hs1ME := Nat.le_of_lt hs1M)) | (go_at_call 71; (with_reducible refine (sMakeThrust_any _ _ _ _ _).mono ?_); rintro e w1 ⟨rfl, hb1⟩; obtain ⟨hc1, hf1⟩ := hb1.cells; have hl1 := hb1.lt; have hle1 := hb1.le; have hs1 := hb1.size; (try simp at hs1); (try have hs1a : w.heap.size < w1.heap.size := by omega); (try have hs1aa : w.heap.size ≤ w1.heap.size := by omega); (try have hs1b : w.heap.size + 1 < w1.heap.size := by omega); (try have hs1bb : w.heap.size + 1 ≤ w1.heap.size := by omega); (try have hs1c : w.heap.size + 1 + 1 < w1.heap.size := by omega); (try have hs1cc : w.heap.size + 1 + 1 ≤ w1.heap.size := by omega); (try have hs1d : w.heap.size + 1 + 1 + 1 < w1.heap.size := by omega); (try have hs1dd : w.heap.size + 1 + 1 + 1 ≤ w1.heap.size := by omega); (try have hs1L := Nat.lt_of_succ_le hs1); (try have hs1M := Nat.lt_of_succ_lt hs1L); (try have hs1N := Nat.lt_of_succ_lt hs1M); (try have hs1LE := Nat.le_of_lt hs1L); (try have hs1ME := Nat.le_of_lt hs1M)))
    exact bodyPost_ret (v := .tuple #[.agg #[.int .i64 (slP 0 a b c d e f g h i j k l), .int .i64 (slP 1 a b c d e f g h i j k l), .int .i64 (slP 2 a b c d e f g h i j k l), .int .i64 (slP 3 a b c d e f g h i j k l)], .bool (slB a b c d e f g h i j k l)]) (by
      simp only [results]
      go_simp
      simp [E0.out, E1.out, E2.out, E3.out, HB.out, slD, detI_turn d b c, detI_turn a d c, detI_turn a b d]) rfl ⟨rfl, (by repeat (first | with_reducible exact Up.refl _ | with_reducible refine Up.alloc ?_ _ | with_reducible refine Up.drew ?_ | with_reducible refine Up.drewN ?_ _ | (with_reducible refine Up.setCell ?_ (by first | omega | (simp; done) | (simp; omega)) _) | with_reducible assumption | (with_reducible refine Up.trans ?_ (by with_reducible assumption))))⟩
/-- MixThrusts. -/
def mxB (h v m n x y z t : Int) : Bool := thB h v m n && thB x y z t && decide (n ≤ 1000) && decide (t ≤ 1000) && mkB (h * t + x * n) (v * t + y * n) (m * t + z * n) (2 * n * t)
def mxP (q h v m n x y z t : Int) : Int := if mxB h v m n x y z t then mkP q (h * t + x * n) (v * t + y * n) (m * t + z * n) (2 * n * t) else 0
theorem mx_bds {h v m n x y z t : Int} (k1 : thB h v m n = true) (k2 : thB x y z t = true) (k3 : n ≤ 1000) (k4 : t ≤ 1000) :
    -1000000000000000 ≤ h * t ∧ h * t ≤ 1000000000000000 ∧ -1000000000000000 ≤ x * n ∧ x * n ≤ 1000000000000000 ∧ -10000000000000000 ≤ v * t ∧ v * t ≤ 10000000000000000 ∧ -10000000000000000 ≤ y * n ∧ y * n ≤ 10000000000000000 ∧
    -10000000000000000 ≤ m * t ∧ m * t ≤ 10000000000000000 ∧ -10000000000000000 ≤ z * n ∧ z * n ≤ 10000000000000000 ∧ -2000000 ≤ 2 * n * t ∧ 2 * n * t ≤ 2000000 := by
  obtain ⟨a1, a2, a3, a4, a5, a6, a7, a8, _⟩ := thB_bd k1
  obtain ⟨b1, b2, b3, b4, b5, b6, b7, b8, _⟩ := thB_bd k2
  obtain ⟨p1, p2⟩ := mul_bd (a := h) (b := t) 1000000000000 1000 (by omega) (by omega) (by omega) (by omega)
  obtain ⟨q1, q2⟩ := mul_bd (a := x) (b := n) 1000000000000 1000 (by omega) (by omega) (by omega) (by omega)
  obtain ⟨r1, r2⟩ := mul_bd (a := v) (b := t) 10000000000000 1000 (by omega) (by omega) (by omega) (by omega)
  obtain ⟨s1, s2⟩ := mul_bd (a := y) (b := n) 10000000000000 1000 (by omega) (by omega) (by omega) (by omega)
  obtain ⟨t1, t2⟩ := mul_bd (a := m) (b := t) 10000000000000 1000 (by omega) (by omega) (by omega) (by omega)
  obtain ⟨u1, u2⟩ := mul_bd (a := z) (b := n) 10000000000000 1000 (by omega) (by omega) (by omega) (by omega)
  obtain ⟨v1, v2⟩ := mul_bd (a := 2 * n) (b := t) 2000 1000 (by omega) (by omega) (by omega) (by omega)
  omega
end Go.Proofs.Ytaealkfnhhmmcaa
