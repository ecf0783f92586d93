/- The walk of the law ProofOk: it returns true. No condition. -/
import Derived.Test.YtigcmhdjafglbaaPf2
import Derived.Test.YtigcmhdjafglbaaPr
import Derived.Test.YtigcmhdjafglbaaHgL
import Derived.Test.YtigcmhdjafglbaaOpen3
import Derived.Deep.RegionHeld3
namespace Go.Proofs.Ytigcmhdjafglbaa
open Go.RowKit
set_option linter.unusedVariables false
theorem upS {W w' : World} (h : Up W w') : (∀ b o, b < W.heap.size → w'.cell? ⟨b, o, none⟩ = W.cell? ⟨b, o, none⟩) ∧ Up W w' := ⟨h.cells.1, h⟩
set_option maxHeartbeats 4000000 in
set_option maxRecDepth 100000 in
theorem law_ProofOk (u : Value) (k : Nat) (R : Nat → Nat → Int) (a b : Value) (n m : Nat) (P F : Nat → Nat → Int) (w : World) (hk : k ≤ maxLen) (hA : Sl w 0 w.heap.size 4 u k (intF R)) (hI : ∀ i j, i < k → j < 4 → I64 (R i j))
    (hm : n ≤ maxLen) (hm' : m ≤ maxLen) (hB : Sl w 0 w.heap.size 1 a n (intF P)) (hC : Sl w 0 w.heap.size 1 b m (intF F)) (hI' : ∀ i j, i < n → j < 1 → I64 (P i j)) (hJ : ∀ i j, i < m → j < 1 → I64 (F i j)) :
    Calls Try.prog 7 #[u, .agg #[a, b]] w fun e w' => e = .returned (.bool true) ∧ Up w w' := by
  have hup0 : Up w (w.alloc (.cells #[a, b] 44)) := (by repeat (first | with_reducible exact Up.refl _ | with_reducible refine Up.alloc ?_ _ | with_reducible refine Up.drew ?_ | with_reducible refine Up.drewN ?_ _ | (with_reducible refine Up.setCell ?_ (by first | omega | (simp; done) | (simp; omega)) _) | with_reducible assumption | (with_reducible refine Up.trans ?_ (by with_reducible assumption))))
  by_cases hkk : k ≤ 1048576
  rotate_left
  · have hz := szI_out hkk
    go_enter Try.func7, Try.ntmps7
    go_wp2_with fail
    (go_at_call 26; (with_reducible refine (szRowS_any _ _ _ _ _ _ _ (hA.up hup0) hk (by omega) (by omega)).mono ?_); rintro e wx ⟨rfl, rfl⟩)
    go_wp2
    go_ret
    exact ⟨rfl, (by repeat (first | with_reducible exact Up.refl _ | with_reducible refine Up.alloc ?_ _ | with_reducible refine Up.drew ?_ | with_reducible refine Up.drewN ?_ _ | (with_reducible refine Up.setCell ?_ (by first | omega | (simp; done) | (simp; omega)) _) | with_reducible assumption | (with_reducible refine Up.trans ?_ (by with_reducible assumption))))⟩
  have hz := szI_in hkk
  have hz2 : ¬ (1048576 - (k : Int) < 0) := by omega
  by_cases hnm : (n : Int) ≤ 1048576 - (k : Int) ∧ (m : Int) ≤ 1048576 - (k : Int) - (n : Int)
  rotate_left
  · go_enter Try.func7, Try.ntmps7
    go_wp2_with fail
    (go_at_call 26; (with_reducible refine (szRowS_any _ _ _ _ _ _ _ (hA.up hup0) hk (by omega) (by omega)).mono ?_); rintro e wx ⟨rfl, rfl⟩)
    go_wp2_with fail
    (go_at_call 34; (with_reducible refine (szProof_out _ _ _ _ _ _ _ _ _ _ _ _ (hB.up hup0) (hC.up hup0) hm hm' (by omega) (by omega) hnm).mono ?_); rintro e w1 ⟨rfl, hb1⟩; obtain ⟨hc1, hf1⟩ := hb1.cells; have hs1 := hb1.size; (try simp at hs1); (try have hs1_0a : w.heap.size < w1.heap.size := by omega); (try have hs1_0a' : w.heap.size ≤ w1.heap.size := by omega); (try have hs1_0b : w.heap.size + 1 < w1.heap.size := by omega); (try have hs1_0b' : w.heap.size + 1 ≤ w1.heap.size := by omega); (try have hs1_0c : w.heap.size + 1 + 1 < w1.heap.size := by omega); (try have hs1_0c' : w.heap.size + 1 + 1 ≤ w1.heap.size := by omega))
    go_wp2
    go_ret
    exact ⟨rfl, (by repeat (first | with_reducible exact Up.refl _ | with_reducible refine Up.alloc ?_ _ | with_reducible refine Up.drew ?_ | with_reducible refine Up.drewN ?_ _ | (with_reducible refine Up.setCell ?_ (by first | omega | (simp; done) | (simp; omega)) _) | with_reducible assumption | (with_reducible refine Up.trans ?_ (by with_reducible assumption))))⟩
  · obtain ⟨hn1, hn2⟩ := hnm
    have hn : n ≤ 1048576 := by omega
    have hn' : m ≤ 1048576 := by omega
    have hz3 : ¬ (1048576 - (k : Int) - (n : Int) - (m : Int) < 0) := by omega
    go_enter Try.func7, Try.ntmps7
    go_wp2_with fail
    (go_at_call 26; (with_reducible refine (szRowS_any _ _ _ _ _ _ _ (hA.up hup0) hk (by omega) (by omega)).mono ?_); rintro e wx ⟨rfl, rfl⟩)
    go_wp2_with fail
    (go_at_call 34; (with_reducible refine (szProof_in _ _ _ _ _ _ _ _ _ _ _ _ (hB.up hup0) (hC.up hup0) hm hm' (by omega) (by omega) hn1 hn2).mono ?_); rintro e w1 ⟨rfl, hb1⟩)
    have b10 : w1.cell? ⟨w.heap.size, 0, none⟩ = some a := (hb1.cells.1 _ _ (by simp)).trans (by simp [World.cell?_alloc_mark])
    have b11 : w1.cell? ⟨w.heap.size, 1, none⟩ = some b := (hb1.cells.1 _ _ (by simp)).trans (by simp [World.cell?_alloc_mark])
    have hu1 : Up w w1 := hup0.trans hb1
    have hs1 : w.heap.size < w1.heap.size := by have := hb1.size; simp at this; omega
    go_wp2_with fail
    go_region_held3 (fun w' => (∀ b o, b < w1.heap.size → w'.cell? ⟨b, o, none⟩ = w1.cell? ⟨b, o, none⟩) ∧ Up w1 w') (exact upS (by repeat (first | with_reducible exact Up.refl _ | with_reducible refine Up.alloc ?_ _ | with_reducible refine Up.drew ?_ | with_reducible refine Up.drewN ?_ _ | (with_reducible refine Up.setCell ?_ (by first | omega | (simp; done) | (simp; omega)) _) | with_reducible assumption | (with_reducible refine Up.trans ?_ (by with_reducible assumption))))) (first | (go_at_call 29; (with_reducible refine (toRowS_any _ _ _ _ _ _ (hA.up (Up.trans hu1 (by repeat (first | with_reducible exact Up.refl _ | with_reducible refine Up.alloc ?_ _ | with_reducible refine Up.drew ?_ | with_reducible refine Up.drewN ?_ _ | (with_reducible refine Up.setCell ?_ (by first | omega | (simp; done) | (simp; omega)) _) | with_reducible assumption | (with_reducible refine Up.trans ?_ (by with_reducible assumption)))))) hkk).mono ?_); rintro e w2 ⟨v2, rfl, hv2, hb2⟩) | (go_at_call 36; (with_reducible refine (toProof_any _ _ _ _ _ _ _ _ _ _ _ (hB.up (Up.trans hu1 (by repeat (first | with_reducible exact Up.refl _ | with_reducible refine Up.alloc ?_ _ | with_reducible refine Up.drew ?_ | with_reducible refine Up.drewN ?_ _ | (with_reducible refine Up.setCell ?_ (by first | omega | (simp; done) | (simp; omega)) _) | with_reducible assumption | (with_reducible refine Up.trans ?_ (by with_reducible assumption)))))) (hC.up (Up.trans hu1 (by repeat (first | with_reducible exact Up.refl _ | with_reducible refine Up.alloc ?_ _ | with_reducible refine Up.drew ?_ | with_reducible refine Up.drewN ?_ _ | (with_reducible refine Up.setCell ?_ (by first | omega | (simp; done) | (simp; omega)) _) | with_reducible assumption | (with_reducible refine Up.trans ?_ (by with_reducible assumption)))))) hn hn').mono ?_); rintro e w3 ⟨x3, y3, mid3, rfl, hx3, hy3, hmid3, hb3⟩) | (go_at_call 35; (with_reducible refine (sProofOk_any _ _ _ _ _ _ _ _ _ _ _ _ _ _ _ _ (hv2.sl.up (by repeat (first | with_reducible exact Up.refl _ | with_reducible refine Up.alloc ?_ _ | with_reducible refine Up.drew ?_ | with_reducible refine Up.drewN ?_ _ | (with_reducible refine Up.setCell ?_ (by first | omega | (simp; done) | (simp; omega)) _) | with_reducible assumption | (with_reducible refine Up.trans ?_ (by with_reducible assumption))))) (hx3.sl.up (by repeat (first | with_reducible exact Up.refl _ | with_reducible refine Up.alloc ?_ _ | with_reducible refine Up.drew ?_ | with_reducible refine Up.drewN ?_ _ | (with_reducible refine Up.setCell ?_ (by first | omega | (simp; done) | (simp; omega)) _) | with_reducible assumption | (with_reducible refine Up.trans ?_ (by with_reducible assumption))))) (hy3.sl.up (by repeat (first | with_reducible exact Up.refl _ | with_reducible refine Up.alloc ?_ _ | with_reducible refine Up.drew ?_ | with_reducible refine Up.drewN ?_ _ | (with_reducible refine Up.setCell ?_ (by first | omega | (simp; done) | (simp; omega)) _) | with_reducible assumption | (with_reducible refine Up.trans ?_ (by with_reducible assumption))))) hkk hn hn').mono ?_); rintro e w4 ⟨rfl, hb4⟩))
    have hu14 : Up w1 w4 := (hb2.trans hb3 |> fun h => Up.trans (by repeat (first | with_reducible exact Up.refl _ | with_reducible refine Up.alloc ?_ _ | with_reducible refine Up.drew ?_ | with_reducible refine Up.drewN ?_ _ | (with_reducible refine Up.setCell ?_ (by first | omega | (simp; done) | (simp; omega)) _) | with_reducible assumption | (with_reducible refine Up.trans ?_ (by with_reducible assumption)))) (h.trans hb4))
    have hu4 : Up w w4 := hu1.trans hu14
    have hs4 : w.heap.size < w4.heap.size := Nat.lt_of_lt_of_le hs1 hu14.size
    have b40 := (hu14.cells.1 _ 0 hs1).trans b10
    have b41 := (hu14.cells.1 _ 1 hs1).trans b11
    clear b10 b11 hv2 hx3 hy3 hmid3 hb2 hb3 hb4
    go_wp2_with fail
    (go_at_call 29; (with_reducible refine (toRowS_any _ _ _ _ _ _ (hA.up hu4) hkk).mono ?_); rintro e w5 ⟨v5, rfl, hv5, hb5⟩)
    have hu5 : Up w w5 := hu4.trans hb5
    have hs5 : w.heap.size < w5.heap.size := Nat.lt_of_lt_of_le hs4 hb5.size
    have b50 := (hb5.cells.1 _ 0 hs4).trans b40
    have b51 := (hb5.cells.1 _ 1 hs4).trans b41
    clear b40 b41
    go_wp2_with fail
    (go_at_call 36; (with_reducible refine (toProof_any _ _ _ _ _ _ _ _ _ _ _ (hB.up hu5) (hC.up hu5) hn hn').mono ?_); rintro e w6 ⟨x6, y6, mid6, rfl, hx6, hy6, hmid6, hb6⟩)
    have HX := Lib.hid hx6
    have HY := Lib.hid hy6
    obtain ⟨_, A6, c6, rfl, _, hxx⟩ := hx6
    obtain ⟨_, A7, c7, rfl, _, hyy⟩ := hy6
    clear hxx hyy
    have hu6 : Up w w6 := hu5.trans hb6
    have hs6 : w.heap.size < w6.heap.size := Nat.lt_of_lt_of_le hs5 hb6.size
    have b60 := (hb6.cells.1 _ 0 hs5).trans b50
    have b61 := (hb6.cells.1 _ 1 hs5).trans b51
    have hua : Up w6 (w6.alloc (.cells #[.slice A6 n c6, .slice A7 m c7] 47)) := Up.alloc (Up.refl w6) _
    have V6 := (hv5.up hb6).up hua
    clear b50 b51
    go_wp2_with fail
    (go_at_call 37; (with_reducible refine (ProofOk_any _ _ _ _ _ _ _ _ _ _ _ _ _ _ _ _ V6.sl (HX.out.sl.up hua) (HY.out.sl.up hua) hkk hn hn').mono ?_); rintro e w7 ⟨rfl, hb7⟩)
    have hs7 := hb7.size
    simp at hs7
    have hu67 : Up w6 w7 := hua.trans hb7
    have hu7 : Up w w7 := hu6.trans hu67
    have V7 := V6.up hb7
    have b70 := (hu67.cells.1 _ 0 hs6).trans b60
    have b71 := (hu67.cells.1 _ 1 hs6).trans b61
    have c70 : w7.cell? ⟨w6.heap.size, 0, none⟩ = some (.slice A6 n c6) := (hb7.cells.1 _ _ (by simp)).trans (by simp [World.cell?_alloc_mark])
    have c71 : w7.cell? ⟨w6.heap.size, 1, none⟩ = some (.slice A7 m c7) := (hb7.cells.1 _ _ (by simp)).trans (by simp [World.cell?_alloc_mark])
    have hs71 : w.heap.size < w7.heap.size := by omega
    have hs72 : w6.heap.size < w7.heap.size := by omega
    clear b60 b61
    go_wp2_with fail
    (go_at_call 29; (with_reducible refine (toRowS_any _ _ _ _ _ _ (hA.up hu7) hkk).mono ?_); rintro e w8 ⟨v8, rfl, hv8, hb8⟩)
    go_wp2_with fail
    (go_at_call 31; (with_reducible refine (eqRowS_same _ _ _ _ _ _ _ _ _ (V7.sl.up hb8) hv8.sl hkk).mono ?_); rintro e w9 ⟨rfl, hb9⟩)
    have hu79 : Up w7 w9 := hb8.trans hb9
    have hu9 : Up w w9 := hu7.trans hu79
    have hu69 : Up w6 w9 := hu67.trans hu79
    have b90 := (hu79.cells.1 _ 0 hs71).trans b70
    have b91 := (hu79.cells.1 _ 1 hs71).trans b71
    have c90 := (hu79.cells.1 _ 0 hs72).trans c70
    have c91 := (hu79.cells.1 _ 1 hs72).trans c71
    have hs91 : w.heap.size < w9.heap.size := Nat.lt_of_lt_of_le hs71 hu79.size
    have hs92 : w6.heap.size < w9.heap.size := Nat.lt_of_lt_of_le hs72 hu79.size
    clear b70 b71 c70 c71 hv8 hb8 hb9
    go_wp2_with fail
    go_region_held3 (fun w' => (∀ b o, b < w9.heap.size → w'.cell? ⟨b, o, none⟩ = w9.cell? ⟨b, o, none⟩) ∧ Up w9 w') (exact upS (by repeat (first | with_reducible exact Up.refl _ | with_reducible refine Up.alloc ?_ _ | with_reducible refine Up.drew ?_ | with_reducible refine Up.drewN ?_ _ | (with_reducible refine Up.setCell ?_ (by first | omega | (simp; done) | (simp; omega)) _) | with_reducible assumption | (with_reducible refine Up.trans ?_ (by with_reducible assumption))))) (first | (go_at_call 36; (with_reducible refine (toProof_any _ _ _ _ _ _ _ _ _ _ _ (hB.up (Up.trans hu9 (by repeat (first | with_reducible exact Up.refl _ | with_reducible refine Up.alloc ?_ _ | with_reducible refine Up.drew ?_ | with_reducible refine Up.drewN ?_ _ | (with_reducible refine Up.setCell ?_ (by first | omega | (simp; done) | (simp; omega)) _) | with_reducible assumption | (with_reducible refine Up.trans ?_ (by with_reducible assumption)))))) (hC.up (Up.trans hu9 (by repeat (first | with_reducible exact Up.refl _ | with_reducible refine Up.alloc ?_ _ | with_reducible refine Up.drew ?_ | with_reducible refine Up.drewN ?_ _ | (with_reducible refine Up.setCell ?_ (by first | omega | (simp; done) | (simp; omega)) _) | with_reducible assumption | (with_reducible refine Up.trans ?_ (by with_reducible assumption)))))) hn hn').mono ?_); rintro e w10 ⟨x10, y10, mid10, rfl, hx10, hy10, hmid10, hb10⟩) | (go_at_call 38; (with_reducible refine (eqProof_same _ _ _ _ _ _ _ _ _ _ _ _ _ _ _ _ _ (HX.out.sl.up (Up.trans hu69 (by repeat (first | with_reducible exact Up.refl _ | with_reducible refine Up.alloc ?_ _ | with_reducible refine Up.drew ?_ | with_reducible refine Up.drewN ?_ _ | (with_reducible refine Up.setCell ?_ (by first | omega | (simp; done) | (simp; omega)) _) | with_reducible assumption | (with_reducible refine Up.trans ?_ (by with_reducible assumption)))))) (HY.out.sl.up (Up.trans hu69 (by repeat (first | with_reducible exact Up.refl _ | with_reducible refine Up.alloc ?_ _ | with_reducible refine Up.drew ?_ | with_reducible refine Up.drewN ?_ _ | (with_reducible refine Up.setCell ?_ (by first | omega | (simp; done) | (simp; omega)) _) | with_reducible assumption | (with_reducible refine Up.trans ?_ (by with_reducible assumption)))))) (hx10.sl.up (by repeat (first | with_reducible exact Up.refl _ | with_reducible refine Up.alloc ?_ _ | with_reducible refine Up.drew ?_ | with_reducible refine Up.drewN ?_ _ | (with_reducible refine Up.setCell ?_ (by first | omega | (simp; done) | (simp; omega)) _) | with_reducible assumption | (with_reducible refine Up.trans ?_ (by with_reducible assumption))))) (hy10.sl.up (by repeat (first | with_reducible exact Up.refl _ | with_reducible refine Up.alloc ?_ _ | with_reducible refine Up.drew ?_ | with_reducible refine Up.drewN ?_ _ | (with_reducible refine Up.setCell ?_ (by first | omega | (simp; done) | (simp; omega)) _) | with_reducible assumption | (with_reducible refine Up.trans ?_ (by with_reducible assumption))))) hn hn').mono ?_); rintro e w11 ⟨rfl, hb11⟩))
    all_goals
      go_wp2
      go_ret
      exact ⟨rfl, Up.trans hu9 (by repeat (first | with_reducible exact Up.refl _ | with_reducible refine Up.alloc ?_ _ | with_reducible refine Up.drew ?_ | with_reducible refine Up.drewN ?_ _ | (with_reducible refine Up.setCell ?_ (by first | omega | (simp; done) | (simp; omega)) _) | with_reducible assumption | (with_reducible refine Up.trans ?_ (by with_reducible assumption))))⟩
end Go.Proofs.Ytigcmhdjafglbaa
