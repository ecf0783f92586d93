/- The walk of the laws AreaTwice, HeightMoment, MomentOf: each returns true. No condition. -/
import Derived.Test.YtigcmhdjafglbaaAr2
import Derived.Test.YtigcmhdjafglbaaStT
import Derived.Test.YtigcmhdjafglbaaPfL
namespace Go.Proofs.Ytigcmhdjafglbaa
open Go.RowKit
set_option linter.unusedVariables false
set_option maxHeartbeats 2000000 in
set_option maxRecDepth 100000 in
theorem law_AreaTwice (u : Value) (n : Nat) (R : Nat → Nat → Int) (w : World) (hm : n ≤ maxLen) (hA : Sl w 0 w.heap.size 2 u n (intF R)) (hI : ∀ i j, i < n → j < 2 → I64 (R i j)) :
    Calls Try.prog 16 #[.agg #[u]] w fun e w' => e = .returned (.bool true) ∧ Up w w' := by
  have hup0 : Up w (w.alloc (.cells #[u] 75)) := (by repeat (first | with_reducible exact Up.refl _ | with_reducible refine Up.alloc ?_ _ | with_reducible refine Up.drew ?_ | with_reducible refine Up.drewN ?_ _ | (with_reducible refine Up.setCell ?_ (by first | omega | (simp; done) | (simp; omega)) _) | with_reducible assumption | (with_reducible refine Up.trans ?_ (by with_reducible assumption))))
  by_cases hn : n ≤ 1048576
  rotate_left
  · have hz := szI_out hn
    go_enter Try.func16, Try.ntmps16
    go_wp2_with fail
    (go_at_call 64; (with_reducible refine (szStone_any _ _ _ _ _ _ _ (hA.up hup0) hm (by omega) (by omega)).mono ?_); rintro e w1 ⟨rfl, hb1⟩; obtain ⟨hc1, hf1⟩ := hb1.cells; have hs1 := hb1.size; (try simp at hs1); (try have hs1_0a : w.heap.size < w1.heap.size := by omega); (try have hs1_0a' : w.heap.size ≤ w1.heap.size := by omega); (try have hs1_0b : w.heap.size + 1 < w1.heap.size := by omega); (try have hs1_0b' : w.heap.size + 1 ≤ w1.heap.size := by omega); (try have hs1_0c : w.heap.size + 1 + 1 < w1.heap.size := by omega); (try have hs1_0c' : w.heap.size + 1 + 1 ≤ w1.heap.size := by omega))
    go_wp2
    go_ret
    exact ⟨rfl, (by repeat (first | with_reducible exact Up.refl _ | with_reducible refine Up.alloc ?_ _ | with_reducible refine Up.drew ?_ | with_reducible refine Up.drewN ?_ _ | (with_reducible refine Up.setCell ?_ (by first | omega | (simp; done) | (simp; omega)) _) | with_reducible assumption | (with_reducible refine Up.trans ?_ (by with_reducible assumption))))⟩
  · have hz := szI_in hn
    have hz2 : ¬ (1048576 - (n : Int) < 0) := by omega
    go_enter Try.func16, Try.ntmps16
    go_wp2_with fail
    (go_at_call 64; (with_reducible refine (szStone_any _ _ _ _ _ _ _ (hA.up hup0) hm (by omega) (by omega)).mono ?_); rintro e w1 ⟨rfl, hb1⟩)
    have b10 : w1.cell? ⟨w.heap.size, 0, none⟩ = some u := (hb1.cells.1 _ _ (by simp)).trans (by simp [World.cell?_alloc_mark])
    have hu1 : Up w w1 := hup0.trans hb1
    have hs1 : w.heap.size < w1.heap.size := by have := hb1.size; simp at this; omega
    go_wp2_with fail
    (go_at_call 66; (with_reducible refine (toStone_any _ _ _ _ _ _ (hA.up hu1) hn).mono ?_); rintro e w2 ⟨A2, c2, rfl, V2, hb2⟩)
    go_wp2_with fail
    (go_at_call 69; (with_reducible refine (sAreaTwice_any _ _ _ _ _ _ V2.sl hn).mono ?_); rintro e w3 ⟨rfl, hb3⟩)
    have hu13 : Up w1 w3 := hb2.trans hb3
    have hu3 : Up w w3 := hu1.trans hu13
    have b30 := (hu13.cells.1 _ 0 hs1).trans b10
    have hs3 : w.heap.size < w3.heap.size := Nat.lt_of_lt_of_le hs1 hu13.size
    clear b10
    go_wp2_with fail
    (go_at_call 66; (with_reducible refine (toStone_any _ _ _ _ _ _ (hA.up hu3) hn).mono ?_); rintro e w4 ⟨A4, c4, rfl, V4, hb4⟩)
    have hu4 : Up w w4 := hu3.trans hb4
    have b40 := (hb4.cells.1 _ 0 hs3).trans b30
    have hs4 : w.heap.size < w4.heap.size := Nat.lt_of_lt_of_le hs3 hb4.size
    have hua : Up w4 (w4.alloc (.cells #[.slice A4 n c4] 80)) := Up.alloc (Up.refl w4) _
    have V5 := V4.up hua
    have HV5 := Lib.hid V5
    clear b30
    go_wp2_with fail
    (go_at_call 70; (with_reducible refine (AreaTwice_any _ _ _ _ _ _ HV5.out.sl hn).mono ?_); rintro e w5 ⟨rfl, hb5⟩)
    have hu45 : Up w4 w5 := hua.trans hb5
    have hu5 : Up w w5 := hu4.trans hu45
    have b50 := (hu45.cells.1 _ 0 hs4).trans b40
    have c50 : w5.cell? ⟨w4.heap.size, 0, none⟩ = some (.slice A4 n c4) := (hb5.cells.1 _ _ (by simp)).trans (by simp [World.cell?_alloc_mark])
    have hs5 : w.heap.size < w5.heap.size := Nat.lt_of_lt_of_le hs4 hu45.size
    have hs51 : w4.heap.size < w5.heap.size := Nat.lt_of_lt_of_le (by simp) hb5.size
    have V6 := HV5.out.up hb5
    have HV6 := Lib.hid V6
    clear b40 V4 V5 HV5 V6 hb5 hb4 V2
    go_wp2_with fail
    go_region_held3 (fun w' => (∀ b o, b < w5.heap.size → w'.cell? ⟨b, o, none⟩ = w5.cell? ⟨b, o, none⟩) ∧ Up w5 w') (exact upS (by repeat (first | with_reducible exact Up.refl _ | with_reducible refine Up.alloc ?_ _ | with_reducible refine Up.drew ?_ | with_reducible refine Up.drewN ?_ _ | (with_reducible refine Up.setCell ?_ (by first | omega | (simp; done) | (simp; omega)) _) | with_reducible assumption | (with_reducible refine Up.trans ?_ (by with_reducible assumption))))) (first | (go_at_call 66; (with_reducible refine (toStone_any _ _ _ _ _ _ (hA.up (Up.trans hu5 (by repeat (first | with_reducible exact Up.refl _ | with_reducible refine Up.alloc ?_ _ | with_reducible refine Up.drew ?_ | with_reducible refine Up.drewN ?_ _ | (with_reducible refine Up.setCell ?_ (by first | omega | (simp; done) | (simp; omega)) _) | with_reducible assumption | (with_reducible refine Up.trans ?_ (by with_reducible assumption)))))) hn).mono ?_); rintro e w6 ⟨A6, c6, rfl, V7, hb6⟩) | (go_at_call 68; (with_reducible refine (eqStone_same _ _ _ _ _ _ _ _ _ (HV6.out.sl.up (by repeat (first | with_reducible exact Up.refl _ | with_reducible refine Up.alloc ?_ _ | with_reducible refine Up.drew ?_ | with_reducible refine Up.drewN ?_ _ | (with_reducible refine Up.setCell ?_ (by first | omega | (simp; done) | (simp; omega)) _) | with_reducible assumption | (with_reducible refine Up.trans ?_ (by with_reducible assumption))))) (V7.sl.up (by repeat (first | with_reducible exact Up.refl _ | with_reducible refine Up.alloc ?_ _ | with_reducible refine Up.drew ?_ | with_reducible refine Up.drewN ?_ _ | (with_reducible refine Up.setCell ?_ (by first | omega | (simp; done) | (simp; omega)) _) | with_reducible assumption | (with_reducible refine Up.trans ?_ (by with_reducible assumption))))) hn).mono ?_); rintro e w7 ⟨rfl, hb7⟩))
    all_goals
      go_wp2
      go_ret
      exact ⟨rfl, Up.trans hu5 (by repeat (first | with_reducible exact Up.refl _ | with_reducible refine Up.alloc ?_ _ | with_reducible refine Up.drew ?_ | with_reducible refine Up.drewN ?_ _ | (with_reducible refine Up.setCell ?_ (by first | omega | (simp; done) | (simp; omega)) _) | with_reducible assumption | (with_reducible refine Up.trans ?_ (by with_reducible assumption))))⟩
set_option maxHeartbeats 2000000 in
set_option maxRecDepth 100000 in
theorem law_HeightMoment (u : Value) (n : Nat) (R : Nat → Nat → Int) (w : World) (hm : n ≤ maxLen) (hA : Sl w 0 w.heap.size 2 u n (intF R)) (hI : ∀ i j, i < n → j < 2 → I64 (R i j)) :
    Calls Try.prog 17 #[.agg #[u]] w fun e w' => e = .returned (.bool true) ∧ Up w w' := by
  have hup0 : Up w (w.alloc (.cells #[u] 75)) := (by repeat (first | with_reducible exact Up.refl _ | with_reducible refine Up.alloc ?_ _ | with_reducible refine Up.drew ?_ | with_reducible refine Up.drewN ?_ _ | (with_reducible refine Up.setCell ?_ (by first | omega | (simp; done) | (simp; omega)) _) | with_reducible assumption | (with_reducible refine Up.trans ?_ (by with_reducible assumption))))
  by_cases hn : n ≤ 1048576
  rotate_left
  · have hz := szI_out hn
    go_enter Try.func17, Try.ntmps17
    go_wp2_with fail
    (go_at_call 64; (with_reducible refine (szStone_any _ _ _ _ _ _ _ (hA.up hup0) hm (by omega) (by omega)).mono ?_); rintro e w1 ⟨rfl, hb1⟩; obtain ⟨hc1, hf1⟩ := hb1.cells; have hs1 := hb1.size; (try simp at hs1); (try have hs1_0a : w.heap.size < w1.heap.size := by omega); (try have hs1_0a' : w.heap.size ≤ w1.heap.size := by omega); (try have hs1_0b : w.heap.size + 1 < w1.heap.size := by omega); (try have hs1_0b' : w.heap.size + 1 ≤ w1.heap.size := by omega); (try have hs1_0c : w.heap.size + 1 + 1 < w1.heap.size := by omega); (try have hs1_0c' : w.heap.size + 1 + 1 ≤ w1.heap.size := by omega))
    go_wp2
    go_ret
    exact ⟨rfl, (by repeat (first | with_reducible exact Up.refl _ | with_reducible refine Up.alloc ?_ _ | with_reducible refine Up.drew ?_ | with_reducible refine Up.drewN ?_ _ | (with_reducible refine Up.setCell ?_ (by first | omega | (simp; done) | (simp; omega)) _) | with_reducible assumption | (with_reducible refine Up.trans ?_ (by with_reducible assumption))))⟩
  · have hz := szI_in hn
    have hz2 : ¬ (1048576 - (n : Int) < 0) := by omega
    go_enter Try.func17, Try.ntmps17
    go_wp2_with fail
    (go_at_call 64; (with_reducible refine (szStone_any _ _ _ _ _ _ _ (hA.up hup0) hm (by omega) (by omega)).mono ?_); rintro e w1 ⟨rfl, hb1⟩)
    have b10 : w1.cell? ⟨w.heap.size, 0, none⟩ = some u := (hb1.cells.1 _ _ (by simp)).trans (by simp [World.cell?_alloc_mark])
    have hu1 : Up w w1 := hup0.trans hb1
    have hs1 : w.heap.size < w1.heap.size := by have := hb1.size; simp at this; omega
    go_wp2_with fail
    (go_at_call 66; (with_reducible refine (toStone_any _ _ _ _ _ _ (hA.up hu1) hn).mono ?_); rintro e w2 ⟨A2, c2, rfl, V2, hb2⟩)
    go_wp2_with fail
    (go_at_call 71; (with_reducible refine (sHeightMoment_any _ _ _ _ _ _ V2.sl hn).mono ?_); rintro e w3 ⟨rfl, hb3⟩)
    have hu13 : Up w1 w3 := hb2.trans hb3
    have hu3 : Up w w3 := hu1.trans hu13
    have b30 := (hu13.cells.1 _ 0 hs1).trans b10
    have hs3 : w.heap.size < w3.heap.size := Nat.lt_of_lt_of_le hs1 hu13.size
    clear b10
    go_wp2_with fail
    (go_at_call 66; (with_reducible refine (toStone_any _ _ _ _ _ _ (hA.up hu3) hn).mono ?_); rintro e w4 ⟨A4, c4, rfl, V4, hb4⟩)
    have hu4 : Up w w4 := hu3.trans hb4
    have b40 := (hb4.cells.1 _ 0 hs3).trans b30
    have hs4 : w.heap.size < w4.heap.size := Nat.lt_of_lt_of_le hs3 hb4.size
    have hua : Up w4 (w4.alloc (.cells #[.slice A4 n c4] 80)) := Up.alloc (Up.refl w4) _
    have V5 := V4.up hua
    have HV5 := Lib.hid V5
    clear b30
    go_wp2_with fail
    (go_at_call 72; (with_reducible refine (HeightMoment_any _ _ _ _ _ _ HV5.out.sl hn).mono ?_); rintro e w5 ⟨rfl, hb5⟩)
    have hu45 : Up w4 w5 := hua.trans hb5
    have hu5 : Up w w5 := hu4.trans hu45
    have b50 := (hu45.cells.1 _ 0 hs4).trans b40
    have c50 : w5.cell? ⟨w4.heap.size, 0, none⟩ = some (.slice A4 n c4) := (hb5.cells.1 _ _ (by simp)).trans (by simp [World.cell?_alloc_mark])
    have hs5 : w.heap.size < w5.heap.size := Nat.lt_of_lt_of_le hs4 hu45.size
    have hs51 : w4.heap.size < w5.heap.size := Nat.lt_of_lt_of_le (by simp) hb5.size
    have V6 := HV5.out.up hb5
    have HV6 := Lib.hid V6
    clear b40 V4 V5 HV5 V6 hb5 hb4 V2
    go_wp2_with fail
    go_region_held3 (fun w' => (∀ b o, b < w5.heap.size → w'.cell? ⟨b, o, none⟩ = w5.cell? ⟨b, o, none⟩) ∧ Up w5 w') (exact upS (by repeat (first | with_reducible exact Up.refl _ | with_reducible refine Up.alloc ?_ _ | with_reducible refine Up.drew ?_ | with_reducible refine Up.drewN ?_ _ | (with_reducible refine Up.setCell ?_ (by first | omega | (simp; done) | (simp; omega)) _) | with_reducible assumption | (with_reducible refine Up.trans ?_ (by with_reducible assumption))))) (first | (go_at_call 66; (with_reducible refine (toStone_any _ _ _ _ _ _ (hA.up (Up.trans hu5 (by repeat (first | with_reducible exact Up.refl _ | with_reducible refine Up.alloc ?_ _ | with_reducible refine Up.drew ?_ | with_reducible refine Up.drewN ?_ _ | (with_reducible refine Up.setCell ?_ (by first | omega | (simp; done) | (simp; omega)) _) | with_reducible assumption | (with_reducible refine Up.trans ?_ (by with_reducible assumption)))))) hn).mono ?_); rintro e w6 ⟨A6, c6, rfl, V7, hb6⟩) | (go_at_call 68; (with_reducible refine (eqStone_same _ _ _ _ _ _ _ _ _ (HV6.out.sl.up (by repeat (first | with_reducible exact Up.refl _ | with_reducible refine Up.alloc ?_ _ | with_reducible refine Up.drew ?_ | with_reducible refine Up.drewN ?_ _ | (with_reducible refine Up.setCell ?_ (by first | omega | (simp; done) | (simp; omega)) _) | with_reducible assumption | (with_reducible refine Up.trans ?_ (by with_reducible assumption))))) (V7.sl.up (by repeat (first | with_reducible exact Up.refl _ | with_reducible refine Up.alloc ?_ _ | with_reducible refine Up.drew ?_ | with_reducible refine Up.drewN ?_ _ | (with_reducible refine Up.setCell ?_ (by first | omega | (simp; done) | (simp; omega)) _) | with_reducible assumption | (with_reducible refine Up.trans ?_ (by with_reducible assumption))))) hn).mono ?_); rintro e w7 ⟨rfl, hb7⟩))
    all_goals
      go_wp2
      go_ret
      exact ⟨rfl, Up.trans hu5 (by repeat (first | with_reducible exact Up.refl _ | with_reducible refine Up.alloc ?_ _ | with_reducible refine Up.drew ?_ | with_reducible refine Up.drewN ?_ _ | (with_reducible refine Up.setCell ?_ (by first | omega | (simp; done) | (simp; omega)) _) | with_reducible assumption | (with_reducible refine Up.trans ?_ (by with_reducible assumption))))⟩
set_option maxHeartbeats 2000000 in
set_option maxRecDepth 100000 in
theorem law_MomentOf (u : Value) (n : Nat) (R : Nat → Nat → Int) (w : World) (hm : n ≤ maxLen) (hA : Sl w 0 w.heap.size 2 u n (intF R)) (hI : ∀ i j, i < n → j < 2 → I64 (R i j)) :
    Calls Try.prog 18 #[.agg #[u]] w fun e w' => e = .returned (.bool true) ∧ Up w w' := by
  have hup0 : Up w (w.alloc (.cells #[u] 75)) := (by repeat (first | with_reducible exact Up.refl _ | with_reducible refine Up.alloc ?_ _ | with_reducible refine Up.drew ?_ | with_reducible refine Up.drewN ?_ _ | (with_reducible refine Up.setCell ?_ (by first | omega | (simp; done) | (simp; omega)) _) | with_reducible assumption | (with_reducible refine Up.trans ?_ (by with_reducible assumption))))
  by_cases hn : n ≤ 1048576
  rotate_left
  · have hz := szI_out hn
    go_enter Try.func18, Try.ntmps18
    go_wp2_with fail
    (go_at_call 64; (with_reducible refine (szStone_any _ _ _ _ _ _ _ (hA.up hup0) hm (by omega) (by omega)).mono ?_); rintro e w1 ⟨rfl, hb1⟩; obtain ⟨hc1, hf1⟩ := hb1.cells; have hs1 := hb1.size; (try simp at hs1); (try have hs1_0a : w.heap.size < w1.heap.size := by omega); (try have hs1_0a' : w.heap.size ≤ w1.heap.size := by omega); (try have hs1_0b : w.heap.size + 1 < w1.heap.size := by omega); (try have hs1_0b' : w.heap.size + 1 ≤ w1.heap.size := by omega); (try have hs1_0c : w.heap.size + 1 + 1 < w1.heap.size := by omega); (try have hs1_0c' : w.heap.size + 1 + 1 ≤ w1.heap.size := by omega))
    go_wp2
    go_ret
    exact ⟨rfl, (by repeat (first | with_reducible exact Up.refl _ | with_reducible refine Up.alloc ?_ _ | with_reducible refine Up.drew ?_ | with_reducible refine Up.drewN ?_ _ | (with_reducible refine Up.setCell ?_ (by first | omega | (simp; done) | (simp; omega)) _) | with_reducible assumption | (with_reducible refine Up.trans ?_ (by with_reducible assumption))))⟩
  · have hz := szI_in hn
    have hz2 : ¬ (1048576 - (n : Int) < 0) := by omega
    go_enter Try.func18, Try.ntmps18
    go_wp2_with fail
    (go_at_call 64; (with_reducible refine (szStone_any _ _ _ _ _ _ _ (hA.up hup0) hm (by omega) (by omega)).mono ?_); rintro e w1 ⟨rfl, hb1⟩)
    have b10 : w1.cell? ⟨w.heap.size, 0, none⟩ = some u := (hb1.cells.1 _ _ (by simp)).trans (by simp [World.cell?_alloc_mark])
    have hu1 : Up w w1 := hup0.trans hb1
    have hs1 : w.heap.size < w1.heap.size := by have := hb1.size; simp at this; omega
    go_wp2_with fail
    (go_at_call 66; (with_reducible refine (toStone_any _ _ _ _ _ _ (hA.up hu1) hn).mono ?_); rintro e w2 ⟨A2, c2, rfl, V2, hb2⟩)
    go_wp2_with fail
    (go_at_call 73; (with_reducible refine (sMomentOf_any _ _ _ _ _ _ V2.sl hn).mono ?_); rintro e w3 ⟨rfl, hb3⟩)
    have hu13 : Up w1 w3 := hb2.trans hb3
    have hu3 : Up w w3 := hu1.trans hu13
    have b30 := (hu13.cells.1 _ 0 hs1).trans b10
    have hs3 : w.heap.size < w3.heap.size := Nat.lt_of_lt_of_le hs1 hu13.size
    clear b10
    go_wp2_with fail
    (go_at_call 66; (with_reducible refine (toStone_any _ _ _ _ _ _ (hA.up hu3) hn).mono ?_); rintro e w4 ⟨A4, c4, rfl, V4, hb4⟩)
    have hu4 : Up w w4 := hu3.trans hb4
    have b40 := (hb4.cells.1 _ 0 hs3).trans b30
    have hs4 : w.heap.size < w4.heap.size := Nat.lt_of_lt_of_le hs3 hb4.size
    have hua : Up w4 (w4.alloc (.cells #[.slice A4 n c4] 80)) := Up.alloc (Up.refl w4) _
    have V5 := V4.up hua
    have HV5 := Lib.hid V5
    clear b30
    go_wp2_with fail
    (go_at_call 74; (with_reducible refine (MomentOf_any _ _ _ _ _ _ HV5.out.sl hn).mono ?_); rintro e w5 ⟨rfl, hb5⟩)
    have hu45 : Up w4 w5 := hua.trans hb5
    have hu5 : Up w w5 := hu4.trans hu45
    have b50 := (hu45.cells.1 _ 0 hs4).trans b40
    have c50 : w5.cell? ⟨w4.heap.size, 0, none⟩ = some (.slice A4 n c4) := (hb5.cells.1 _ _ (by simp)).trans (by simp [World.cell?_alloc_mark])
    have hs5 : w.heap.size < w5.heap.size := Nat.lt_of_lt_of_le hs4 hu45.size
    have hs51 : w4.heap.size < w5.heap.size := Nat.lt_of_lt_of_le (by simp) hb5.size
    have V6 := HV5.out.up hb5
    have HV6 := Lib.hid V6
    clear b40 V4 V5 HV5 V6 hb5 hb4 V2
    go_wp2_with fail
    go_region_held3 (fun w' => (∀ b o, b < w5.heap.size → w'.cell? ⟨b, o, none⟩ = w5.cell? ⟨b, o, none⟩) ∧ Up w5 w') (exact upS (by repeat (first | with_reducible exact Up.refl _ | with_reducible refine Up.alloc ?_ _ | with_reducible refine Up.drew ?_ | with_reducible refine Up.drewN ?_ _ | (with_reducible refine Up.setCell ?_ (by first | omega | (simp; done) | (simp; omega)) _) | with_reducible assumption | (with_reducible refine Up.trans ?_ (by with_reducible assumption))))) (first | (go_at_call 66; (with_reducible refine (toStone_any _ _ _ _ _ _ (hA.up (Up.trans hu5 (by repeat (first | with_reducible exact Up.refl _ | with_reducible refine Up.alloc ?_ _ | with_reducible refine Up.drew ?_ | with_reducible refine Up.drewN ?_ _ | (with_reducible refine Up.setCell ?_ (by first | omega | (simp; done) | (simp; omega)) _) | with_reducible assumption | (with_reducible refine Up.trans ?_ (by with_reducible assumption)))))) hn).mono ?_); rintro e w6 ⟨A6, c6, rfl, V7, hb6⟩) | (go_at_call 68; (with_reducible refine (eqStone_same _ _ _ _ _ _ _ _ _ (HV6.out.sl.up (by repeat (first | with_reducible exact Up.refl _ | with_reducible refine Up.alloc ?_ _ | with_reducible refine Up.drew ?_ | with_reducible refine Up.drewN ?_ _ | (with_reducible refine Up.setCell ?_ (by first | omega | (simp; done) | (simp; omega)) _) | with_reducible assumption | (with_reducible refine Up.trans ?_ (by with_reducible assumption))))) (V7.sl.up (by repeat (first | with_reducible exact Up.refl _ | with_reducible refine Up.alloc ?_ _ | with_reducible refine Up.drew ?_ | with_reducible refine Up.drewN ?_ _ | (with_reducible refine Up.setCell ?_ (by first | omega | (simp; done) | (simp; omega)) _) | with_reducible assumption | (with_reducible refine Up.trans ?_ (by with_reducible assumption))))) hn).mono ?_); rintro e w7 ⟨rfl, hb7⟩))
    all_goals
      go_wp2
      go_ret
      exact ⟨rfl, Up.trans hu5 (by repeat (first | with_reducible exact Up.refl _ | with_reducible refine Up.alloc ?_ _ | with_reducible refine Up.drew ?_ | with_reducible refine Up.drewN ?_ _ | (with_reducible refine Up.setCell ?_ (by first | omega | (simp; done) | (simp; omega)) _) | with_reducible assumption | (with_reducible refine Up.trans ?_ (by with_reducible assumption))))⟩
end Go.Proofs.Ytigcmhdjafglbaa
