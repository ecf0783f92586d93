/- The walks of the laws FindProof and FewestRows: they return true. No condition. -/
import Derived.Test.YtlpbmdoggcclpaaQj
namespace Go.Proofs.Ytlpbmdoggcclpaa
open Go.RowKit
set_option linter.unusedVariables false
theorem fpM_le (k : Nat) (R : Nat → Nat → Int) : fpM k R ≤ 4 := by
  unfold fpM
  split
  · exact mq_le _ _ _
  · omega
set_option maxHeartbeats 8000000 in
set_option maxRecDepth 100000 in
theorem law_FewestRows (u : Value) (k : Nat) (R : Nat → Nat → Int) (w : World) (hk : k ≤ maxLen) (hA : Sl w 0 w.heap.size 4 u k (intF R)) (hI : ∀ i j, i < k → j < 4 → I64 (R i j)) :
    Calls Try.prog 4 #[u] w fun e w' => e = .returned (.bool true) ∧ Up w w' := by
  by_cases hkk : k ≤ 1048576
  rotate_left
  · have hz := szI_out hkk
    go_enter Try.func4, Try.ntmps4
    go_wp2_with fail
    (go_at_call 8; (with_reducible refine (szRowS_any _ _ _ _ _ _ _ hA hk (by omega) (by omega)).mono ?_); rintro e wx ⟨rfl, rfl⟩)
    go_wp2
    go_ret
    exact ⟨rfl, (by repeat (first | with_reducible exact Up.refl _ | with_reducible refine Up.alloc ?_ _ | with_reducible refine Up.drew ?_ | with_reducible refine Up.drewN ?_ _ | (with_reducible refine Up.setCell ?_ (by first | omega | (simp; done) | (simp; omega)) _) | with_reducible assumption | (with_reducible refine Up.trans ?_ (by with_reducible assumption))))⟩
  have hz := szI_in hkk
  have hz2 : ¬ (1048576 - (k : Int) < 0) := by omega
  have hSp := fun W U l1 h1 (a1 : Sl W l1 h1 4 U k (intF R)) => sFewestRows_any U k l1 h1 R W a1 hkk
  have hIm := fun W U l1 h1 (a1 : Sl W l1 h1 4 U k (intF R)) => FewestRows_any U k l1 h1 R W a1 hkk
  generalize frV k R = V at *
  go_enter Try.func4, Try.ntmps4
  go_wp2_with fail
  (go_at_call 8; (with_reducible refine (szRowS_any _ _ _ _ _ _ _ hA hk (by omega) (by omega)).mono ?_); rintro e wx ⟨rfl, rfl⟩)
  go_wp2_with fail
  (go_at_call 10; (with_reducible refine (toRowS_any _ _ _ _ _ _ hA hkk).mono ?_); rintro e w1 ⟨v1, rfl, V1, hb1⟩)
  go_wp2_with fail
  (go_at_call 17; (with_reducible refine (hSp _ _ _ _ V1.sl).mono ?_); rintro e w2 ⟨rfl, hb2⟩)
  have hu2 := hb1.trans hb2
  clear V1 hb1 hb2
  go_wp2_with fail
  (go_at_call 10; (with_reducible refine (toRowS_any _ _ _ _ _ _ (hA.up hu2) hkk).mono ?_); rintro e w3 ⟨v3, rfl, V3, hb3⟩)
  go_wp2_with fail
  (go_at_call 18; (with_reducible refine (hIm _ _ _ _ V3.sl).mono ?_); rintro e w4 ⟨rfl, hb4⟩)
  have hu4 := (hu2.trans hb3).trans hb4
  have V4 := V3.up hb4
  clear V3
  go_wp2_with fail
  (go_at_call 10; (with_reducible refine (toRowS_any _ _ _ _ _ _ (hA.up hu4) hkk).mono ?_); rintro e w5 ⟨v5, rfl, V5, hb5⟩)
  go_wp2_with fail
  (go_at_call 13; (with_reducible refine (eqRowS_same _ _ _ _ _ _ _ _ _ (V4.up hb5).sl V5.sl hkk).mono ?_); rintro e w6 ⟨rfl, hb6⟩)
  go_wp2
  go_ret
  exact ⟨rfl, (hu4.trans hb5).trans hb6⟩
set_option maxHeartbeats 8000000 in
set_option maxRecDepth 100000 in
theorem law_FindProof (u : Value) (k : Nat) (R : Nat → Nat → Int) (w : World) (hk : k ≤ maxLen) (hA : Sl w 0 w.heap.size 4 u k (intF R)) (hI : ∀ i j, i < k → j < 4 → I64 (R i j)) :
    Calls Try.prog 3 #[u] w fun e w' => e = .returned (.bool true) ∧ Up w w' := by
  by_cases hkk : k ≤ 1048576
  rotate_left
  · have hz := szI_out hkk
    go_enter Try.func3, Try.ntmps3
    go_wp2_with fail
    (go_at_call 8; (with_reducible refine (szRowS_any _ _ _ _ _ _ _ hA hk (by omega) (by omega)).mono ?_); rintro e wx ⟨rfl, rfl⟩)
    go_wp2
    go_ret
    exact ⟨rfl, (by repeat (first | with_reducible exact Up.refl _ | with_reducible refine Up.alloc ?_ _ | with_reducible refine Up.drew ?_ | with_reducible refine Up.drewN ?_ _ | (with_reducible refine Up.setCell ?_ (by first | omega | (simp; done) | (simp; omega)) _) | with_reducible assumption | (with_reducible refine Up.trans ?_ (by with_reducible assumption))))⟩
  have hz := szI_in hkk
  have hz2 : ¬ (1048576 - (k : Int) < 0) := by omega
  have hSp := fun W U l1 h1 (a1 : Sl W l1 h1 4 U k (intF R)) => sFindProof_any U k l1 h1 R W a1 hkk
  have hIm := fun W U l1 h1 (a1 : Sl W l1 h1 4 U k (intF R)) => FindProof_any U k l1 h1 R W a1 hkk
  have hM1 : fpM k R ≤ 1048576 := by have := fpM_le k R; omega
  generalize fpM k R = M at *
  generalize fpB k R = B at *
  generalize fpP k R = P at *
  generalize fpF k R = F at *
  go_enter Try.func3, Try.ntmps3
  go_wp2_with fail
  (go_at_call 8; (with_reducible refine (szRowS_any _ _ _ _ _ _ _ hA hk (by omega) (by omega)).mono ?_); rintro e wx ⟨rfl, rfl⟩)
  go_wp2_with fail
  (go_at_call 10; (with_reducible refine (toRowS_any _ _ _ _ _ _ hA hkk).mono ?_); rintro e w1 ⟨v1, rfl, V1, hb1⟩)
  go_wp2_with fail
  (go_at_call 9; (with_reducible refine (hSp _ _ _ _ V1.sl).mono ?_); intro e w3 hh; obtain ⟨A3, c3, D3, d3, rfl, T3, hb3⟩ := hh.two)
  have hu3 : Up w w3 := hb1.trans hb3
  have P3 := PGB.new 26 T3
  have hua : Up w3 (w3.alloc (.cells #[.slice A3 M c3, .slice D3 M d3] 26)) := Up.alloc (Up.refl w3) _
  have hH3 : w3.heap.size ≤ w3.heap.size := Nat.le_refl _
  have hu3a := hu3.trans hua
  have HP3 := Lib.hid P3
  have z23 : w1.heap.size ≤ w3.heap.size := hb3.size
  clear T3 P3 V1
  go_wp2_with fail
  (go_at_call 10; (with_reducible refine (toRowS_any _ _ _ _ _ _ (hA.up hu3a) hkk).mono ?_); rintro e w4 ⟨v4, rfl, V4, hb4⟩)
  have hu4 := hu3a.trans hb4
  go_wp2_with fail
  (go_at_call 11; (with_reducible refine (hIm _ _ _ _ V4.sl).mono ?_); intro e w6 hh; obtain ⟨A6, c6, D6, d6, rfl, T6, hb6⟩ := hh.two)
  have hu6 := hu4.trans hb6
  have P6 := PGB.new 26 T6
  have hub : Up w6 (w6.alloc (.cells #[.slice A6 M c6, .slice D6 M d6] 26)) := Up.alloc (Up.refl w6) _
  have S6 := HP3.out.up ((hb4.trans hb6).trans hub)
  have X6 := (V4.up hb6).up hub
  have hu6b := hu6.trans hub
  have s0 := S6.1
  have s1 := S6.2.1
  have sl := S6.2.2.1
  have g0 := P6.1
  have g1 := P6.2.1
  have gl := P6.2.2.1
  have HS6 := Lib.hid S6
  have HP6 := Lib.hid P6
  have HX6 := Lib.hid X6
  clear T6 P6 S6 X6 V4
  have z34 := hb4.size
  have z46 := hb6.size
  simp at z34
  have hkn : ¬ (1 + (k : Int) * 4 < 0) := by omega
  have hqn : ¬ (1 + (M : Int) + (M : Int) < 0) := by omega
  have hw3 := hu3.size
  go_wp2_with fail
  (go_at_call 12; (with_reducible refine (eqProof_two _ _ _ _ _ _ _ _ _ _ _ _ _ _ _ _ _ HP6.out.t HS6.out.t hM1 hM1).mono ?_); rintro e w7 ⟨rfl, hb7⟩)
  have hu7 := hu6b.trans hb7
  go_wp2_with fail
  (go_at_call 10; (with_reducible refine (toRowS_any _ _ _ _ _ _ (hA.up hu7) hkk).mono ?_); rintro e w8 ⟨v8, rfl, V8, hb8⟩)
  go_wp2_with fail
  (go_at_call 13; (with_reducible refine (eqRowS_same _ _ _ _ _ _ _ _ _ (HX6.out.sl.up (hb7.trans hb8)) V8.sl hkk).mono ?_); rintro e w9 ⟨rfl, hb9⟩)
  have h611 := (hb7.trans hb8).trans hb9
  have hu11 := hu6b.trans h611
  have S11 := HS6.out.up h611
  have G11 := HP6.out.up h611
  have X11 := HX6.out.up h611
  clear HS6 HP6 HX6 s0 s1 sl g0 g1 gl V8 hb7 hb8 hb9 h611
  go_wp2_with fail
  (go_at_call 14; (with_reducible refine (markRowS_any _ _ _ _ _ _ _ _ X11 hkk (by omega) (by omega) hu11 (by simp; omega)).mono ?_); rintro e w13 ⟨rfl, hv13, hm13, hb13⟩)
  have S13 := S11.off hm13 (.inl (by simp)) (.inl (by simp))
  have G13 := G11.off hm13 (.inr (by omega)) (.inr (by omega))
  have s0 := S13.1
  have s1 := S13.2.1
  have sl := S13.2.2.1
  have g0 := G13.1
  have g1 := G13.2.1
  have gl := G13.2.2.1
  have HS := Lib.hid S13
  have HG := Lib.hid G13
  clear S11 G11 X11 hv13 S13 G13 hm13
  go_wp2_with fail
  (go_at_call 12; (with_reducible refine (eqProof_two _ _ _ _ _ _ _ _ _ _ _ _ _ _ _ _ _ HG.out.t HS.out.t hM1 hM1).mono ?_); rintro e w14 ⟨rfl, hb14⟩)
  have hu14 := hb13.trans hb14
  have S14 := HS.out.up hb14
  have G14 := HG.out.up hb14
  have k0 := G14.1
  have k1 := G14.2.1
  have kl := G14.2.2.1
  have HS4 := Lib.hid S14
  have HG4 := Lib.hid G14
  clear HS HG s0 s1 sl g0 g1 gl S14 G14
  go_wp2_with fail
  (go_at_call 15; (with_reducible refine (markProof_gen _ _ _ _ _ _ _ _ _ _ _ _ w HG4.out.t hM1 hM1 (by omega) (by omega) hu14 (by omega)).mono ?_); rintro e w15 ⟨rfl, T15, hm15, hb15⟩)
  have S15 := HS4.out.off hm15 (.inl (by omega)) (.inl (by omega))
  have n0 := (hm15.2 _ 0 kl (.inr (Nat.le_refl _))).1.trans k0
  have n1 := (hm15.2 _ 1 kl (.inr (Nat.le_refl _))).1.trans k1
  have nl := Nat.lt_of_lt_of_le kl hm15.1
  clear HS4 HG4 k0 k1
  go_wp2_with fail
  (go_at_call 16; (with_reducible refine (heldProof_gen _ _ _ _ _ _ _ _ _ _ T15 hM1 hM1 (by omega) (by omega)).mono ?_); rintro e w16 ⟨rfl, hb16⟩)
  have hu16 := hb15.trans hb16
  have S16 := S15.up hb16
  have T16 := T15.up hb16
  have m0 := (hb16.cells.1 _ 0 nl).trans n0
  have m1 := (hb16.cells.1 _ 1 nl).trans n1
  have ml := Nat.lt_of_lt_of_le nl hb16.size
  have HS6 := Lib.hid S16
  clear S15 T15 n0 n1 S16
  go_wp2_with fail
  (go_at_call 10; (with_reducible refine (toRowS_any _ _ _ _ _ _ (hA.up hu16) hkk).mono ?_); rintro e w17 ⟨v17, rfl, V17, hb17⟩)
  go_wp2_with fail
  (go_at_call 11; (with_reducible refine (hIm _ _ _ _ V17.sl).mono ?_); intro e w19 hh; obtain ⟨A9, c9, D9, d9, rfl, T19, hb19⟩ := hh.two)
  have P19 := PGB.new 26 T19
  have huc : Up w19 (w19.alloc (.cells #[.slice A9 M c9, .slice D9 M d9] 26)) := Up.alloc (Up.refl w19) _
  have h169 := (hb17.trans hb19).trans huc
  have S19 := HS6.out.up h169
  have T20 := T16.up h169
  have q0 := (h169.cells.1 _ 0 ml).trans m0
  have q1 := (h169.cells.1 _ 1 ml).trans m1
  have ql := Nat.lt_of_lt_of_le ml h169.size
  have r0 := S19.1
  have r1 := S19.2.1
  have rl := S19.2.2.1
  have p0 := P19.1
  have p1 := P19.2.1
  have pl := P19.2.2.1
  have hu19 := hu16.trans h169
  have HS9 := Lib.hid S19
  have HP9 := Lib.hid P19
  clear S19 P19 m0 m1 T19 V17
  go_wp2_with fail
  (go_at_call 12; (with_reducible refine (eqProof_two _ _ _ _ _ _ _ _ _ _ _ _ _ _ _ _ _ HP9.out.t HS9.out.t hM1 hM1).mono ?_); rintro e w20 ⟨rfl, hb20⟩)
  have T21 := T20.up hb20
  have u0 := (hb20.cells.1 _ 0 ql).trans q0
  have u1 := (hb20.cells.1 _ 1 ql).trans q1
  have hu20 := hu19.trans hb20
  clear q0 q1 r0 r1 p0 p1 HS9 HP9 T20
  go_wp2_with fail
  (go_at_call 16; (with_reducible refine (heldProof_gen _ _ _ _ _ _ _ _ _ _ T21 hM1 hM1 (by omega) (by omega)).mono ?_); rintro e w21 ⟨rfl, hb21⟩)
  go_wp2
  go_ret
  exact ⟨rfl, hu20.trans hb21⟩
end Go.Proofs.Ytlpbmdoggcclpaa
