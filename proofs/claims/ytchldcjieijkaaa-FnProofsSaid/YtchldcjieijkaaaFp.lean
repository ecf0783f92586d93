/- The law on proofs of collapse: its walk. No condition. -/
import Derived.Test.YtchldcjieijkaaaFp0
import Derived.Test.YtchldcjieijkaaaDrawD
import Derived.Test.YtchldcjieijkaaaOpen4
import Derived.Deep.DeepCutAuto
import Derived.Deep.QuietTactic
namespace Go.Proofs.Ytchldcjieijkaaa
open Go.RowKit
set_option linter.unusedVariables false
set_option maxHeartbeats 4000000 in
set_option maxRecDepth 100000 in
theorem law_FnProofs (u : Value) (nn : Nat) (B : Nat → Int) (w : World) (hm : nn ≤ maxLen) (hA : Sl w 0 w.heap.size 1 u nn (bytF B)) (hB : ∀ i, i < nn → 0 ≤ B i ∧ B i ≤ 255) :
    Calls Try.prog 3 #[u] w fun e w' => e = .returned (.bool true) ∧ Up w w' := by
  by_cases hn : nn ≤ 1048576
  rotate_left
  · have hd : decide (1048576 < nn) = true := decide_eq_true (by omega)
    go_enter Try.func3, Try.ntmps3
    go_wp2_with fail
    (go_at_call 4; (with_reducible refine (big_any _ _ _ _ _ _ hA hm).mono ?_); rintro e wx ⟨rfl, rfl⟩)
    go_wp2
    go_ret
    exact ⟨rfl, (by repeat (first | with_reducible exact Up.refl _ | with_reducible refine Up.alloc ?_ _ | with_reducible refine Up.drew ?_ | with_reducible refine Up.drewN ?_ _ | (with_reducible refine Up.setCell ?_ (by first | omega | (simp; done) | (simp; omega)) _) | with_reducible assumption | (with_reducible refine Up.trans ?_ (by with_reducible assumption))))⟩
  have hd : decide (1048576 < nn) = false := decide_eq_false (by omega)
  go_enter Try.func3, Try.ntmps3
  go_wp2_with fail
  (go_at_call 4; (with_reducible refine (big_any _ _ _ _ _ _ hA hm).mono ?_); rintro e wx ⟨rfl, rfl⟩)
  go_wp2_with fail
  (go_at_call 5; (with_reducible refine (DrawProofOk_any _ _ _ _ _ _ hA hn hB).mono ?_); rintro e w1 ⟨x, y, z, m, R, P, F, l1, h1, l2, h2, l3, h3, rfl, SR, SP, SF, hm3, e1, e2, e3, hU1⟩)
  obtain ⟨_, A1, c1, rfl, hc1, hx1⟩ := id SR
  obtain ⟨_, A2, c2, rfl, hc2, hx2⟩ := id SP
  obtain ⟨_, A3, c3, rfl, hc3, hx3⟩ := id SF
  clear hx1 hx2 hx3 hc1 hc2 hc3 e1 e2 e3
  obtain ⟨w2, hw2⟩ : ∃ w2, w1.alloc (.cells #[.slice A2 2 c2, .slice A3 m c3] 27) = w2 := ⟨_, rfl⟩
  have hU12 : Up w1 w2 := by rw [← hw2]; exact (Up.refl w1).alloc _
  have hz2 : w2.heap.size = w1.heap.size + 1 := by rw [← hw2]; simp
  have kb := heap_alloc_new w1 (.cells #[.slice A2 2 c2, .slice A3 m c3] 27)
  rw [hw2] at kb
  have hU2 := hU1.trans hU12
  go_wp2_with fail
  (go_at_call 6; (with_reducible refine (DrawThrusts_any _ _ _ _ _ _ (hA.up hU2) hn hB).mono ?_); rintro e w3 ⟨h, v, q, d, x', y', z', t', rfl, ta, tb, hU3⟩)
  obtain ⟨w4, hw4⟩ : ∃ w4, (w3.alloc (.cells #[.int .i64 h, .int .i64 v, .int .i64 q, .int .i64 d] 31)).alloc (.cells #[.int .i64 x', .int .i64 y', .int .i64 z', .int .i64 t'] 31) = w4 := ⟨_, rfl⟩
  have hU34 : Up w3 w4 := by rw [← hw4]; exact ((Up.refl w3).alloc _).alloc _
  have kt : w4.heap[w3.heap.size]? = some (.cells #[.int .i64 h, .int .i64 v, .int .i64 q, .int .i64 d] 31 (0, 0)) := by
    rw [← hw4]; exact (Below.heap_alloc _ _ _ (by simp)).trans (heap_alloc_new w3 _)
  have hz4 : w4.heap.size = w3.heap.size + 2 := by rw [← hw4]; simp
  have hz23 := hU3.size
  have hU24 : Up w2 w4 := hU3.trans hU34
  have hU14 : Up w1 w4 := hU12.trans hU24
  have kb4 := (Below.block hU24 w1.heap.size (by omega)).trans kb
  have S1 := SR.up hU14
  have S2 := SP.up hU14
  have S3 := SF.up hU14
  have hU4 := hU2.trans hU24
  clear SR SP SF hU1 hU12 hU2 hU3 hU34 kb hU14 hU24
  obtain ⟨b0, b1, bf, bl⟩ := two_at kb4
  have hth : thB h v q d = true := ta.1
  clear ta tb bf hA hB
  go_wp2_with fail
  (go_at_call 7; (with_reducible refine (SumOfRows_any _ _ _ 3 2 m _ _ _ _ _ _ R P F _ S1 S2 S3 (by omega) (by omega) (by omega)).mono ?_); rintro e w5 ⟨rfl, hU45⟩)
  have S1 := S1.up hU45
  have S2 := S2.up hU45
  have S3 := S3.up hU45
  obtain ⟨b0, b1, bf, bl⟩ := two_at ((Below.block hU45 w1.heap.size (by omega)).trans kb4)
  clear bf
  go_wp2_with fail
  (go_at_call 8; (with_reducible refine (ScaleProof_any _ _ _ 3 2 m _ _ _ _ _ _ 3 R P F _ S1 S2 S3 (by omega) (by omega) (by omega)).mono ?_); rintro e w6 ⟨qx, qy, mid, rfl, W1, W2, hmd1, hmd2, hU56⟩)
  obtain ⟨_, Ax, cx, rfl, hcx, hxx⟩ := W1.sl
  obtain ⟨_, Ay, cy, rfl, hcy, hxy⟩ := W2.sl
  clear hxx hxy hcx hcy
  obtain ⟨w7, hw7⟩ : ∃ w7, w6.alloc (.cells #[.slice Ax (ifN (spB 3 2 m 3 R P F) 2) cx, .slice Ay (ifN (spB 3 2 m 3 R P F) m) cy] 27) = w7 := ⟨_, rfl⟩
  have hU67 : Up w6 w7 := by rw [← hw7]; exact (Up.refl w6).alloc _
  have kc := heap_alloc_new w6 (.cells #[.slice Ax (ifN (spB 3 2 m 3 R P F) 2) cx, .slice Ay (ifN (spB 3 2 m 3 R P F) m) cy] 27)
  have hz7 : w7.heap.size = w6.heap.size + 1 := by rw [← hw7]; simp
  rw [hw7] at kc
  have hz45 := hU45.size
  have hz56 := hU56.size
  have hU47 : Up w4 w7 := hU45.trans (hU56.trans hU67)
  have hU57 : Up w5 w7 := hU56.trans hU67
  have S1 := S1.up hU57
  have S2 := S2.up hU57
  have S3 := S3.up hU57
  have Q1 := W1.sl.up hU67
  have Q2 := W2.sl.up hU67
  clear W1 W2
  have kb7 := (Below.block hU47 w1.heap.size (by omega)).trans kb4
  have kt7 := (Below.block hU47 w3.heap.size (by omega)).trans kt
  have hU7 := hU4.trans hU47
  obtain ⟨b0, b1, bf, bl⟩ := two_at kb7
  clear bf hU45 hU56 hU67 hU47 hU57 kb4 kt
  go_wp2_with fail
  (go_at_call 9; (with_reducible refine (IsProof_any _ _ _ 3 2 m _ _ _ _ _ _ R P F _ S1 S2 S3 (by omega) (by omega) (by omega)).mono ?_); rintro e w8 ⟨rfl, hU78⟩)
  have hz78 := hU78.size
  have S1 := S1.up hU78
  have S2 := S2.up hU78
  have S3 := S3.up hU78
  have Q1 := Q1.up hU78
  have Q2 := Q2.up hU78
  have kb8 := (Below.block hU78 w1.heap.size (by omega)).trans kb7
  have kt8 := (Below.block hU78 w3.heap.size (by omega)).trans kt7
  have kc8 := (Below.block hU78 w6.heap.size (by omega)).trans kc
  have hU8 := hU7.trans hU78
  clear kb7 kt7 kc b0 b1 bl hU7 hU78
  -- the plain facts
  obtain ⟨yes, hyes⟩ : ∃ yes, ipB (pfOk 3 2 m R P F) (srI 3 2 m R P F 0) (srI 3 2 m R P F 1) (srI 3 2 m R P F 2) (srI 3 2 m R P F 3) = yes := ⟨_, rfl⟩
  obtain ⟨ok, hok⟩ : ∃ ok, spB 3 2 m 3 R P F = ok := ⟨_, rfl⟩
  have hY : yes = true → pfOk 3 2 m R P F = true ∧ srI 3 2 m R P F 0 = 0 ∧ srI 3 2 m R P F 1 = 0 ∧ srI 3 2 m R P F 2 = 0 ∧ srI 3 2 m R P F 3 < 0 ∧ 1 ≤ cbI h v q d R 3 := by
    intro hy
    rw [hy] at hyes
    obtain ⟨i1, i2, i3, i4, i5⟩ := ip_parts hyes
    exact ⟨i1, i2, i3, i4, i5, fp_broken hth hyes⟩
  have hO : ok = true → (∀ c, c < 4 → srI 3 2 m R P (scF 3 F) c = 3 * srI 3 2 m R P F c ∧ wrap64 (3 * srI 3 2 m R P F c) = 3 * srI 3 2 m R P F c) ∧ ipB (pfOk 3 2 m R P (scF 3 F)) (srI 3 2 m R P (scF 3 F) 0) (srI 3 2 m R P (scF 3 F) 1) (srI 3 2 m R P (scF 3 F) 2) (srI 3 2 m R P (scF 3 F) 3) = yes := by
    intro ho
    rw [ho] at hok
    exact ⟨fun c hc => fp_scale hok hc, (fp_again hok).trans hyes⟩
  rw [hyes, hok]
  rw [hok] at Q1 Q2 kc8
  have HP := fun W (hu : Up w8 W) => ProofOk_any _ _ _ 3 2 m _ _ _ _ _ _ R P F W (S1.up hu) (S2.up hu) (S3.up hu) (by omega) (by omega) (by omega)
  have HC := fun W (hu : Up w8 W) => sCountBroken_any h v q d _ 3 _ _ R W (S1.up hu) (by omega)
  have HS : ok = true → ∀ W, Up w8 W → Calls Try.prog 7 #[.slice A1 3 c1, .agg #[.slice Ax 2 cx, .slice Ay m cy]] W fun e w' => e = .returned (.tuple #[.int .i64 (3 * srI 3 2 m R P F 0), .int .i64 (3 * srI 3 2 m R P F 1), .int .i64 (3 * srI 3 2 m R P F 2), .int .i64 (3 * srI 3 2 m R P F 3)]) ∧ Up W w' := by
    intro ho W hu
    obtain ⟨o1, o2⟩ := hO ho
    rw [ho] at Q1 Q2
    have hh := SumOfRows_any _ _ _ 3 2 m _ _ _ _ _ _ R P (scF 3 F) W (S1.up hu) (Q1.up hu) (Q2.up hu) (by omega) (by omega) (by omega)
    rw [(o1 0 (by omega)).1, (o1 1 (by omega)).1, (o1 2 (by omega)).1, (o1 3 (by omega)).1] at hh
    exact hh
  have HI : ok = true → ∀ W, Up w8 W → Calls Try.prog 9 #[.slice A1 3 c1, .agg #[.slice Ax 2 cx, .slice Ay m cy]] W fun e w' => e = .returned (.bool yes) ∧ Up W w' := by
    intro ho W hu
    obtain ⟨o1, o2⟩ := hO ho
    rw [ho] at Q1 Q2
    have hh := IsProof_any _ _ _ 3 2 m _ _ _ _ _ _ R P (scF 3 F) W (S1.up hu) (Q1.up hu) (Q2.up hu) (by omega) (by omega) (by omega)
    rw [o2] at hh
    exact hh
  have hW : ok = true → wrap64 (3 * srI 3 2 m R P F 0) = 3 * srI 3 2 m R P F 0 ∧ wrap64 (3 * srI 3 2 m R P F 1) = 3 * srI 3 2 m R P F 1 ∧ wrap64 (3 * srI 3 2 m R P F 2) = 3 * srI 3 2 m R P F 2 ∧ wrap64 (3 * srI 3 2 m R P F 3) = 3 * srI 3 2 m R P F 3 := fun ho => ⟨((hO ho).1 0 (by omega)).2, ((hO ho).1 1 (by omega)).2, ((hO ho).1 2 (by omega)).2, ((hO ho).1 3 (by omega)).2⟩
  clear hO hyes hok Q1 Q2 S1 S2 S3 hth
  generalize srI 3 2 m R P F 0 = s0 at *
  generalize srI 3 2 m R P F 1 = s1 at *
  generalize srI 3 2 m R P F 2 = s2 at *
  generalize srI 3 2 m R P F 3 = s3 at *
  generalize cbI h v q d R 3 = nb at *
  generalize pfOk 3 2 m R P F = pk at *
  have HH := Lib.hid (And.intro HP (And.intro HC (And.intro HS (And.intro HI (And.intro hY hW)))))
  clear HP HC HS HI hY hW
  go_upto_region 8 with fail
  go_cut [76] (fun x wr => x = .bool false ∧ Up w8 wr)
  case first =>
    obtain ⟨b0, b1, bf, bl⟩ := two_at kb8
    obtain ⟨t0, t1, t2, t3, tf, tl⟩ := four_at kt8
    clear bf tf
    cases yes with
    | false =>
      go_wp2
      go_meet
      case rel => exact ⟨rfl, Up.refl _⟩
    | true =>
      obtain ⟨HP, HC, HS, HI, hY, hW⟩ := HH.out
      obtain ⟨rfl, rfl, rfl, rfl, hs3, hnb⟩ := hY rfl
      have hs3' : decide (0 ≤ s3) = false := decide_eq_false (by omega)
      have hnb' : decide (nb < 1) = false := decide_eq_false (by omega)
      clear HS HI hY hW
      go_wp2_with fail
      (go_at_call 10; (with_reducible refine (HP _ (Up.refl _)).mono ?_); rintro e w9 ⟨rfl, hU89⟩)
      have hz89 := hU89.size
      obtain ⟨t0, t1, t2, t3, tf, tl⟩ := four_at ((Below.block hU89 w3.heap.size (by omega)).trans kt8)
      clear tf
      go_wp2_with fail
      (go_at_call 11; (with_reducible refine (HC _ hU89).mono ?_); rintro e wx ⟨rfl, hUx⟩)
      go_wp2_with fail
      go_meet
      case rel => exact ⟨rfl, hU89.trans hUx⟩
  case rest =>
    obtain ⟨rfl, hUc⟩ := hcut
    have hzc := hUc.size
    have kc9 := (Below.block hUc w6.heap.size (by omega)).trans kc8
    go_upto_if 77 with fail
    go_cut [] (fun wr => Up w8 wr)
    case first =>
      cases ok with
      | false =>
        go_wp2
        go_meet
        case rel => exact hUc
      | true =>
        obtain ⟨HP, HC, HS, HI, hY, hW⟩ := HH.out
        obtain ⟨i0, i1, i2, i3⟩ := hW rfl
        have HS' := HS rfl
        have HI' := HI rfl
        clear hY hW HP HC HS HI
        rw [show ifN true 2 = 2 from rfl, show ifN true m = m from rfl] at kc9
        obtain ⟨c0, c1', cf, cl⟩ := two_at kc9
        clear cf
        go_wp2_with fail
        (go_at_call 7; (with_reducible refine (HS' _ hUc).mono ?_); rintro e w9 ⟨rfl, hUc9⟩)
        obtain ⟨c0, c1', cf, cl⟩ := two_at ((Below.block hUc9 w6.heap.size (by omega)).trans kc9)
        clear cf
        go_wp2_with fail
        (go_at_call 9; (with_reducible refine (HI' _ (hUc.trans hUc9)).mono ?_); rintro e wx ⟨rfl, hUx⟩)
        have hyy : (yes != yes) = false := by simp
        go_wp2_with fail
        go_meet
        case rel => exact hUc.trans (hUc9.trans hUx)
    case rest =>
      obtain ⟨wd, rfl⟩ : ∃ wd : World, wd = wc := ⟨_, rfl⟩
      have hU9 := hU8.trans hcut
      clear hU8 hcut HH kb8 kt8 kc8
      obtain ⟨wa, hwa⟩ : ∃ wa, ((wd.alloc (.cells #[.int .i64 1, .int .i64 0, .int .i64 0, .int .i64 (-1), .int .i64 (-1), .int .i64 0, .int .i64 0, .int .i64 0] 41)).alloc (.cells #[.int .i64 0, .int .i64 1] 3)).alloc (.cells #[.int .i64 1, .int .i64 1] 3) = wa := ⟨_, rfl⟩
      have hUa : Up wd wa := by rw [← hwa]; exact (((Up.refl wd).alloc _).alloc _).alloc _
      have hza : wa.heap.size = wd.heap.size + 1 + 1 + 1 := by rw [← hwa]; simp
      have n1 : wa.heap[wd.heap.size]? = some (.cells #[.int .i64 1, .int .i64 0, .int .i64 0, .int .i64 (-1), .int .i64 (-1), .int .i64 0, .int .i64 0, .int .i64 0] 41 (0, 0)) := by
        rw [← hwa]; exact (Below.heap_alloc _ _ _ (by simp; omega)).trans ((Below.heap_alloc _ _ _ (by simp)).trans (heap_alloc_new wd _))
      have n2 : wa.heap[wd.heap.size + 1]? = some (.cells #[.int .i64 0, .int .i64 1] 3 (0, 0)) := by
        rw [← hwa]
        have hh := heap_alloc_new (wd.alloc (.cells #[.int .i64 1, .int .i64 0, .int .i64 0, .int .i64 (-1), .int .i64 (-1), .int .i64 0, .int .i64 0, .int .i64 0] 41)) (.cells #[.int .i64 0, .int .i64 1] 3)
        simp only [World.size_alloc] at hh
        exact (Below.heap_alloc _ _ _ (by simp)).trans hh
      have n3 : wa.heap[wd.heap.size + 1 + 1]? = some (.cells #[.int .i64 1, .int .i64 1] 3 (0, 0)) := by
        rw [← hwa]
        have hh := heap_alloc_new ((wd.alloc (.cells #[.int .i64 1, .int .i64 0, .int .i64 0, .int .i64 (-1), .int .i64 (-1), .int .i64 0, .int .i64 0, .int .i64 0] 41)).alloc (.cells #[.int .i64 0, .int .i64 1] 3)) (.cells #[.int .i64 1, .int .i64 1] 3)
        simp only [World.size_alloc] at hh
        exact hh
      have T1 : Sl wa wd.heap.size (wd.heap.size + 1) 4 (.slice (some ⟨wd.heap.size, 0, none⟩) 2 2) 2 (intF oneR) := sl_heap [1, 0, 0, -1, -1, 0, 0, 0] 4 2 rfl wa _ _ _ rfl n1
      have T2 : Sl wa (wd.heap.size + 1) (wd.heap.size + 1 + 1) 1 (.slice (some ⟨wd.heap.size + 1, 0, none⟩) 2 2) 2 (intF (litR [0, 1])) := (sl_heap [0, 1] 1 2 rfl wa _ _ _ rfl n2).congr (fun i j hi hj => by rw [show j = 0 from by omega, intF, intF, Nat.mul_one, Nat.add_zero]; rfl)
      have T3 : Sl wa (wd.heap.size + 1 + 1) (wd.heap.size + 1 + 1 + 1) 1 (.slice (some ⟨wd.heap.size + 1 + 1, 0, none⟩) 2 2) 2 (intF (litR [1, 1])) := (sl_heap [1, 1] 1 2 rfl wa _ _ _ rfl n3).congr (fun i j hi hj => by rw [show j = 0 from by omega, intF, intF, Nat.mul_one, Nat.add_zero]; rfl)
      have HI1 := IsProof_any _ _ _ 2 2 2 _ _ _ _ _ _ oneR (litR [0, 1]) (litR [1, 1]) wa T1 T2 T3 (by omega) (by omega) (by omega)
      rw [fp_one] at HI1
      have hU10 := hU9.trans hUa
      clear n1 n2 n3 T1 T2 T3 hU9
      go_wp2_with fail
      (try rw [hwa])
      (go_at_call 9; (with_reducible refine HI1.mono ?_); rintro e w9 ⟨rfl, hUa9⟩)
      obtain ⟨wb, hwb⟩ : ∃ wb, (w9.alloc (.cells #[.int .i64 0, .int .i64 1] 3)).alloc (.cells #[.int .i64 2, .int .i64 1] 3) = wb := ⟨_, rfl⟩
      have hUb : Up w9 wb := by rw [← hwb]; exact ((Up.refl w9).alloc _).alloc _
      have m1 : wb.heap[w9.heap.size]? = some (.cells #[.int .i64 0, .int .i64 1] 3 (0, 0)) := by
        rw [← hwb]; exact (Below.heap_alloc _ _ _ (by simp)).trans (heap_alloc_new w9 _)
      have m2 : wb.heap[w9.heap.size + 1]? = some (.cells #[.int .i64 2, .int .i64 1] 3 (0, 0)) := by
        rw [← hwb]
        have hh := heap_alloc_new (w9.alloc (.cells #[.int .i64 0, .int .i64 1] 3)) (.cells #[.int .i64 2, .int .i64 1] 3)
        simp only [World.size_alloc] at hh
        exact hh
      have T2 : Sl wb w9.heap.size (w9.heap.size + 1) 1 (.slice (some ⟨w9.heap.size, 0, none⟩) 2 2) 2 (intF (litR [0, 1])) := (sl_heap [0, 1] 1 2 rfl wb _ _ _ rfl m1).congr (fun i j hi hj => by rw [show j = 0 from by omega, intF, intF, Nat.mul_one, Nat.add_zero]; rfl)
      have T3 : Sl wb (w9.heap.size + 1) (w9.heap.size + 1 + 1) 1 (.slice (some ⟨w9.heap.size + 1, 0, none⟩) 2 2) 2 (intF (litR [2, 1])) := (sl_heap [2, 1] 1 2 rfl wb _ _ _ rfl m2).congr (fun i j hi hj => by rw [show j = 0 from by omega, intF, intF, Nat.mul_one, Nat.add_zero]; rfl)
      have hLi : ∀ (a b : Int), I64 a → I64 b → ∀ i j, i < 2 → j < 1 → I64 (litR [a, b] i j) := by
        intro a b ha hb i j hi hj
        have hh : i = 0 ∨ i = 1 := by omega
        rcases hh with rfl | rfl
        · exact ha
        · exact hb
      have HT := ProofText_any _ _ 2 2 _ _ _ _ (litR [0, 1]) (litR [2, 1]) wb T2 T3 (by omega) (by omega) (hLi 0 1 (i64_k (by omega) (by omega)) (i64_k (by omega) (by omega))) (hLi 2 1 (i64_k (by omega) (by omega)) (i64_k (by omega) (by omega)))
      rw [fp_text] at HT
      have hU11 := hU10.trans (hUa9.trans hUb)
      clear m1 m2 T2 T3 hU10 HI1 hLi
      go_wp2_with fail
      (try rw [hwb])
      (go_at_call 12; (with_reducible refine HT.mono ?_); rintro e wx ⟨rfl, hUx⟩)
      go_wp2
      go_ret
      exact ⟨rfl, hU11.trans hUx⟩
end Go.Proofs.Ytchldcjieijkaaa
