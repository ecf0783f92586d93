/- The walk of the law FnThrusts: it returns true. No condition. -/
import Derived.Test.YtlpbmdoggcclpaaTt1
namespace Go.Proofs.Ytlpbmdoggcclpaa
open Go.RowKit
set_option linter.unusedVariables false
set_option maxHeartbeats 8000000 in
set_option maxRecDepth 100000 in
theorem law_FnThrusts (u : Value) (nn : Nat) (B : Nat → Int) (w : World) (hm : nn ≤ maxLen) (hA : Sl w 0 w.heap.size 1 u nn (bytF B)) (hB : ∀ i, i < nn → 0 ≤ B i ∧ B i ≤ 255) :
    Calls Try.prog 7 #[u] w fun e w' => e = .returned (.bool true) ∧ Up w w' := by
  by_cases hn : nn ≤ 1048576
  rotate_left
  · have hd : decide (1048576 < nn) = true := decide_eq_true (by omega)
    go_enter Try.func7, Try.ntmps7
    go_wp2_with fail
    (go_at_call 19; (with_reducible refine (big_any _ _ _ _ _ _ hA hm).mono ?_); rintro e wx ⟨rfl, rfl⟩)
    go_wp2
    go_ret
    exact ⟨rfl, (by repeat (first | with_reducible exact Up.refl _ | with_reducible refine Up.alloc ?_ _ | with_reducible refine Up.drew ?_ | with_reducible refine Up.drewN ?_ _ | (with_reducible refine Up.setCell ?_ (by first | omega | (simp; done) | (simp; omega)) _) | with_reducible assumption | (with_reducible refine Up.trans ?_ (by with_reducible assumption))))⟩
  have hd : decide (1048576 < nn) = false := decide_eq_false (by omega)
  go_enter Try.func7, Try.ntmps7
  go_wp2_with fail
  (go_at_call 19; (with_reducible refine (big_any _ _ _ _ _ _ hA hm).mono ?_); rintro e wx ⟨rfl, rfl⟩)
  go_wp2_with fail
  (go_at_call 21; (with_reducible refine (DrawThrusts_any _ _ _ _ _ _ hA hn hB).mono ?_); rintro e w1 ⟨h, v, m, n, x, y, z, t, rfl, ta, tb, hU1⟩)
  obtain ⟨w2, hw2⟩ : ∃ w2, (w1.alloc (.cells #[.int .i64 h, .int .i64 v, .int .i64 m, .int .i64 n] 42)).alloc (.cells #[.int .i64 x, .int .i64 y, .int .i64 z, .int .i64 t] 42) = w2 := ⟨_, rfl⟩
  have hU12 : Up w1 w2 := by rw [← hw2]; exact ((Up.refl w1).alloc _).alloc _
  have hU2 := hU1.trans hU12
  have Ha : Hid (PB4 w2 w1.heap.size h v m n) := Lib.hid (by rw [← hw2]; exact (PB4.new w1 _ h v m n).up (Up.alloc (Up.refl _) _))
  have Hb : Hid (PB4 w2 (w1.heap.size + 1) x y z t) := Lib.hid (by
    rw [← hw2]
    have h := PB4.new (w1.alloc (.cells #[.int .i64 h, .int .i64 v, .int .i64 m, .int .i64 n] 42)) 42 x y z t
    simp only [World.size_alloc] at h
    exact h)
  go_wp2_with fail
  (go_at_call 29; (with_reducible refine (at_any _ _ _ _ _ _ (hA.up hU2) hn hB).mono ?_); rintro e wx ⟨q, rfl, hq1, hq2, rfl⟩)
  have hqm : (q.tmod 9) = q % 9 := Int.tmod_eq_emod_of_nonneg hq1
  obtain ⟨k, hkk⟩ : ∃ k, 1 + q % 9 = k := ⟨_, rfl⟩
  have hk1 : 1 ≤ k := by omega
  have hk2 : k ≤ 9 := by omega
  obtain ⟨hta, a1, a2, a3, a4, a5, a6, a7, a8⟩ := id ta
  obtain ⟨htb, b1, b2, b3, b4, b5, b6, b7, b8⟩ := id tb
  have hMk := fun W => MakeThrust_any (-k * h) (-k * v) (-k * m) (-k * n) W
  have hbk := mk_back hk1 hk2 hta (by omega)
  have hbP := mk_back_P hk1 hk2 hta (by omega)
  rw [hbP h, hbP v, hbP m, hbP n, hbk.1] at hMk
  have c1 := mul_bd (a := -k) (b := h) 9 1000 (by omega) (by omega) (by omega) (by omega)
  have c2 := mul_bd (a := -k) (b := v) 9 1000 (by omega) (by omega) (by omega) (by omega)
  have c3 := mul_bd (a := -k) (b := m) 9 1000 (by omega) (by omega) (by omega) (by omega)
  have c4 := mul_bd (a := -k) (b := n) 9 1000 (by omega) (by omega) (by omega) (by omega)
  have d1 := IntWalk.i64_in (-k * h) (by omega)
  have d2 := IntWalk.i64_in (-k * v) (by omega)
  have d3 := IntWalk.i64_in (-k * m) (by omega)
  have d4 := IntWalk.i64_in (-k * n) (by omega)
  have d5 := IntWalk.i64_in (-k) (by omega)
  obtain ⟨a, b, c, d, hmt, hmB, p1, p2, p3, p4, hcl, hcr⟩ := mix_in ta tb
  have hMx := fun W => MixThrusts_any h v m n x y z t W
  rw [p1, p2, p3, p4, hmB] at hMx
  have hC1 := fun W => CompareThrusts_any h v m n x y z t W
  have hC2 := fun W => CompareThrusts_any h v m n a b c d W
  have hC3 := fun W => CompareThrusts_any a b c d x y z t W
  have hC4 := fun W => CompareThrusts_any x y z t h v m n W
  have hC5 := fun W => CompareThrusts_any h v m n h v m n W
  rw [ct_in hta htb] at hC1
  rw [ct_in hta hmt, hcl] at hC2
  rw [ct_in hmt htb, hcr] at hC3
  rw [ct_in htb hta, cmp_swap] at hC4
  rw [ct_in hta hta, cmp_same] at hC5
  have hO1 := fun W => ThrustOk_any a b c d W
  have hO2 := fun W => ThrustOk_any h v m n W
  rw [hmt] at hO1
  rw [hta] at hO2
  have hT0 := fun W => ThrustText_any h v m n W
  have hT1 := fun W => ThrustText_any x y z t W
  have hTI : thT h v m n = thT x y z t → h = x ∧ v = y ∧ m = z ∧ n = t := by rw [thT_yes hta, thT_yes htb]; exact thT_inj
  have hE2 : (thT h v m n == thT x y z t) = decide (h = x ∧ v = y ∧ m = z ∧ n = t) := by
    by_cases hh : h = x ∧ v = y ∧ m = z ∧ n = t
    · rw [decide_eq_true hh, beq_iff_eq, hh.1, hh.2.1, hh.2.2.1, hh.2.2.2]
    · rw [decide_eq_false hh, beq_eq_false_iff_ne]; exact fun e => hh (hTI e)
  have hE3 := eq_th h v m n x y z t
  generalize decide (h = x ∧ v = y ∧ m = z ∧ n = t) = E at hE2 hE3
  generalize thT h v m n = T0 at *
  generalize thT x y z t = T1 at *
  have hK := cmp_bd (h * t) (x * n)
  generalize cmpI (h * t) (x * n) = K at *
  obtain ⟨hK1, hK2⟩ := hK
  have hw1 := IntWalk.i64_in (-K) (by omega)
  have hw2' := IntWalk.i64_in K (by omega)
  clear hTI hcl hcr p1 p2 p3 p4 hmB hbk hbP hta htb hmt ta tb c1 c2 c3 c4 a3 a4 a5 a6 b3 b4 b5 b6
  have qa0 := Ha.out.1
  have qa1 := Ha.out.2.1
  have qa2 := Ha.out.2.2.1
  have qa3 := Ha.out.2.2.2.1
  have qal := Ha.out.2.2.2.2
  have qb0 := Hb.out.1
  have qb1 := Hb.out.2.1
  have qb2 := Hb.out.2.2.1
  have qb3 := Hb.out.2.2.2.1
  have qbl := Hb.out.2.2.2.2
  go_wp2_with fail
  (go_at_call 36; (with_reducible refine (hMk _).mono ?_); rintro e w3 ⟨rfl, hb3⟩)
  replace Ha := Lib.hid (Ha.out.up hb3)
  replace Hb := Lib.hid (Hb.out.up hb3)
  clear qa0 qa1 qa2 qa3 qal qb0 qb1 qb2 qb3 qbl
  have hU3 := hU2.trans hb3
  have hv3 : Up w3 (w3.alloc (.cells #[.int .i64 h, .int .i64 v, .int .i64 m, .int .i64 n] 42)) := Up.alloc (Up.refl _) _
  replace Ha := Lib.hid (Ha.out.up hv3)
  replace Hb := Lib.hid (Hb.out.up hv3)
  have Hu := Lib.hid (PB4.new w3 42 h v m n)
  replace hU3 := hU3.trans hv3
  have qa0 := Ha.out.1
  have qa1 := Ha.out.2.1
  have qa2 := Ha.out.2.2.1
  have qa3 := Ha.out.2.2.2.1
  have qal := Ha.out.2.2.2.2
  have qb0 := Hb.out.1
  have qb1 := Hb.out.2.1
  have qb2 := Hb.out.2.2.1
  have qb3 := Hb.out.2.2.2.1
  have qbl := Hb.out.2.2.2.2
  have qu0 := Hu.out.1
  have qu1 := Hu.out.2.1
  have qu2 := Hu.out.2.2.1
  have qu3 := Hu.out.2.2.2.1
  have qul := Hu.out.2.2.2.2
  go_wp2_with fail
  (go_at_call 37; (with_reducible refine (hMx _).mono ?_); rintro e w4 ⟨rfl, hb4⟩)
  replace Ha := Lib.hid (Ha.out.up hb4)
  replace Hb := Lib.hid (Hb.out.up hb4)
  replace Hu := Lib.hid (Hu.out.up hb4)
  clear qa0 qa1 qa2 qa3 qal qb0 qb1 qb2 qb3 qbl qu0 qu1 qu2 qu3 qul
  have hU4 := hU3.trans hb4
  have hv4 : Up w4 (w4.alloc (.cells #[.int .i64 a, .int .i64 b, .int .i64 c, .int .i64 d] 42)) := Up.alloc (Up.refl _) _
  replace Ha := Lib.hid (Ha.out.up hv4)
  replace Hb := Lib.hid (Hb.out.up hv4)
  replace Hu := Lib.hid (Hu.out.up hv4)
  have Hz := Lib.hid (PB4.new w4 42 a b c d)
  replace hU4 := hU4.trans hv4
  have qa0 := Ha.out.1
  have qa1 := Ha.out.2.1
  have qa2 := Ha.out.2.2.1
  have qa3 := Ha.out.2.2.2.1
  have qal := Ha.out.2.2.2.2
  have qb0 := Hb.out.1
  have qb1 := Hb.out.2.1
  have qb2 := Hb.out.2.2.1
  have qb3 := Hb.out.2.2.2.1
  have qbl := Hb.out.2.2.2.2
  have qu0 := Hu.out.1
  have qu1 := Hu.out.2.1
  have qu2 := Hu.out.2.2.1
  have qu3 := Hu.out.2.2.2.1
  have qul := Hu.out.2.2.2.2
  have qz0 := Hz.out.1
  have qz1 := Hz.out.2.1
  have qz2 := Hz.out.2.2.1
  have qz3 := Hz.out.2.2.2.1
  have qzl := Hz.out.2.2.2.2
  go_wp2_with fail
  (go_at_call 38; (with_reducible refine (hC1 _).mono ?_); rintro e w5 ⟨rfl, hb5⟩)
  replace Ha := Lib.hid (Ha.out.up hb5)
  replace Hb := Lib.hid (Hb.out.up hb5)
  replace Hu := Lib.hid (Hu.out.up hb5)
  replace Hz := Lib.hid (Hz.out.up hb5)
  clear qa0 qa1 qa2 qa3 qal qb0 qb1 qb2 qb3 qbl qu0 qu1 qu2 qu3 qul qz0 qz1 qz2 qz3 qzl
  have hU5 := hU4.trans hb5
  have qa0 := Ha.out.1
  have qa1 := Ha.out.2.1
  have qa2 := Ha.out.2.2.1
  have qa3 := Ha.out.2.2.2.1
  have qal := Ha.out.2.2.2.2
  have qb0 := Hb.out.1
  have qb1 := Hb.out.2.1
  have qb2 := Hb.out.2.2.1
  have qb3 := Hb.out.2.2.2.1
  have qbl := Hb.out.2.2.2.2
  have qu0 := Hu.out.1
  have qu1 := Hu.out.2.1
  have qu2 := Hu.out.2.2.1
  have qu3 := Hu.out.2.2.2.1
  have qul := Hu.out.2.2.2.2
  have qz0 := Hz.out.1
  have qz1 := Hz.out.2.1
  have qz2 := Hz.out.2.2.1
  have qz3 := Hz.out.2.2.2.1
  have qzl := Hz.out.2.2.2.2
  go_wp2_with fail
  (go_at_call 38; (with_reducible refine (hC2 _).mono ?_); rintro e w6 ⟨rfl, hb6⟩)
  replace Ha := Lib.hid (Ha.out.up hb6)
  replace Hb := Lib.hid (Hb.out.up hb6)
  replace Hu := Lib.hid (Hu.out.up hb6)
  replace Hz := Lib.hid (Hz.out.up hb6)
  clear qa0 qa1 qa2 qa3 qal qb0 qb1 qb2 qb3 qbl qu0 qu1 qu2 qu3 qul qz0 qz1 qz2 qz3 qzl
  have hU6 := hU5.trans hb6
  have qa0 := Ha.out.1
  have qa1 := Ha.out.2.1
  have qa2 := Ha.out.2.2.1
  have qa3 := Ha.out.2.2.2.1
  have qal := Ha.out.2.2.2.2
  have qb0 := Hb.out.1
  have qb1 := Hb.out.2.1
  have qb2 := Hb.out.2.2.1
  have qb3 := Hb.out.2.2.2.1
  have qbl := Hb.out.2.2.2.2
  have qu0 := Hu.out.1
  have qu1 := Hu.out.2.1
  have qu2 := Hu.out.2.2.1
  have qu3 := Hu.out.2.2.2.1
  have qul := Hu.out.2.2.2.2
  have qz0 := Hz.out.1
  have qz1 := Hz.out.2.1
  have qz2 := Hz.out.2.2.1
  have qz3 := Hz.out.2.2.2.1
  have qzl := Hz.out.2.2.2.2
  go_wp2_with fail
  (go_at_call 38; (with_reducible refine (hC3 _).mono ?_); rintro e w7 ⟨rfl, hb7⟩)
  replace Ha := Lib.hid (Ha.out.up hb7)
  replace Hb := Lib.hid (Hb.out.up hb7)
  replace Hu := Lib.hid (Hu.out.up hb7)
  replace Hz := Lib.hid (Hz.out.up hb7)
  clear qa0 qa1 qa2 qa3 qal qb0 qb1 qb2 qb3 qbl qu0 qu1 qu2 qu3 qul qz0 qz1 qz2 qz3 qzl
  have hU7 := hU6.trans hb7
  have qa0 := Ha.out.1
  have qa1 := Ha.out.2.1
  have qa2 := Ha.out.2.2.1
  have qa3 := Ha.out.2.2.2.1
  have qal := Ha.out.2.2.2.2
  have qb0 := Hb.out.1
  have qb1 := Hb.out.2.1
  have qb2 := Hb.out.2.2.1
  have qb3 := Hb.out.2.2.2.1
  have qbl := Hb.out.2.2.2.2
  have qu0 := Hu.out.1
  have qu1 := Hu.out.2.1
  have qu2 := Hu.out.2.2.1
  have qu3 := Hu.out.2.2.2.1
  have qul := Hu.out.2.2.2.2
  have qz0 := Hz.out.1
  have qz1 := Hz.out.2.1
  have qz2 := Hz.out.2.2.1
  have qz3 := Hz.out.2.2.2.1
  have qzl := Hz.out.2.2.2.2
  go_wp2_with fail
  have HU := Lib.hid hU7
  clear Ha Hb Hu Hz hA hB hU7 hMk hMx hC1 hC2 hC3 hqm hkk d1 d2 d3 d4 d5
  refine wp_region_up (by kernel_rfl) (Eq.trans (congrArg (Region.lexB Region.Mode.any) (by kernel_rfl : _ = regOf 10 Try.f7)) tt_lex) ?_
  (try simp only [List.cons_append, List.nil_append])
  as_aux_lemma =>
    iterate 8 (refine wpQuiet_step (fun K hK => ?_); go_simp; first | (refine hK _ ?_; clear hK K) | (apply Exists.intro; refine ⟨fun wq hwq => ?_, hK _ ?_⟩; (obtain ⟨hcq, hfq⟩ := hwq.cells; (try go_simp); first | done | rfl | exact ⟨rfl, rfl⟩ | (first | (go_at_call 38; with_reducible exact up_of hwq (hC4 _)) | (go_at_call 38; with_reducible exact up_of hwq (hC5 _)) | (go_at_call 39; with_reducible exact up_of hwq (hO1 _)) | (go_at_call 39; with_reducible exact up_of hwq (hO2 _)) | (go_at_call 40; with_reducible exact up_of hwq (hT0 _)) | (go_at_call 40; with_reducible exact up_of hwq (hT1 _)))); clear hK K))
    as_aux_lemma =>
      iterate 8 (refine wpQuiet_step (fun K hK => ?_); go_simp; first | (refine hK _ ?_; clear hK K) | (apply Exists.intro; refine ⟨fun wq hwq => ?_, hK _ ?_⟩; (obtain ⟨hcq, hfq⟩ := hwq.cells; (try go_simp); first | done | rfl | exact ⟨rfl, rfl⟩ | (first | (go_at_call 38; with_reducible exact up_of hwq (hC4 _)) | (go_at_call 38; with_reducible exact up_of hwq (hC5 _)) | (go_at_call 39; with_reducible exact up_of hwq (hO1 _)) | (go_at_call 39; with_reducible exact up_of hwq (hO2 _)) | (go_at_call 40; with_reducible exact up_of hwq (hT0 _)) | (go_at_call 40; with_reducible exact up_of hwq (hT1 _)))); clear hK K))
      as_aux_lemma =>
        iterate 8 (refine wpQuiet_step (fun K hK => ?_); go_simp; first | (refine hK _ ?_; clear hK K) | (apply Exists.intro; refine ⟨fun wq hwq => ?_, hK _ ?_⟩; (obtain ⟨hcq, hfq⟩ := hwq.cells; (try go_simp); first | done | rfl | exact ⟨rfl, rfl⟩ | (first | (go_at_call 38; with_reducible exact up_of hwq (hC4 _)) | (go_at_call 38; with_reducible exact up_of hwq (hC5 _)) | (go_at_call 39; with_reducible exact up_of hwq (hO1 _)) | (go_at_call 39; with_reducible exact up_of hwq (hO2 _)) | (go_at_call 40; with_reducible exact up_of hwq (hT0 _)) | (go_at_call 40; with_reducible exact up_of hwq (hT1 _)))); clear hK K))
        as_aux_lemma =>
          iterate 8 (refine wpQuiet_step (fun K hK => ?_); go_simp; first | (refine hK _ ?_; clear hK K) | (apply Exists.intro; refine ⟨fun wq hwq => ?_, hK _ ?_⟩; (obtain ⟨hcq, hfq⟩ := hwq.cells; (try go_simp); first | done | rfl | exact ⟨rfl, rfl⟩ | (first | (go_at_call 38; with_reducible exact up_of hwq (hC4 _)) | (go_at_call 38; with_reducible exact up_of hwq (hC5 _)) | (go_at_call 39; with_reducible exact up_of hwq (hO1 _)) | (go_at_call 39; with_reducible exact up_of hwq (hO2 _)) | (go_at_call 40; with_reducible exact up_of hwq (hT0 _)) | (go_at_call 40; with_reducible exact up_of hwq (hT1 _)))); clear hK K))
          as_aux_lemma =>
            iterate 8 (refine wpQuiet_step (fun K hK => ?_); go_simp; first | (refine hK _ ?_; clear hK K) | (apply Exists.intro; refine ⟨fun wq hwq => ?_, hK _ ?_⟩; (obtain ⟨hcq, hfq⟩ := hwq.cells; (try go_simp); first | done | rfl | exact ⟨rfl, rfl⟩ | (first | (go_at_call 38; with_reducible exact up_of hwq (hC4 _)) | (go_at_call 38; with_reducible exact up_of hwq (hC5 _)) | (go_at_call 39; with_reducible exact up_of hwq (hO1 _)) | (go_at_call 39; with_reducible exact up_of hwq (hO2 _)) | (go_at_call 40; with_reducible exact up_of hwq (hT0 _)) | (go_at_call 40; with_reducible exact up_of hwq (hT1 _)))); clear hK K))
            as_aux_lemma =>
              iterate 8 (refine wpQuiet_step (fun K hK => ?_); go_simp; first | (refine hK _ ?_; clear hK K) | (apply Exists.intro; refine ⟨fun wq hwq => ?_, hK _ ?_⟩; (obtain ⟨hcq, hfq⟩ := hwq.cells; (try go_simp); first | done | rfl | exact ⟨rfl, rfl⟩ | (first | (go_at_call 38; with_reducible exact up_of hwq (hC4 _)) | (go_at_call 38; with_reducible exact up_of hwq (hC5 _)) | (go_at_call 39; with_reducible exact up_of hwq (hO1 _)) | (go_at_call 39; with_reducible exact up_of hwq (hO2 _)) | (go_at_call 40; with_reducible exact up_of hwq (hT0 _)) | (go_at_call 40; with_reducible exact up_of hwq (hT1 _)))); clear hK K))
              as_aux_lemma =>
                repeat (refine wpQuiet_step (fun K hK => ?_); go_simp; first | (refine hK _ ?_; clear hK K) | (apply Exists.intro; refine ⟨fun wq hwq => ?_, hK _ ?_⟩; (obtain ⟨hcq, hfq⟩ := hwq.cells; (try go_simp); first | done | rfl | exact ⟨rfl, rfl⟩ | (first | (go_at_call 38; with_reducible exact up_of hwq (hC4 _)) | (go_at_call 38; with_reducible exact up_of hwq (hC5 _)) | (go_at_call 39; with_reducible exact up_of hwq (hO1 _)) | (go_at_call 39; with_reducible exact up_of hwq (hO2 _)) | (go_at_call 40; with_reducible exact up_of hwq (hT0 _)) | (go_at_call 40; with_reducible exact up_of hwq (hT1 _)))); clear hK K))
                refine wpQuiet_nil ?_
                intro wz hbz
                go_wp2
                go_ret
                exact ⟨rfl, HU.out.trans hbz⟩
end Go.Proofs.Ytlpbmdoggcclpaa
