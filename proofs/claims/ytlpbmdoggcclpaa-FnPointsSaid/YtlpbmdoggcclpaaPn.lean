/- The walk of the law FnPoints: it returns true. No condition. -/
import Derived.Test.YtlpbmdoggcclpaaPn0
namespace Go.Proofs.Ytlpbmdoggcclpaa
open Go.RowKit
set_option linter.unusedVariables false
set_option maxHeartbeats 8000000 in
set_option maxRecDepth 100000 in
theorem law_FnPoints (u : Value) (n : Nat) (B : Nat → Int) (w : World) (hm : n ≤ maxLen) (hA : Sl w 0 w.heap.size 1 u n (bytF B)) (hB : ∀ i, i < n → 0 ≤ B i ∧ B i ≤ 255) :
    Calls Try.prog 6 #[u] w fun e w' => e = .returned (.bool true) ∧ Up w w' := by
  by_cases hn : n ≤ 1048576
  rotate_left
  · have hd : decide (1048576 < n) = true := decide_eq_true (by omega)
    go_enter Try.func6, Try.ntmps6
    go_wp2_with fail
    (go_at_call 19; (with_reducible refine (big_any _ _ _ _ _ _ hA hm).mono ?_); rintro e wx ⟨rfl, rfl⟩)
    go_wp2
    go_ret
    exact ⟨rfl, (by repeat (first | with_reducible exact Up.refl _ | with_reducible refine Up.alloc ?_ _ | with_reducible refine Up.drew ?_ | with_reducible refine Up.drewN ?_ _ | (with_reducible refine Up.setCell ?_ (by first | omega | (simp; done) | (simp; omega)) _) | with_reducible assumption | (with_reducible refine Up.trans ?_ (by with_reducible assumption))))⟩
  have hd : decide (1048576 < n) = false := decide_eq_false (by omega)
  go_enter Try.func6, Try.ntmps6
  go_wp2_with fail
  (go_at_call 19; (with_reducible refine (big_any _ _ _ _ _ _ hA hm).mono ?_); rintro e wx ⟨rfl, rfl⟩)
  go_wp2_with fail
  (go_at_call 28; (with_reducible refine (DrawPoints_any _ _ _ _ _ _ hA hn hB).mono ?_); rintro e w1 ⟨x0, y0, x1, y1, x2, y2, rfl, b0, b1, b2, hU1⟩)
  obtain ⟨w2, hw2⟩ : ∃ w2, ((w1.alloc (.cells #[.int .i64 x0, .int .i64 y0] 54)).alloc (.cells #[.int .i64 x1, .int .i64 y1] 54)).alloc (.cells #[.int .i64 x2, .int .i64 y2] 54) = w2 := ⟨_, rfl⟩
  have hU12 : Up w1 w2 := by rw [← hw2]; exact (((Up.refl w1).alloc _).alloc _).alloc _
  have hU2 := hU1.trans hU12
  have Ha : Hid (PB2 w2 w1.heap.size x0 y0) := Lib.hid (by rw [← hw2]; exact ((PB2.new w1 _ x0 y0).up (Up.alloc (Up.refl _) _)).up (Up.alloc (Up.refl _) _))
  have Hb : Hid (PB2 w2 (w1.heap.size + 1) x1 y1) := Lib.hid (by
    rw [← hw2]
    have h := PB2.new (w1.alloc (.cells #[.int .i64 x0, .int .i64 y0] 54)) 54 x1 y1
    simp only [World.size_alloc] at h
    exact h.up (Up.alloc (Up.refl _) _))
  have Hc : Hid (PB2 w2 (w1.heap.size + 1 + 1) x2 y2) := Lib.hid (by
    rw [← hw2]
    have h := PB2.new ((w1.alloc (.cells #[.int .i64 x0, .int .i64 y0] 54)).alloc (.cells #[.int .i64 x1, .int .i64 y1] 54)) 54 x2 y2
    simp only [World.size_alloc] at h
    exact h)
  go_wp2_with fail
  (go_at_call 29; (with_reducible refine (at_any _ _ _ _ _ _ (hA.up hU2) hn hB).mono ?_); rintro e wx ⟨q, rfl, hq1, hq2, rfl⟩)
  have hqm : (q.tmod 11) = q % 11 := Int.tmod_eq_emod_of_nonneg hq1
  obtain ⟨m, hmm⟩ : ∃ m, q % 11 - 5 = m := ⟨_, rfl⟩
  have hm1 : -5 ≤ m := by omega
  have hm2 : m ≤ 5 := by omega
  have a0 := ptB_in (x := x0) (y := y0) (by omega) (by omega) (by omega) (by omega)
  have a1 := ptB_in (x := x1) (y := y1) (by omega) (by omega) (by omega) (by omega)
  have a2 := ptB_in (x := x2) (y := y2) (by omega) (by omega) (by omega) (by omega)
  have c0 := ptB_in (x := 2 * m - x0) (y := y0) (by omega) (by omega) (by omega) (by omega)
  have c1 := ptB_in (x := 2 * m - x1) (y := y1) (by omega) (by omega) (by omega) (by omega)
  have c2 := ptB_in (x := 2 * m - x2) (y := y2) (by omega) (by omega) (by omega) (by omega)
  have hmI : inB (-60) m 60 = true := by simp [inB]; omega
  have mi : ∀ x y, ptB x y = true → miX x y m = 2 * m - x := fun x y h => by rw [miX, h, hmI]; rfl
  have hMa := fun W => MirrorPoint_any x0 y0 m W
  have hMb := fun W => MirrorPoint_any x1 y1 m W
  have hMc := fun W => MirrorPoint_any x2 y2 m W
  have hMu := fun W => MirrorPoint_any (2 * m - x0) y0 m W
  rw [mi _ _ a0] at hMa
  rw [mi _ _ a1] at hMb
  rw [mi _ _ a2] at hMc
  rw [mi _ _ c0, show 2 * m - (2 * m - x0) = x0 by omega] at hMu
  have hMT := fun W => MiddleTwice_any x0 y0 (2 * m - x0) y0 W
  rw [show mtX x0 y0 (2 * m - x0) y0 = 2 * m by rw [mtX, a0, c0]; simp; omega, show mtY x0 y0 (2 * m - x0) y0 = 2 * y0 by rw [mtY, a0, c0]; simp; omega] at hMT
  have hS1 := fun W => SideOf_any x0 y0 x1 y1 x2 y2 W
  have hS2 := fun W => SideOf_any (2 * m - x0) y0 (2 * m - x1) y1 (2 * m - x2) y2 W
  have hS3 := fun W => SideOf_any x1 y1 x2 y2 x0 y0 W
  have hS4 := fun W => SideOf_any x1 y1 x0 y0 x2 y2 W
  have hS5 := fun W => SideOf_any x0 y0 x1 y1 x1 y1 W
  rw [sd_in a0 a1 a2] at hS1
  rw [sd_in c0 c1 c2, side_mirror] at hS2
  rw [sd_in a1 a2 a0, side_turn] at hS3
  rw [sd_in a1 a0 a2, side_swap] at hS4
  rw [sd_in a0 a1 a1, side_same] at hS5
  have hQ1 := fun W => SquareOf_any x0 y0 x1 y1 W
  have hQ2 := fun W => SquareOf_any (2 * m - x0) y0 (2 * m - x1) y1 W
  have hQ3 := fun W => SquareOf_any x1 y1 x0 y0 W
  rw [sq_in a0 a1] at hQ1
  rw [sq_in c0 c1, sq_mirror] at hQ2
  rw [sq_in a1 a0, sq_swap] at hQ3
  have hOK := fun W => PointOk_any x0 y0 W
  rw [a0] at hOK
  have hT0 := fun W => PointText_any x0 y0 W
  have hT1 := fun W => PointText_any x1 y1 W
  rw [ptT_yes a0] at hT0
  rw [ptT_yes a1] at hT1
  have hbd := side_bd b0 b1 b2
  have hz := sq_zero (x := x0) (y := y0) (z := x1) (t := y1)
  have hn0 : x0 = x1 → y0 = y1 → sideI x0 y0 x1 y1 x2 y2 = 0 := by rintro rfl rfl; unfold sideI; grind
  generalize sideI x0 y0 x1 y1 x2 y2 = N at *
  generalize (x0 - x1) * (x0 - x1) + (y0 - y1) * (y0 - y1) = S at *
  generalize hp0 : 2 * m - x0 = p0 at *
  generalize hp1 : 2 * m - x1 = p1 at *
  generalize hp2 : 2 * m - x2 = p2 at *
  have hTI : pT x0 y0 = pT x1 y1 → x0 = x1 ∧ y0 = y1 := pT_inj
  obtain ⟨hN1, hN2⟩ := hbd
  have HN0 := Lib.hid hn0
  clear hn0
  have hw3 := IntWalk.i64_in (-N) (by omega)
  have hw4 := IntWalk.i64_in N (by omega)
  have hw5 := IntWalk.i64_in (2 * m) (by omega)
  have hw6 := IntWalk.i64_in (2 * y0) (by omega)
  have HC0 := Lib.hid (And.intro hp0 (And.intro hp1 hp2))
  have HB0 := Lib.hid (And.intro b0 (And.intro b1 b2))
  have HZ := Lib.hid hz
  have HTI := Lib.hid hTI
  have HQM := Lib.hid hqm
  clear hp0 hp1 hp2 hz hTI a0 a1 a2 c0 c1 c2 mi hmI
  obtain ⟨hy1, hy2⟩ := And.intro HB0.out.1.2.2.1 HB0.out.1.2.2.2
  obtain ⟨hx1a, hx1b⟩ := And.intro HB0.out.1.1 HB0.out.1.2.1
  have qa0 := Ha.out.1
  have qa1 := Ha.out.2.1
  have qal := Ha.out.2.2
  have qb0 := Hb.out.1
  have qb1 := Hb.out.2.1
  have qbl := Hb.out.2.2
  have qc0 := Hc.out.1
  have qc1 := Hc.out.2.1
  have qcl := Hc.out.2.2
  go_wp2_with fail
  (go_at_call 30; (with_reducible refine (hMa _).mono ?_); rintro e w3 ⟨rfl, hb3⟩)
  replace Ha := Lib.hid (Ha.out.up hb3)
  replace Hb := Lib.hid (Hb.out.up hb3)
  replace Hc := Lib.hid (Hc.out.up hb3)
  clear qa0 qa1 qal qb0 qb1 qbl qc0 qc1 qcl
  have hU3 := hU2.trans hb3
  have hv3 : Up w3 (w3.alloc (.cells #[.int .i64 p0, .int .i64 y0] 54)) := Up.alloc (Up.refl _) _
  replace Ha := Lib.hid (Ha.out.up hv3)
  replace Hb := Lib.hid (Hb.out.up hv3)
  replace Hc := Lib.hid (Hc.out.up hv3)
  have Hu := Lib.hid (PB2.new w3 54 p0 y0)
  replace hU3 := hU3.trans hv3
  have qa0 := Ha.out.1
  have qa1 := Ha.out.2.1
  have qal := Ha.out.2.2
  have qb0 := Hb.out.1
  have qb1 := Hb.out.2.1
  have qbl := Hb.out.2.2
  have qc0 := Hc.out.1
  have qc1 := Hc.out.2.1
  have qcl := Hc.out.2.2
  have qu0 := Hu.out.1
  have qu1 := Hu.out.2.1
  have qul := Hu.out.2.2
  go_wp2_with fail
  (go_at_call 30; (with_reducible refine (hMb _).mono ?_); rintro e w4 ⟨rfl, hb4⟩)
  replace Ha := Lib.hid (Ha.out.up hb4)
  replace Hb := Lib.hid (Hb.out.up hb4)
  replace Hc := Lib.hid (Hc.out.up hb4)
  replace Hu := Lib.hid (Hu.out.up hb4)
  clear qa0 qa1 qal qb0 qb1 qbl qc0 qc1 qcl qu0 qu1 qul
  have hU4 := hU3.trans hb4
  have hv4 : Up w4 (w4.alloc (.cells #[.int .i64 p1, .int .i64 y1] 54)) := Up.alloc (Up.refl _) _
  replace Ha := Lib.hid (Ha.out.up hv4)
  replace Hb := Lib.hid (Hb.out.up hv4)
  replace Hc := Lib.hid (Hc.out.up hv4)
  replace Hu := Lib.hid (Hu.out.up hv4)
  have Hv := Lib.hid (PB2.new w4 54 p1 y1)
  replace hU4 := hU4.trans hv4
  have qa0 := Ha.out.1
  have qa1 := Ha.out.2.1
  have qal := Ha.out.2.2
  have qb0 := Hb.out.1
  have qb1 := Hb.out.2.1
  have qbl := Hb.out.2.2
  have qc0 := Hc.out.1
  have qc1 := Hc.out.2.1
  have qcl := Hc.out.2.2
  have qu0 := Hu.out.1
  have qu1 := Hu.out.2.1
  have qul := Hu.out.2.2
  have qv0 := Hv.out.1
  have qv1 := Hv.out.2.1
  have qvl := Hv.out.2.2
  go_wp2_with fail
  (go_at_call 30; (with_reducible refine (hMc _).mono ?_); rintro e w5 ⟨rfl, hb5⟩)
  replace Ha := Lib.hid (Ha.out.up hb5)
  replace Hb := Lib.hid (Hb.out.up hb5)
  replace Hc := Lib.hid (Hc.out.up hb5)
  replace Hu := Lib.hid (Hu.out.up hb5)
  replace Hv := Lib.hid (Hv.out.up hb5)
  clear qa0 qa1 qal qb0 qb1 qbl qc0 qc1 qcl qu0 qu1 qul qv0 qv1 qvl
  have hU5 := hU4.trans hb5
  have hv5 : Up w5 (w5.alloc (.cells #[.int .i64 p2, .int .i64 y2] 54)) := Up.alloc (Up.refl _) _
  replace Ha := Lib.hid (Ha.out.up hv5)
  replace Hb := Lib.hid (Hb.out.up hv5)
  replace Hc := Lib.hid (Hc.out.up hv5)
  replace Hu := Lib.hid (Hu.out.up hv5)
  replace Hv := Lib.hid (Hv.out.up hv5)
  have Hz := Lib.hid (PB2.new w5 54 p2 y2)
  replace hU5 := hU5.trans hv5
  have qa0 := Ha.out.1
  have qa1 := Ha.out.2.1
  have qal := Ha.out.2.2
  have qb0 := Hb.out.1
  have qb1 := Hb.out.2.1
  have qbl := Hb.out.2.2
  have qc0 := Hc.out.1
  have qc1 := Hc.out.2.1
  have qcl := Hc.out.2.2
  have qu0 := Hu.out.1
  have qu1 := Hu.out.2.1
  have qul := Hu.out.2.2
  have qv0 := Hv.out.1
  have qv1 := Hv.out.2.1
  have qvl := Hv.out.2.2
  have qz0 := Hz.out.1
  have qz1 := Hz.out.2.1
  have qzl := Hz.out.2.2
  go_wp2_with fail
  (go_at_call 31; (with_reducible refine (hMT _).mono ?_); rintro e w6 ⟨rfl, hb6⟩)
  replace Ha := Lib.hid (Ha.out.up hb6)
  replace Hb := Lib.hid (Hb.out.up hb6)
  replace Hc := Lib.hid (Hc.out.up hb6)
  replace Hu := Lib.hid (Hu.out.up hb6)
  replace Hv := Lib.hid (Hv.out.up hb6)
  replace Hz := Lib.hid (Hz.out.up hb6)
  clear qa0 qa1 qal qb0 qb1 qbl qc0 qc1 qcl qu0 qu1 qul qv0 qv1 qvl qz0 qz1 qzl
  have hU6 := hU5.trans hb6
  have qa0 := Ha.out.1
  have qa1 := Ha.out.2.1
  have qal := Ha.out.2.2
  have qb0 := Hb.out.1
  have qb1 := Hb.out.2.1
  have qbl := Hb.out.2.2
  have qc0 := Hc.out.1
  have qc1 := Hc.out.2.1
  have qcl := Hc.out.2.2
  have qu0 := Hu.out.1
  have qu1 := Hu.out.2.1
  have qul := Hu.out.2.2
  have qv0 := Hv.out.1
  have qv1 := Hv.out.2.1
  have qvl := Hv.out.2.2
  have qz0 := Hz.out.1
  have qz1 := Hz.out.2.1
  have qzl := Hz.out.2.2
  go_wp2_with fail
  (go_at_call 32; (with_reducible refine (hS1 _).mono ?_); rintro e w7 ⟨rfl, hb7⟩)
  replace Ha := Lib.hid (Ha.out.up hb7)
  replace Hb := Lib.hid (Hb.out.up hb7)
  replace Hc := Lib.hid (Hc.out.up hb7)
  replace Hu := Lib.hid (Hu.out.up hb7)
  replace Hv := Lib.hid (Hv.out.up hb7)
  replace Hz := Lib.hid (Hz.out.up hb7)
  clear qa0 qa1 qal qb0 qb1 qbl qc0 qc1 qcl qu0 qu1 qul qv0 qv1 qvl qz0 qz1 qzl
  have hU7 := hU6.trans hb7
  have qa0 := Ha.out.1
  have qa1 := Ha.out.2.1
  have qal := Ha.out.2.2
  have qb0 := Hb.out.1
  have qb1 := Hb.out.2.1
  have qbl := Hb.out.2.2
  have qc0 := Hc.out.1
  have qc1 := Hc.out.2.1
  have qcl := Hc.out.2.2
  have qu0 := Hu.out.1
  have qu1 := Hu.out.2.1
  have qul := Hu.out.2.2
  have qv0 := Hv.out.1
  have qv1 := Hv.out.2.1
  have qvl := Hv.out.2.2
  have qz0 := Hz.out.1
  have qz1 := Hz.out.2.1
  have qzl := Hz.out.2.2
  go_wp2_with fail
  have hE1 : (S == 0) = decide (x0 = x1 ∧ y0 = y1) := by
    by_cases h : x0 = x1 ∧ y0 = y1
    · rw [decide_eq_true h, beq_iff_eq]; exact HZ.out.2 h
    · rw [decide_eq_false h, beq_eq_false_iff_ne]; exact fun e => h (HZ.out.1 e)
  have hE2 : (pT x0 y0 == pT x1 y1) = decide (x0 = x1 ∧ y0 = y1) := by
    by_cases h : x0 = x1 ∧ y0 = y1
    · rw [decide_eq_true h, beq_iff_eq, h.1, h.2]
    · rw [decide_eq_false h, beq_eq_false_iff_ne]; exact fun e => h (HTI.out e)
  have hE3 := eq_pt x0 y0 x1 y1
  generalize decide (x0 = x1 ∧ y0 = y1) = E at hE1 hE2 hE3
  generalize pT x0 y0 = T0 at *
  generalize pT x1 y1 = T1 at *
  have HU := Lib.hid hU7
  clear HZ HTI HN0 HC0 HB0 HQM Ha Hb Hc Hu Hv Hz hA hB hU7 hMa hMb hMc hMT hS1
  refine wp_region_up (by kernel_rfl) (Eq.trans (congrArg (Region.lexB Region.Mode.any) (by kernel_rfl : _ = regOf 10 Try.f6)) pn_lex) ?_
  (try simp only [List.cons_append, List.nil_append])
  as_aux_lemma =>
    iterate 8 (refine wpQuiet_step (fun K hK => ?_); go_simp; first | (refine hK _ ?_; clear hK K) | (apply Exists.intro; refine ⟨fun wq hwq => ?_, hK _ ?_⟩; (obtain ⟨hcq, hfq⟩ := hwq.cells; (try go_simp); first | done | rfl | exact ⟨rfl, rfl⟩ | (first | (go_at_call 32; with_reducible exact up_of hwq (hS2 _)) | (go_at_call 32; with_reducible exact up_of hwq (hS3 _)) | (go_at_call 32; with_reducible exact up_of hwq (hS4 _)) | (go_at_call 32; with_reducible exact up_of hwq (hS5 _)) | (go_at_call 30; with_reducible exact up_of hwq (hMu _)) | (go_at_call 33; with_reducible exact up_of hwq (hQ1 _)) | (go_at_call 33; with_reducible exact up_of hwq (hQ2 _)) | (go_at_call 33; with_reducible exact up_of hwq (hQ3 _)) | (go_at_call 34; with_reducible exact up_of hwq (hOK _)) | (go_at_call 35; with_reducible exact up_of hwq (hT0 _)) | (go_at_call 35; with_reducible exact up_of hwq (hT1 _)))); clear hK K))
    as_aux_lemma =>
      iterate 8 (refine wpQuiet_step (fun K hK => ?_); go_simp; first | (refine hK _ ?_; clear hK K) | (apply Exists.intro; refine ⟨fun wq hwq => ?_, hK _ ?_⟩; (obtain ⟨hcq, hfq⟩ := hwq.cells; (try go_simp); first | done | rfl | exact ⟨rfl, rfl⟩ | (first | (go_at_call 32; with_reducible exact up_of hwq (hS2 _)) | (go_at_call 32; with_reducible exact up_of hwq (hS3 _)) | (go_at_call 32; with_reducible exact up_of hwq (hS4 _)) | (go_at_call 32; with_reducible exact up_of hwq (hS5 _)) | (go_at_call 30; with_reducible exact up_of hwq (hMu _)) | (go_at_call 33; with_reducible exact up_of hwq (hQ1 _)) | (go_at_call 33; with_reducible exact up_of hwq (hQ2 _)) | (go_at_call 33; with_reducible exact up_of hwq (hQ3 _)) | (go_at_call 34; with_reducible exact up_of hwq (hOK _)) | (go_at_call 35; with_reducible exact up_of hwq (hT0 _)) | (go_at_call 35; with_reducible exact up_of hwq (hT1 _)))); clear hK K))
      as_aux_lemma =>
        iterate 8 (refine wpQuiet_step (fun K hK => ?_); go_simp; first | (refine hK _ ?_; clear hK K) | (apply Exists.intro; refine ⟨fun wq hwq => ?_, hK _ ?_⟩; (obtain ⟨hcq, hfq⟩ := hwq.cells; (try go_simp); first | done | rfl | exact ⟨rfl, rfl⟩ | (first | (go_at_call 32; with_reducible exact up_of hwq (hS2 _)) | (go_at_call 32; with_reducible exact up_of hwq (hS3 _)) | (go_at_call 32; with_reducible exact up_of hwq (hS4 _)) | (go_at_call 32; with_reducible exact up_of hwq (hS5 _)) | (go_at_call 30; with_reducible exact up_of hwq (hMu _)) | (go_at_call 33; with_reducible exact up_of hwq (hQ1 _)) | (go_at_call 33; with_reducible exact up_of hwq (hQ2 _)) | (go_at_call 33; with_reducible exact up_of hwq (hQ3 _)) | (go_at_call 34; with_reducible exact up_of hwq (hOK _)) | (go_at_call 35; with_reducible exact up_of hwq (hT0 _)) | (go_at_call 35; with_reducible exact up_of hwq (hT1 _)))); clear hK K))
        as_aux_lemma =>
          iterate 8 (refine wpQuiet_step (fun K hK => ?_); go_simp; first | (refine hK _ ?_; clear hK K) | (apply Exists.intro; refine ⟨fun wq hwq => ?_, hK _ ?_⟩; (obtain ⟨hcq, hfq⟩ := hwq.cells; (try go_simp); first | done | rfl | exact ⟨rfl, rfl⟩ | (first | (go_at_call 32; with_reducible exact up_of hwq (hS2 _)) | (go_at_call 32; with_reducible exact up_of hwq (hS3 _)) | (go_at_call 32; with_reducible exact up_of hwq (hS4 _)) | (go_at_call 32; with_reducible exact up_of hwq (hS5 _)) | (go_at_call 30; with_reducible exact up_of hwq (hMu _)) | (go_at_call 33; with_reducible exact up_of hwq (hQ1 _)) | (go_at_call 33; with_reducible exact up_of hwq (hQ2 _)) | (go_at_call 33; with_reducible exact up_of hwq (hQ3 _)) | (go_at_call 34; with_reducible exact up_of hwq (hOK _)) | (go_at_call 35; with_reducible exact up_of hwq (hT0 _)) | (go_at_call 35; with_reducible exact up_of hwq (hT1 _)))); clear hK K))
          as_aux_lemma =>
            iterate 8 (refine wpQuiet_step (fun K hK => ?_); go_simp; first | (refine hK _ ?_; clear hK K) | (apply Exists.intro; refine ⟨fun wq hwq => ?_, hK _ ?_⟩; (obtain ⟨hcq, hfq⟩ := hwq.cells; (try go_simp); first | done | rfl | exact ⟨rfl, rfl⟩ | (first | (go_at_call 32; with_reducible exact up_of hwq (hS2 _)) | (go_at_call 32; with_reducible exact up_of hwq (hS3 _)) | (go_at_call 32; with_reducible exact up_of hwq (hS4 _)) | (go_at_call 32; with_reducible exact up_of hwq (hS5 _)) | (go_at_call 30; with_reducible exact up_of hwq (hMu _)) | (go_at_call 33; with_reducible exact up_of hwq (hQ1 _)) | (go_at_call 33; with_reducible exact up_of hwq (hQ2 _)) | (go_at_call 33; with_reducible exact up_of hwq (hQ3 _)) | (go_at_call 34; with_reducible exact up_of hwq (hOK _)) | (go_at_call 35; with_reducible exact up_of hwq (hT0 _)) | (go_at_call 35; with_reducible exact up_of hwq (hT1 _)))); clear hK K))
            as_aux_lemma =>
              iterate 8 (refine wpQuiet_step (fun K hK => ?_); go_simp; first | (refine hK _ ?_; clear hK K) | (apply Exists.intro; refine ⟨fun wq hwq => ?_, hK _ ?_⟩; (obtain ⟨hcq, hfq⟩ := hwq.cells; (try go_simp); first | done | rfl | exact ⟨rfl, rfl⟩ | (first | (go_at_call 32; with_reducible exact up_of hwq (hS2 _)) | (go_at_call 32; with_reducible exact up_of hwq (hS3 _)) | (go_at_call 32; with_reducible exact up_of hwq (hS4 _)) | (go_at_call 32; with_reducible exact up_of hwq (hS5 _)) | (go_at_call 30; with_reducible exact up_of hwq (hMu _)) | (go_at_call 33; with_reducible exact up_of hwq (hQ1 _)) | (go_at_call 33; with_reducible exact up_of hwq (hQ2 _)) | (go_at_call 33; with_reducible exact up_of hwq (hQ3 _)) | (go_at_call 34; with_reducible exact up_of hwq (hOK _)) | (go_at_call 35; with_reducible exact up_of hwq (hT0 _)) | (go_at_call 35; with_reducible exact up_of hwq (hT1 _)))); clear hK K))
              as_aux_lemma =>
                iterate 8 (refine wpQuiet_step (fun K hK => ?_); go_simp; first | (refine hK _ ?_; clear hK K) | (apply Exists.intro; refine ⟨fun wq hwq => ?_, hK _ ?_⟩; (obtain ⟨hcq, hfq⟩ := hwq.cells; (try go_simp); first | done | rfl | exact ⟨rfl, rfl⟩ | (first | (go_at_call 32; with_reducible exact up_of hwq (hS2 _)) | (go_at_call 32; with_reducible exact up_of hwq (hS3 _)) | (go_at_call 32; with_reducible exact up_of hwq (hS4 _)) | (go_at_call 32; with_reducible exact up_of hwq (hS5 _)) | (go_at_call 30; with_reducible exact up_of hwq (hMu _)) | (go_at_call 33; with_reducible exact up_of hwq (hQ1 _)) | (go_at_call 33; with_reducible exact up_of hwq (hQ2 _)) | (go_at_call 33; with_reducible exact up_of hwq (hQ3 _)) | (go_at_call 34; with_reducible exact up_of hwq (hOK _)) | (go_at_call 35; with_reducible exact up_of hwq (hT0 _)) | (go_at_call 35; with_reducible exact up_of hwq (hT1 _)))); clear hK K))
                as_aux_lemma =>
                  iterate 8 (refine wpQuiet_step (fun K hK => ?_); go_simp; first | (refine hK _ ?_; clear hK K) | (apply Exists.intro; refine ⟨fun wq hwq => ?_, hK _ ?_⟩; (obtain ⟨hcq, hfq⟩ := hwq.cells; (try go_simp); first | done | rfl | exact ⟨rfl, rfl⟩ | (first | (go_at_call 32; with_reducible exact up_of hwq (hS2 _)) | (go_at_call 32; with_reducible exact up_of hwq (hS3 _)) | (go_at_call 32; with_reducible exact up_of hwq (hS4 _)) | (go_at_call 32; with_reducible exact up_of hwq (hS5 _)) | (go_at_call 30; with_reducible exact up_of hwq (hMu _)) | (go_at_call 33; with_reducible exact up_of hwq (hQ1 _)) | (go_at_call 33; with_reducible exact up_of hwq (hQ2 _)) | (go_at_call 33; with_reducible exact up_of hwq (hQ3 _)) | (go_at_call 34; with_reducible exact up_of hwq (hOK _)) | (go_at_call 35; with_reducible exact up_of hwq (hT0 _)) | (go_at_call 35; with_reducible exact up_of hwq (hT1 _)))); clear hK K))
                  as_aux_lemma =>
                    iterate 8 (refine wpQuiet_step (fun K hK => ?_); go_simp; first | (refine hK _ ?_; clear hK K) | (apply Exists.intro; refine ⟨fun wq hwq => ?_, hK _ ?_⟩; (obtain ⟨hcq, hfq⟩ := hwq.cells; (try go_simp); first | done | rfl | exact ⟨rfl, rfl⟩ | (first | (go_at_call 32; with_reducible exact up_of hwq (hS2 _)) | (go_at_call 32; with_reducible exact up_of hwq (hS3 _)) | (go_at_call 32; with_reducible exact up_of hwq (hS4 _)) | (go_at_call 32; with_reducible exact up_of hwq (hS5 _)) | (go_at_call 30; with_reducible exact up_of hwq (hMu _)) | (go_at_call 33; with_reducible exact up_of hwq (hQ1 _)) | (go_at_call 33; with_reducible exact up_of hwq (hQ2 _)) | (go_at_call 33; with_reducible exact up_of hwq (hQ3 _)) | (go_at_call 34; with_reducible exact up_of hwq (hOK _)) | (go_at_call 35; with_reducible exact up_of hwq (hT0 _)) | (go_at_call 35; with_reducible exact up_of hwq (hT1 _)))); clear hK K))
                    as_aux_lemma =>
                      iterate 8 (refine wpQuiet_step (fun K hK => ?_); go_simp; first | (refine hK _ ?_; clear hK K) | (apply Exists.intro; refine ⟨fun wq hwq => ?_, hK _ ?_⟩; (obtain ⟨hcq, hfq⟩ := hwq.cells; (try go_simp); first | done | rfl | exact ⟨rfl, rfl⟩ | (first | (go_at_call 32; with_reducible exact up_of hwq (hS2 _)) | (go_at_call 32; with_reducible exact up_of hwq (hS3 _)) | (go_at_call 32; with_reducible exact up_of hwq (hS4 _)) | (go_at_call 32; with_reducible exact up_of hwq (hS5 _)) | (go_at_call 30; with_reducible exact up_of hwq (hMu _)) | (go_at_call 33; with_reducible exact up_of hwq (hQ1 _)) | (go_at_call 33; with_reducible exact up_of hwq (hQ2 _)) | (go_at_call 33; with_reducible exact up_of hwq (hQ3 _)) | (go_at_call 34; with_reducible exact up_of hwq (hOK _)) | (go_at_call 35; with_reducible exact up_of hwq (hT0 _)) | (go_at_call 35; with_reducible exact up_of hwq (hT1 _)))); clear hK K))
                      as_aux_lemma =>
                        iterate 8 (refine wpQuiet_step (fun K hK => ?_); go_simp; first | (refine hK _ ?_; clear hK K) | (apply Exists.intro; refine ⟨fun wq hwq => ?_, hK _ ?_⟩; (obtain ⟨hcq, hfq⟩ := hwq.cells; (try go_simp); first | done | rfl | exact ⟨rfl, rfl⟩ | (first | (go_at_call 32; with_reducible exact up_of hwq (hS2 _)) | (go_at_call 32; with_reducible exact up_of hwq (hS3 _)) | (go_at_call 32; with_reducible exact up_of hwq (hS4 _)) | (go_at_call 32; with_reducible exact up_of hwq (hS5 _)) | (go_at_call 30; with_reducible exact up_of hwq (hMu _)) | (go_at_call 33; with_reducible exact up_of hwq (hQ1 _)) | (go_at_call 33; with_reducible exact up_of hwq (hQ2 _)) | (go_at_call 33; with_reducible exact up_of hwq (hQ3 _)) | (go_at_call 34; with_reducible exact up_of hwq (hOK _)) | (go_at_call 35; with_reducible exact up_of hwq (hT0 _)) | (go_at_call 35; with_reducible exact up_of hwq (hT1 _)))); clear hK K))
                        as_aux_lemma =>
                          repeat (refine wpQuiet_step (fun K hK => ?_); go_simp; first | (refine hK _ ?_; clear hK K) | (apply Exists.intro; refine ⟨fun wq hwq => ?_, hK _ ?_⟩; (obtain ⟨hcq, hfq⟩ := hwq.cells; (try go_simp); first | done | rfl | exact ⟨rfl, rfl⟩ | (first | (go_at_call 32; with_reducible exact up_of hwq (hS2 _)) | (go_at_call 32; with_reducible exact up_of hwq (hS3 _)) | (go_at_call 32; with_reducible exact up_of hwq (hS4 _)) | (go_at_call 32; with_reducible exact up_of hwq (hS5 _)) | (go_at_call 30; with_reducible exact up_of hwq (hMu _)) | (go_at_call 33; with_reducible exact up_of hwq (hQ1 _)) | (go_at_call 33; with_reducible exact up_of hwq (hQ2 _)) | (go_at_call 33; with_reducible exact up_of hwq (hQ3 _)) | (go_at_call 34; with_reducible exact up_of hwq (hOK _)) | (go_at_call 35; with_reducible exact up_of hwq (hT0 _)) | (go_at_call 35; with_reducible exact up_of hwq (hT1 _)))); clear hK K))
                          refine wpQuiet_nil ?_
                          intro wz hbz
                          go_wp2
                          go_ret
                          exact ⟨rfl, HU.out.trans hbz⟩
end Go.Proofs.Ytlpbmdoggcclpaa
