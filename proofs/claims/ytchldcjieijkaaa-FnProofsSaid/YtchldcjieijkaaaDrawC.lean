/- The walk of the draw of a proof. No condition. -/
import Derived.Test.YtchldcjieijkaaaDrawC0
import Derived.Deep.DeepCutAuto
import Derived.Deep.CutBlock
namespace Go.Proofs.Ytchldcjieijkaaa
open Go.RowKit
set_option linter.unusedVariables false
set_option maxHeartbeats 4000000 in
set_option maxRecDepth 100000 in
theorem l15Pair_any (c : Nat) (w w0 : World) (hc : Cur w c) (h0 : w0.heap.size ≤ c) (hu : Up w0 w) : Calls Try.prog 13 #[.pointer (some ⟨c, 0, none⟩)] w (L5P w0) := by
  have hcl := hc.lt
  have hu1 : Up w (w.alloc (.cells #[.slice none 0 0, .slice none 0 0] 27)) := Up.alloc (Up.refl w) _
  have hb0 := heap_alloc_new w (.cells #[.slice none 0 0, .slice none 0 0] 27)
  have hlw := hu.size
  have hs1 : w.heap.size < (w.alloc (.cells #[.slice none 0 0, .slice none 0 0] 27)).heap.size := by simp
  go_enter Try.func13, Try.ntmps13
  go_wp2_with fail
  (go_at_call 24; (with_reducible refine (l10Row_any _ _ w0 (hc.up hu1) h0 (hu.trans hu1)).mono ?_); rintro e w1 ⟨_, rfl, ⟨x0, x1, x2, x3, rfl, v1, v2, v3, v4, v5, v6, v7, v8⟩, hC1, hD1, hU1⟩)
  have hk1 := (hD1.2 w.heap.size hs1 (by omega)).trans hb0
  have hz1 : w.heap.size < w1.heap.size := Nat.lt_of_lt_of_le hs1 hD1.1.1
  have hu2 : Up w1 (w1.alloc (.cells #[.int .i64 x0, .int .i64 x1, .int .i64 x2, .int .i64 x3] 41)) := Up.alloc (Up.refl w1) _
  have hb2 := heap_alloc_new w1 (.cells #[.int .i64 x0, .int .i64 x1, .int .i64 x2, .int .i64 x3] 41)
  have hk2 := (Below.block hu2 w.heap.size hz1).trans hk1
  have hs2 : w1.heap.size < (w1.alloc (.cells #[.int .i64 x0, .int .i64 x1, .int .i64 x2, .int .i64 x3] 41)).heap.size := by simp
  have hs2' : w.heap.size < (w1.alloc (.cells #[.int .i64 x0, .int .i64 x1, .int .i64 x2, .int .i64 x3] 41)).heap.size := by simp; omega
  have hc1l := hC1.lt
  go_wp2_with fail
  (go_at_call 25; (with_reducible refine (l01Below_any _ _ _ w0 (i64_k (by omega) (by omega)) (hC1.up hu2) h0 (hU1.trans hu2)).mono ?_); rintro e w2 ⟨_, rfl, ⟨y, rfl, hy1, hy2⟩, hC2, hD2, hU2⟩)
  have hk3 := (hD2.2 w.heap.size hs2' (by omega)).trans hk2
  have hb3 := (hD2.2 w1.heap.size hs2 (by omega)).trans hb2
  obtain ⟨p, hp⟩ : ∃ p, w1.heap.size = p := ⟨_, rfl⟩
  obtain ⟨f, hf⟩ : ∃ f, 1 + y = f := ⟨_, rfl⟩
  have hf1 : 1 ≤ f := by omega
  have hf2 : f ≤ 3 := by omega
  have hdy := IntWalk.i64_in (1 + y) (by omega)
  rw [hf] at hdy
  rw [hp] at hb3
  have hpq : w.heap.size < p := by omega
  have hcp : c < p := by omega
  have hz2 : p < w2.heap.size := (four_at hb3).2.2.2.2.2
  have hz2' : c < w2.heap.size := by omega
  have d0 := IntWalk.i64_in (-x0) (by omega)
  have d1 := IntWalk.i64_in (-x1) (by omega)
  have d2 := IntWalk.i64_in (-x2) (by omega)
  have d3 := IntWalk.i64_in (-x3) (by omega)
  have m0 := mul_bd (a := -x0) (b := f) 10 3 (by omega) (by omega) (by omega) (by omega)
  have m1 := mul_bd (a := -x1) (b := f) 10 3 (by omega) (by omega) (by omega) (by omega)
  have m3 := mul_bd (a := -x3) (b := f) 2000 3 (by omega) (by omega) (by omega) (by omega)
  have e0 := IntWalk.i64_in (-x0 * f) (by omega)
  have e1 := IntWalk.i64_in (-x1 * f) (by omega)
  have e3 := IntWalk.i64_in (-x3 * f) (by omega)
  have e4 := IntWalk.i64_in (-x3 * f - 1) (by omega)
  have e5 := fun (y2 : Int) (h1 : 0 ≤ y2) (h2 : y2 ≤ 4) => IntWalk.i64_in (-x3 * f - 1 - y2) (by omega)
  have hD2' : ChB c w w2 := (((ChB.refl c w).up hu1).trans (hD1.up hu2)).trans hD2
  obtain ⟨q0, q1, q2, q3, qf, _⟩ := four_at hb3
  have HK := Lib.hid (And.intro q0 (And.intro q1 (And.intro q2 q3)))
  have HB3 := Lib.hid hb3
  have HK3 := Lib.hid hk3
  clear hk1 hk2 hb2 hb0 hD1 hD2 hC1 hU1 hu2 hs2 hs2' hs1 hz1 hy2 q0 q1 q2 q3 hb3 hk3
  go_wp2_with fail
  go_cut [6] (fun p wr => ∃ s3 : Int, L3P c w2 w0 (-x0 * f) (-x1 * f) (-x2) s3 p wr)
  case first =>
    have hua : Up w2 (w2.alloc (.cells #[.int .i64 0, .int .i64 0, .int .i64 0, .int .i64 0] 41)) := Up.alloc (Up.refl w2) _
    have hba := heap_alloc_new w2 (.cells #[.int .i64 0, .int .i64 0, .int .i64 0, .int .i64 0] 41)
    have hpa := (Below.block hua p hz2).trans HB3.out
    have hzd : p < w2.drew.heap.size := hz2
    have hza : p < (w2.alloc (.cells #[.int .i64 0, .int .i64 0, .int .i64 0, .int .i64 0] 41)).drew.heap.size := (by show p < (w2.alloc _).heap.size; simp; omega)
    have hCd : Cur w2.drew c := hC2
    have hUd : Up w0 w2.drew := hU2.drew
    have hCa : Cur (w2.alloc (.cells #[.int .i64 0, .int .i64 0, .int .i64 0, .int .i64 0] 41)).drew c := (by have hq := hC2.up hua; exact hq)
    have hUa : Up w0 (w2.alloc (.cells #[.int .i64 0, .int .i64 0, .int .i64 0, .int .i64 0] 41)).drew := (hU2.trans hua).drew
    have HKd : Hid (w2.drew.cell? ⟨p, 0, none⟩ = some (.int .i64 x0) ∧ w2.drew.cell? ⟨p, 1, none⟩ = some (.int .i64 x1) ∧ w2.drew.cell? ⟨p, 2, none⟩ = some (.int .i64 x2) ∧ w2.drew.cell? ⟨p, 3, none⟩ = some (.int .i64 x3)) := HK
    have hK5 : ∀ w5, ChB c w2.drew w5 → Hid (w5.cell? ⟨p, 0, none⟩ = some (.int .i64 x0) ∧ w5.cell? ⟨p, 1, none⟩ = some (.int .i64 x1) ∧ w5.cell? ⟨p, 2, none⟩ = some (.int .i64 x2) ∧ w5.cell? ⟨p, 3, none⟩ = some (.int .i64 x3)) ∧ True := fun w' hD => ⟨(by
      obtain ⟨g0, g1, g2, g3, gf, _⟩ := four_at ((hD.2 p hz2 (by omega)).trans HB3.out)
      exact ⟨g0, g1, g2, g3⟩), trivial⟩
    have hK6 : ∀ w5, ChB c (w2.alloc (.cells #[.int .i64 0, .int .i64 0, .int .i64 0, .int .i64 0] 41)).drew w5 → Hid (w5.cell? ⟨p, 0, none⟩ = some (.int .i64 x0) ∧ w5.cell? ⟨p, 1, none⟩ = some (.int .i64 x1) ∧ w5.cell? ⟨p, 2, none⟩ = some (.int .i64 x2) ∧ w5.cell? ⟨p, 3, none⟩ = some (.int .i64 x3)) ∧ Hid (w5.cell? ⟨w2.heap.size, 0, none⟩ = some (.int .i64 0) ∧ w5.cell? ⟨w2.heap.size, 1, none⟩ = some (.int .i64 0) ∧ w5.cell? ⟨w2.heap.size, 2, none⟩ = some (.int .i64 0) ∧ w5.cell? ⟨w2.heap.size, 3, none⟩ = some (.int .i64 0) ∧ (∀ x, w5.frozen? ⟨w2.heap.size, x, none⟩ = false) ∧ w2.heap.size < w5.heap.size) := fun w' hD => by
      obtain ⟨g0, g1, g2, g3, gf, _⟩ := four_at ((hD.2 p (by show p < (w2.alloc _).heap.size; simp; omega) (by omega)).trans hpa)
      exact ⟨⟨g0, g1, g2, g3⟩, four_at ((hD.2 w2.heap.size (by show w2.heap.size < (w2.alloc _).heap.size; simp) (by omega)).trans hba)⟩
    have HKa : Hid ((w2.alloc (.cells #[.int .i64 0, .int .i64 0, .int .i64 0, .int .i64 0] 41)).cell? ⟨p, 0, none⟩ = some (.int .i64 x0) ∧ (w2.alloc (.cells #[.int .i64 0, .int .i64 0, .int .i64 0, .int .i64 0] 41)).cell? ⟨p, 1, none⟩ = some (.int .i64 x1) ∧ (w2.alloc (.cells #[.int .i64 0, .int .i64 0, .int .i64 0, .int .i64 0] 41)).cell? ⟨p, 2, none⟩ = some (.int .i64 x2) ∧ (w2.alloc (.cells #[.int .i64 0, .int .i64 0, .int .i64 0, .int .i64 0] 41)).cell? ⟨p, 3, none⟩ = some (.int .i64 x3)) := (by obtain ⟨g0, g1, g2, g3, gf, _⟩ := four_at hpa; exact ⟨g0, g1, g2, g3⟩)
    have HKb : Hid (((w2.alloc (.cells #[.int .i64 0, .int .i64 0, .int .i64 0, .int .i64 0] 41)).drew).cell? ⟨p, 0, none⟩ = some (.int .i64 x0) ∧ ((w2.alloc (.cells #[.int .i64 0, .int .i64 0, .int .i64 0, .int .i64 0] 41)).drew).cell? ⟨p, 1, none⟩ = some (.int .i64 x1) ∧ ((w2.alloc (.cells #[.int .i64 0, .int .i64 0, .int .i64 0, .int .i64 0] 41)).drew).cell? ⟨p, 2, none⟩ = some (.int .i64 x2) ∧ ((w2.alloc (.cells #[.int .i64 0, .int .i64 0, .int .i64 0, .int .i64 0] 41)).drew).cell? ⟨p, 3, none⟩ = some (.int .i64 x3)) := HKa
    clear hua hba hpa
    go_region_held3 (fun w' => w'.cell? ⟨p, 0, none⟩ = some (.int .i64 x0) ∧ w'.cell? ⟨p, 1, none⟩ = some (.int .i64 x1) ∧ w'.cell? ⟨p, 2, none⟩ = some (.int .i64 x2) ∧ w'.cell? ⟨p, 3, none⟩ = some (.int .i64 x3)) (repeat (first | with_reducible exact HK.out | with_reducible exact HKd.out | with_reducible exact HKa.out | with_reducible exact HKb.out | with_reducible exact k5.1.out | with_reducible refine pk_set4 (by dsimp only; omega) ?_ | with_reducible refine pk_alloc4 _ (by first | assumption | omega) ?_)) (first | (go_at_call 25; (with_reducible refine (l01Below_any _ _ _ w0 (i64_k (by omega) (by omega)) hCd h0 hUd).mono ?_); rintro e w5 ⟨_, rfl, ⟨y3, rfl, hy3, hy4⟩, hC5, hD5, hU5⟩; have hy5 : y3 ≤ 4 := (by omega); have e6 := e5 y3 hy3 hy5; have k5 := hK5 _ hD5; have hp5 := Nat.lt_of_lt_of_le hzd hD5.1.1) | (go_at_call 25; (with_reducible refine (l01Below_any _ _ _ w0 (i64_k (by omega) (by omega)) hCa h0 hUa).mono ?_); rintro e w5 ⟨_, rfl, ⟨y3, rfl, hy3, hy4⟩, hC5, hD5, hU5⟩; have hy5 : y3 ≤ 4 := (by omega); have e6 := e5 y3 hy3 hy5; have k5 := hK6 _ hD5; have hp5 := Nat.lt_of_lt_of_le hza hD5.1.1; obtain ⟨u0, u1, u2, u3, uf, ul⟩ := k5.2.out))
    all_goals go_wp2
    all_goals go_meet
    case rel => exact ⟨_, L3P.new hC5 hD5 hU5⟩
    case rel => exact ⟨_, L3P.old hC5 (((ChB.refl c w2).up (Up.alloc (Up.refl w2) _)).trans hD5) hU5 hz2' h0 u0 u1 u2 u3 uf ul⟩
  case rest =>
    obtain ⟨s3, r, rfl, hr2, hrl, t0, t1, t2, t3, tf, hC3, hD3, hU3⟩ := hcut
    obtain ⟨w3, rfl⟩ : ∃ w3 : World, w3 = wc := ⟨_, rfl⟩
    obtain ⟨q0, q1, q2, q3, qf', ql⟩ := four_at ((hD3.2 p hz2 (by omega)).trans HB3.out)
    have hcr : c < r := by omega
    have hpr : p ≠ r := by omega
    have d4 := IntWalk.i64_in (-x3 - 1) (by omega)
    have hrw : w0.heap.size ≤ r := by omega
    go_upto_region 4 with fail
    go_cut [43] (fun p wr => ∃ bb : Bool, p = .bool bb ∧ wr = w3)
    case first =>
      by_cases g1 : 1 < f
      · by_cases g2 : x2 = 0
        · subst g2
          go_wp2
          go_meet
          case rel => exact ⟨_, rfl, rfl⟩
        · have g3 : (x2 == 0) = false := by rw [beq_eq_false_iff_ne]; exact g2
          go_wp2
          go_meet
          case rel => exact ⟨_, rfl, rfl⟩
      · go_wp2
        go_meet
        case rel => exact ⟨_, rfl, rfl⟩
    case rest =>
      obtain ⟨bb, rfl, rfl⟩ := hcut
      go_upto_if 43 with fail
      go_cut [5] (fun p wr => L4P c w2 w0 r p wr)
      case first =>
        cases bb
        · go_wp2
          go_meet
          case rel => exact ⟨_, _, _, _, _, rfl, hrl, t0, t1, t2, t3, hC3, hD3, hU3⟩
        · go_wp2
          go_meet
          case rel => exact ⟨1, -x0, -x1, -x2, -x3 - 1, rfl, by simpa [World.setCell] using hrl, by go_simp, by go_simp, by go_simp, by go_simp, ((hC3.far hcr _).far hcr _).far hcr _, ((hD3.far hr2 _).far hr2 _).far hr2 _, ((hU3.setCell (p := ⟨r, 0, none⟩) hrw _).setCell (p := ⟨r, 1, none⟩) hrw _).setCell (p := ⟨r, 3, none⟩) hrw _⟩
      case rest =>
        obtain ⟨f', s0', s1', s2', s3', rfl, hrl4, t0, t1, t2, t3, hC4, hD4, hU4⟩ := hcut
        obtain ⟨w4, rfl⟩ : ∃ w4 : World, w4 = wc := ⟨_, rfl⟩
        clear q0 q1 q2 q3 qf' ql tf
        have hb4 := (hD4.2 p hz2 (by omega)).trans HB3.out
        have hk4 := (hD4.2 w.heap.size (by omega) (by omega)).trans HK3.out
        obtain ⟨q0, q1, q2, q3, qf', ql⟩ := four_at hb4
        have HK4 := Lib.hid (And.intro q0 (And.intro q1 (And.intro q2 (And.intro q3 (And.intro t0 (And.intro t1 (And.intro t2 t3)))))))
        have HK4d : Hid (w4.drew.cell? ⟨p, 0, none⟩ = some (.int .i64 x0) ∧ w4.drew.cell? ⟨p, 1, none⟩ = some (.int .i64 x1) ∧ w4.drew.cell? ⟨p, 2, none⟩ = some (.int .i64 x2) ∧ w4.drew.cell? ⟨p, 3, none⟩ = some (.int .i64 x3) ∧ w4.drew.cell? ⟨r, 0, none⟩ = some (.int .i64 s0') ∧ w4.drew.cell? ⟨r, 1, none⟩ = some (.int .i64 s1') ∧ w4.drew.cell? ⟨r, 2, none⟩ = some (.int .i64 s2') ∧ w4.drew.cell? ⟨r, 3, none⟩ = some (.int .i64 s3')) := HK4
        have hK5 : ∀ w5, ChB c w4.drew w5 → Hid (w5.cell? ⟨p, 0, none⟩ = some (.int .i64 x0) ∧ w5.cell? ⟨p, 1, none⟩ = some (.int .i64 x1) ∧ w5.cell? ⟨p, 2, none⟩ = some (.int .i64 x2) ∧ w5.cell? ⟨p, 3, none⟩ = some (.int .i64 x3) ∧ w5.cell? ⟨r, 0, none⟩ = some (.int .i64 s0') ∧ w5.cell? ⟨r, 1, none⟩ = some (.int .i64 s1') ∧ w5.cell? ⟨r, 2, none⟩ = some (.int .i64 s2') ∧ w5.cell? ⟨r, 3, none⟩ = some (.int .i64 s3')) := by
          intro w5 hD5
          have e := fun b o (hb : b < w4.heap.size) (hc : c + 1 ≤ b) => (hD5.1.2 b o hb (.inr hc)).1
          exact ⟨(e _ _ ql (by omega)).trans q0, (e _ _ ql (by omega)).trans q1, (e _ _ ql (by omega)).trans q2, (e _ _ ql (by omega)).trans q3, (e _ _ hrl4 (by omega)).trans t0, (e _ _ hrl4 (by omega)).trans t1, (e _ _ hrl4 (by omega)).trans t2, (e _ _ hrl4 (by omega)).trans t3⟩
        have HK6 := Lib.hid hk4
        have hCd : Cur w4.drew c := hC4
        have hUd : Up w0 w4.drew := hU4.drew
        have hz4 : w.heap.size < w4.heap.size := by omega
        clear q0 q1 q2 q3 t0 t1 t2 t3 qf' hb4 hk4 HB3 HK3 HK d0 d1 d2 d3 e0 e1 e3 e4 e5 m0 m1 m3 v1 v2 v3 v4 v5 v6 v7 v8
        go_upto_region 9 with fail
        go_region_held3 (fun w' => w'.cell? ⟨p, 0, none⟩ = some (.int .i64 x0) ∧ w'.cell? ⟨p, 1, none⟩ = some (.int .i64 x1) ∧ w'.cell? ⟨p, 2, none⟩ = some (.int .i64 x2) ∧ w'.cell? ⟨p, 3, none⟩ = some (.int .i64 x3) ∧ w'.cell? ⟨r, 0, none⟩ = some (.int .i64 s0') ∧ w'.cell? ⟨r, 1, none⟩ = some (.int .i64 s1') ∧ w'.cell? ⟨r, 2, none⟩ = some (.int .i64 s2') ∧ w'.cell? ⟨r, 3, none⟩ = some (.int .i64 s3')) (repeat (first | with_reducible exact HK4.out | with_reducible exact HK4d.out | with_reducible exact k5.out | with_reducible exact k5a _)) (first | (go_at_call 24; (with_reducible refine (l10Row_any _ _ w0 hCd h0 hUd).mono ?_); rintro e w5 ⟨_, rfl, ⟨y0, y1, y2, y3, rfl, _⟩, hC5, hD5, hU5⟩; have k5 := hK5 _ hD5; have k5a := fun o => pk8_alloc o (Nat.lt_of_lt_of_le ql hD5.1.1) (Nat.lt_of_lt_of_le hrl4 hD5.1.1) k5.out))
        have hk5 := (hD5.2 w.heap.size hz4 (by omega)).trans HK6.out
        have hz5 : w.heap.size < w5.heap.size := Nat.lt_of_lt_of_le hz4 hD5.1.1
        have hc5 := hC5.lt
        obtain ⟨w6, hw6⟩ : ∃ w6, (((w5.alloc (.cells #[.int .i64 y0, .int .i64 y1, .int .i64 y2, .int .i64 y3, .int .i64 x0, .int .i64 x1, .int .i64 x2, .int .i64 x3, .int .i64 s0', .int .i64 s1', .int .i64 s2', .int .i64 s3'] 41)).alloc (.cells #[.int .i64 1, .int .i64 2] 3)).alloc (.cells #[.int .i64 f', .int .i64 1] 3)).alloc (.cells #[.slice (some ⟨w5.heap.size + 1, 0, none⟩) 2 2, .slice (some ⟨w5.heap.size + 1 + 1, 0, none⟩) 2 2] 27) = w6 := ⟨_, rfl⟩
        have hu6 : Up w5 w6 := by rw [← hw6]; exact ((((Up.refl w5).alloc _).alloc _).alloc _).alloc _
        have hz6 : w6.heap.size = w5.heap.size + 4 := by rw [← hw6]; simp
        obtain ⟨gR, gP, gF, gB⟩ := four_new w5 _ _ _ _ _ _ _ _ w6 hw6
        have hk6 := (Below.block hu6 _ hz5).trans hk5
        have HG := Lib.hid (And.intro gR (And.intro gP (And.intro gF (And.intro gB hk6))))
        clear HK4 HK4d hK5 k5 k5a hCd hUd gR gP gF gB hk6 hk5
        go_wp2_with fail
        (go_at_call 25; (with_reducible refine (l01Below_any _ _ _ w0 (i64_k (by omega) (by omega)) (hC5.up hu6) h0 (hU5.trans hu6)).mono ?_); rintro e w7 ⟨_, rfl, ⟨z, rfl, hz1, hz2'⟩, hC7, hD7, hU7⟩)
        clear hw6
        obtain ⟨gR, gP, gF, gB, gk⟩ := HG.out
        have kR := (hD7.2 w5.heap.size (by omega) (by omega)).trans gR
        have kP := (hD7.2 (w5.heap.size + 1) (by omega) (by omega)).trans gP
        have kF := (hD7.2 (w5.heap.size + 1 + 1) (by omega) (by omega)).trans gF
        have kB := (hD7.2 (w5.heap.size + 1 + 1 + 1) (by omega) (by omega)).trans gB
        have kk := (hD7.2 w.heap.size (by omega) (by omega)).trans gk
        have HM := Lib.hid (And.intro kR (And.intro kP (And.intro kF (And.intro kB kk))))
        clear HG gR gP gF gB gk kR kP kF kB kk hz2'
        go_upto_block 0 with fail
        go_cut [] (fun wr => SwP w.heap.size (w5.heap.size + 1 + 1 + 1) w0 (.slice (some ⟨w5.heap.size, 0, none⟩) 3 3) wr)
        case first =>
          have hz7 : w6.heap.size ≤ w7.heap.size := hD7.1.1
          have hlt5 : w.heap.size < w5.heap.size := hz5
          by_cases a0 : z = 0
          · subst a0
            obtain ⟨kR, kP, kF, kB, kk⟩ := HM.out
            have hua : Up w7 (w7.alloc (.cells #[.int .i64 0, .int .i64 1000000, .int .i64 1000001, .int .i64 2] 3)) := Up.alloc (Up.refl w7) _
            have hCa : Cur (w7.alloc (.cells #[.int .i64 0, .int .i64 1000000, .int .i64 1000001, .int .i64 2] 3)).drew c := (by have hq := hC7.up hua; exact hq)
            have hUa : Up w0 (w7.alloc (.cells #[.int .i64 0, .int .i64 1000000, .int .i64 1000001, .int .i64 2] 3)).drew := (hU7.trans hua).drew
            have hLa : Sl (w7.alloc (.cells #[.int .i64 0, .int .i64 1000000, .int .i64 1000001, .int .i64 2] 3)).drew w7.heap.size (w7.heap.size + 1) 1 (.slice (some ⟨w7.heap.size, 0, none⟩) 4 4) 4 (intF (litR [0, 1000000, 1000001, 2])) := lit4 w7 _ _ _ _ _
            have hK8 : ∀ w8, ChB c (w7.alloc (.cells #[.int .i64 0, .int .i64 1000000, .int .i64 1000001, .int .i64 2] 3)).drew w8 → Hid (w8.heap[w5.heap.size]? = some (.cells #[.int .i64 y0, .int .i64 y1, .int .i64 y2, .int .i64 y3, .int .i64 x0, .int .i64 x1, .int .i64 x2, .int .i64 x3, .int .i64 s0', .int .i64 s1', .int .i64 s2', .int .i64 s3'] 41 (0, 0)) ∧ w8.heap[w5.heap.size + 1]? = some (.cells #[.int .i64 1, .int .i64 2] 3 (0, 0)) ∧ w8.heap[w5.heap.size + 1 + 1]? = some (.cells #[.int .i64 f', .int .i64 1] 3 (0, 0)) ∧ w8.heap[w5.heap.size + 1 + 1 + 1]? = some (.cells #[.slice (some ⟨w5.heap.size + 1, 0, none⟩) 2 2, .slice (some ⟨w5.heap.size + 1 + 1, 0, none⟩) 2 2] 27 (0, 0)) ∧ w8.heap[w.heap.size]? = some (.cells #[.slice none 0 0, .slice none 0 0] 27 (0, 0))) := by
              intro w8 hD
              have e := fun b (hb : b < w7.heap.size) (hn : b ≠ c) => (hD.2 b (Nat.lt_of_lt_of_le hb hua.size) hn).trans (Below.block hua b hb)
              exact ⟨(e _ (by omega) (by omega)).trans kR, (e _ (by omega) (by omega)).trans kP, (e _ (by omega) (by omega)).trans kF, (e _ (by omega) (by omega)).trans kB, (e _ (by omega) (by omega)).trans kk⟩
            obtain ⟨b0, b1, bf, bl⟩ := two_at kB
            have HB := Lib.hid (And.intro b0 b1)
            have bl' : w5.heap.size + 1 + 1 + 1 < (w7.alloc (.cells #[.int .i64 0, .int .i64 1000000, .int .i64 1000001, .int .i64 2] 3)).heap.size := Nat.lt_of_lt_of_le bl hua.size
            have hcc : w7.heap.size + 1 ≤ c ∨ c + 1 ≤ w7.heap.size := .inr (by omega)
            clear kR kP kF kB kk b0 b1 bf HM hua
            go_upto_region 13 with fail
            go_region_held3 (fun w' => w'.cell? ⟨w5.heap.size + 1 + 1 + 1, 0, none⟩ = some (.slice (some ⟨w5.heap.size + 1, 0, none⟩) 2 2) ∧ w'.cell? ⟨w5.heap.size + 1 + 1 + 1, 1, none⟩ = some (.slice (some ⟨w5.heap.size + 1 + 1, 0, none⟩) 2 2)) (repeat (first | with_reducible exact HB.out | with_reducible exact k8s | with_reducible refine pk2_drew ?_ | with_reducible refine pk2_alloc _ (by first | assumption | omega) ?_ | with_reducible refine pk2_set (by dsimp only; omega) ?_)) (first | (go_at_call 26; (with_reducible refine (l01PickInt_any c _ 4 w7.heap.size (w7.heap.size + 1) _ _ w0 hLa hcc (by omega) (by omega) hCa h0 hUa).mono ?_); rintro e w8 ⟨_, rfl, ⟨i8, hi8, rfl⟩, hC8, hD8, hU8⟩; have k8 := hK8 _ hD8; obtain ⟨k8a, k8b, _, kbl⟩ := two_at k8.out.2.2.2.1; have k8s := And.intro k8a k8b; obtain ⟨f80, f81, f8f, f8l⟩ := two_at k8.out.2.2.1; have f8z := f8f 0))
            obtain ⟨v8, hv8⟩ : ∃ v8, litR [0, 1000000, 1000001, 2] i8 0 = v8 := ⟨_, rfl⟩
            rw [hv8]
            clear hK8 HB hLa hUa hCa
            go_wp2_with fail
            go_meet
            case rel =>
              obtain ⟨hR8, hP8, hF8, hB8, hk8⟩ := k8.out
              exact SwP.of [y0, y1, y2, y3, x0, x1, x2, x3, s0', s1', s2', s3'] [1, 2] [v8, 1] 2 ((heap_far _ (by dsimp only; omega)).trans hR8) ((heap_far _ (by dsimp only; omega)).trans hP8) (heap_set 0 _ hF8) ((heap_far _ (by dsimp only; omega)).trans hB8) ((heap_far _ (by dsimp only; omega)).trans hk8) rfl rfl rfl rfl rfl rfl hlt5 (hU8.setCell (p := ⟨w5.heap.size + 1 + 1, 0, none⟩) (show w0.heap.size ≤ w5.heap.size + 1 + 1 by omega) _)
          by_cases a1 : z = 1
          · subst a1
            obtain ⟨kR, kP, kF, kB, kk⟩ := HM.out
            have hua : Up w7 (w7.alloc (.cells #[.int .i64 1, .int .i64 2, .int .i64 3, .int .i64 0] 3)) := Up.alloc (Up.refl w7) _
            have hCa : Cur (w7.alloc (.cells #[.int .i64 1, .int .i64 2, .int .i64 3, .int .i64 0] 3)).drew c := (by have hq := hC7.up hua; exact hq)
            have hUa : Up w0 (w7.alloc (.cells #[.int .i64 1, .int .i64 2, .int .i64 3, .int .i64 0] 3)).drew := (hU7.trans hua).drew
            have hLa : Sl (w7.alloc (.cells #[.int .i64 1, .int .i64 2, .int .i64 3, .int .i64 0] 3)).drew w7.heap.size (w7.heap.size + 1) 1 (.slice (some ⟨w7.heap.size, 0, none⟩) 4 4) 4 (intF (litR [1, 2, 3, 0])) := lit4 w7 _ _ _ _ _
            have hK8 : ∀ w8, ChB c (w7.alloc (.cells #[.int .i64 1, .int .i64 2, .int .i64 3, .int .i64 0] 3)).drew w8 → Hid (w8.heap[w5.heap.size]? = some (.cells #[.int .i64 y0, .int .i64 y1, .int .i64 y2, .int .i64 y3, .int .i64 x0, .int .i64 x1, .int .i64 x2, .int .i64 x3, .int .i64 s0', .int .i64 s1', .int .i64 s2', .int .i64 s3'] 41 (0, 0)) ∧ w8.heap[w5.heap.size + 1]? = some (.cells #[.int .i64 1, .int .i64 2] 3 (0, 0)) ∧ w8.heap[w5.heap.size + 1 + 1]? = some (.cells #[.int .i64 f', .int .i64 1] 3 (0, 0)) ∧ w8.heap[w5.heap.size + 1 + 1 + 1]? = some (.cells #[.slice (some ⟨w5.heap.size + 1, 0, none⟩) 2 2, .slice (some ⟨w5.heap.size + 1 + 1, 0, none⟩) 2 2] 27 (0, 0)) ∧ w8.heap[w.heap.size]? = some (.cells #[.slice none 0 0, .slice none 0 0] 27 (0, 0))) := by
              intro w8 hD
              have e := fun b (hb : b < w7.heap.size) (hn : b ≠ c) => (hD.2 b (Nat.lt_of_lt_of_le hb hua.size) hn).trans (Below.block hua b hb)
              exact ⟨(e _ (by omega) (by omega)).trans kR, (e _ (by omega) (by omega)).trans kP, (e _ (by omega) (by omega)).trans kF, (e _ (by omega) (by omega)).trans kB, (e _ (by omega) (by omega)).trans kk⟩
            obtain ⟨b0, b1, bf, bl⟩ := two_at kB
            have HB := Lib.hid (And.intro b0 b1)
            have bl' : w5.heap.size + 1 + 1 + 1 < (w7.alloc (.cells #[.int .i64 1, .int .i64 2, .int .i64 3, .int .i64 0] 3)).heap.size := Nat.lt_of_lt_of_le bl hua.size
            have hcc : w7.heap.size + 1 ≤ c ∨ c + 1 ≤ w7.heap.size := .inr (by omega)
            clear kR kP kF kB kk b0 b1 bf HM hua
            go_upto_region 15 with fail
            go_region_held3 (fun w' => w'.cell? ⟨w5.heap.size + 1 + 1 + 1, 0, none⟩ = some (.slice (some ⟨w5.heap.size + 1, 0, none⟩) 2 2) ∧ w'.cell? ⟨w5.heap.size + 1 + 1 + 1, 1, none⟩ = some (.slice (some ⟨w5.heap.size + 1 + 1, 0, none⟩) 2 2)) (repeat (first | with_reducible exact HB.out | with_reducible exact k8s | with_reducible refine pk2_drew ?_ | with_reducible refine pk2_alloc _ (by first | assumption | omega) ?_ | with_reducible refine pk2_set (by dsimp only; omega) ?_)) (first | (go_at_call 26; (with_reducible refine (l01PickInt_any c _ 4 w7.heap.size (w7.heap.size + 1) _ _ w0 hLa hcc (by omega) (by omega) hCa h0 hUa).mono ?_); rintro e w8 ⟨_, rfl, ⟨i8, hi8, rfl⟩, hC8, hD8, hU8⟩; have k8 := hK8 _ hD8; obtain ⟨k8a, k8b, _, kbl⟩ := two_at k8.out.2.2.2.1; have k8s := And.intro k8a k8b; obtain ⟨f80, f81, f8f, f8l⟩ := two_at k8.out.2.1; have f8z := f8f 1))
            obtain ⟨v8, hv8⟩ : ∃ v8, litR [1, 2, 3, 0] i8 0 = v8 := ⟨_, rfl⟩
            rw [hv8]
            clear hK8 HB hLa hUa hCa
            go_wp2_with fail
            go_meet
            case rel =>
              obtain ⟨hR8, hP8, hF8, hB8, hk8⟩ := k8.out
              exact SwP.of [y0, y1, y2, y3, x0, x1, x2, x3, s0', s1', s2', s3'] [1, v8] [f', 1] 2 ((heap_far _ (by dsimp only; omega)).trans hR8) (heap_set 1 _ hP8) ((heap_far _ (by dsimp only; omega)).trans hF8) ((heap_far _ (by dsimp only; omega)).trans hB8) ((heap_far _ (by dsimp only; omega)).trans hk8) rfl rfl rfl rfl rfl rfl hlt5 (hU8.setCell (p := ⟨w5.heap.size + 1, 1, none⟩) (show w0.heap.size ≤ w5.heap.size + 1 by omega) _)
          by_cases a2 : z = 2
          · subst a2
            obtain ⟨kR, kP, kF, kB, kk⟩ := HM.out
            have HM2 : ∀ w8, ChB c w7 w8 → Hid (w8.heap[w5.heap.size]? = some (.cells #[.int .i64 y0, .int .i64 y1, .int .i64 y2, .int .i64 y3, .int .i64 x0, .int .i64 x1, .int .i64 x2, .int .i64 x3, .int .i64 s0', .int .i64 s1', .int .i64 s2', .int .i64 s3'] 41 (0, 0)) ∧ w8.heap[w5.heap.size + 1]? = some (.cells #[.int .i64 1, .int .i64 2] 3 (0, 0)) ∧ w8.heap[w5.heap.size + 1 + 1]? = some (.cells #[.int .i64 f', .int .i64 1] 3 (0, 0)) ∧ w8.heap[w5.heap.size + 1 + 1 + 1]? = some (.cells #[.slice (some ⟨w5.heap.size + 1, 0, none⟩) 2 2, .slice (some ⟨w5.heap.size + 1 + 1, 0, none⟩) 2 2] 27 (0, 0)) ∧ w8.heap[w.heap.size]? = some (.cells #[.slice none 0 0, .slice none 0 0] 27 (0, 0))) := by
              intro w8 hD
              have e := fun b (hb : b < w7.heap.size) (hn : b ≠ c) => hD.2 b hb hn
              exact ⟨(e _ (by omega) (by omega)).trans kR, (e _ (by omega) (by omega)).trans kP, (e _ (by omega) (by omega)).trans kF, (e _ (by omega) (by omega)).trans kB, (e _ (by omega) (by omega)).trans kk⟩
            clear kR kP kF kB kk HM
            go_wp2_with fail
            (go_at_call 27; (with_reducible refine (l10Any_any _ _ w0 hC7 h0 hU7).mono ?_); rintro e w8 ⟨_, rfl, ⟨q0, q1, q2, q3, rfl⟩, hC8, hD8, hU8⟩)
            have k8 := HM2 _ hD8
            obtain ⟨r0, r1, r2, r3, rf⟩ := four_of _ _ _ _ k8.out.1 rfl rfl rfl rfl
            clear HM2
            go_wp2_with fail
            go_meet
            case rel =>
              obtain ⟨hR8, hP8, hF8, hB8, hk8⟩ := k8.out
              have far4 : ∀ b, b ≠ w5.heap.size → ((((w8.setCell ⟨w5.heap.size, 0, none⟩ (.int .i64 q0)).setCell ⟨w5.heap.size, 1, none⟩ (.int .i64 q1)).setCell ⟨w5.heap.size, 2, none⟩ (.int .i64 q2)).setCell ⟨w5.heap.size, 3, none⟩ (.int .i64 q3)).heap[b]? = w8.heap[b]? := fun b hb => (heap_far _ (Ne.symm hb)).trans ((heap_far _ (Ne.symm hb)).trans ((heap_far _ (Ne.symm hb)).trans (heap_far _ (Ne.symm hb))))
              exact SwP.of [q0, q1, q2, q3, x0, x1, x2, x3, s0', s1', s2', s3'] [1, 2] [f', 1] 2 (heap_set 3 _ (heap_set 2 _ (heap_set 1 _ (heap_set 0 _ hR8)))) ((far4 _ (by omega)).trans hP8) ((far4 _ (by omega)).trans hF8) ((far4 _ (by omega)).trans hB8) ((far4 _ (by omega)).trans hk8) rfl rfl rfl rfl rfl rfl hlt5 (hU8.far4 (show w0.heap.size ≤ w5.heap.size by omega) _ _ _ _)
          by_cases a3 : z = 3
          · subst a3
            obtain ⟨kR, kP, kF, kB, kk⟩ := HM.out
            have hua : Up w7 (w7.alloc (.cells #[.int .i64 1] 3)) := Up.alloc (Up.refl w7) _
            have e := fun b (hb : b < w7.heap.size) => Below.block hua b hb
            have hUa := hU7.trans hua
            obtain ⟨i0, hi0, hz0, hz1, hz2⟩ := info_parts int_info
            have hown0 : (w7.alloc (.cells #[.int .i64 1] 3)).ownsRow (w5.heap.size + 1 + 1) 3 1 (.slice (some ⟨w5.heap.size + 1 + 1, 0, none⟩) 2 2) 2 [.int .i64 f', .int .i64 1] := ⟨rfl, .inr ⟨_, 2, _, rfl, Nat.le_refl _, (e _ (by omega)).trans kF, Nat.le_refl _, by unfold maxLen; omega, rfl, rfl⟩⟩
            have hnew : (w7.alloc (.cells #[.int .i64 1] 3)).cell? ⟨w7.heap.size, 0, none⟩ = some (.int .i64 1) := by go_simp
            have hsz : (w7.alloc (.cells #[.int .i64 1] 3)).heap.size = w7.heap.size + 1 := by simp
            have HK := Lib.hid (And.intro ((e _ (by omega)).trans kR) (And.intro ((e _ (by omega)).trans kP) (And.intro ((e _ (by omega)).trans kB) ((e _ (by omega)).trans kk))))
            obtain ⟨b0, b1, bf, bl⟩ := two_at kB
            obtain ⟨b0', b1', bf', bl'⟩ := two_at HK.out.2.2.1
            clear kR kP kF kB kk HM e
            go_wp2_with (at_builtin; refine wpList_append_lies _ rfl (.tmp 93) (.tmp 94) 25 rfl (w5.heap.size + 1 + 1) 3 i0 _ 1 8 Try.underlying25 hi0 hz0 hz1 hz2 rfl (by omega) (.slice (some ⟨w5.heap.size + 1 + 1, 0, none⟩) 2 2) 2 [.int .i64 f', .int .i64 1] rfl hown0 ⟨w7.heap.size, 0, none⟩ 1 1 [.int .i64 1] rfl rfl (fun j u hj => by rcases j with _ | j; exact hj ▸ hnew; cases hj) (fun u hu => by simp at hu; subst hu; rfl) (by omega) (by unfold maxLen; omega) (by omega) (by omega) _ rfl ?_; intro g cap w9 hown hgrow hat hlt9; obtain ⟨n0, n1, nf, nl⟩ := two_at ((hgrow.block (w5.heap.size + 1 + 1 + 1) (by omega) (by simp [Value.ownBlock])).trans HK.out.2.2.1); have nf1 := nf 1)
            go_meet
            case rel =>
              obtain ⟨hR8, hP8, hB8, hk8⟩ := HK.out
              have e9 := fun b (hb : b < w7.heap.size + 1) (hn : b ≠ w5.heap.size + 1 + 1) => hgrow.block b (by omega) (by simp [Value.ownBlock]; omega)
              have far := fun b (hb : b ≠ w5.heap.size + 1 + 1 + 1) => heap_far (w := w9) (p := ⟨w5.heap.size + 1 + 1 + 1, 1, none⟩) (b := b) (.slice (some ⟨g, 0, none⟩) (2 + 1) cap) (Ne.symm hb)
              have hgb : w5.heap.size + 1 + 1 + 1 ≠ g := by
                rcases hat with hat | hat
                · simp [Value.ownBlock] at hat; omega
                · omega
              have hgB : w.heap.size < g := by
                rcases hat with hat | hat
                · simp [Value.ownBlock] at hat; omega
                · omega
              have SR := sl_heap [y0, y1, y2, y3, x0, x1, x2, x3, s0', s1', s2', s3'] 4 3 rfl _ _ _ _ rfl ((far _ (by omega)).trans ((e9 _ (by omega) (by omega)).trans hR8))
              have SP := sl_heap [1, 2] 1 2 rfl _ _ _ _ rfl ((far _ (by omega)).trans ((e9 _ (by omega) (by omega)).trans hP8))
              have SF := sl_own [f', 1, 1] hown rfl (by omega) ⟨w5.heap.size + 1 + 1 + 1, 1, none⟩ (.slice (some ⟨g, 0, none⟩) (2 + 1) cap) hgb
              obtain ⟨m0, m1, mf, ml⟩ := two_at (heap_set 1 (.slice (some ⟨g, 0, none⟩) (2 + 1) cap) ((e9 _ (by omega) (by omega)).trans hB8))
              obtain ⟨z0, z1, zf, zl⟩ := two_at ((far _ (by omega)).trans ((e9 _ (by omega) (by omega)).trans hk8))
              have hU9 : Up w0 w9 := up_ownC hUa (show w0.heap.size ≤ w5.heap.size + 1 + 1 by omega) hown0 hgrow
              exact ⟨_, _, _, _, 3, _, _, _, _, _, _, _, _, _, m0, m1, z0, z1, zf, ml, zl, SR, SP, SF, by omega, hlt5, by omega, hgB, hU9.setCell (p := ⟨w5.heap.size + 1 + 1 + 1, 1, none⟩) (show w0.heap.size ≤ w5.heap.size + 1 + 1 + 1 by omega) _⟩
          have n0 : (z == 0) = false := by rw [beq_eq_false_iff_ne]; exact a0
          have n1 : (z == 1) = false := by rw [beq_eq_false_iff_ne]; exact a1
          have n2 : (z == 2) = false := by rw [beq_eq_false_iff_ne]; exact a2
          have n3 : (z == 3) = false := by rw [beq_eq_false_iff_ne]; exact a3
          go_wp2_with fail
          go_meet
          case rel =>
            obtain ⟨kR, kP, kF, kB, kk⟩ := HM.out
            exact SwP.of [y0, y1, y2, y3, x0, x1, x2, x3, s0', s1', s2', s3'] [1, 2] [f', 1] 2 kR kP kF kB kk rfl rfl rfl rfl rfl rfl hlt5 hU7
        case rest =>
          obtain ⟨A2, A3, c2, c3, m, R, P, F, l1, h1, l2, h2, l3, h3, b0, b1, o0, o1, of, bl, ol, SR, SP, SF, hm, g1, g2, g3, hUr⟩ := hcut
          have hne : w.heap.size ≠ w5.heap.size + 1 + 1 + 1 := by omega
          have hw0 : w0.heap.size ≤ w.heap.size := by omega
          clear HM HK6 hC7 hD7 hU7 hC5 hD5 hU5 hu6
          have HB := Lib.hid (And.intro b0 b1)
          have HBd : Hid (wc.drew.cell? ⟨w5.heap.size + 1 + 1 + 1, 0, none⟩ = some (.slice A2 2 c2) ∧ wc.drew.cell? ⟨w5.heap.size + 1 + 1 + 1, 1, none⟩ = some (.slice A3 m c3)) := HB
          obtain ⟨b8, hb8⟩ : ∃ b8, w5.heap.size + 1 + 1 + 1 = b8 := ⟨_, rfl⟩
          rw [hb8] at HB HBd hne bl b0 b1
          rw [hb8]
          clear b0 b1
          go_upto_region 20 with fail
          go_region_held3 (fun w' => w'.cell? ⟨b8, 0, none⟩ = some (.slice A2 2 c2) ∧ w'.cell? ⟨b8, 1, none⟩ = some (.slice A3 m c3)) (repeat (first | with_reducible exact HB.out | with_reducible exact HBd.out | with_reducible refine pk2_drew ?_ | with_reducible refine pk2_set (by dsimp only; omega) ?_)) (fail)
          clear HB HBd
          have hUe : Up w0 (((wc.setCell ⟨w.heap.size, 0, none⟩ (.slice A2 2 c2)).setCell ⟨w.heap.size, 1, none⟩ (.slice A3 m c3)).drew) := (((hUr.setCell (p := ⟨w.heap.size, 0, none⟩) hw0 _).setCell (p := ⟨w.heap.size, 1, none⟩) hw0 _)).drew
          have hCh : Chg w.heap.size (w.heap.size + 1) wc (((wc.setCell ⟨w.heap.size, 0, none⟩ (.slice A2 2 c2)).setCell ⟨w.heap.size, 1, none⟩ (.slice A3 m c3)).drew) := (((Chg.refl w.heap.size (w.heap.size + 1) wc).setCell (p := ⟨w.heap.size, 0, none⟩) (Nat.le_refl _) (Nat.lt_succ_self _) (.slice A2 2 c2)).setCell (p := ⟨w.heap.size, 1, none⟩) (Nat.le_refl _) (Nat.lt_succ_self _) (.slice A3 m c3))
          have TR := SR.off hCh (.inr g1)
          have TP := SP.off hCh (.inr g2)
          have TF := SF.off hCh (.inr g3)
          have z0 : (((wc.setCell ⟨w.heap.size, 0, none⟩ (.slice A2 2 c2)).setCell ⟨w.heap.size, 1, none⟩ (.slice A3 m c3)).drew).cell? ⟨w.heap.size, 0, none⟩ = some (.slice A2 2 c2) := by show ((wc.setCell _ _).setCell _ _).cell? _ = _; go_simp
          have z1 : (((wc.setCell ⟨w.heap.size, 0, none⟩ (.slice A2 2 c2)).setCell ⟨w.heap.size, 1, none⟩ (.slice A3 m c3)).drew).cell? ⟨w.heap.size, 1, none⟩ = some (.slice A3 m c3) := by show ((wc.setCell _ _).setCell _ _).cell? _ = _; go_simp
          generalize ((wc.setCell ⟨w.heap.size, 0, none⟩ (.slice A2 2 c2)).setCell ⟨w.heap.size, 1, none⟩ (.slice A3 m c3)).drew = we at z0 z1 TR TP TF hUe ⊢
          clear SR SP SF hCh o0 o1 of hb8 hne bl hUr
          rename_i hheld
          clear hheld
          go_wp2
          exact bodyPost_ret (v := .tuple #[.slice (some ⟨w5.heap.size, 0, none⟩) 3 3, .agg #[.slice A2 2 c2, .slice A3 m c3]]) (by simp only [results]; go_simp; try simp) rfl ⟨_, _, _, m, R, P, F, _, _, _, _, _, _, rfl, TR, TP, TF, hm, by omega, by omega, by omega, hUe⟩
end Go.Proofs.Ytchldcjieijkaaa
