/- The walks of MakeThrust: it returns what the plain function gives. No condition. -/
import Derived.Test.YtaealkfnhhmmcaaThr2
import Derived.Handy
namespace Go.Proofs.Ytaealkfnhhmmcaa
open Go.RowKit
set_option linter.unusedVariables false
set_option maxHeartbeats 1000000 in
theorem mk_neg (h v m n : Int) (w : World) (k1 : inB (-4000000000000000000) h 4000000000000000000 = true) (k2 : inB (-4000000000000000000) v 4000000000000000000 = true) (k3 : inB (-4000000000000000000) m 4000000000000000000 = true) (k4 : inB (-4000000000000000000) n 4000000000000000000 = true) (k5 : ¬ n = 0) (k6 : n < 0) :
    Calls Try.prog 20 #[.int .i64 h, .int .i64 v, .int .i64 m, .int .i64 n] w fun e w' => e = .returned (.tuple #[.agg #[.int .i64 (mkP h h v m n), .int .i64 (mkP v h v m n), .int .i64 (mkP m h v m n), .int .i64 (mkP n h v m n)], .bool (mkB h v m n)]) ∧ Up w w' := by
  have b1 := inB_true.1 k1
  have b2 := inB_true.1 k2
  have b3 := inB_true.1 k3
  have b4 := inB_true.1 k4
  have z1 : (n == 0) = false := by rw [beq_eq_false_iff_ne]; exact k5
  have hgp : 0 < g4 h v m n := g4_pos k5
  have hgl : g4 h v m n ≤ 4000000000000000000 := g4_le _ (by omega) (by omega) (by omega) (by omega)
  go_enter Try.func20, Try.ntmps20
  go_wp2_with (go_at_call 23; (with_reducible refine (within_any _ _ _ _).mono ?_); rintro e w1 ⟨rfl, rfl⟩)
  refine wp_loop_rounds 5 ?_
  (repeat any_goals (rw [rounds_succ]; go_wp2_with (first | (go_at_call 23; (with_reducible refine (within_any _ _ _ _).mono ?_); rintro e w1 ⟨rfl, rfl⟩) | (go_at_call 41; (with_reducible refine (commonDivisor_four h v m n _ _ _ (by go_simp) (by go_simp) (by go_simp) (by go_simp) (by omega) (by omega) (by omega) (by omega) (by simp)).mono ?_); rintro e w1 ⟨rfl, hb1⟩; obtain ⟨hc1, hf1⟩ := hb1.cells; have hl1 := hb1.lt; have hle1 := hb1.le; have hs1 := hb1.size; (try simp at hs1); (try have hs1a : w.heap.size < w1.heap.size := by omega); (try have hs1aa : w.heap.size ≤ w1.heap.size := by omega); (try have hs1b : w.heap.size + 1 < w1.heap.size := by omega); (try have hs1bb : w.heap.size + 1 ≤ w1.heap.size := by omega); (try have hs1c : w.heap.size + 1 + 1 < w1.heap.size := by omega); (try have hs1cc : w.heap.size + 1 + 1 ≤ w1.heap.size := by omega); (try have hs1d : w.heap.size + 1 + 1 + 1 < w1.heap.size := by omega); (try have hs1dd : w.heap.size + 1 + 1 + 1 ≤ w1.heap.size := by omega); (try have hs1L := Nat.lt_of_succ_le hs1); (try have hs1M := Nat.lt_of_succ_lt hs1L); (try have hs1N := Nat.lt_of_succ_lt hs1M); (try have hs1LE := Nat.le_of_lt hs1L); (try have hs1ME := Nat.le_of_lt hs1M)))))
  generalize hD : -(g4 h v m n : Int) = D at *
  have hD0 : D ≠ 0 := by omega
  have hD1 : (D == 0) = false := by rw [beq_eq_false_iff_ne]; exact hD0
  obtain ⟨t1, t2⟩ := tdiv_le (x := h) (d := D) (M := 4000000000000000000) (by omega) (by omega)
  obtain ⟨t3, t4⟩ := tdiv_le (x := v) (d := D) (M := 4000000000000000000) (by omega) (by omega)
  obtain ⟨t5, t6⟩ := tdiv_le (x := m) (d := D) (M := 4000000000000000000) (by omega) (by omega)
  obtain ⟨t7, t8⟩ := tdiv_le (x := n) (d := D) (M := 4000000000000000000) (by omega) (by omega)
  have e1 := IntWalk.i64_in (h.tdiv D) (by omega)
  have e2 := IntWalk.i64_in (v.tdiv D) (by omega)
  have e3 := IntWalk.i64_in (m.tdiv D) (by omega)
  have e4 := IntWalk.i64_in (n.tdiv D) (by omega)
  have HD := Lib.hid hD
  clear hD
  go_region_held3 (fun _ => True) (trivial) (fail)
  clear t1 t2 t3 t4 t5 t6 t7 t8 e1 e2 e3 e4
  by_cases k7 : thB (h.tdiv D) (v.tdiv D) (m.tdiv D) (n.tdiv D) = true
  all_goals
    go_wp2_with (go_at_call 24; (with_reducible refine (ThrustOk_any _ _ _ _ _).mono ?_); rintro e w1 ⟨rfl, hb1⟩; obtain ⟨hc1, hf1⟩ := hb1.cells; have hl1 := hb1.lt; have hle1 := hb1.le; have hs1 := hb1.size; (try simp at hs1); (try have hs1a : w.heap.size < w1.heap.size := by omega); (try have hs1aa : w.heap.size ≤ w1.heap.size := by omega); (try have hs1b : w.heap.size + 1 < w1.heap.size := by omega); (try have hs1bb : w.heap.size + 1 ≤ w1.heap.size := by omega); (try have hs1c : w.heap.size + 1 + 1 < w1.heap.size := by omega); (try have hs1cc : w.heap.size + 1 + 1 ≤ w1.heap.size := by omega); (try have hs1d : w.heap.size + 1 + 1 + 1 < w1.heap.size := by omega); (try have hs1dd : w.heap.size + 1 + 1 + 1 ≤ w1.heap.size := by omega); (try have hs1L := Nat.lt_of_succ_le hs1); (try have hs1M := Nat.lt_of_succ_lt hs1L); (try have hs1N := Nat.lt_of_succ_lt hs1M); (try have hs1LE := Nat.le_of_lt hs1L); (try have hs1ME := Nat.le_of_lt hs1M))
    have hz0 : w1.cell? ⟨w.heap.size, 0, none⟩ = some (.int .i64 0) := by go_simp
    have hz1 : w1.cell? ⟨w.heap.size, 1, none⟩ = some (.int .i64 0) := by go_simp
    have hz2 : w1.cell? ⟨w.heap.size, 2, none⟩ = some (.int .i64 0) := by go_simp
    have hz3 : w1.cell? ⟨w.heap.size, 3, none⟩ = some (.int .i64 0) := by go_simp
    have hd : mkD h v m n = D := by unfold mkD; rw [if_pos (by omega)]; exact HD.out
    have hB : mkB h v m n = thB (h.tdiv D) (v.tdiv D) (m.tdiv D) (n.tdiv D) := by simp [mkB, mkIn, hd, k1, k2, k3, k4, z1]
    exact bodyPost_ret (v := .tuple #[.agg #[.int .i64 (mkP h h v m n), .int .i64 (mkP v h v m n), .int .i64 (mkP m h v m n), .int .i64 (mkP n h v m n)], .bool (mkB h v m n)]) (by simp only [results, Try.results20]; go_simp; simp [mkP, *]) rfl ⟨rfl, (by repeat (first | with_reducible exact Up.refl _ | with_reducible refine Up.alloc ?_ _ | with_reducible refine Up.drew ?_ | with_reducible refine Up.drewN ?_ _ | (with_reducible refine Up.setCell ?_ (by first | omega | (simp; done) | (simp; omega)) _) | with_reducible assumption | (with_reducible refine Up.trans ?_ (by with_reducible assumption))))⟩
set_option maxHeartbeats 1000000 in
theorem mk_pos (h v m n : Int) (w : World) (k1 : inB (-4000000000000000000) h 4000000000000000000 = true) (k2 : inB (-4000000000000000000) v 4000000000000000000 = true) (k3 : inB (-4000000000000000000) m 4000000000000000000 = true) (k4 : inB (-4000000000000000000) n 4000000000000000000 = true) (k5 : ¬ n = 0) (k6 : ¬ n < 0) :
    Calls Try.prog 20 #[.int .i64 h, .int .i64 v, .int .i64 m, .int .i64 n] w fun e w' => e = .returned (.tuple #[.agg #[.int .i64 (mkP h h v m n), .int .i64 (mkP v h v m n), .int .i64 (mkP m h v m n), .int .i64 (mkP n h v m n)], .bool (mkB h v m n)]) ∧ Up w w' := by
  have b1 := inB_true.1 k1
  have b2 := inB_true.1 k2
  have b3 := inB_true.1 k3
  have b4 := inB_true.1 k4
  have z1 : (n == 0) = false := by rw [beq_eq_false_iff_ne]; exact k5
  have hgp : 0 < g4 h v m n := g4_pos k5
  have hgl : g4 h v m n ≤ 4000000000000000000 := g4_le _ (by omega) (by omega) (by omega) (by omega)
  go_enter Try.func20, Try.ntmps20
  go_wp2_with (go_at_call 23; (with_reducible refine (within_any _ _ _ _).mono ?_); rintro e w1 ⟨rfl, rfl⟩)
  refine wp_loop_rounds 5 ?_
  (repeat any_goals (rw [rounds_succ]; go_wp2_with (first | (go_at_call 23; (with_reducible refine (within_any _ _ _ _).mono ?_); rintro e w1 ⟨rfl, rfl⟩) | (go_at_call 41; (with_reducible refine (commonDivisor_four h v m n _ _ _ (by go_simp) (by go_simp) (by go_simp) (by go_simp) (by omega) (by omega) (by omega) (by omega) (by simp)).mono ?_); rintro e w1 ⟨rfl, hb1⟩; obtain ⟨hc1, hf1⟩ := hb1.cells; have hl1 := hb1.lt; have hle1 := hb1.le; have hs1 := hb1.size; (try simp at hs1); (try have hs1a : w.heap.size < w1.heap.size := by omega); (try have hs1aa : w.heap.size ≤ w1.heap.size := by omega); (try have hs1b : w.heap.size + 1 < w1.heap.size := by omega); (try have hs1bb : w.heap.size + 1 ≤ w1.heap.size := by omega); (try have hs1c : w.heap.size + 1 + 1 < w1.heap.size := by omega); (try have hs1cc : w.heap.size + 1 + 1 ≤ w1.heap.size := by omega); (try have hs1d : w.heap.size + 1 + 1 + 1 < w1.heap.size := by omega); (try have hs1dd : w.heap.size + 1 + 1 + 1 ≤ w1.heap.size := by omega); (try have hs1L := Nat.lt_of_succ_le hs1); (try have hs1M := Nat.lt_of_succ_lt hs1L); (try have hs1N := Nat.lt_of_succ_lt hs1M); (try have hs1LE := Nat.le_of_lt hs1L); (try have hs1ME := Nat.le_of_lt hs1M)))))
  generalize hD : (g4 h v m n : Int) = D at *
  have hD0 : D ≠ 0 := by omega
  have hD1 : (D == 0) = false := by rw [beq_eq_false_iff_ne]; exact hD0
  obtain ⟨t1, t2⟩ := tdiv_le (x := h) (d := D) (M := 4000000000000000000) (by omega) (by omega)
  obtain ⟨t3, t4⟩ := tdiv_le (x := v) (d := D) (M := 4000000000000000000) (by omega) (by omega)
  obtain ⟨t5, t6⟩ := tdiv_le (x := m) (d := D) (M := 4000000000000000000) (by omega) (by omega)
  obtain ⟨t7, t8⟩ := tdiv_le (x := n) (d := D) (M := 4000000000000000000) (by omega) (by omega)
  have e1 := IntWalk.i64_in (h.tdiv D) (by omega)
  have e2 := IntWalk.i64_in (v.tdiv D) (by omega)
  have e3 := IntWalk.i64_in (m.tdiv D) (by omega)
  have e4 := IntWalk.i64_in (n.tdiv D) (by omega)
  have HD := Lib.hid hD
  clear hD
  go_region_held3 (fun _ => True) (trivial) (fail)
  clear t1 t2 t3 t4 t5 t6 t7 t8 e1 e2 e3 e4
  by_cases k7 : thB (h.tdiv D) (v.tdiv D) (m.tdiv D) (n.tdiv D) = true
  all_goals
    go_wp2_with (go_at_call 24; (with_reducible refine (ThrustOk_any _ _ _ _ _).mono ?_); rintro e w1 ⟨rfl, hb1⟩; obtain ⟨hc1, hf1⟩ := hb1.cells; have hl1 := hb1.lt; have hle1 := hb1.le; have hs1 := hb1.size; (try simp at hs1); (try have hs1a : w.heap.size < w1.heap.size := by omega); (try have hs1aa : w.heap.size ≤ w1.heap.size := by omega); (try have hs1b : w.heap.size + 1 < w1.heap.size := by omega); (try have hs1bb : w.heap.size + 1 ≤ w1.heap.size := by omega); (try have hs1c : w.heap.size + 1 + 1 < w1.heap.size := by omega); (try have hs1cc : w.heap.size + 1 + 1 ≤ w1.heap.size := by omega); (try have hs1d : w.heap.size + 1 + 1 + 1 < w1.heap.size := by omega); (try have hs1dd : w.heap.size + 1 + 1 + 1 ≤ w1.heap.size := by omega); (try have hs1L := Nat.lt_of_succ_le hs1); (try have hs1M := Nat.lt_of_succ_lt hs1L); (try have hs1N := Nat.lt_of_succ_lt hs1M); (try have hs1LE := Nat.le_of_lt hs1L); (try have hs1ME := Nat.le_of_lt hs1M))
    have hz0 : w1.cell? ⟨w.heap.size, 0, none⟩ = some (.int .i64 0) := by go_simp
    have hz1 : w1.cell? ⟨w.heap.size, 1, none⟩ = some (.int .i64 0) := by go_simp
    have hz2 : w1.cell? ⟨w.heap.size, 2, none⟩ = some (.int .i64 0) := by go_simp
    have hz3 : w1.cell? ⟨w.heap.size, 3, none⟩ = some (.int .i64 0) := by go_simp
    have hd : mkD h v m n = D := by unfold mkD; rw [if_neg (by omega)]; exact HD.out
    have hB : mkB h v m n = thB (h.tdiv D) (v.tdiv D) (m.tdiv D) (n.tdiv D) := by simp [mkB, mkIn, hd, k1, k2, k3, k4, z1]
    exact bodyPost_ret (v := .tuple #[.agg #[.int .i64 (mkP h h v m n), .int .i64 (mkP v h v m n), .int .i64 (mkP m h v m n), .int .i64 (mkP n h v m n)], .bool (mkB h v m n)]) (by simp only [results, Try.results20]; go_simp; simp [mkP, *]) rfl ⟨rfl, (by repeat (first | with_reducible exact Up.refl _ | with_reducible refine Up.alloc ?_ _ | with_reducible refine Up.drew ?_ | with_reducible refine Up.drewN ?_ _ | (with_reducible refine Up.setCell ?_ (by first | omega | (simp; done) | (simp; omega)) _) | with_reducible assumption | (with_reducible refine Up.trans ?_ (by with_reducible assumption))))⟩
set_option maxHeartbeats 1000000 in
theorem MakeThrust_any (h v m n : Int) (w : World) :
    Calls Try.prog 20 #[.int .i64 h, .int .i64 v, .int .i64 m, .int .i64 n] w fun e w' => e = .returned (.tuple #[.agg #[.int .i64 (mkP h h v m n), .int .i64 (mkP v h v m n), .int .i64 (mkP m h v m n), .int .i64 (mkP n h v m n)], .bool (mkB h v m n)]) ∧ Up w w' := by
  by_cases k1 : inB (-4000000000000000000) h 4000000000000000000 = true
  rotate_left
  · have hB : mkB h v m n = false := by simp [mkB, mkIn, *]
    go_enter Try.func20, Try.ntmps20
    go_wp2_with (go_at_call 23; (with_reducible refine (within_any _ _ _ _).mono ?_); rintro e w1 ⟨rfl, rfl⟩)
    refine wp_loop_rounds 5 ?_
    (repeat any_goals (rw [rounds_succ]; go_wp2_with (go_at_call 23; (with_reducible refine (within_any _ _ _ _).mono ?_); rintro e w1 ⟨rfl, rfl⟩)))
    exact bodyPost_ret (v := .tuple #[.agg #[.int .i64 (mkP h h v m n), .int .i64 (mkP v h v m n), .int .i64 (mkP m h v m n), .int .i64 (mkP n h v m n)], .bool (mkB h v m n)]) (by simp [results, Try.results20, go_sem, mkP, *]) rfl ⟨rfl, (by repeat (first | with_reducible exact Up.refl _ | with_reducible refine Up.alloc ?_ _ | with_reducible refine Up.drew ?_ | with_reducible refine Up.drewN ?_ _ | (with_reducible refine Up.setCell ?_ (by first | omega | (simp; done) | (simp; omega)) _) | with_reducible assumption | (with_reducible refine Up.trans ?_ (by with_reducible assumption))))⟩
  by_cases k2 : inB (-4000000000000000000) v 4000000000000000000 = true
  rotate_left
  · have hB : mkB h v m n = false := by simp [mkB, mkIn, *]
    go_enter Try.func20, Try.ntmps20
    go_wp2_with (go_at_call 23; (with_reducible refine (within_any _ _ _ _).mono ?_); rintro e w1 ⟨rfl, rfl⟩)
    refine wp_loop_rounds 5 ?_
    (repeat any_goals (rw [rounds_succ]; go_wp2_with (go_at_call 23; (with_reducible refine (within_any _ _ _ _).mono ?_); rintro e w1 ⟨rfl, rfl⟩)))
    exact bodyPost_ret (v := .tuple #[.agg #[.int .i64 (mkP h h v m n), .int .i64 (mkP v h v m n), .int .i64 (mkP m h v m n), .int .i64 (mkP n h v m n)], .bool (mkB h v m n)]) (by simp [results, Try.results20, go_sem, mkP, *]) rfl ⟨rfl, (by repeat (first | with_reducible exact Up.refl _ | with_reducible refine Up.alloc ?_ _ | with_reducible refine Up.drew ?_ | with_reducible refine Up.drewN ?_ _ | (with_reducible refine Up.setCell ?_ (by first | omega | (simp; done) | (simp; omega)) _) | with_reducible assumption | (with_reducible refine Up.trans ?_ (by with_reducible assumption))))⟩
  by_cases k3 : inB (-4000000000000000000) m 4000000000000000000 = true
  rotate_left
  · have hB : mkB h v m n = false := by simp [mkB, mkIn, *]
    go_enter Try.func20, Try.ntmps20
    go_wp2_with (go_at_call 23; (with_reducible refine (within_any _ _ _ _).mono ?_); rintro e w1 ⟨rfl, rfl⟩)
    refine wp_loop_rounds 5 ?_
    (repeat any_goals (rw [rounds_succ]; go_wp2_with (go_at_call 23; (with_reducible refine (within_any _ _ _ _).mono ?_); rintro e w1 ⟨rfl, rfl⟩)))
    exact bodyPost_ret (v := .tuple #[.agg #[.int .i64 (mkP h h v m n), .int .i64 (mkP v h v m n), .int .i64 (mkP m h v m n), .int .i64 (mkP n h v m n)], .bool (mkB h v m n)]) (by simp [results, Try.results20, go_sem, mkP, *]) rfl ⟨rfl, (by repeat (first | with_reducible exact Up.refl _ | with_reducible refine Up.alloc ?_ _ | with_reducible refine Up.drew ?_ | with_reducible refine Up.drewN ?_ _ | (with_reducible refine Up.setCell ?_ (by first | omega | (simp; done) | (simp; omega)) _) | with_reducible assumption | (with_reducible refine Up.trans ?_ (by with_reducible assumption))))⟩
  by_cases k4 : inB (-4000000000000000000) n 4000000000000000000 = true
  rotate_left
  · have hB : mkB h v m n = false := by simp [mkB, mkIn, *]
    go_enter Try.func20, Try.ntmps20
    go_wp2_with (go_at_call 23; (with_reducible refine (within_any _ _ _ _).mono ?_); rintro e w1 ⟨rfl, rfl⟩)
    refine wp_loop_rounds 5 ?_
    (repeat any_goals (rw [rounds_succ]; go_wp2_with (go_at_call 23; (with_reducible refine (within_any _ _ _ _).mono ?_); rintro e w1 ⟨rfl, rfl⟩)))
    exact bodyPost_ret (v := .tuple #[.agg #[.int .i64 (mkP h h v m n), .int .i64 (mkP v h v m n), .int .i64 (mkP m h v m n), .int .i64 (mkP n h v m n)], .bool (mkB h v m n)]) (by simp [results, Try.results20, go_sem, mkP, *]) rfl ⟨rfl, (by repeat (first | with_reducible exact Up.refl _ | with_reducible refine Up.alloc ?_ _ | with_reducible refine Up.drew ?_ | with_reducible refine Up.drewN ?_ _ | (with_reducible refine Up.setCell ?_ (by first | omega | (simp; done) | (simp; omega)) _) | with_reducible assumption | (with_reducible refine Up.trans ?_ (by with_reducible assumption))))⟩
  by_cases k5 : n = 0
  · have hB : mkB h v m n = false := by simp [mkB, mkIn, *]
    have z1 : (n == 0) = true := by rw [beq_iff_eq]; exact k5
    have K5 := Lib.hid k5
    clear k5
    go_enter Try.func20, Try.ntmps20
    go_wp2_with (go_at_call 23; (with_reducible refine (within_any _ _ _ _).mono ?_); rintro e w1 ⟨rfl, rfl⟩)
    refine wp_loop_rounds 5 ?_
    (repeat any_goals (rw [rounds_succ]; go_wp2_with (go_at_call 23; (with_reducible refine (within_any _ _ _ _).mono ?_); rintro e w1 ⟨rfl, rfl⟩)))
    exact bodyPost_ret (v := .tuple #[.agg #[.int .i64 (mkP h h v m n), .int .i64 (mkP v h v m n), .int .i64 (mkP m h v m n), .int .i64 (mkP n h v m n)], .bool (mkB h v m n)]) (by simp [results, Try.results20, go_sem, mkP, *]) rfl ⟨rfl, (by repeat (first | with_reducible exact Up.refl _ | with_reducible refine Up.alloc ?_ _ | with_reducible refine Up.drew ?_ | with_reducible refine Up.drewN ?_ _ | (with_reducible refine Up.setCell ?_ (by first | omega | (simp; done) | (simp; omega)) _) | with_reducible assumption | (with_reducible refine Up.trans ?_ (by with_reducible assumption))))⟩
  by_cases k6 : n < 0
  · exact mk_neg h v m n w k1 k2 k3 k4 k5 k6
  · exact mk_pos h v m n w k1 k2 k3 k4 k5 k6
set_option maxHeartbeats 1000000 in
theorem smk_neg (h v m n : Int) (w : World) (k1 : inB (-4000000000000000000) h 4000000000000000000 = true) (k2 : inB (-4000000000000000000) v 4000000000000000000 = true) (k3 : inB (-4000000000000000000) m 4000000000000000000 = true) (k4 : inB (-4000000000000000000) n 4000000000000000000 = true) (k5 : ¬ n = 0) (k6 : n < 0) :
    Calls Try.prog 71 #[.int .i64 h, .int .i64 v, .int .i64 m, .int .i64 n] w fun e w' => e = .returned (.tuple #[.agg #[.int .i64 (mkP h h v m n), .int .i64 (mkP v h v m n), .int .i64 (mkP m h v m n), .int .i64 (mkP n h v m n)], .bool (mkB h v m n)]) ∧ Up w w' := by
  have b1 := inB_true.1 k1
  have b2 := inB_true.1 k2
  have b3 := inB_true.1 k3
  have b4 := inB_true.1 k4
  have z1 : (n == 0) = false := by rw [beq_eq_false_iff_ne]; exact k5
  have hgp : 0 < g4 h v m n := g4_pos k5
  have hgl : g4 h v m n ≤ 4000000000000000000 := g4_le _ (by omega) (by omega) (by omega) (by omega)
  have g1 : Nat.gcd h.natAbs v.natAbs ≤ 4000000000000000000 := gcd_le_of _ _ _ (by omega) (by omega)
  have g2 : Nat.gcd m.natAbs n.natAbs ≤ 4000000000000000000 := gcd_le_of _ _ _ (by omega) (by omega)
  have hg4 : Nat.gcd (Nat.gcd h.natAbs v.natAbs) (Nat.gcd m.natAbs n.natAbs) = g4 h v m n := rfl
  go_enter Try.func71, Try.ntmps71
  go_wp2_with (first | (go_at_call 36; (with_reducible refine (l01In_any _ _ _ _).mono ?_); rintro e w1 ⟨rfl, rfl⟩) | (go_at_call 87; (with_reducible refine (l08Gcd_any _ _ _ (by omega) (by omega)).mono ?_); rintro e w1 ⟨rfl, hb1⟩; obtain ⟨hc1, hf1⟩ := hb1.cells; have hl1 := hb1.lt; have hle1 := hb1.le; have hs1 := hb1.size; (try simp at hs1); (try have hs1a : w.heap.size < w1.heap.size := by omega); (try have hs1aa : w.heap.size ≤ w1.heap.size := by omega); (try have hs1b : w.heap.size + 1 < w1.heap.size := by omega); (try have hs1bb : w.heap.size + 1 ≤ w1.heap.size := by omega); (try have hs1c : w.heap.size + 1 + 1 < w1.heap.size := by omega); (try have hs1cc : w.heap.size + 1 + 1 ≤ w1.heap.size := by omega); (try have hs1d : w.heap.size + 1 + 1 + 1 < w1.heap.size := by omega); (try have hs1dd : w.heap.size + 1 + 1 + 1 ≤ w1.heap.size := by omega); (try have hs1L := Nat.lt_of_succ_le hs1); (try have hs1M := Nat.lt_of_succ_lt hs1L); (try have hs1N := Nat.lt_of_succ_lt hs1M); (try have hs1LE := Nat.le_of_lt hs1L); (try have hs1ME := Nat.le_of_lt hs1M)))
  generalize hD : -(g4 h v m n : Int) = D at *
  have hD0 : D ≠ 0 := by omega
  have hD1 : (D == 0) = false := by rw [beq_eq_false_iff_ne]; exact hD0
  obtain ⟨t1, t2⟩ := tdiv_le (x := h) (d := D) (M := 4000000000000000000) (by omega) (by omega)
  obtain ⟨t3, t4⟩ := tdiv_le (x := v) (d := D) (M := 4000000000000000000) (by omega) (by omega)
  obtain ⟨t5, t6⟩ := tdiv_le (x := m) (d := D) (M := 4000000000000000000) (by omega) (by omega)
  obtain ⟨t7, t8⟩ := tdiv_le (x := n) (d := D) (M := 4000000000000000000) (by omega) (by omega)
  have e1 := IntWalk.i64_in (h.tdiv D) (by omega)
  have e2 := IntWalk.i64_in (v.tdiv D) (by omega)
  have e3 := IntWalk.i64_in (m.tdiv D) (by omega)
  have e4 := IntWalk.i64_in (n.tdiv D) (by omega)
  have HD := Lib.hid hD
  clear hD
  go_region_held3 (fun _ => True) (trivial) (fail)
  clear t1 t2 t3 t4 t5 t6 t7 t8 e1 e2 e3 e4
  by_cases k7 : thB (h.tdiv D) (v.tdiv D) (m.tdiv D) (n.tdiv D) = true
  all_goals
    go_wp2_with (go_at_call 88; (with_reducible refine (sThrustOk_any _ _ _ _ _).mono ?_); rintro e w1 ⟨rfl, hb1⟩; obtain ⟨hc1, hf1⟩ := hb1.cells; have hl1 := hb1.lt; have hle1 := hb1.le; have hs1 := hb1.size; (try simp at hs1); (try have hs1a : w.heap.size < w1.heap.size := by omega); (try have hs1aa : w.heap.size ≤ w1.heap.size := by omega); (try have hs1b : w.heap.size + 1 < w1.heap.size := by omega); (try have hs1bb : w.heap.size + 1 ≤ w1.heap.size := by omega); (try have hs1c : w.heap.size + 1 + 1 < w1.heap.size := by omega); (try have hs1cc : w.heap.size + 1 + 1 ≤ w1.heap.size := by omega); (try have hs1d : w.heap.size + 1 + 1 + 1 < w1.heap.size := by omega); (try have hs1dd : w.heap.size + 1 + 1 + 1 ≤ w1.heap.size := by omega); (try have hs1L := Nat.lt_of_succ_le hs1); (try have hs1M := Nat.lt_of_succ_lt hs1L); (try have hs1N := Nat.lt_of_succ_lt hs1M); (try have hs1LE := Nat.le_of_lt hs1L); (try have hs1ME := Nat.le_of_lt hs1M))
    have hz0 : w1.cell? ⟨w.heap.size, 0, none⟩ = some (.int .i64 0) := by go_simp
    have hz1 : w1.cell? ⟨w.heap.size, 1, none⟩ = some (.int .i64 0) := by go_simp
    have hz2 : w1.cell? ⟨w.heap.size, 2, none⟩ = some (.int .i64 0) := by go_simp
    have hz3 : w1.cell? ⟨w.heap.size, 3, none⟩ = some (.int .i64 0) := by go_simp
    have hd : mkD h v m n = D := by unfold mkD; rw [if_pos (by omega)]; exact HD.out
    have hB : mkB h v m n = thB (h.tdiv D) (v.tdiv D) (m.tdiv D) (n.tdiv D) := by simp [mkB, mkIn, hd, k1, k2, k3, k4, z1]
    exact bodyPost_ret (v := .tuple #[.agg #[.int .i64 (mkP h h v m n), .int .i64 (mkP v h v m n), .int .i64 (mkP m h v m n), .int .i64 (mkP n h v m n)], .bool (mkB h v m n)]) (by simp only [results, Try.results71]; go_simp; simp [mkP, *]) rfl ⟨rfl, (by repeat (first | with_reducible exact Up.refl _ | with_reducible refine Up.alloc ?_ _ | with_reducible refine Up.drew ?_ | with_reducible refine Up.drewN ?_ _ | (with_reducible refine Up.setCell ?_ (by first | omega | (simp; done) | (simp; omega)) _) | with_reducible assumption | (with_reducible refine Up.trans ?_ (by with_reducible assumption))))⟩
set_option maxHeartbeats 1000000 in
theorem smk_pos (h v m n : Int) (w : World) (k1 : inB (-4000000000000000000) h 4000000000000000000 = true) (k2 : inB (-4000000000000000000) v 4000000000000000000 = true) (k3 : inB (-4000000000000000000) m 4000000000000000000 = true) (k4 : inB (-4000000000000000000) n 4000000000000000000 = true) (k5 : ¬ n = 0) (k6 : ¬ n < 0) :
    Calls Try.prog 71 #[.int .i64 h, .int .i64 v, .int .i64 m, .int .i64 n] w fun e w' => e = .returned (.tuple #[.agg #[.int .i64 (mkP h h v m n), .int .i64 (mkP v h v m n), .int .i64 (mkP m h v m n), .int .i64 (mkP n h v m n)], .bool (mkB h v m n)]) ∧ Up w w' := by
  have b1 := inB_true.1 k1
  have b2 := inB_true.1 k2
  have b3 := inB_true.1 k3
  have b4 := inB_true.1 k4
  have z1 : (n == 0) = false := by rw [beq_eq_false_iff_ne]; exact k5
  have hgp : 0 < g4 h v m n := g4_pos k5
  have hgl : g4 h v m n ≤ 4000000000000000000 := g4_le _ (by omega) (by omega) (by omega) (by omega)
  have g1 : Nat.gcd h.natAbs v.natAbs ≤ 4000000000000000000 := gcd_le_of _ _ _ (by omega) (by omega)
  have g2 : Nat.gcd m.natAbs n.natAbs ≤ 4000000000000000000 := gcd_le_of _ _ _ (by omega) (by omega)
  have hg4 : Nat.gcd (Nat.gcd h.natAbs v.natAbs) (Nat.gcd m.natAbs n.natAbs) = g4 h v m n := rfl
  go_enter Try.func71, Try.ntmps71
  go_wp2_with (first | (go_at_call 36; (with_reducible refine (l01In_any _ _ _ _).mono ?_); rintro e w1 ⟨rfl, rfl⟩) | (go_at_call 87; (with_reducible refine (l08Gcd_any _ _ _ (by omega) (by omega)).mono ?_); rintro e w1 ⟨rfl, hb1⟩; obtain ⟨hc1, hf1⟩ := hb1.cells; have hl1 := hb1.lt; have hle1 := hb1.le; have hs1 := hb1.size; (try simp at hs1); (try have hs1a : w.heap.size < w1.heap.size := by omega); (try have hs1aa : w.heap.size ≤ w1.heap.size := by omega); (try have hs1b : w.heap.size + 1 < w1.heap.size := by omega); (try have hs1bb : w.heap.size + 1 ≤ w1.heap.size := by omega); (try have hs1c : w.heap.size + 1 + 1 < w1.heap.size := by omega); (try have hs1cc : w.heap.size + 1 + 1 ≤ w1.heap.size := by omega); (try have hs1d : w.heap.size + 1 + 1 + 1 < w1.heap.size := by omega); (try have hs1dd : w.heap.size + 1 + 1 + 1 ≤ w1.heap.size := by omega); (try have hs1L := Nat.lt_of_succ_le hs1); (try have hs1M := Nat.lt_of_succ_lt hs1L); (try have hs1N := Nat.lt_of_succ_lt hs1M); (try have hs1LE := Nat.le_of_lt hs1L); (try have hs1ME := Nat.le_of_lt hs1M)))
  generalize hD : (g4 h v m n : Int) = D at *
  have hD0 : D ≠ 0 := by omega
  have hD1 : (D == 0) = false := by rw [beq_eq_false_iff_ne]; exact hD0
  obtain ⟨t1, t2⟩ := tdiv_le (x := h) (d := D) (M := 4000000000000000000) (by omega) (by omega)
  obtain ⟨t3, t4⟩ := tdiv_le (x := v) (d := D) (M := 4000000000000000000) (by omega) (by omega)
  obtain ⟨t5, t6⟩ := tdiv_le (x := m) (d := D) (M := 4000000000000000000) (by omega) (by omega)
  obtain ⟨t7, t8⟩ := tdiv_le (x := n) (d := D) (M := 4000000000000000000) (by omega) (by omega)
  have e1 := IntWalk.i64_in (h.tdiv D) (by omega)
  have e2 := IntWalk.i64_in (v.tdiv D) (by omega)
  have e3 := IntWalk.i64_in (m.tdiv D) (by omega)
  have e4 := IntWalk.i64_in (n.tdiv D) (by omega)
  have HD := Lib.hid hD
  clear hD
  go_region_held3 (fun _ => True) (trivial) (fail)
  clear t1 t2 t3 t4 t5 t6 t7 t8 e1 e2 e3 e4
  by_cases k7 : thB (h.tdiv D) (v.tdiv D) (m.tdiv D) (n.tdiv D) = true
  all_goals
    go_wp2_with (go_at_call 88; (with_reducible refine (sThrustOk_any _ _ _ _ _).mono ?_); rintro e w1 ⟨rfl, hb1⟩; obtain ⟨hc1, hf1⟩ := hb1.cells; have hl1 := hb1.lt; have hle1 := hb1.le; have hs1 := hb1.size; (try simp at hs1); (try have hs1a : w.heap.size < w1.heap.size := by omega); (try have hs1aa : w.heap.size ≤ w1.heap.size := by omega); (try have hs1b : w.heap.size + 1 < w1.heap.size := by omega); (try have hs1bb : w.heap.size + 1 ≤ w1.heap.size := by omega); (try have hs1c : w.heap.size + 1 + 1 < w1.heap.size := by omega); (try have hs1cc : w.heap.size + 1 + 1 ≤ w1.heap.size := by omega); (try have hs1d : w.heap.size + 1 + 1 + 1 < w1.heap.size := by omega); (try have hs1dd : w.heap.size + 1 + 1 + 1 ≤ w1.heap.size := by omega); (try have hs1L := Nat.lt_of_succ_le hs1); (try have hs1M := Nat.lt_of_succ_lt hs1L); (try have hs1N := Nat.lt_of_succ_lt hs1M); (try have hs1LE := Nat.le_of_lt hs1L); (try have hs1ME := Nat.le_of_lt hs1M))
    have hz0 : w1.cell? ⟨w.heap.size, 0, none⟩ = some (.int .i64 0) := by go_simp
    have hz1 : w1.cell? ⟨w.heap.size, 1, none⟩ = some (.int .i64 0) := by go_simp
    have hz2 : w1.cell? ⟨w.heap.size, 2, none⟩ = some (.int .i64 0) := by go_simp
    have hz3 : w1.cell? ⟨w.heap.size, 3, none⟩ = some (.int .i64 0) := by go_simp
    have hd : mkD h v m n = D := by unfold mkD; rw [if_neg (by omega)]; exact HD.out
    have hB : mkB h v m n = thB (h.tdiv D) (v.tdiv D) (m.tdiv D) (n.tdiv D) := by simp [mkB, mkIn, hd, k1, k2, k3, k4, z1]
    exact bodyPost_ret (v := .tuple #[.agg #[.int .i64 (mkP h h v m n), .int .i64 (mkP v h v m n), .int .i64 (mkP m h v m n), .int .i64 (mkP n h v m n)], .bool (mkB h v m n)]) (by simp only [results, Try.results71]; go_simp; simp [mkP, *]) rfl ⟨rfl, (by repeat (first | with_reducible exact Up.refl _ | with_reducible refine Up.alloc ?_ _ | with_reducible refine Up.drew ?_ | with_reducible refine Up.drewN ?_ _ | (with_reducible refine Up.setCell ?_ (by first | omega | (simp; done) | (simp; omega)) _) | with_reducible assumption | (with_reducible refine Up.trans ?_ (by with_reducible assumption))))⟩
set_option maxHeartbeats 1000000 in
theorem sMakeThrust_any (h v m n : Int) (w : World) :
    Calls Try.prog 71 #[.int .i64 h, .int .i64 v, .int .i64 m, .int .i64 n] w fun e w' => e = .returned (.tuple #[.agg #[.int .i64 (mkP h h v m n), .int .i64 (mkP v h v m n), .int .i64 (mkP m h v m n), .int .i64 (mkP n h v m n)], .bool (mkB h v m n)]) ∧ Up w w' := by
  by_cases k5 : n = 0
  · have hB : mkB h v m n = false := by simp [mkB, mkIn, *]
    have z1 : (n == 0) = true := by rw [beq_iff_eq]; exact k5
    have K5 := Lib.hid k5
    clear k5
    go_enter Try.func71, Try.ntmps71
    go_wp2_with (go_at_call 36; (with_reducible refine (l01In_any _ _ _ _).mono ?_); rintro e w1 ⟨rfl, rfl⟩)
    exact bodyPost_ret (v := .tuple #[.agg #[.int .i64 (mkP h h v m n), .int .i64 (mkP v h v m n), .int .i64 (mkP m h v m n), .int .i64 (mkP n h v m n)], .bool (mkB h v m n)]) (by simp [results, Try.results71, go_sem, mkP, *]) rfl ⟨rfl, (by repeat (first | with_reducible exact Up.refl _ | with_reducible refine Up.alloc ?_ _ | with_reducible refine Up.drew ?_ | with_reducible refine Up.drewN ?_ _ | (with_reducible refine Up.setCell ?_ (by first | omega | (simp; done) | (simp; omega)) _) | with_reducible assumption | (with_reducible refine Up.trans ?_ (by with_reducible assumption))))⟩
  have z1 : (n == 0) = false := by rw [beq_eq_false_iff_ne]; exact k5
  by_cases k1 : inB (-4000000000000000000) h 4000000000000000000 = true
  rotate_left
  · have hB : mkB h v m n = false := by simp [mkB, mkIn, *]
    go_enter Try.func71, Try.ntmps71
    go_wp2_with (go_at_call 36; (with_reducible refine (l01In_any _ _ _ _).mono ?_); rintro e w1 ⟨rfl, rfl⟩)
    exact bodyPost_ret (v := .tuple #[.agg #[.int .i64 (mkP h h v m n), .int .i64 (mkP v h v m n), .int .i64 (mkP m h v m n), .int .i64 (mkP n h v m n)], .bool (mkB h v m n)]) (by simp [results, Try.results71, go_sem, mkP, *]) rfl ⟨rfl, (by repeat (first | with_reducible exact Up.refl _ | with_reducible refine Up.alloc ?_ _ | with_reducible refine Up.drew ?_ | with_reducible refine Up.drewN ?_ _ | (with_reducible refine Up.setCell ?_ (by first | omega | (simp; done) | (simp; omega)) _) | with_reducible assumption | (with_reducible refine Up.trans ?_ (by with_reducible assumption))))⟩
  by_cases k2 : inB (-4000000000000000000) v 4000000000000000000 = true
  rotate_left
  · have hB : mkB h v m n = false := by simp [mkB, mkIn, *]
    go_enter Try.func71, Try.ntmps71
    go_wp2_with (go_at_call 36; (with_reducible refine (l01In_any _ _ _ _).mono ?_); rintro e w1 ⟨rfl, rfl⟩)
    exact bodyPost_ret (v := .tuple #[.agg #[.int .i64 (mkP h h v m n), .int .i64 (mkP v h v m n), .int .i64 (mkP m h v m n), .int .i64 (mkP n h v m n)], .bool (mkB h v m n)]) (by simp [results, Try.results71, go_sem, mkP, *]) rfl ⟨rfl, (by repeat (first | with_reducible exact Up.refl _ | with_reducible refine Up.alloc ?_ _ | with_reducible refine Up.drew ?_ | with_reducible refine Up.drewN ?_ _ | (with_reducible refine Up.setCell ?_ (by first | omega | (simp; done) | (simp; omega)) _) | with_reducible assumption | (with_reducible refine Up.trans ?_ (by with_reducible assumption))))⟩
  by_cases k3 : inB (-4000000000000000000) m 4000000000000000000 = true
  rotate_left
  · have hB : mkB h v m n = false := by simp [mkB, mkIn, *]
    go_enter Try.func71, Try.ntmps71
    go_wp2_with (go_at_call 36; (with_reducible refine (l01In_any _ _ _ _).mono ?_); rintro e w1 ⟨rfl, rfl⟩)
    exact bodyPost_ret (v := .tuple #[.agg #[.int .i64 (mkP h h v m n), .int .i64 (mkP v h v m n), .int .i64 (mkP m h v m n), .int .i64 (mkP n h v m n)], .bool (mkB h v m n)]) (by simp [results, Try.results71, go_sem, mkP, *]) rfl ⟨rfl, (by repeat (first | with_reducible exact Up.refl _ | with_reducible refine Up.alloc ?_ _ | with_reducible refine Up.drew ?_ | with_reducible refine Up.drewN ?_ _ | (with_reducible refine Up.setCell ?_ (by first | omega | (simp; done) | (simp; omega)) _) | with_reducible assumption | (with_reducible refine Up.trans ?_ (by with_reducible assumption))))⟩
  by_cases k4 : inB (-4000000000000000000) n 4000000000000000000 = true
  rotate_left
  · have hB : mkB h v m n = false := by simp [mkB, mkIn, *]
    go_enter Try.func71, Try.ntmps71
    go_wp2_with (go_at_call 36; (with_reducible refine (l01In_any _ _ _ _).mono ?_); rintro e w1 ⟨rfl, rfl⟩)
    exact bodyPost_ret (v := .tuple #[.agg #[.int .i64 (mkP h h v m n), .int .i64 (mkP v h v m n), .int .i64 (mkP m h v m n), .int .i64 (mkP n h v m n)], .bool (mkB h v m n)]) (by simp [results, Try.results71, go_sem, mkP, *]) rfl ⟨rfl, (by repeat (first | with_reducible exact Up.refl _ | with_reducible refine Up.alloc ?_ _ | with_reducible refine Up.drew ?_ | with_reducible refine Up.drewN ?_ _ | (with_reducible refine Up.setCell ?_ (by first | omega | (simp; done) | (simp; omega)) _) | with_reducible assumption | (with_reducible refine Up.trans ?_ (by with_reducible assumption))))⟩
  by_cases k6 : n < 0
  · exact smk_neg h v m n w k1 k2 k3 k4 k5 k6
  · exact smk_pos h v m n w k1 k2 k3 k4 k5 k6
end Go.Proofs.Ytaealkfnhhmmcaa
