/- The walks of the draws of points. No condition. -/
import Derived.Test.YtlpbmdoggcclpaaDraw3
import Derived.Deep.RegionHeld3
namespace Go.Proofs.Ytlpbmdoggcclpaa
open Go.RowKit
set_option linter.unusedVariables false
theorem ChB.far {c p o : Nat} {w a : World} (h : ChB c w a) (hp : w.heap.size ≤ p) (u : Value) : ChB c w (a.setCell ⟨p, o, none⟩ u) := by
  refine ⟨⟨by have := h.1.1; simpa [World.setCell] using this, fun x o' hx hd => ?_⟩, fun x hx hc => ?_⟩
  · obtain ⟨h1, h2⟩ := h.1.2 x o' hx hd
    exact ⟨(World.cell?_setCell_other _ _ _ _ (by intro e; injection e with e _; omega)).trans h1, by rw [World.frozen?_setCell]; exact h2⟩
  · rw [← h.2 x hx hc]
    simp only [World.setCell, Array.getElem?_modify]
    rw [if_neg (by omega)]
theorem Cur.far {c p o : Nat} {a : World} (h : Cur a c) (hp : c < p) (u : Value) : Cur (a.setCell ⟨p, o, none⟩ u) c := by
  have hC : Chg p (p + 1) a (a.setCell ⟨p, o, none⟩ u) := (Chg.refl _ _ a).setCell (p := ⟨p, o, none⟩) (Nat.le_refl _) (Nat.lt_succ_self _) u
  obtain ⟨A, m, cp, i, hh, B, lo, hi, q0, q1, q2, qf, ql, qh, qn, qi, qI, qs, qB⟩ := h
  have e := fun o' => hC.2 c o' ql (.inl hp)
  exact ⟨A, m, cp, i, hh, B, lo, hi, (e 0).1.trans q0, (e 1).1.trans q1, (e 2).1.trans q2, fun x => (e x).2.trans (qf x), Nat.lt_of_lt_of_le ql hC.1, qh, qn, qi, qI, qs.off hC (.inl (by omega)), qB⟩
theorem pk_set {W : World} {b1 b2 : Nat} {p : Addr} {v a b c d : Value} (hp1 : p.block ≠ b1) (hp2 : p.block ≠ b2) (h : W.cell? ⟨b1, 0, none⟩ = some a ∧ W.cell? ⟨b1, 1, none⟩ = some b ∧ W.cell? ⟨b2, 0, none⟩ = some c ∧ W.cell? ⟨b2, 1, none⟩ = some d) :
    (W.setCell p v).cell? ⟨b1, 0, none⟩ = some a ∧ (W.setCell p v).cell? ⟨b1, 1, none⟩ = some b ∧ (W.setCell p v).cell? ⟨b2, 0, none⟩ = some c ∧ (W.setCell p v).cell? ⟨b2, 1, none⟩ = some d := by
  obtain ⟨h1, h2, h3, h4⟩ := h
  refine ⟨(World.cell?_setCell_other _ _ _ _ ?_).trans h1, (World.cell?_setCell_other _ _ _ _ ?_).trans h2, (World.cell?_setCell_other _ _ _ _ ?_).trans h3, (World.cell?_setCell_other _ _ _ _ ?_).trans h4⟩
  all_goals (rintro rfl; simp at hp1 hp2)
/-- A drawn point. -/
def ptV (v : Value) : Prop := ∃ x y : Int, v = .agg #[.int .i64 x, .int .i64 y] ∧ -5 ≤ x ∧ x ≤ 15 ∧ -3 ≤ y ∧ y ≤ 12
set_option maxHeartbeats 1000000 in
set_option maxRecDepth 100000 in
theorem l02Point_any (c : Nat) (w w0 : World) (hc : Cur w c) (h0 : w0.heap.size ≤ c) (hu : Up w0 w) : Calls Try.prog 59 #[.pointer (some ⟨c, 0, none⟩)] w (DrP w w0 c ptV) := by
  have hcl := hc.lt
  have hu1 : Up w (w.alloc (.cells #[.int .i64 0, .int .i64 0] 54)) := Up.alloc (Up.refl w) _
  have hb0 := heap_alloc_new w (.cells #[.int .i64 0, .int .i64 0] 54)
  go_enter Try.func59, Try.ntmps59
  go_wp2_with fail
  (go_at_call 70; (with_reducible refine (l01Below_any _ _ _ w0 (i64_k (by omega) (by omega)) (hc.up hu1) h0 (hu.trans hu1)).mono ?_); rintro e w2 ⟨_, rfl, ⟨x2, rfl, hx2, hy2⟩, hC2, hD2, hU2⟩)
  have hx3 : x2 ≤ 20 := by omega
  clear hy2
  go_wp2_with fail
  (go_at_call 70; (with_reducible refine (l01Below_any _ _ _ w0 (i64_k (by omega) (by omega)) hC2 h0 hU2).mono ?_); rintro e w3 ⟨_, rfl, ⟨x3, rfl, hx4, hy4⟩, hC3, hD3, hU3⟩)
  have hx5 : x3 ≤ 15 := by omega
  clear hy4
  have hD := (((ChB.refl c w).up hu1).trans hD2).trans hD3
  have hk : w3.heap[w.heap.size]? = some (.cells #[.int .i64 0, .int .i64 0] 54 (0, 0)) := (((hD2.trans hD3).2 w.heap.size (by simp) (by omega))).trans hb0
  have c0 : w3.cell? ⟨w.heap.size, 0, none⟩ = some (.int .i64 0) := by simp only [World.cell?, hk]; rfl
  have c1 : w3.cell? ⟨w.heap.size, 1, none⟩ = some (.int .i64 0) := by simp only [World.cell?, hk]; rfl
  have f0 : ∀ x, w3.frozen? ⟨w.heap.size, x, none⟩ = false := fun x => by simp only [World.frozen?, hk]; simp
  have hle := hU3.size
  have hlw := hu.size
  clear hk hb0 hC2 hD2 hD3 hU2
  go_wp2
  exact bodyPost_ret (v := .agg #[.int .i64 (x2 - 5), .int .i64 (x3 - 3)]) (by simp only [results]; go_simp; try simp) rfl ⟨_, rfl, ⟨x2 - 5, x3 - 3, rfl, by omega, by omega, by omega, by omega⟩, (hC3.far hcl _).far hcl _, (hD.far (Nat.le_refl _) _).far (Nat.le_refl _) _, (hU3.setCell (p := ⟨w.heap.size, 0, none⟩) (by simp; omega) _).setCell (p := ⟨w.heap.size, 1, none⟩) (by simp; omega) _⟩
def DPP (w : World) (e : Ending) (w' : World) : Prop := ∃ x0 y0 x1 y1 x2 y2 : Int, e = .returned (.tuple #[.agg #[.int .i64 x0, .int .i64 y0], .agg #[.int .i64 x1, .int .i64 y1], .agg #[.int .i64 x2, .int .i64 y2]]) ∧
  (-5 ≤ x0 ∧ x0 ≤ 15 ∧ -3 ≤ y0 ∧ y0 ≤ 12) ∧ (-5 ≤ x1 ∧ x1 ≤ 15 ∧ -3 ≤ y1 ∧ y1 ≤ 12) ∧ (-5 ≤ x2 ∧ x2 ≤ 15 ∧ -3 ≤ y2 ∧ y2 ≤ 12) ∧ Up w w'
set_option maxHeartbeats 2000000 in
set_option maxRecDepth 100000 in
theorem DrawPoints_any (u : Value) (n lo hi : Nat) (B : Nat → Int) (w : World) (hs : Sl w lo hi 1 u n (bytF B)) (hn : n ≤ 1048576) (hB : ∀ i, i < n → 0 ≤ B i ∧ B i ≤ 255) : Calls Try.prog 28 #[u] w (DPP w) := by
  obtain ⟨wA, hwA⟩ : ∃ wA, ((w.alloc (.cells #[.int .i64 0, .int .i64 0] 54)).alloc (.cells #[.int .i64 0, .int .i64 0] 54)).alloc (.cells #[.int .i64 0, .int .i64 0] 54) = wA := ⟨_, rfl⟩
  have huA : Up w wA := by rw [← hwA]; exact (((Up.refl w).alloc _).alloc _).alloc _
  have hzA : wA.heap.size = w.heap.size + 3 := by rw [← hwA]; simp
  go_enter Try.func28, Try.ntmps28
  go_wp2_with fail
  (go_at_call 49; (with_reducible refine (l01New_any _ _ _ _ _ _ (hs.up huA) hn hB).mono ?_); rintro e w1 ⟨c, rfl, h0, hC1, hU1⟩)
  go_wp2_with fail
  (go_at_call 59; (with_reducible refine (l02Point_any _ _ wA hC1 h0 hU1).mono ?_); rintro e w2 ⟨_, rfl, ⟨x0, y0, rfl, a1, a2, a3, a4⟩, hC2, hD2, hU2⟩)
  have hu2 : Up w2 (w2.alloc (.cells #[.int .i64 x0, .int .i64 y0] 54)) := Up.alloc (Up.refl w2) _
  have hc2l := hC2.lt
  have q0 : (w2.alloc (.cells #[.int .i64 x0, .int .i64 y0] 54)).cell? ⟨w2.heap.size, 0, none⟩ = some (.int .i64 x0) := by rw [World.cell?_alloc_mark]; rfl
  have q1 : (w2.alloc (.cells #[.int .i64 x0, .int .i64 y0] 54)).cell? ⟨w2.heap.size, 1, none⟩ = some (.int .i64 y0) := by rw [World.cell?_alloc_mark]; rfl
  go_wp2_with fail
  (go_at_call 59; (with_reducible refine (l02Point_any _ _ wA (hC2.up hu2) h0 (hU2.trans hu2)).mono ?_); rintro e w3 ⟨_, rfl, ⟨x1, y1, rfl, b1, b2, b3, b4⟩, hC3, hD3, hU3⟩)
  have hu3 : Up w3 (w3.alloc (.cells #[.int .i64 x1, .int .i64 y1] 54)) := Up.alloc (Up.refl w3) _
  have hc3l := hC3.lt
  have r0 : (w3.alloc (.cells #[.int .i64 x1, .int .i64 y1] 54)).cell? ⟨w3.heap.size, 0, none⟩ = some (.int .i64 x1) := by rw [World.cell?_alloc_mark]; rfl
  have r1 : (w3.alloc (.cells #[.int .i64 x1, .int .i64 y1] 54)).cell? ⟨w3.heap.size, 1, none⟩ = some (.int .i64 y1) := by rw [World.cell?_alloc_mark]; rfl
  have hz23 : w2.heap.size + 1 ≤ w3.heap.size := by have := hD3.1.1; simpa using this
  have p0 := (hu3.cells.1 w2.heap.size 0 (by omega)).trans (((hD3.1.2 w2.heap.size 0 (by simp) (.inr (by omega))).1).trans q0)
  have p1 := (hu3.cells.1 w2.heap.size 1 (by omega)).trans (((hD3.1.2 w2.heap.size 1 (by simp) (.inr (by omega))).1).trans q1)
  have hC4 := hC3.up hu3
  have hU4 := hU3.trans hu3
  obtain ⟨w4, hw4⟩ : ∃ w4, w3.alloc (.cells #[.int .i64 x1, .int .i64 y1] 54) = w4 := ⟨_, rfl⟩
  rw [hw4] at r0 r1 p0 p1 hC4 hU4
  have hz34 : w4.heap.size = w3.heap.size + 1 := by rw [← hw4]; simp
  clear hu3 hu2 q0 q1 hC2 hD2 hU2 hC3 hD3 hU3 hC1 hU1
  have n2 : w.heap.size + 3 ≤ w2.heap.size := by omega
  have hC4d : Cur w4.drew c := hC4
  have hU4d : Up wA w4.drew := hU4.drew
  have k4 : w4.cell? ⟨w2.heap.size, 0, none⟩ = some (.int .i64 x0) ∧ w4.cell? ⟨w2.heap.size, 1, none⟩ = some (.int .i64 y0) ∧ w4.cell? ⟨w3.heap.size, 0, none⟩ = some (.int .i64 x1) ∧ w4.cell? ⟨w3.heap.size, 1, none⟩ = some (.int .i64 y1) := ⟨p0, p1, r0, r1⟩
  have HK4 := Lib.hid k4
  have HK4d : Hid (w4.drew.cell? ⟨w2.heap.size, 0, none⟩ = some (.int .i64 x0) ∧ w4.drew.cell? ⟨w2.heap.size, 1, none⟩ = some (.int .i64 y0) ∧ w4.drew.cell? ⟨w3.heap.size, 0, none⟩ = some (.int .i64 x1) ∧ w4.drew.cell? ⟨w3.heap.size, 1, none⟩ = some (.int .i64 y1)) := k4
  have hA0 : ∀ j, j < 3 → wA.heap[w.heap.size + j]? = some (.cells #[.int .i64 0, .int .i64 0] 54 (0, 0)) := by
    intro j hj
    rw [← hwA]
    have g0 := heap_alloc_new w (.cells #[.int .i64 0, .int .i64 0] 54)
    have g1 := heap_alloc_new (w.alloc (.cells #[.int .i64 0, .int .i64 0] 54)) (.cells #[.int .i64 0, .int .i64 0] 54)
    have g2 := heap_alloc_new ((w.alloc (.cells #[.int .i64 0, .int .i64 0] 54)).alloc (.cells #[.int .i64 0, .int .i64 0] 54)) (.cells #[.int .i64 0, .int .i64 0] 54)
    simp only [World.size_alloc] at g1 g2
    match j, hj with
    | 0, _ => exact (Below.heap_alloc _ _ _ (by simp; omega)).trans ((Below.heap_alloc _ _ _ (by simp)).trans g0)
    | 1, _ => exact (Below.heap_alloc _ _ _ (by simp)).trans g1
    | 2, _ => exact g2
  have hK5 : ∀ w5, ChB c w4.drew w5 → Hid (w5.cell? ⟨w2.heap.size, 0, none⟩ = some (.int .i64 x0) ∧ w5.cell? ⟨w2.heap.size, 1, none⟩ = some (.int .i64 y0) ∧ w5.cell? ⟨w3.heap.size, 0, none⟩ = some (.int .i64 x1) ∧ w5.cell? ⟨w3.heap.size, 1, none⟩ = some (.int .i64 y1)) := by
    intro w5 hD5
    have e := fun b o (hb : b < w4.heap.size) (hc : c + 1 ≤ b) => (hD5.1.2 b o hb (.inr hc)).1
    exact ⟨(e _ _ (by omega) (by omega)).trans p0, (e _ _ (by omega) (by omega)).trans p1, (e _ _ (by omega) (by omega)).trans r0, (e _ _ (by omega) (by omega)).trans r1⟩
  have hL5 : ∀ w5, Up wA w5 → w5.cell? ⟨w.heap.size, 0, none⟩ = some (.int .i64 0) ∧ w5.cell? ⟨w.heap.size, 1, none⟩ = some (.int .i64 0) ∧ w5.cell? ⟨w.heap.size + 1, 0, none⟩ = some (.int .i64 0) ∧ w5.cell? ⟨w.heap.size + 1, 1, none⟩ = some (.int .i64 0) ∧ w5.cell? ⟨w.heap.size + 1 + 1, 0, none⟩ = some (.int .i64 0) ∧ w5.cell? ⟨w.heap.size + 1 + 1, 1, none⟩ = some (.int .i64 0) ∧
      (∀ x, w5.frozen? ⟨w.heap.size, x, none⟩ = false) ∧ (∀ x, w5.frozen? ⟨w.heap.size + 1, x, none⟩ = false) ∧ (∀ x, w5.frozen? ⟨w.heap.size + 1 + 1, x, none⟩ = false) := by
    intro w5 h
    have g0 := (Below.block h (w.heap.size + 0) (by omega)).trans (hA0 0 (by omega))
    have g1 := (Below.block h (w.heap.size + 1) (by omega)).trans (hA0 1 (by omega))
    have g2 := (Below.block h (w.heap.size + 1 + 1) (by omega)).trans (hA0 2 (by omega))
    rw [Nat.add_zero] at g0
    refine ⟨?_, ?_, ?_, ?_, ?_, ?_, fun x => ?_, fun x => ?_, fun x => ?_⟩
    · simp only [World.cell?, g0]; rfl
    · simp only [World.cell?, g0]; rfl
    · simp only [World.cell?, g1]; rfl
    · simp only [World.cell?, g1]; rfl
    · simp only [World.cell?, g2]; rfl
    · simp only [World.cell?, g2]; rfl
    · simp only [World.frozen?, g0]; simp
    · simp only [World.frozen?, g1]; simp
    · simp only [World.frozen?, g2]; simp
  clear p0 p1 r0 r1 k4 hwA
  go_wp2_with fail
  go_region_held3 (fun w' => w'.cell? ⟨w2.heap.size, 0, none⟩ = some (.int .i64 x0) ∧ w'.cell? ⟨w2.heap.size, 1, none⟩ = some (.int .i64 y0) ∧ w'.cell? ⟨w3.heap.size, 0, none⟩ = some (.int .i64 x1) ∧ w'.cell? ⟨w3.heap.size, 1, none⟩ = some (.int .i64 y1)) (repeat (first | with_reducible exact HK4.out | with_reducible exact HK4d.out | with_reducible exact k5.out | with_reducible refine pk_set (by dsimp only; omega) (by dsimp only; omega) ?_)) (first | (go_at_call 59; (with_reducible refine (l02Point_any _ _ wA hC4d h0 hU4d).mono ?_); rintro e w5 ⟨_, rfl, ⟨x2, y2, rfl, e1, e2, e3, e4⟩, hC5, hD5, hU5⟩; have k5 := hK5 _ hD5; obtain ⟨m0, m1, m2, m3, m4, m5, f0, f1, f2⟩ := hL5 _ hU5))
  have hu5 := huA.trans hU5
  have hup : Up w ((((((w5.setCell ⟨w.heap.size, 0, none⟩ (.int .i64 x0)).setCell ⟨w.heap.size, 1, none⟩ (.int .i64 y0)).setCell ⟨w.heap.size + 1, 0, none⟩ (.int .i64 x1)).setCell ⟨w.heap.size + 1, 1, none⟩ (.int .i64 y1)).setCell ⟨w.heap.size + 1 + 1, 0, none⟩ (.int .i64 x2)).setCell ⟨w.heap.size + 1 + 1, 1, none⟩ (.int .i64 y2)) :=
    (((((hu5.setCell (p := ⟨w.heap.size, 0, none⟩) (Nat.le_refl _) _).setCell (p := ⟨w.heap.size, 1, none⟩) (Nat.le_refl _) _).setCell (p := ⟨w.heap.size + 1, 0, none⟩) (by dsimp only; omega) _).setCell (p := ⟨w.heap.size + 1, 1, none⟩) (by dsimp only; omega) _).setCell (p := ⟨w.heap.size + 1 + 1, 0, none⟩) (by dsimp only; omega) _).setCell (p := ⟨w.heap.size + 1 + 1, 1, none⟩) (by dsimp only; omega) _
  clear k5 HK4 HK4d hK5 hL5 hA0 hC5 hD5 hU5 hC4d hU4d
  go_wp2
  exact bodyPost_ret (v := .tuple #[.agg #[.int .i64 x0, .int .i64 y0], .agg #[.int .i64 x1, .int .i64 y1], .agg #[.int .i64 x2, .int .i64 y2]]) (by simp only [results]; go_simp; try simp) rfl ⟨x0, y0, x1, y1, x2, y2, rfl, ⟨a1, a2, a3, a4⟩, ⟨b1, b2, b3, b4⟩, ⟨e1, e2, e3, e4⟩, hup⟩
end Go.Proofs.Ytlpbmdoggcclpaa
