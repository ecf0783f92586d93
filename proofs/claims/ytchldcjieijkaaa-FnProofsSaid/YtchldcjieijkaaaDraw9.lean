/- The walk of the draw of two thrusts. No condition. -/
import Derived.Test.YtchldcjieijkaaaDraw8
namespace Go.Proofs.Ytchldcjieijkaaa
open Go.RowKit
set_option linter.unusedVariables false
theorem pk_set4 {W : World} {b1 : Nat} {p : Addr} {v a b c d : Value} (hp1 : p.block ≠ b1) (h : W.cell? ⟨b1, 0, none⟩ = some a ∧ W.cell? ⟨b1, 1, none⟩ = some b ∧ W.cell? ⟨b1, 2, none⟩ = some c ∧ W.cell? ⟨b1, 3, none⟩ = some d) :
    (W.setCell p v).cell? ⟨b1, 0, none⟩ = some a ∧ (W.setCell p v).cell? ⟨b1, 1, none⟩ = some b ∧ (W.setCell p v).cell? ⟨b1, 2, none⟩ = some c ∧ (W.setCell p v).cell? ⟨b1, 3, none⟩ = some d := by
  obtain ⟨h1, h2, h3, h4⟩ := h
  refine ⟨(World.cell?_setCell_other _ _ _ _ ?_).trans h1, (World.cell?_setCell_other _ _ _ _ ?_).trans h2, (World.cell?_setCell_other _ _ _ _ ?_).trans h3, (World.cell?_setCell_other _ _ _ _ ?_).trans h4⟩
  all_goals (rintro rfl; simp at hp1)
def DTP (w : World) (e : Ending) (w' : World) : Prop := ∃ a b c d x y z t : Int, e = .returned (.tuple #[.agg #[.int .i64 a, .int .i64 b, .int .i64 c, .int .i64 d], .agg #[.int .i64 x, .int .i64 y, .int .i64 z, .int .i64 t]]) ∧ tvB a b c d ∧ tvB x y z t ∧ Up w w'
set_option maxHeartbeats 2000000 in
set_option maxRecDepth 100000 in
theorem DrawThrusts_any (u : Value) (n lo hi : Nat) (B : Nat → Int) (w : World) (hs : Sl w lo hi 1 u n (bytF B)) (hn : n ≤ 1048576) (hB : ∀ i, i < n → 0 ≤ B i ∧ B i ≤ 255) : Calls Try.prog 6 #[u] w (DTP w) := by
  obtain ⟨wA, hwA⟩ : ∃ wA, (w.alloc (.cells #[.int .i64 0, .int .i64 0, .int .i64 0, .int .i64 0] 31)).alloc (.cells #[.int .i64 0, .int .i64 0, .int .i64 0, .int .i64 0] 31) = wA := ⟨_, rfl⟩
  have huA : Up w wA := by rw [← hwA]; exact ((Up.refl w).alloc _).alloc _
  have hzA : wA.heap.size = w.heap.size + 2 := by rw [← hwA]; simp
  have g0 : wA.heap[w.heap.size]? = some (.cells #[.int .i64 0, .int .i64 0, .int .i64 0, .int .i64 0] 31 (0, 0)) := by rw [← hwA]; exact (Below.heap_alloc _ _ _ (by simp)).trans (heap_alloc_new w _)
  have g1 : wA.heap[w.heap.size + 1]? = some (.cells #[.int .i64 0, .int .i64 0, .int .i64 0, .int .i64 0] 31 (0, 0)) := by
    rw [← hwA]
    have := heap_alloc_new (w.alloc (.cells #[.int .i64 0, .int .i64 0, .int .i64 0, .int .i64 0] 31)) (.cells #[.int .i64 0, .int .i64 0, .int .i64 0, .int .i64 0] 31)
    simp only [World.size_alloc] at this
    exact this
  have hL5 : ∀ w5, Up wA w5 → w5.cell? ⟨w.heap.size, 0, none⟩ = some (.int .i64 0) ∧ w5.cell? ⟨w.heap.size, 1, none⟩ = some (.int .i64 0) ∧ w5.cell? ⟨w.heap.size, 2, none⟩ = some (.int .i64 0) ∧ w5.cell? ⟨w.heap.size, 3, none⟩ = some (.int .i64 0) ∧ w5.cell? ⟨w.heap.size + 1, 0, none⟩ = some (.int .i64 0) ∧ w5.cell? ⟨w.heap.size + 1, 1, none⟩ = some (.int .i64 0) ∧ w5.cell? ⟨w.heap.size + 1, 2, none⟩ = some (.int .i64 0) ∧ w5.cell? ⟨w.heap.size + 1, 3, none⟩ = some (.int .i64 0) ∧
      (∀ x, w5.frozen? ⟨w.heap.size, x, none⟩ = false) ∧ (∀ x, w5.frozen? ⟨w.heap.size + 1, x, none⟩ = false) := by
    intro w5 h
    have g0 := (Below.block h w.heap.size (by omega)).trans g0
    have g1 := (Below.block h (w.heap.size + 1) (by omega)).trans g1
    refine ⟨?_, ?_, ?_, ?_, ?_, ?_, ?_, ?_, fun x => ?_, fun x => ?_⟩
    · simp only [World.cell?, g0]; rfl
    · simp only [World.cell?, g0]; rfl
    · simp only [World.cell?, g0]; rfl
    · simp only [World.cell?, g0]; rfl
    · simp only [World.cell?, g1]; rfl
    · simp only [World.cell?, g1]; rfl
    · simp only [World.cell?, g1]; rfl
    · simp only [World.cell?, g1]; rfl
    · simp only [World.frozen?, g0]; simp
    · simp only [World.frozen?, g1]; simp
  clear g0 g1
  go_enter Try.func6, Try.ntmps6
  go_wp2_with fail
  (go_at_call 14; (with_reducible refine (l01New_any _ _ _ _ _ _ (hs.up huA) hn hB).mono ?_); rintro e w1 ⟨c, rfl, h0, hC1, hU1⟩)
  go_wp2_with fail
  (go_at_call 15; (with_reducible refine (l08Thrust_any _ _ wA hC1 h0 hU1).mono ?_); rintro e w2 ⟨_, rfl, ⟨x0, y0, z0, t0, rfl, hb0⟩, hC2, hD2, hU2⟩)
  have hc2l := hC2.lt
  have hu2 : Up w2 (w2.alloc (.cells #[.int .i64 x0, .int .i64 y0, .int .i64 z0, .int .i64 t0] 31)) := Up.alloc (Up.refl w2) _
  have hC4 := hC2.up hu2
  have hU4 := hU2.trans hu2
  have p0 : (w2.alloc (.cells #[.int .i64 x0, .int .i64 y0, .int .i64 z0, .int .i64 t0] 31)).cell? ⟨w2.heap.size, 0, none⟩ = some (.int .i64 x0) := by rw [World.cell?_alloc_mark]; rfl
  have p1 : (w2.alloc (.cells #[.int .i64 x0, .int .i64 y0, .int .i64 z0, .int .i64 t0] 31)).cell? ⟨w2.heap.size, 1, none⟩ = some (.int .i64 y0) := by rw [World.cell?_alloc_mark]; rfl
  have p2 : (w2.alloc (.cells #[.int .i64 x0, .int .i64 y0, .int .i64 z0, .int .i64 t0] 31)).cell? ⟨w2.heap.size, 2, none⟩ = some (.int .i64 z0) := by rw [World.cell?_alloc_mark]; rfl
  have p3 : (w2.alloc (.cells #[.int .i64 x0, .int .i64 y0, .int .i64 z0, .int .i64 t0] 31)).cell? ⟨w2.heap.size, 3, none⟩ = some (.int .i64 t0) := by rw [World.cell?_alloc_mark]; rfl
  obtain ⟨w4, hw4⟩ : ∃ w4, w2.alloc (.cells #[.int .i64 x0, .int .i64 y0, .int .i64 z0, .int .i64 t0] 31) = w4 := ⟨_, rfl⟩
  rw [hw4] at hC4 hU4 p0 p1 p2 p3
  have hz24 : w4.heap.size = w2.heap.size + 1 := by rw [← hw4]; simp
  have n2 : w.heap.size + 2 ≤ w2.heap.size := by have := hU2.size; omega
  have hC4d : Cur w4.drew c := hC4
  have hU4d : Up wA w4.drew := hU4.drew
  have HK4 := Lib.hid (And.intro p0 (And.intro p1 (And.intro p2 p3)))
  have HK4d : Hid (w4.drew.cell? ⟨w2.heap.size, 0, none⟩ = some (.int .i64 x0) ∧ w4.drew.cell? ⟨w2.heap.size, 1, none⟩ = some (.int .i64 y0) ∧ w4.drew.cell? ⟨w2.heap.size, 2, none⟩ = some (.int .i64 z0) ∧ w4.drew.cell? ⟨w2.heap.size, 3, none⟩ = some (.int .i64 t0)) := ⟨p0, p1, p2, p3⟩
  have hK5 : ∀ w5, ChB c w4.drew w5 → Hid (w5.cell? ⟨w2.heap.size, 0, none⟩ = some (.int .i64 x0) ∧ w5.cell? ⟨w2.heap.size, 1, none⟩ = some (.int .i64 y0) ∧ w5.cell? ⟨w2.heap.size, 2, none⟩ = some (.int .i64 z0) ∧ w5.cell? ⟨w2.heap.size, 3, none⟩ = some (.int .i64 t0)) := by
    intro w5 hD5
    have e := fun b o (hb : b < w4.heap.size) (hc : c + 1 ≤ b) => (hD5.1.2 b o hb (.inr hc)).1
    exact ⟨(e _ _ (by omega) (by omega)).trans p0, (e _ _ (by omega) (by omega)).trans p1, (e _ _ (by omega) (by omega)).trans p2, (e _ _ (by omega) (by omega)).trans p3⟩
  clear p0 p1 p2 p3 hC1 hU1 hC2 hU2 hD2 hu2 hwA
  go_wp2_with fail
  go_region_held3 (fun w' => w'.cell? ⟨w2.heap.size, 0, none⟩ = some (.int .i64 x0) ∧ w'.cell? ⟨w2.heap.size, 1, none⟩ = some (.int .i64 y0) ∧ w'.cell? ⟨w2.heap.size, 2, none⟩ = some (.int .i64 z0) ∧ w'.cell? ⟨w2.heap.size, 3, none⟩ = some (.int .i64 t0)) (repeat (first | with_reducible exact HK4.out | with_reducible exact HK4d.out | with_reducible exact k5.out | with_reducible refine pk_set4 (by dsimp only; omega) ?_)) (first | (go_at_call 15; (with_reducible refine (l08Thrust_any _ _ wA hC4d h0 hU4d).mono ?_); rintro e w5 ⟨_, rfl, ⟨x1, y1, z1, t1, rfl, hb1⟩, hC5, hD5, hU5⟩; have k5 := hK5 _ hD5; obtain ⟨m0, m1, m2, m3, m4, m5, m6, m7, f0, f1⟩ := hL5 _ hU5))
  have hu5 := huA.trans hU5
  have hup : Up w ((((((((w5.setCell ⟨w.heap.size, 0, none⟩ (.int .i64 x0)).setCell ⟨w.heap.size, 1, none⟩ (.int .i64 y0)).setCell ⟨w.heap.size, 2, none⟩ (.int .i64 z0)).setCell ⟨w.heap.size, 3, none⟩ (.int .i64 t0)).setCell ⟨w.heap.size + 1, 0, none⟩ (.int .i64 x1)).setCell ⟨w.heap.size + 1, 1, none⟩ (.int .i64 y1)).setCell ⟨w.heap.size + 1, 2, none⟩ (.int .i64 z1)).setCell ⟨w.heap.size + 1, 3, none⟩ (.int .i64 t1)) :=
    (hu5.far4 (Nat.le_refl _) _ _ _ _).far4 (by omega) _ _ _ _
  clear k5 HK4 HK4d hK5 hL5 hC5 hD5 hU5 hC4d hU4d hC4 hU4
  go_wp2
  exact bodyPost_ret (v := .tuple #[.agg #[.int .i64 x0, .int .i64 y0, .int .i64 z0, .int .i64 t0], .agg #[.int .i64 x1, .int .i64 y1, .int .i64 z1, .int .i64 t1]]) (by simp only [results]; go_simp; try simp) rfl ⟨x0, y0, z0, t0, x1, y1, z1, t1, rfl, hb0, hb1, hup⟩
end Go.Proofs.Ytchldcjieijkaaa
