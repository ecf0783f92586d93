/- The walk of the draw of any row. No condition. -/
import Derived.Test.YtchldcjieijkaaaDrawA
namespace Go.Proofs.Ytchldcjieijkaaa
open Go.RowKit
set_option linter.unusedVariables false
/-- The numbers of a literal. -/
def litR (L : List Int) (i j : Nat) : Int := L.getD i 0
theorem lit_sl (L : List Int) (hL : 0 < L.length) (w : World) (C : Array Value) (hC : C = (L.map fun x => Value.int .i64 x).toArray) (t : TypeId) : Sl (w.alloc (.cells C t)) w.heap.size (w.heap.size + 1) 1 (.slice (some ⟨w.heap.size, 0, none⟩) L.length L.length) L.length (intF (litR L)) := by
  refine ⟨by simp, _, L.length, rfl, Nat.le_refl _, fun _ => ⟨w.heap.size, 0, rfl, Nat.le_refl _, by omega, fun i j hi hj => ?_⟩⟩
  have hj0 : j = 0 := by omega
  subst hj0
  rw [show 0 + (i * 1 + 0) = i from by omega, World.cell?_alloc_mark, hC]
  simp [intF, litR, List.getD_eq_getElem?_getD, hi]
theorem lit4 (w : World) (a b c d : Int) (t : TypeId) : Sl (w.alloc (.cells #[.int .i64 a, .int .i64 b, .int .i64 c, .int .i64 d] t)) w.heap.size (w.heap.size + 1) 1 (.slice (some ⟨w.heap.size, 0, none⟩) 4 4) 4 (intF (litR [a, b, c, d])) := lit_sl [a, b, c, d] (by simp) w _ rfl t
theorem lit3 (w : World) (a b c : Int) (t : TypeId) : Sl (w.alloc (.cells #[.int .i64 a, .int .i64 b, .int .i64 c] t)) w.heap.size (w.heap.size + 1) 1 (.slice (some ⟨w.heap.size, 0, none⟩) 3 3) 3 (intF (litR [a, b, c])) := lit_sl [a, b, c] (by simp) w _ rfl t
theorem lit2 (w : World) (a b : Int) (t : TypeId) : Sl (w.alloc (.cells #[.int .i64 a, .int .i64 b] t)) w.heap.size (w.heap.size + 1) 1 (.slice (some ⟨w.heap.size, 0, none⟩) 2 2) 2 (intF (litR [a, b])) := lit_sl [a, b] (by simp) w _ rfl t
set_option maxHeartbeats 4000000 in
set_option maxRecDepth 100000 in
theorem l10Any_any (c : Nat) (w w0 : World) (hc : Cur w c) (h0 : w0.heap.size ≤ c) (hu : Up w0 w) : Calls Try.prog 27 #[.pointer (some ⟨c, 0, none⟩)] w (DrP w w0 c raV) := by
  have hcl := hc.lt
  have hu1 : Up w (w.alloc (.cells #[.int .i64 0, .int .i64 0, .int .i64 0, .int .i64 0] 41)) := Up.alloc (Up.refl w) _
  have hb0 := heap_alloc_new w (.cells #[.int .i64 0, .int .i64 0, .int .i64 0, .int .i64 0] 41)
  have hlw := hu.size
  have hs1 : w.heap.size < (w.alloc (.cells #[.int .i64 0, .int .i64 0, .int .i64 0, .int .i64 0] 41)).heap.size := by simp
  go_enter Try.func27, Try.ntmps27
  go_wp2_with fail
  (go_at_call 24; (with_reducible refine (l10Row_any _ _ w0 (hc.up hu1) h0 (hu.trans hu1)).mono ?_); rintro e w1 ⟨_, rfl, ⟨x0, x1, x2, x3, rfl, _⟩, hC1, hD1, hU1⟩)
  have hk1 := (hD1.2 w.heap.size hs1 (by omega)).trans hb0
  have hz1 := (four_at hk1).2.2.2.2.2
  have hu2 : Up w1 (w1.alloc (.cells #[.int .i64 x0, .int .i64 x1, .int .i64 x2, .int .i64 x3] 41)) := Up.alloc (Up.refl w1) _
  have hb2 := heap_alloc_new w1 (.cells #[.int .i64 x0, .int .i64 x1, .int .i64 x2, .int .i64 x3] 41)
  have hk2 := (Below.block hu2 w.heap.size hz1).trans hk1
  have hs2 : w1.heap.size < (w1.alloc (.cells #[.int .i64 x0, .int .i64 x1, .int .i64 x2, .int .i64 x3] 41)).heap.size := by simp
  have hs2' := (four_at hk2).2.2.2.2.2
  have hc1l := hC1.lt
  have hD2 : ChB c w _ := ((ChB.refl c w).up hu1).trans (hD1.up hu2)
  go_wp2_with fail
  (go_at_call 25; (with_reducible refine (l01Below_any _ _ _ w0 (i64_k (by omega) (by omega)) (hC1.up hu2) h0 (hU1.trans hu2)).mono ?_); rintro e w3 ⟨_, rfl, ⟨y, rfl, hy1, hy2⟩, hC3, hD3', hU3⟩)
  have hD3 := hD2.trans hD3'
  have hk3 := (hD3'.2 w.heap.size hs2' (by omega)).trans hk2
  have hb3 := (hD3'.2 w1.heap.size hs2 (by omega)).trans hb2
  obtain ⟨p, hp⟩ : ∃ p, w1.heap.size = p := ⟨_, rfl⟩
  rw [hp] at hb3
  have hpq : w.heap.size < p := by omega
  have hcp : c < p := by omega
  clear hk1 hk2 hb2 hb0 hD1 hD3' hC1 hU1 hD2 hu2 hs2 hs2' hs1 hz1 hy2
  by_cases e0 : y = 0
  · subst e0
    have ha : Up w3 (w3.alloc (.cells #[.int .i64 (-101), .int .i64 (-100), .int .i64 100, .int .i64 101] 3)) := Up.alloc (Up.refl w3) _
    have ka := (Below.block ha _ (four_at hk3).2.2.2.2.2).trans hk3
    have kb := (Below.block ha _ (four_at hb3).2.2.2.2.2).trans hb3
    have sa := (four_at ka).2.2.2.2.2
    have sb := (four_at kb).2.2.2.2.2
    go_wp2_with fail
    (go_at_call 26; (with_reducible refine (l01PickInt_any c _ 4 w3.heap.size (w3.heap.size + 1) _ _ w0 (lit4 w3 _ _ _ _ _) (.inr (Nat.succ_le_of_lt hC3.lt)) (by omega) (by omega) (hC3.up ha) h0 (hU3.trans ha)).mono ?_); rintro e w4 ⟨_, rfl, ⟨i, hi, rfl⟩, hC4, hD4', hU4⟩)
    generalize litR [-101, -100, 100, 101] i 0 = z
    obtain ⟨a0, a1, a2, a3, af, asz⟩ := four_at ((hD4'.2 w.heap.size sa (by omega)).trans ka)
    obtain ⟨b0, b1, b2, b3, bf, bsz⟩ := four_at ((hD4'.2 p sb (by omega)).trans kb)
    have hD4 := (hD3.up ha).trans hD4'
    have hC6 := (hC4.far (o := 0) hcp (.int .i64 z)).far4 hcl (.int .i64 z) (.int .i64 x1) (.int .i64 x2) (.int .i64 x3)
    have hD6 := (hD4.far (o := 0) (Nat.le_of_lt hpq) (.int .i64 z)).far4 (Nat.le_refl _) (.int .i64 z) (.int .i64 x1) (.int .i64 x2) (.int .i64 x3)
    have hU6 := (hU4.setCell (p := ⟨p, 0, none⟩) (show w0.heap.size ≤ p by omega) (.int .i64 z)).far4 (p := w.heap.size) (by omega) (.int .i64 z) (.int .i64 x1) (.int .i64 x2) (.int .i64 x3)
    clear hk3 hb3 ka kb hD4' hC4 hU4 hD4 hC3 hD3 hU3
    go_wp2
    exact bodyPost_ret (v := .agg #[.int .i64 z, .int .i64 x1, .int .i64 x2, .int .i64 x3]) (by simp only [results]; go_simp; try simp) rfl ⟨_, rfl, ⟨_, _, _, _, rfl⟩, hC6, hD6, hU6⟩
  by_cases e1 : y = 1
  · subst e1
    have ha : Up w3 (w3.alloc (.cells #[.int .i64 (-2), .int .i64 2, .int .i64 1] 3)) := Up.alloc (Up.refl w3) _
    have ka := (Below.block ha _ (four_at hk3).2.2.2.2.2).trans hk3
    have kb := (Below.block ha _ (four_at hb3).2.2.2.2.2).trans hb3
    have sa := (four_at ka).2.2.2.2.2
    have sb := (four_at kb).2.2.2.2.2
    go_wp2_with fail
    (go_at_call 26; (with_reducible refine (l01PickInt_any c _ 3 w3.heap.size (w3.heap.size + 1) _ _ w0 (lit3 w3 _ _ _ _) (.inr (Nat.succ_le_of_lt hC3.lt)) (by omega) (by omega) (hC3.up ha) h0 (hU3.trans ha)).mono ?_); rintro e w4 ⟨_, rfl, ⟨i, hi, rfl⟩, hC4, hD4', hU4⟩)
    generalize litR [-2, 2, 1] i 0 = z
    obtain ⟨a0, a1, a2, a3, af, asz⟩ := four_at ((hD4'.2 w.heap.size sa (by omega)).trans ka)
    obtain ⟨b0, b1, b2, b3, bf, bsz⟩ := four_at ((hD4'.2 p sb (by omega)).trans kb)
    have hD4 := (hD3.up ha).trans hD4'
    have hC6 := (hC4.far (o := 2) hcp (.int .i64 z)).far4 hcl (.int .i64 x0) (.int .i64 x1) (.int .i64 z) (.int .i64 x3)
    have hD6 := (hD4.far (o := 2) (Nat.le_of_lt hpq) (.int .i64 z)).far4 (Nat.le_refl _) (.int .i64 x0) (.int .i64 x1) (.int .i64 z) (.int .i64 x3)
    have hU6 := (hU4.setCell (p := ⟨p, 2, none⟩) (show w0.heap.size ≤ p by omega) (.int .i64 z)).far4 (p := w.heap.size) (by omega) (.int .i64 x0) (.int .i64 x1) (.int .i64 z) (.int .i64 x3)
    clear hk3 hb3 ka kb hD4' hC4 hU4 hD4 hC3 hD3 hU3
    go_wp2
    exact bodyPost_ret (v := .agg #[.int .i64 x0, .int .i64 x1, .int .i64 z, .int .i64 x3]) (by simp only [results]; go_simp; try simp) rfl ⟨_, rfl, ⟨_, _, _, _, rfl⟩, hC6, hD6, hU6⟩
  by_cases e2 : y = 2
  · subst e2
    have ha : Up w3 (w3.alloc (.cells #[.int .i64 (-1000000001), .int .i64 1000000000, .int .i64 1000000001] 3)) := Up.alloc (Up.refl w3) _
    have ka := (Below.block ha _ (four_at hk3).2.2.2.2.2).trans hk3
    have kb := (Below.block ha _ (four_at hb3).2.2.2.2.2).trans hb3
    have sa := (four_at ka).2.2.2.2.2
    have sb := (four_at kb).2.2.2.2.2
    go_wp2_with fail
    (go_at_call 26; (with_reducible refine (l01PickInt_any c _ 3 w3.heap.size (w3.heap.size + 1) _ _ w0 (lit3 w3 _ _ _ _) (.inr (Nat.succ_le_of_lt hC3.lt)) (by omega) (by omega) (hC3.up ha) h0 (hU3.trans ha)).mono ?_); rintro e w4 ⟨_, rfl, ⟨i, hi, rfl⟩, hC4, hD4', hU4⟩)
    generalize litR [-1000000001, 1000000000, 1000000001] i 0 = z
    obtain ⟨a0, a1, a2, a3, af, asz⟩ := four_at ((hD4'.2 w.heap.size sa (by omega)).trans ka)
    obtain ⟨b0, b1, b2, b3, bf, bsz⟩ := four_at ((hD4'.2 p sb (by omega)).trans kb)
    have hD4 := (hD3.up ha).trans hD4'
    have hC6 := (hC4.far (o := 3) hcp (.int .i64 z)).far4 hcl (.int .i64 x0) (.int .i64 x1) (.int .i64 x2) (.int .i64 z)
    have hD6 := (hD4.far (o := 3) (Nat.le_of_lt hpq) (.int .i64 z)).far4 (Nat.le_refl _) (.int .i64 x0) (.int .i64 x1) (.int .i64 x2) (.int .i64 z)
    have hU6 := (hU4.setCell (p := ⟨p, 3, none⟩) (show w0.heap.size ≤ p by omega) (.int .i64 z)).far4 (p := w.heap.size) (by omega) (.int .i64 x0) (.int .i64 x1) (.int .i64 x2) (.int .i64 z)
    clear hk3 hb3 ka kb hD4' hC4 hU4 hD4 hC3 hD3 hU3
    go_wp2
    exact bodyPost_ret (v := .agg #[.int .i64 x0, .int .i64 x1, .int .i64 x2, .int .i64 z]) (by simp only [results]; go_simp; try simp) rfl ⟨_, rfl, ⟨_, _, _, _, rfl⟩, hC6, hD6, hU6⟩
  have n0 : (y == 0) = false := by rw [beq_eq_false_iff_ne]; exact e0
  have n1 : (y == 1) = false := by rw [beq_eq_false_iff_ne]; exact e1
  have n2 : (y == 2) = false := by rw [beq_eq_false_iff_ne]; exact e2
  obtain ⟨a0, a1, a2, a3, af, asz⟩ := four_at hk3
  obtain ⟨b0, b1, b2, b3, bf, bsz⟩ := four_at hb3
  have hC6 := hC3.far4 hcl (.int .i64 x0) (.int .i64 x1) (.int .i64 x2) (.int .i64 x3)
  have hD6 := hD3.far4 (Nat.le_refl _) (.int .i64 x0) (.int .i64 x1) (.int .i64 x2) (.int .i64 x3)
  have hU6 := hU3.far4 (p := w.heap.size) (by omega) (.int .i64 x0) (.int .i64 x1) (.int .i64 x2) (.int .i64 x3)
  clear hk3 hb3 hC3 hD3 hU3
  go_wp2
  exact bodyPost_ret (v := .agg #[.int .i64 x0, .int .i64 x1, .int .i64 x2, .int .i64 x3]) (by simp only [results]; go_simp; try simp) rfl ⟨_, rfl, ⟨_, _, _, _, rfl⟩, hC6, hD6, hU6⟩
end Go.Proofs.Ytchldcjieijkaaa
