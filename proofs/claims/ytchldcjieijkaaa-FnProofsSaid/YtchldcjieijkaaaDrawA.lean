/- The walks of the draws of rows. No condition. -/
import Derived.Test.YtchldcjieijkaaaDraw8
namespace Go.Proofs.Ytchldcjieijkaaa
open Go.RowKit
set_option linter.unusedVariables false
/-- A drawn row. -/
def roV (v : Value) : Prop := ∃ a b c d : Int, v = .agg #[.int .i64 a, .int .i64 b, .int .i64 c, .int .i64 d] ∧ -10 ≤ a ∧ a ≤ 10 ∧ -10 ≤ b ∧ b ≤ 10 ∧ -1 ≤ c ∧ c ≤ 1 ∧ -2000 ≤ d ∧ d ≤ 2000
def raV (v : Value) : Prop := ∃ a b c d : Int, v = .agg #[.int .i64 a, .int .i64 b, .int .i64 c, .int .i64 d]
def fourC (a b c d : Int) : Obj := .cells #[.int .i64 a, .int .i64 b, .int .i64 c, .int .i64 d] 41
theorem four_at {w : World} {p : Nat} {a b c d : Int} {t : TypeId} (hk : w.heap[p]? = some (.cells #[.int .i64 a, .int .i64 b, .int .i64 c, .int .i64 d] t (0, 0))) :
    w.cell? ⟨p, 0, none⟩ = some (.int .i64 a) ∧ w.cell? ⟨p, 1, none⟩ = some (.int .i64 b) ∧ w.cell? ⟨p, 2, none⟩ = some (.int .i64 c) ∧ w.cell? ⟨p, 3, none⟩ = some (.int .i64 d) ∧ (∀ x, w.frozen? ⟨p, x, none⟩ = false) ∧ p < w.heap.size := by
  refine ⟨?_, ?_, ?_, ?_, fun x => ?_, ?_⟩
  · simp only [World.cell?, hk]; rfl
  · simp only [World.cell?, hk]; rfl
  · simp only [World.cell?, hk]; rfl
  · simp only [World.cell?, hk]; rfl
  · simp only [World.frozen?, hk]; simp
  · rcases Nat.lt_or_ge p w.heap.size with q | q
    · exact q
    · rw [Array.getElem?_eq_none q] at hk; cases hk
set_option maxHeartbeats 2000000 in
set_option maxRecDepth 100000 in
theorem l10Row_any (c : Nat) (w w0 : World) (hc : Cur w c) (h0 : w0.heap.size ≤ c) (hu : Up w0 w) : Calls Try.prog 24 #[.pointer (some ⟨c, 0, none⟩)] w (DrP w w0 c roV) := by
  have hcl := hc.lt
  have hu1 : Up w (w.alloc (.cells #[.int .i64 0, .int .i64 0, .int .i64 0, .int .i64 0] 41)) := Up.alloc (Up.refl w) _
  have hb0 := heap_alloc_new w (.cells #[.int .i64 0, .int .i64 0, .int .i64 0, .int .i64 0] 41)
  have hlw := hu.size
  go_enter Try.func24, Try.ntmps24
  go_wp2_with fail
  (go_at_call 25; (with_reducible refine (l01Below_any _ _ _ w0 (i64_k (by omega) (by omega)) (hc.up hu1) h0 (hu.trans hu1)).mono ?_); rintro e w1 ⟨_, rfl, ⟨x1, rfl, hx1, hy1⟩, hC1, hD1, hU1⟩)
  go_wp2_with fail
  (go_at_call 25; (with_reducible refine (l01Below_any _ _ _ w0 (i64_k (by omega) (by omega)) hC1 h0 hU1).mono ?_); rintro e w2 ⟨_, rfl, ⟨x2, rfl, hx2, hy2⟩, hC2, hD2, hU2⟩)
  go_wp2_with fail
  (go_at_call 25; (with_reducible refine (l01Below_any _ _ _ w0 (i64_k (by omega) (by omega)) hC2 h0 hU2).mono ?_); rintro e w3 ⟨_, rfl, ⟨x3, rfl, hx3, hy3⟩, hC3, hD3, hU3⟩)
  go_wp2_with fail
  (go_at_call 25; (with_reducible refine (l01Below_any _ _ _ w0 (i64_k (by omega) (by omega)) hC3 h0 hU3).mono ?_); rintro e w4 ⟨_, rfl, ⟨x4, rfl, hx4, hy4⟩, hC4, hD4, hU4⟩)
  have hz1 : x1 ≤ 20 := by omega
  have hz2 : x2 ≤ 20 := by omega
  have hz3 : x3 ≤ 2 := by omega
  have hz4 : x4 ≤ 4000 := by omega
  clear hy1 hy2 hy3 hy4
  have hD := (((((ChB.refl c w).up hu1).trans hD1).trans hD2).trans hD3).trans hD4
  have hk : w4.heap[w.heap.size]? = some (.cells #[.int .i64 0, .int .i64 0, .int .i64 0, .int .i64 0] 41 (0, 0)) := ((((hD1.trans hD2).trans hD3).trans hD4).2 w.heap.size (by simp) (by omega)).trans hb0
  obtain ⟨c0, c1, c2, c3, f0, hz⟩ := four_at hk
  have hC6 := hC4.far4 hcl (.int .i64 (x1 - 10)) (.int .i64 (x2 - 10)) (.int .i64 (x3 - 1)) (.int .i64 (x4 - 2000))
  have hD6 := hD.far4 (Nat.le_refl _) (.int .i64 (x1 - 10)) (.int .i64 (x2 - 10)) (.int .i64 (x3 - 1)) (.int .i64 (x4 - 2000))
  have hU6 := hU4.far4 (p := w.heap.size) (by omega) (.int .i64 (x1 - 10)) (.int .i64 (x2 - 10)) (.int .i64 (x3 - 1)) (.int .i64 (x4 - 2000))
  clear hk hb0 hC1 hC2 hC3 hU1 hU2 hU3 hD1 hD2 hD3 hD4 hC4 hU4 hD
  go_wp2
  exact bodyPost_ret (v := .agg #[.int .i64 (x1 - 10), .int .i64 (x2 - 10), .int .i64 (x3 - 1), .int .i64 (x4 - 2000)]) (by simp only [results]; go_simp; try simp) rfl ⟨_, rfl, ⟨_, _, _, _, rfl, by omega, by omega, by omega, by omega, by omega, by omega, by omega, by omega⟩, hC6, hD6, hU6⟩
end Go.Proofs.Ytchldcjieijkaaa
