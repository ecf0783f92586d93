/- The walks of the draws of thrusts. No condition. -/
import Derived.Test.YtchldcjieijkaaaDraw7
import Derived.Test.YtchldcjieijkaaaTt0
import Derived.Test.YtchldcjieijkaaaThr3
namespace Go.Proofs.Ytchldcjieijkaaa
open Go.RowKit
set_option linter.unusedVariables false
/-- A drawn thrust's numbers. -/
def tvB (h v m n : Int) : Prop := thB h v m n = true ∧ 0 ≤ h ∧ h ≤ 199 ∧ -1000 ≤ v ∧ v ≤ 1000 ∧ -1000 ≤ m ∧ m ≤ 1000 ∧ 1 ≤ n ∧ n ≤ 12
def trV (v : Value) : Prop := ∃ a b c d : Int, v = .agg #[.int .i64 a, .int .i64 b, .int .i64 c, .int .i64 d] ∧ tvB a b c d
theorem Cur.far4 {c p : Nat} {a : World} (h : Cur a c) (hp : c < p) (x y z t : Value) : Cur ((((a.setCell ⟨p, 0, none⟩ x).setCell ⟨p, 1, none⟩ y).setCell ⟨p, 2, none⟩ z).setCell ⟨p, 3, none⟩ t) c := (((h.far hp _).far hp _).far hp _).far hp _
theorem ChB.far4 {c p : Nat} {w a : World} (h : ChB c w a) (hp : w.heap.size ≤ p) (x y z t : Value) : ChB c w ((((a.setCell ⟨p, 0, none⟩ x).setCell ⟨p, 1, none⟩ y).setCell ⟨p, 2, none⟩ z).setCell ⟨p, 3, none⟩ t) := (((h.far hp _).far hp _).far hp _).far hp _
theorem Up.far4 {p : Nat} {w a : World} (h : Up w a) (hp : w.heap.size ≤ p) (x y z t : Value) : Up w ((((a.setCell ⟨p, 0, none⟩ x).setCell ⟨p, 1, none⟩ y).setCell ⟨p, 2, none⟩ z).setCell ⟨p, 3, none⟩ t) :=
  (((h.setCell (p := ⟨p, 0, none⟩) hp _).setCell (p := ⟨p, 1, none⟩) hp _).setCell (p := ⟨p, 2, none⟩) hp _).setCell (p := ⟨p, 3, none⟩) hp _
set_option maxHeartbeats 2000000 in
set_option maxRecDepth 100000 in
theorem l08Thrust_any (c : Nat) (w w0 : World) (hc : Cur w c) (h0 : w0.heap.size ≤ c) (hu : Up w0 w) : Calls Try.prog 15 #[.pointer (some ⟨c, 0, none⟩)] w (DrP w w0 c trV) := by
  have hcl := hc.lt
  have hu1 : Up w (w.alloc (.cells #[.int .i64 0, .int .i64 0, .int .i64 0, .int .i64 0] 31)) := Up.alloc (Up.refl w) _
  have hb0 := heap_alloc_new w (.cells #[.int .i64 0, .int .i64 0, .int .i64 0, .int .i64 0] 31)
  have hlw := hu.size
  go_enter Try.func15, Try.ntmps15
  go_wp2_with fail
  (go_at_call 25; (with_reducible refine (l01Below_any _ _ _ w0 (i64_k (by omega) (by omega)) (hc.up hu1) h0 (hu.trans hu1)).mono ?_); rintro e w1 ⟨_, rfl, ⟨x1, rfl, hx1, hy1⟩, hC1, hD1, hU1⟩)
  go_wp2_with fail
  (go_at_call 25; (with_reducible refine (l01Below_any _ _ _ w0 (i64_k (by omega) (by omega)) hC1 h0 hU1).mono ?_); rintro e w2 ⟨_, rfl, ⟨x2, rfl, hx2, hy2⟩, hC2, hD2, hU2⟩)
  go_wp2_with fail
  (go_at_call 25; (with_reducible refine (l01Below_any _ _ _ w0 (i64_k (by omega) (by omega)) hC2 h0 hU2).mono ?_); rintro e w3 ⟨_, rfl, ⟨x3, rfl, hx3, hy3⟩, hC3, hD3, hU3⟩)
  go_wp2_with fail
  (go_at_call 25; (with_reducible refine (l01Below_any _ _ _ w0 (i64_k (by omega) (by omega)) hC3 h0 hU3).mono ?_); rintro e w4 ⟨_, rfl, ⟨x4, rfl, hx4, hy4⟩, hC4, hD4, hU4⟩)
  have hz1 : x1 ≤ 199 := by omega
  have hz2 : x2 ≤ 399 := by omega
  have hz3 : x3 ≤ 2000 := by omega
  have hz4 : x4 ≤ 11 := by omega
  clear hy1 hy2 hy3 hy4
  have hD := (((((ChB.refl c w).up hu1).trans hD1).trans hD2).trans hD3).trans hD4
  have hk : w4.heap[w.heap.size]? = some (.cells #[.int .i64 0, .int .i64 0, .int .i64 0, .int .i64 0] 31 (0, 0)) := ((((hD1.trans hD2).trans hD3).trans hD4).2 w.heap.size (by simp) (by omega)).trans hb0
  have hHk := Lib.hid hk
  obtain ⟨g, a, b, cc, d, hg0, ea, eb, ec, ed, hmD, hmB, ht, b1, b2, b3, b4, b5, b6, b7, b8⟩ := mk_small (h := x1) (v := x2 - 50) (m := x3 - 1000) (n := 1 + x4) (H := 199) (M := 1000) (N := 12) (by omega) (by omega) (by omega) (by omega) (by omega) (by omega) (by omega) (by omega) (by omega) (by omega) (by omega)
  have hM := fun W => sMakeThrust_any x1 (x2 - 50) (x3 - 1000) (1 + x4) W
  have hgne : g ≠ 0 := by omega
  have q1 : mkP x1 x1 (x2 - 50) (x3 - 1000) (1 + x4) = a := by rw [mkP, hmB, if_pos rfl, hmD, ea]; exact tdiv_mul hgne
  have q2 : mkP (x2 - 50) x1 (x2 - 50) (x3 - 1000) (1 + x4) = b := by rw [mkP, hmB, if_pos rfl, hmD, eb]; exact tdiv_mul hgne
  have q3 : mkP (x3 - 1000) x1 (x2 - 50) (x3 - 1000) (1 + x4) = cc := by rw [mkP, hmB, if_pos rfl, hmD, ec]; exact tdiv_mul hgne
  have q4 : mkP (1 + x4) x1 (x2 - 50) (x3 - 1000) (1 + x4) = d := by rw [mkP, hmB, if_pos rfl, hmD, ed]; exact tdiv_mul hgne
  rw [q1, q2, q3, q4, hmB] at hM
  clear q1 q2 q3 q4 ea eb ec ed hmD hmB hk hb0 hC1 hC2 hC3 hU1 hU2 hU3 hD1 hD2 hD3 hD4
  go_wp2_with fail
  (go_at_call 28; (with_reducible refine (hM _).mono ?_); rintro e w5 ⟨rfl, hb5⟩)
  have hk5 := (Below.block hb5 w.heap.size (by have := hD.1.1; exact Nat.lt_of_lt_of_le (by
    rcases Nat.lt_or_ge w.heap.size w4.heap.size with q | q
    · exact q
    · have := hHk.out; rw [Array.getElem?_eq_none q] at this; cases this) (Nat.le_refl _))).trans hHk.out
  have hz5 : w.heap.size < w5.heap.size := by
    rcases Nat.lt_or_ge w.heap.size w5.heap.size with q | q
    · exact q
    · rw [Array.getElem?_eq_none q] at hk5; cases hk5
  have c0 : w5.cell? ⟨w.heap.size, 0, none⟩ = some (.int .i64 0) := by simp only [World.cell?, hk5]; rfl
  have c1 : w5.cell? ⟨w.heap.size, 1, none⟩ = some (.int .i64 0) := by simp only [World.cell?, hk5]; rfl
  have c2 : w5.cell? ⟨w.heap.size, 2, none⟩ = some (.int .i64 0) := by simp only [World.cell?, hk5]; rfl
  have c3 : w5.cell? ⟨w.heap.size, 3, none⟩ = some (.int .i64 0) := by simp only [World.cell?, hk5]; rfl
  have f0 : ∀ x, w5.frozen? ⟨w.heap.size, x, none⟩ = false := fun x => by simp only [World.frozen?, hk5]; simp
  have hC6 := (((hC4.up hb5).far4 hcl (.int .i64 a) (.int .i64 b) (.int .i64 cc) (.int .i64 d))).up (Up.alloc (Up.refl _) (.cells #[.int .i64 a, .int .i64 b, .int .i64 cc, .int .i64 d] 31))
  have hD6 := ((hD.up hb5).far4 (Nat.le_refl _) (.int .i64 a) (.int .i64 b) (.int .i64 cc) (.int .i64 d)).up (Up.alloc (Up.refl _) (.cells #[.int .i64 a, .int .i64 b, .int .i64 cc, .int .i64 d] 31))
  have hU6 := ((hU4.trans hb5).far4 (p := w.heap.size) (by omega) (.int .i64 a) (.int .i64 b) (.int .i64 cc) (.int .i64 d)).alloc (.cells #[.int .i64 a, .int .i64 b, .int .i64 cc, .int .i64 d] 31)
  clear hk5 hC4 hU4 hD hb5 hM
  go_wp2
  exact bodyPost_ret (v := .agg #[.int .i64 a, .int .i64 b, .int .i64 cc, .int .i64 d]) (by simp only [results]; go_simp; try simp) rfl ⟨_, rfl, ⟨a, b, cc, d, rfl, ht, b1, b2, b3, b4, b5, b6, b7, b8⟩, hC6, hD6, hU6⟩
end Go.Proofs.Ytchldcjieijkaaa
