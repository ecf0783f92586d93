/- The walks of DetOfRows, SolveRows and MixThrusts: each returns what the plain function gives. No condition. -/
import Derived.Test.YtaealkfnhhmmcaaDet
import Derived.Test.YtaealkfnhhmmcaaThr3
import Derived.Test.YtaealkfnhhmmcaaKeep
namespace Go.Proofs.Ytaealkfnhhmmcaa
open Go.RowKit
set_option linter.unusedVariables false
theorem det_bd {a1 a2 a3 b1 b2 b3 c1 c2 c3 : Int} (A B C : Int) (ha1 : -A ≤ a1 ∧ a1 ≤ A) (ha2 : -A ≤ a2 ∧ a2 ≤ A) (ha3 : -A ≤ a3 ∧ a3 ≤ A) (hb1 : -B ≤ b1 ∧ b1 ≤ B) (hb2 : -B ≤ b2 ∧ b2 ≤ B) (hb3 : -B ≤ b3 ∧ b3 ≤ B)
    (hc1 : -C ≤ c1 ∧ c1 ≤ C) (hc2 : -C ≤ c2 ∧ c2 ≤ C) (hc3 : -C ≤ c3 ∧ c3 ≤ C) : -(3 * (A * (2 * (B * C)))) ≤ detI a1 a2 a3 b1 b2 b3 c1 c2 c3 ∧ detI a1 a2 a3 b1 b2 b3 c1 c2 c3 ≤ 3 * (A * (2 * (B * C))) := by
  have m1 := mul_bd B C hb2.1 hb2.2 hc3.1 hc3.2
  have m2 := mul_bd B C hb3.1 hb3.2 hc2.1 hc2.2
  have m3 := mul_bd B C hb1.1 hb1.2 hc3.1 hc3.2
  have m4 := mul_bd B C hb3.1 hb3.2 hc1.1 hc1.2
  have m5 := mul_bd B C hb1.1 hb1.2 hc2.1 hc2.2
  have m6 := mul_bd B C hb2.1 hb2.2 hc1.1 hc1.2
  generalize hBC : B * C = M at *
  have n1 := mul_bd (a := a1) (b := b2 * c3 - b3 * c2) A (2 * M) ha1.1 ha1.2 (by omega) (by omega)
  have n2 := mul_bd (a := a2) (b := b1 * c3 - b3 * c1) A (2 * M) ha2.1 ha2.2 (by omega) (by omega)
  have n3 := mul_bd (a := a3) (b := b1 * c2 - b2 * c1) A (2 * M) ha3.1 ha3.2 (by omega) (by omega)
  unfold detI
  generalize A * (2 * M) = N at *
  omega

theorem rowsAt_three (w : World) (g : Nat) (a b c d e f g' h i j k l : Int)
    (c0 : w.cell? ⟨g, 0, none⟩ = some (.int .i64 a)) (c1 : w.cell? ⟨g, 1, none⟩ = some (.int .i64 b)) (c2 : w.cell? ⟨g, 2, none⟩ = some (.int .i64 c)) (c3 : w.cell? ⟨g, 3, none⟩ = some (.int .i64 d))
    (c4 : w.cell? ⟨g, 4, none⟩ = some (.int .i64 e)) (c5 : w.cell? ⟨g, 5, none⟩ = some (.int .i64 f)) (c6 : w.cell? ⟨g, 6, none⟩ = some (.int .i64 g')) (c7 : w.cell? ⟨g, 7, none⟩ = some (.int .i64 h))
    (c8 : w.cell? ⟨g, 8, none⟩ = some (.int .i64 i)) (c9 : w.cell? ⟨g, 9, none⟩ = some (.int .i64 j)) (ca : w.cell? ⟨g, 10, none⟩ = some (.int .i64 k)) (cb : w.cell? ⟨g, 11, none⟩ = some (.int .i64 l)) :
    RowsAt w g [⟨a, b, c, d⟩, ⟨e, f, g', h⟩, ⟨i, j, k, l⟩] := by
  intro n hn
  match n, hn with
  | 0, _ => exact ⟨c0, c1, c2, c3⟩
  | 1, _ => exact ⟨c4, c5, c6, c7⟩
  | 2, _ => exact ⟨c8, c9, ca, cb⟩
theorem rowsB_three (p q r : R4) : rowsB [p, q, r] = (p.ok && q.ok && r.ok) := by simp [rowsB, Bool.and_assoc]
theorem rows_dets {a b c d e f g h i j k l : Int} (k1 : rowB a b c d = true) (k2 : rowB e f g h = true) (k3 : rowB i j k l = true) :
    I64 (detI a e i b f j c g k) ∧ inB (-4000000000000000000) (detI d h l b f j c g k) 4000000000000000000 = true ∧ inB (-4000000000000000000) (detI a e i d h l c g k) 4000000000000000000 = true ∧ inB (-4000000000000000000) (detI a e i b f j d h l) 4000000000000000000 = true ∧
    inB (-4000000000000000000) (detI a e i b f j c g k) 4000000000000000000 = true := by
  obtain ⟨a1, a2, a3, a4, a5, a6, a7, a8⟩ := rowB_bd k1
  obtain ⟨b1, b2, b3, b4, b5, b6, b7, b8⟩ := rowB_bd k2
  obtain ⟨c1, c2, c3, c4, c5, c6, c7, c8⟩ := rowB_bd k3
  have m0 := det_bd (a1 := a) (a2 := e) (a3 := i) (b1 := b) (b2 := f) (b3 := j) (c1 := c) (c2 := g) (c3 := k) 100 100 1 ⟨a1, a2⟩ ⟨b1, b2⟩ ⟨c1, c2⟩ ⟨a3, a4⟩ ⟨b3, b4⟩ ⟨c3, c4⟩ ⟨a5, a6⟩ ⟨b5, b6⟩ ⟨c5, c6⟩
  have m1 := det_bd (a1 := d) (a2 := h) (a3 := l) (b1 := b) (b2 := f) (b3 := j) (c1 := c) (c2 := g) (c3 := k) 1000000000 100 1 ⟨a7, a8⟩ ⟨b7, b8⟩ ⟨c7, c8⟩ ⟨a3, a4⟩ ⟨b3, b4⟩ ⟨c3, c4⟩ ⟨a5, a6⟩ ⟨b5, b6⟩ ⟨c5, c6⟩
  have m2 := det_bd (a1 := a) (a2 := e) (a3 := i) (b1 := d) (b2 := h) (b3 := l) (c1 := c) (c2 := g) (c3 := k) 100 1000000000 1 ⟨a1, a2⟩ ⟨b1, b2⟩ ⟨c1, c2⟩ ⟨a7, a8⟩ ⟨b7, b8⟩ ⟨c7, c8⟩ ⟨a5, a6⟩ ⟨b5, b6⟩ ⟨c5, c6⟩
  have m3 := det_bd (a1 := a) (a2 := e) (a3 := i) (b1 := b) (b2 := f) (b3 := j) (c1 := d) (c2 := h) (c3 := l) 100 100 1000000000 ⟨a1, a2⟩ ⟨b1, b2⟩ ⟨c1, c2⟩ ⟨a3, a4⟩ ⟨b3, b4⟩ ⟨c3, c4⟩ ⟨a7, a8⟩ ⟨b7, b8⟩ ⟨c7, c8⟩
  simp only [inB_true, I64]
  omega
/-- SolveRows: whether there is a solution; its parts. -/
def slD (a b c e f g i j k : Int) : Int := detI a e i b f j c g k
def slB (a b c d e f g h i j k l : Int) : Bool := rowB a b c d && rowB e f g h && rowB i j k l && !(slD a b c e f g i j k == 0) &&
  mkB (slD d b c h f g l j k) (slD a d c e h g i l k) (slD a b d e f h i j l) (slD a b c e f g i j k)
def slP (n : Nat) (a b c d e f g h i j k l : Int) : Int := if slB a b c d e f g h i j k l then
  mkP (match n with | 0 => slD d b c h f g l j k | 1 => slD a d c e h g i l k | 2 => slD a b d e f h i j l | _ => slD a b c e f g i j k) (slD d b c h f g l j k) (slD a d c e h g i l k) (slD a b d e f h i j l) (slD a b c e f g i j k) else 0
theorem rowsOk_three (a b c d e f g h i j k l : Int) (x cap : Nat) (w : World) (hr : RowsAt w x [⟨a, b, c, d⟩, ⟨e, f, g, h⟩, ⟨i, j, k, l⟩]) (hb : x < w.heap.size) :
    Calls Try.prog 22 #[.slice (some ⟨x, 0, none⟩) 3 cap] w fun e' w' => e' = .returned (.bool (rowB a b c d && rowB e f g h && rowB i j k l)) ∧ Up w w' := by
  have := rowsOk_any _ x cap w hr hb (by simp)
  rw [rowsB_three] at this
  exact this
set_option maxHeartbeats 1000000 in
theorem DetOfRows_any (a b c d e f g h i j k l : Int) (w : World) : Calls Try.prog 7 #[.agg #[.int .i64 a, .int .i64 b, .int .i64 c, .int .i64 d], .agg #[.int .i64 e, .int .i64 f, .int .i64 g, .int .i64 h], .agg #[.int .i64 i, .int .i64 j, .int .i64 k, .int .i64 l]] w fun en w' =>
    en = .returned (.int .i64 (drI a b c d e f g h i j k l)) ∧ Up w w' := by
  by_cases h1 : (rowB a b c d && rowB e f g h && rowB i j k l) = true
  · simp only [Bool.and_eq_true] at h1
    obtain ⟨⟨k1, k2⟩, k3⟩ := h1
    have hd : I64 (detI a e i b f j c g k) := (rows_dets k1 k2 k3).1
    go_enter Try.func7, Try.ntmps7
    go_wp2_with (first | (go_at_call 22; (with_reducible refine (rowsOk_three a b c d e f g h i j k l _ _ _ (rowsAt_three _ _ _ _ _ _ _ _ _ _ _ _ _ _ (by go_simp) (by go_simp) (by go_simp) (by go_simp) (by go_simp) (by go_simp) (by go_simp) (by go_simp) (by go_simp) (by go_simp) (by go_simp) (by go_simp)) (by simp)).mono ?_); rintro e w1 ⟨rfl, hb1⟩; obtain ⟨hc1, hf1⟩ := hb1.cells; have hl1 := hb1.lt; have hle1 := hb1.le; have hs1 := hb1.size; (try simp at hs1); (try have hs1a : w.heap.size < w1.heap.size := by omega); (try have hs1aa : w.heap.size ≤ w1.heap.size := by omega); (try have hs1b : w.heap.size + 1 < w1.heap.size := by omega); (try have hs1bb : w.heap.size + 1 ≤ w1.heap.size := by omega); (try have hs1c : w.heap.size + 1 + 1 < w1.heap.size := by omega); (try have hs1cc : w.heap.size + 1 + 1 ≤ w1.heap.size := by omega); (try have hs1d : w.heap.size + 1 + 1 + 1 < w1.heap.size := by omega); (try have hs1dd : w.heap.size + 1 + 1 + 1 ≤ w1.heap.size := by omega); (try have hs1L := Nat.lt_of_succ_le hs1); (try have hs1M := Nat.lt_of_succ_lt hs1L); (try have hs1N := Nat.lt_of_succ_lt hs1M); (try have hs1LE := Nat.le_of_lt hs1L); (try have hs1ME := Nat.le_of_lt hs1M)) | (go_at_call 19; (with_reducible refine (columnsOf_any _ _ _ _ _ _ _ _ _ _ _ _ _).mono ?_); rintro e w1 ⟨rfl, hb1⟩; obtain ⟨hc1, hf1⟩ := hb1.cells; have hl1 := hb1.lt; have hle1 := hb1.le; have hs1 := hb1.size; (try simp at hs1); (try have hs1a : w.heap.size < w1.heap.size := by omega); (try have hs1aa : w.heap.size ≤ w1.heap.size := by omega); (try have hs1b : w.heap.size + 1 < w1.heap.size := by omega); (try have hs1bb : w.heap.size + 1 ≤ w1.heap.size := by omega); (try have hs1c : w.heap.size + 1 + 1 < w1.heap.size := by omega); (try have hs1cc : w.heap.size + 1 + 1 ≤ w1.heap.size := by omega); (try have hs1d : w.heap.size + 1 + 1 + 1 < w1.heap.size := by omega); (try have hs1dd : w.heap.size + 1 + 1 + 1 ≤ w1.heap.size := by omega); (try have hs1L := Nat.lt_of_succ_le hs1); (try have hs1M := Nat.lt_of_succ_lt hs1L); (try have hs1N := Nat.lt_of_succ_lt hs1M); (try have hs1LE := Nat.le_of_lt hs1L); (try have hs1ME := Nat.le_of_lt hs1M)) | (go_at_call 21; (with_reducible refine (determinant_any _ _ _ _ _ _ _ _ _ _ (by assumption)).mono ?_); rintro e w1 ⟨rfl, hb1⟩; obtain ⟨hc1, hf1⟩ := hb1.cells; have hl1 := hb1.lt; have hle1 := hb1.le; have hs1 := hb1.size; (try simp at hs1); (try have hs1a : w.heap.size < w1.heap.size := by omega); (try have hs1aa : w.heap.size ≤ w1.heap.size := by omega); (try have hs1b : w.heap.size + 1 < w1.heap.size := by omega); (try have hs1bb : w.heap.size + 1 ≤ w1.heap.size := by omega); (try have hs1c : w.heap.size + 1 + 1 < w1.heap.size := by omega); (try have hs1cc : w.heap.size + 1 + 1 ≤ w1.heap.size := by omega); (try have hs1d : w.heap.size + 1 + 1 + 1 < w1.heap.size := by omega); (try have hs1dd : w.heap.size + 1 + 1 + 1 ≤ w1.heap.size := by omega); (try have hs1L := Nat.lt_of_succ_le hs1); (try have hs1M := Nat.lt_of_succ_lt hs1L); (try have hs1N := Nat.lt_of_succ_lt hs1M); (try have hs1LE := Nat.le_of_lt hs1L); (try have hs1ME := Nat.le_of_lt hs1M)))
    go_ret
    exact ⟨by simp [drI, k1, k2, k3, detI_turn a b c], (by repeat (first | with_reducible exact Up.refl _ | with_reducible refine Up.alloc ?_ _ | with_reducible refine Up.drew ?_ | with_reducible refine Up.drewN ?_ _ | (with_reducible refine Up.setCell ?_ (by first | omega | (simp; done) | (simp; omega)) _) | with_reducible assumption | (with_reducible refine Up.trans ?_ (by with_reducible assumption))))⟩
  · go_enter Try.func7, Try.ntmps7
    go_wp2_with (first | (go_at_call 22; (with_reducible refine (rowsOk_three a b c d e f g h i j k l _ _ _ (rowsAt_three _ _ _ _ _ _ _ _ _ _ _ _ _ _ (by go_simp) (by go_simp) (by go_simp) (by go_simp) (by go_simp) (by go_simp) (by go_simp) (by go_simp) (by go_simp) (by go_simp) (by go_simp) (by go_simp)) (by simp)).mono ?_); rintro e w1 ⟨rfl, hb1⟩; obtain ⟨hc1, hf1⟩ := hb1.cells; have hl1 := hb1.lt; have hle1 := hb1.le; have hs1 := hb1.size; (try simp at hs1); (try have hs1a : w.heap.size < w1.heap.size := by omega); (try have hs1aa : w.heap.size ≤ w1.heap.size := by omega); (try have hs1b : w.heap.size + 1 < w1.heap.size := by omega); (try have hs1bb : w.heap.size + 1 ≤ w1.heap.size := by omega); (try have hs1c : w.heap.size + 1 + 1 < w1.heap.size := by omega); (try have hs1cc : w.heap.size + 1 + 1 ≤ w1.heap.size := by omega); (try have hs1d : w.heap.size + 1 + 1 + 1 < w1.heap.size := by omega); (try have hs1dd : w.heap.size + 1 + 1 + 1 ≤ w1.heap.size := by omega); (try have hs1L := Nat.lt_of_succ_le hs1); (try have hs1M := Nat.lt_of_succ_lt hs1L); (try have hs1N := Nat.lt_of_succ_lt hs1M); (try have hs1LE := Nat.le_of_lt hs1L); (try have hs1ME := Nat.le_of_lt hs1M)))
    go_ret
    exact ⟨by simp [drI, h1], (by repeat (first | with_reducible exact Up.refl _ | with_reducible refine Up.alloc ?_ _ | with_reducible refine Up.drew ?_ | with_reducible refine Up.drewN ?_ _ | (with_reducible refine Up.setCell ?_ (by first | omega | (simp; done) | (simp; omega)) _) | with_reducible assumption | (with_reducible refine Up.trans ?_ (by with_reducible assumption))))⟩
theorem sDetOfRows_any (a b c d e f g h i j k l : Int) (w : World) : Calls Try.prog 69 #[.agg #[.int .i64 a, .int .i64 b, .int .i64 c, .int .i64 d], .agg #[.int .i64 e, .int .i64 f, .int .i64 g, .int .i64 h], .agg #[.int .i64 i, .int .i64 j, .int .i64 k, .int .i64 l]] w fun en w' =>
    en = .returned (.int .i64 (drI a b c d e f g h i j k l)) ∧ Up w w' := by
  by_cases k1 : rowB a b c d = true
  rotate_left
  · go_enter Try.func69, Try.ntmps69
    go_wp2_with (go_at_call 29; (with_reducible refine (sRowOk_any _ _ _ _ _).mono ?_); rintro e w1 ⟨rfl, hb1⟩; obtain ⟨hc1, hf1⟩ := hb1.cells; have hl1 := hb1.lt; have hle1 := hb1.le; have hs1 := hb1.size; (try simp at hs1); (try have hs1a : w.heap.size < w1.heap.size := by omega); (try have hs1aa : w.heap.size ≤ w1.heap.size := by omega); (try have hs1b : w.heap.size + 1 < w1.heap.size := by omega); (try have hs1bb : w.heap.size + 1 ≤ w1.heap.size := by omega); (try have hs1c : w.heap.size + 1 + 1 < w1.heap.size := by omega); (try have hs1cc : w.heap.size + 1 + 1 ≤ w1.heap.size := by omega); (try have hs1d : w.heap.size + 1 + 1 + 1 < w1.heap.size := by omega); (try have hs1dd : w.heap.size + 1 + 1 + 1 ≤ w1.heap.size := by omega); (try have hs1L := Nat.lt_of_succ_le hs1); (try have hs1M := Nat.lt_of_succ_lt hs1L); (try have hs1N := Nat.lt_of_succ_lt hs1M); (try have hs1LE := Nat.le_of_lt hs1L); (try have hs1ME := Nat.le_of_lt hs1M))
    go_ret
    exact ⟨by simp [drI, *], (by repeat (first | with_reducible exact Up.refl _ | with_reducible refine Up.alloc ?_ _ | with_reducible refine Up.drew ?_ | with_reducible refine Up.drewN ?_ _ | (with_reducible refine Up.setCell ?_ (by first | omega | (simp; done) | (simp; omega)) _) | with_reducible assumption | (with_reducible refine Up.trans ?_ (by with_reducible assumption))))⟩
  by_cases k2 : rowB e f g h = true
  rotate_left
  · go_enter Try.func69, Try.ntmps69
    go_wp2_with (go_at_call 29; (with_reducible refine (sRowOk_any _ _ _ _ _).mono ?_); rintro e w1 ⟨rfl, hb1⟩; obtain ⟨hc1, hf1⟩ := hb1.cells; have hl1 := hb1.lt; have hle1 := hb1.le; have hs1 := hb1.size; (try simp at hs1); (try have hs1a : w.heap.size < w1.heap.size := by omega); (try have hs1aa : w.heap.size ≤ w1.heap.size := by omega); (try have hs1b : w.heap.size + 1 < w1.heap.size := by omega); (try have hs1bb : w.heap.size + 1 ≤ w1.heap.size := by omega); (try have hs1c : w.heap.size + 1 + 1 < w1.heap.size := by omega); (try have hs1cc : w.heap.size + 1 + 1 ≤ w1.heap.size := by omega); (try have hs1d : w.heap.size + 1 + 1 + 1 < w1.heap.size := by omega); (try have hs1dd : w.heap.size + 1 + 1 + 1 ≤ w1.heap.size := by omega); (try have hs1L := Nat.lt_of_succ_le hs1); (try have hs1M := Nat.lt_of_succ_lt hs1L); (try have hs1N := Nat.lt_of_succ_lt hs1M); (try have hs1LE := Nat.le_of_lt hs1L); (try have hs1ME := Nat.le_of_lt hs1M))
    go_ret
    exact ⟨by simp [drI, *], (by repeat (first | with_reducible exact Up.refl _ | with_reducible refine Up.alloc ?_ _ | with_reducible refine Up.drew ?_ | with_reducible refine Up.drewN ?_ _ | (with_reducible refine Up.setCell ?_ (by first | omega | (simp; done) | (simp; omega)) _) | with_reducible assumption | (with_reducible refine Up.trans ?_ (by with_reducible assumption))))⟩
  by_cases k3 : rowB i j k l = true
  rotate_left
  · go_enter Try.func69, Try.ntmps69
    go_wp2_with (go_at_call 29; (with_reducible refine (sRowOk_any _ _ _ _ _).mono ?_); rintro e w1 ⟨rfl, hb1⟩; obtain ⟨hc1, hf1⟩ := hb1.cells; have hl1 := hb1.lt; have hle1 := hb1.le; have hs1 := hb1.size; (try simp at hs1); (try have hs1a : w.heap.size < w1.heap.size := by omega); (try have hs1aa : w.heap.size ≤ w1.heap.size := by omega); (try have hs1b : w.heap.size + 1 < w1.heap.size := by omega); (try have hs1bb : w.heap.size + 1 ≤ w1.heap.size := by omega); (try have hs1c : w.heap.size + 1 + 1 < w1.heap.size := by omega); (try have hs1cc : w.heap.size + 1 + 1 ≤ w1.heap.size := by omega); (try have hs1d : w.heap.size + 1 + 1 + 1 < w1.heap.size := by omega); (try have hs1dd : w.heap.size + 1 + 1 + 1 ≤ w1.heap.size := by omega); (try have hs1L := Nat.lt_of_succ_le hs1); (try have hs1M := Nat.lt_of_succ_lt hs1L); (try have hs1N := Nat.lt_of_succ_lt hs1M); (try have hs1LE := Nat.le_of_lt hs1L); (try have hs1ME := Nat.le_of_lt hs1M))
    go_ret
    exact ⟨by simp [drI, *], (by repeat (first | with_reducible exact Up.refl _ | with_reducible refine Up.alloc ?_ _ | with_reducible refine Up.drew ?_ | with_reducible refine Up.drewN ?_ _ | (with_reducible refine Up.setCell ?_ (by first | omega | (simp; done) | (simp; omega)) _) | with_reducible assumption | (with_reducible refine Up.trans ?_ (by with_reducible assumption))))⟩
  have hd : I64 (detI a b c e f g i j k) := by rw [detI_turn]; exact (rows_dets k1 k2 k3).1
  go_enter Try.func69, Try.ntmps69
  go_wp2_with (go_at_call 29; (with_reducible refine (sRowOk_any _ _ _ _ _).mono ?_); rintro e w1 ⟨rfl, hb1⟩; obtain ⟨hc1, hf1⟩ := hb1.cells; have hl1 := hb1.lt; have hle1 := hb1.le; have hs1 := hb1.size; (try simp at hs1); (try have hs1a : w.heap.size < w1.heap.size := by omega); (try have hs1aa : w.heap.size ≤ w1.heap.size := by omega); (try have hs1b : w.heap.size + 1 < w1.heap.size := by omega); (try have hs1bb : w.heap.size + 1 ≤ w1.heap.size := by omega); (try have hs1c : w.heap.size + 1 + 1 < w1.heap.size := by omega); (try have hs1cc : w.heap.size + 1 + 1 ≤ w1.heap.size := by omega); (try have hs1d : w.heap.size + 1 + 1 + 1 < w1.heap.size := by omega); (try have hs1dd : w.heap.size + 1 + 1 + 1 ≤ w1.heap.size := by omega); (try have hs1L := Nat.lt_of_succ_le hs1); (try have hs1M := Nat.lt_of_succ_lt hs1L); (try have hs1N := Nat.lt_of_succ_lt hs1M); (try have hs1LE := Nat.le_of_lt hs1L); (try have hs1ME := Nat.le_of_lt hs1M))
  (refine wp_region_up (by kernel_rfl) (by kernel_rfl) ?_; (repeat (refine wpQuiet_step (fun K hK => ?_); go_simp; first | (refine hK _ ?_; clear hK K) | (apply Exists.intro; refine ⟨fun wq hwq => ?_, hK _ ?_⟩; (obtain ⟨hcq, hfq⟩ := hwq.cells; (try go_simp); first | done | rfl | exact ⟨rfl, rfl⟩ | (first | (go_at_call 86; exact up_of hwq (l11Line_any _ _ _ _ _)) | (go_at_call 70; exact up_of hwq (l11Det_any _ _ _ _ _ _ _ _ _ _ (by assumption))))); clear hK K))); refine wpQuiet_nil ?_; intro w1 hb1; obtain ⟨hc1, hf1⟩ := hb1.cells; have hl1 := hb1.lt; have hle1 := hb1.le; have hs1 := hb1.size; (try simp at hs1); (try have hs1a : w.heap.size < w1.heap.size := by omega); (try have hs1aa : w.heap.size ≤ w1.heap.size := by omega); (try have hs1b : w.heap.size + 1 < w1.heap.size := by omega); (try have hs1bb : w.heap.size + 1 ≤ w1.heap.size := by omega); (try have hs1c : w.heap.size + 1 + 1 < w1.heap.size := by omega); (try have hs1cc : w.heap.size + 1 + 1 ≤ w1.heap.size := by omega); (try have hs1d : w.heap.size + 1 + 1 + 1 < w1.heap.size := by omega); (try have hs1dd : w.heap.size + 1 + 1 + 1 ≤ w1.heap.size := by omega); (try have hs1L := Nat.lt_of_succ_le hs1); (try have hs1M := Nat.lt_of_succ_lt hs1L); (try have hs1N := Nat.lt_of_succ_lt hs1M); (try have hs1LE := Nat.le_of_lt hs1L); (try have hs1ME := Nat.le_of_lt hs1M))
  go_wp2
  go_ret
  exact ⟨by simp [drI, *], (by repeat (first | with_reducible exact Up.refl _ | with_reducible refine Up.alloc ?_ _ | with_reducible refine Up.drew ?_ | with_reducible refine Up.drewN ?_ _ | (with_reducible refine Up.setCell ?_ (by first | omega | (simp; done) | (simp; omega)) _) | with_reducible assumption | (with_reducible refine Up.trans ?_ (by with_reducible assumption))))⟩
set_option maxRecDepth 100000 in
set_option maxHeartbeats 4000000 in
theorem SolveRows_any (a b c d e f g h i j k l : Int) (w : World) : Calls Try.prog 6 #[.agg #[.int .i64 a, .int .i64 b, .int .i64 c, .int .i64 d], .agg #[.int .i64 e, .int .i64 f, .int .i64 g, .int .i64 h], .agg #[.int .i64 i, .int .i64 j, .int .i64 k, .int .i64 l]] w fun en w' =>
    en = .returned (.tuple #[.agg #[.int .i64 (slP 0 a b c d e f g h i j k l), .int .i64 (slP 1 a b c d e f g h i j k l), .int .i64 (slP 2 a b c d e f g h i j k l), .int .i64 (slP 3 a b c d e f g h i j k l)], .bool (slB a b c d e f g h i j k l)]) ∧ Up w w' := by
  by_cases h1 : drI a b c d e f g h i j k l = 0
  · have hB : slB a b c d e f g h i j k l = false := by
      cases hr : (rowB a b c d && rowB e f g h && rowB i j k l) with
      | false => simp [slB, hr]
      | true =>
        have : slD a b c e f g i j k = 0 := by rw [drI, if_pos hr] at h1; rw [slD, ← detI_turn]; exact h1
        simp [slB, this]
    have z1 : (drI a b c d e f g h i j k l == 0) = true := by rw [beq_iff_eq]; exact h1
    have H1 := Lib.hid h1
    clear h1
    go_enter Try.func6, Try.ntmps6
    go_wp2_with (go_at_call 7; (with_reducible refine (DetOfRows_any _ _ _ _ _ _ _ _ _ _ _ _ _).mono ?_); rintro e w1 ⟨rfl, hb1⟩; obtain ⟨hc1, hf1⟩ := hb1.cells; have hl1 := hb1.lt; have hle1 := hb1.le; have hs1 := hb1.size; (try simp at hs1); (try have hs1a : w.heap.size < w1.heap.size := by omega); (try have hs1aa : w.heap.size ≤ w1.heap.size := by omega); (try have hs1b : w.heap.size + 1 < w1.heap.size := by omega); (try have hs1bb : w.heap.size + 1 ≤ w1.heap.size := by omega); (try have hs1c : w.heap.size + 1 + 1 < w1.heap.size := by omega); (try have hs1cc : w.heap.size + 1 + 1 ≤ w1.heap.size := by omega); (try have hs1d : w.heap.size + 1 + 1 + 1 < w1.heap.size := by omega); (try have hs1dd : w.heap.size + 1 + 1 + 1 ≤ w1.heap.size := by omega); (try have hs1L := Nat.lt_of_succ_le hs1); (try have hs1M := Nat.lt_of_succ_lt hs1L); (try have hs1N := Nat.lt_of_succ_lt hs1M); (try have hs1LE := Nat.le_of_lt hs1L); (try have hs1ME := Nat.le_of_lt hs1M))
    exact bodyPost_ret (v := .tuple #[.agg #[.int .i64 (slP 0 a b c d e f g h i j k l), .int .i64 (slP 1 a b c d e f g h i j k l), .int .i64 (slP 2 a b c d e f g h i j k l), .int .i64 (slP 3 a b c d e f g h i j k l)], .bool (slB a b c d e f g h i j k l)]) (by simp [results, Try.results6, go_sem, slP, *]) rfl ⟨rfl, (by repeat (first | with_reducible exact Up.refl _ | with_reducible refine Up.alloc ?_ _ | with_reducible refine Up.drew ?_ | with_reducible refine Up.drewN ?_ _ | (with_reducible refine Up.setCell ?_ (by first | omega | (simp; done) | (simp; omega)) _) | with_reducible assumption | (with_reducible refine Up.trans ?_ (by with_reducible assumption))))⟩
  · have hr : (rowB a b c d && rowB e f g h && rowB i j k l) = true := by
      cases hr : (rowB a b c d && rowB e f g h && rowB i j k l) with
      | true => rfl
      | false => exact absurd (by simp [drI, hr]) h1
    have hdr : drI a b c d e f g h i j k l = slD a b c e f g i j k := by rw [drI, if_pos hr, slD, ← detI_turn]
    simp only [Bool.and_eq_true] at hr
    obtain ⟨⟨k1, k2⟩, k3⟩ := hr
    obtain ⟨d0, d1, d2, d3, d4⟩ := rows_dets k1 k2 k3
    have hsd : ¬ slD a b c e f g i j k = 0 := by rw [← hdr]; exact h1
    have z1 : (slD a b c e f g i j k == 0) = false := by rw [beq_eq_false_iff_ne]; exact hsd
    have hB : slB a b c d e f g h i j k l = mkB (slD d b c h f g l j k) (slD a d c e h g i l k) (slD a b d e f h i j l) (slD a b c e f g i j k) := by simp [slB, k1, k2, k3, z1]
    have i1 : I64 (detI d h l b f j c g k) := by have := inB_true.1 d1; constructor <;> omega
    have i2 : I64 (detI a e i d h l c g k) := by have := inB_true.1 d2; constructor <;> omega
    have i3 : I64 (detI a e i b f j d h l) := by have := inB_true.1 d3; constructor <;> omega
    have E0 := Lib.hid (show slP 0 a b c d e f g h i j k l = mkP (slD d b c h f g l j k) (slD d b c h f g l j k) (slD a d c e h g i l k) (slD a b d e f h i j l) (slD a b c e f g i j k) by cases hm : mkB (slD d b c h f g l j k) (slD a d c e h g i l k) (slD a b d e f h i j l) (slD a b c e f g i j k) <;> simp [slP, hB, mkP, hm])
    have E1 := Lib.hid (show slP 1 a b c d e f g h i j k l = mkP (slD a d c e h g i l k) (slD d b c h f g l j k) (slD a d c e h g i l k) (slD a b d e f h i j l) (slD a b c e f g i j k) by cases hm : mkB (slD d b c h f g l j k) (slD a d c e h g i l k) (slD a b d e f h i j l) (slD a b c e f g i j k) <;> simp [slP, hB, mkP, hm])
    have E2 := Lib.hid (show slP 2 a b c d e f g h i j k l = mkP (slD a b d e f h i j l) (slD d b c h f g l j k) (slD a d c e h g i l k) (slD a b d e f h i j l) (slD a b c e f g i j k) by cases hm : mkB (slD d b c h f g l j k) (slD a d c e h g i l k) (slD a b d e f h i j l) (slD a b c e f g i j k) <;> simp [slP, hB, mkP, hm])
    have E3 := Lib.hid (show slP 3 a b c d e f g h i j k l = mkP (slD a b c e f g i j k) (slD d b c h f g l j k) (slD a d c e h g i l k) (slD a b d e f h i j l) (slD a b c e f g i j k) by cases hm : mkB (slD d b c h f g l j k) (slD a d c e h g i l k) (slD a b d e f h i j l) (slD a b c e f g i j k) <;> simp [slP, hB, mkP, hm])
    have HB := Lib.hid hB
    have HDR := Lib.hid hdr
    clear d0 d1 d2 d3 d4 hsd hB h1 k1 k2 k3
    have hdet := DetOfRows_any a b c d e f g h i j k l
    rw [hdr] at hdet
    clear hdr
    have HDET := Lib.hid hdet
    clear hdet
    go_enter Try.func6, Try.ntmps6
    go_wp2_with (first | (go_at_call 7; (with_reducible refine (HDET.out _).mono ?_); rintro e w1 ⟨rfl, hb1⟩; obtain ⟨hc1, hf1⟩ := hb1.cells; have hl1 := hb1.lt; have hle1 := hb1.le; have hs1 := hb1.size; (try simp at hs1); (try have hs1a : w.heap.size < w1.heap.size := by omega); (try have hs1aa : w.heap.size ≤ w1.heap.size := by omega); (try have hs1b : w.heap.size + 1 < w1.heap.size := by omega); (try have hs1bb : w.heap.size + 1 ≤ w1.heap.size := by omega); (try have hs1c : w.heap.size + 1 + 1 < w1.heap.size := by omega); (try have hs1cc : w.heap.size + 1 + 1 ≤ w1.heap.size := by omega); (try have hs1d : w.heap.size + 1 + 1 + 1 < w1.heap.size := by omega); (try have hs1dd : w.heap.size + 1 + 1 + 1 ≤ w1.heap.size := by omega); (try have hs1L := Nat.lt_of_succ_le hs1); (try have hs1M := Nat.lt_of_succ_lt hs1L); (try have hs1N := Nat.lt_of_succ_lt hs1M); (try have hs1LE := Nat.le_of_lt hs1L); (try have hs1ME := Nat.le_of_lt hs1M)) | (go_at_call 19; (with_reducible refine (columnsOf_any _ _ _ _ _ _ _ _ _ _ _ _ _).mono ?_); rintro e w1 ⟨rfl, hb1⟩; obtain ⟨hc1, hf1⟩ := hb1.cells; have hl1 := hb1.lt; have hle1 := hb1.le; have hs1 := hb1.size; (try simp at hs1); (try have hs1a : w.heap.size < w1.heap.size := by omega); (try have hs1aa : w.heap.size ≤ w1.heap.size := by omega); (try have hs1b : w.heap.size + 1 < w1.heap.size := by omega); (try have hs1bb : w.heap.size + 1 ≤ w1.heap.size := by omega); (try have hs1c : w.heap.size + 1 + 1 < w1.heap.size := by omega); (try have hs1cc : w.heap.size + 1 + 1 ≤ w1.heap.size := by omega); (try have hs1d : w.heap.size + 1 + 1 + 1 < w1.heap.size := by omega); (try have hs1dd : w.heap.size + 1 + 1 + 1 ≤ w1.heap.size := by omega); (try have hs1L := Nat.lt_of_succ_le hs1); (try have hs1M := Nat.lt_of_succ_lt hs1L); (try have hs1N := Nat.lt_of_succ_lt hs1M); (try have hs1LE := Nat.le_of_lt hs1L); (try have hs1ME := Nat.le_of_lt hs1M)))
    generalize hW : ((((World.alloc w1 _).alloc _).alloc _).alloc _) = W
    have q0 : W.cell? ⟨w1.heap.size, 0, none⟩ = some (.int .i64 a) := by subst hW; go_simp
    have q1 : W.cell? ⟨w1.heap.size, 1, none⟩ = some (.int .i64 e) := by subst hW; go_simp
    have q2 : W.cell? ⟨w1.heap.size, 2, none⟩ = some (.int .i64 i) := by subst hW; go_simp
    have q3 : W.cell? ⟨w1.heap.size + 1, 0, none⟩ = some (.int .i64 b) := by subst hW; go_simp
    have q4 : W.cell? ⟨w1.heap.size + 1, 1, none⟩ = some (.int .i64 f) := by subst hW; go_simp
    have q5 : W.cell? ⟨w1.heap.size + 1, 2, none⟩ = some (.int .i64 j) := by subst hW; go_simp
    have q6 : W.cell? ⟨w1.heap.size + 1 + 1, 0, none⟩ = some (.int .i64 c) := by subst hW; go_simp
    have q7 : W.cell? ⟨w1.heap.size + 1 + 1, 1, none⟩ = some (.int .i64 g) := by subst hW; go_simp
    have q8 : W.cell? ⟨w1.heap.size + 1 + 1, 2, none⟩ = some (.int .i64 k) := by subst hW; go_simp
    have q9 : W.cell? ⟨w1.heap.size + 1 + 1 + 1, 0, none⟩ = some (.int .i64 d) := by subst hW; go_simp
    have q10 : W.cell? ⟨w1.heap.size + 1 + 1 + 1, 1, none⟩ = some (.int .i64 h) := by subst hW; go_simp
    have q11 : W.cell? ⟨w1.heap.size + 1 + 1 + 1, 2, none⟩ = some (.int .i64 l) := by subst hW; go_simp
    have z0 : W.cell? ⟨w.heap.size + 1 + 1 + 1, 0, none⟩ = some (.int .i64 0) := by subst hW; go_simp
    have z1 : W.cell? ⟨w.heap.size + 1 + 1 + 1, 1, none⟩ = some (.int .i64 0) := by subst hW; go_simp
    have z2 : W.cell? ⟨w.heap.size + 1 + 1 + 1, 2, none⟩ = some (.int .i64 0) := by subst hW; go_simp
    have z3 : W.cell? ⟨w.heap.size + 1 + 1 + 1, 3, none⟩ = some (.int .i64 0) := by subst hW; go_simp
    have y0 : ∀ o, W.frozen? ⟨w.heap.size + 1 + 1 + 1, o, none⟩ = false := by subst hW; intro o; go_simp
    have hu : Up w W := by subst hW; exact (by repeat (first | with_reducible exact Up.refl _ | with_reducible refine Up.alloc ?_ _ | with_reducible refine Up.drew ?_ | with_reducible refine Up.drewN ?_ _ | (with_reducible refine Up.setCell ?_ (by first | omega | (simp; done) | (simp; omega)) _) | with_reducible assumption | (with_reducible refine Up.trans ?_ (by with_reducible assumption))))
    have hsz : W.heap.size = w1.heap.size + 1 + 1 + 1 + 1 := by subst hW; simp
    have hl0 : (w1.heap.size = w.heap.size + 1 + 1 + 1) = False := by simp; omega
    have n0 : (w1.heap.size + 1 = w.heap.size + 1 + 1 + 1) = False := by simp; omega
    have n1 : (w1.heap.size + 1 + 1 = w.heap.size + 1 + 1 + 1) = False := by simp; omega
    have n2 : (w1.heap.size + 1 + 1 + 1 = w.heap.size + 1 + 1 + 1) = False := by simp; omega
    have l0 : (w1.heap.size = w.heap.size + 3) = False := by simp; omega
    have l1 : (w1.heap.size = w.heap.size + 2) = False := by simp; omega
    have l2 : (w1.heap.size = w.heap.size + 1) = False := by simp; omega
    have l3 : (w1.heap.size = w.heap.size) = False := by simp; omega
    have m0 : w1.heap.size < W.heap.size := by omega
    have m1 : w1.heap.size + 1 < W.heap.size := by omega
    have m2 : w1.heap.size + 1 + 1 < W.heap.size := by omega
    have m3 : w1.heap.size + 1 + 1 + 1 < W.heap.size := by omega
    clear hW hsz
    clear hc1 hf1 hl1 hle1 hs1 hb1
    have hz : ∀ o, o < 4 → (W.cell? ⟨w.heap.size + 1 + 1 + 1, o, none⟩).isSome = true := by
      intro o ho
      match o, ho with
      | 0, _ => rw [z0]; rfl
      | 1, _ => rw [z1]; rfl
      | 2, _ => rw [z2]; rfl
      | 3, _ => rw [z3]; rfl
    have hrW : w.heap.size + 1 + 1 + 1 < W.heap.size := by omega
    have Z0 := Lib.hid z0
    have Z1 := Lib.hid z1
    have Z2 := Lib.hid z2
    have Z3 := Lib.hid z3
    clear z0 z1 z2 z3
    go_region_held3 (fun w' => (∀ b o, b ≠ w.heap.size + 1 + 1 + 1 → b < W.heap.size → w'.cell? ⟨b, o, none⟩ = W.cell? ⟨b, o, none⟩) ∧ W.heap.size ≤ w'.heap.size ∧ (∀ o, o < 4 → w'.cell? ⟨w.heap.size + 1 + 1 + 1, o, none⟩ = some (getc w' (w.heap.size + 1 + 1 + 1) o)) ∧ ∀ o, w'.frozen? ⟨w.heap.size + 1 + 1 + 1, o, none⟩ = false)
      (repeat (first | with_reducible refine keep_drew ?_ | with_reducible refine keep_set ?_ (by simp) | with_reducible assumption | with_reducible exact keep_start hz y0 | with_reducible refine keep_up hrW ?_ (by assumption)))
      (first | (go_at_call 21; (with_reducible refine (determinant_any _ _ _ _ _ _ _ _ _ _ (by assumption)).mono ?_); rintro e w1 ⟨rfl, hb1⟩) | (go_at_call 20; (with_reducible refine (MakeThrust_any _ _ _ _ _).mono ?_); rintro e w1 ⟨rfl, hb1⟩))
    rename_i hHeld
    clear hHeld
    have hup : Up W w1 := (by repeat (first | with_reducible exact Up.refl _ | with_reducible refine Up.alloc ?_ _ | with_reducible refine Up.drew ?_ | with_reducible refine Up.drewN ?_ _ | (with_reducible refine Up.setCell ?_ (by first | omega | (simp; done) | (simp; omega)) _) | with_reducible assumption | (with_reducible refine Up.trans ?_ (by with_reducible assumption))))
    have k0 := (hup.cells.1 _ 0 hrW).trans Z0.out
    have k1 := (hup.cells.1 _ 1 hrW).trans Z1.out
    have k2 := (hup.cells.1 _ 2 hrW).trans Z2.out
    have k3 := (hup.cells.1 _ 3 hrW).trans Z3.out
    clear Z0 Z1 Z2 Z3
    go_wp2
    exact bodyPost_ret (v := .tuple #[.agg #[.int .i64 (slP 0 a b c d e f g h i j k l), .int .i64 (slP 1 a b c d e f g h i j k l), .int .i64 (slP 2 a b c d e f g h i j k l), .int .i64 (slP 3 a b c d e f g h i j k l)], .bool (slB a b c d e f g h i j k l)]) (by
      simp only [results]
      go_simp
      simp [E0.out, E1.out, E2.out, E3.out, HB.out, slD]) rfl ⟨rfl, (by repeat (first | with_reducible exact Up.refl _ | with_reducible refine Up.alloc ?_ _ | with_reducible refine Up.drew ?_ | with_reducible refine Up.drewN ?_ _ | (with_reducible refine Up.setCell ?_ (by first | omega | (simp; done) | (simp; omega)) _) | with_reducible assumption | (with_reducible refine Up.trans ?_ (by with_reducible assumption))))⟩
end Go.Proofs.Ytaealkfnhhmmcaa
