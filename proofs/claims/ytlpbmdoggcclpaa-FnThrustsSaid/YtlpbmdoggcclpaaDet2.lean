/- The walks of DetOfRows, SolveRows and MixThrusts: each returns what the plain function gives. No condition. -/
import Derived.Test.YtlpbmdoggcclpaaDet
import Derived.Test.YtlpbmdoggcclpaaThr3
import Derived.Test.YtlpbmdoggcclpaaKeep
namespace Go.Proofs.Ytlpbmdoggcclpaa
open Go.RowKit
set_option linter.unusedVariables false
theorem det_bd {a1 a2 a3 b1 b2 b3 c1 c2 c3 : Int} (A B C : Int) (ha1 : -A ≤ a1 ∧ a1 ≤ A) (ha2 : -A ≤ a2 ∧ a2 ≤ A) (ha3 : -A ≤ a3 ∧ a3 ≤ A) (hb1 : -B ≤ b1 ∧ b1 ≤ B) (hb2 : -B ≤ b2 ∧ b2 ≤ B) (hb3 : -B ≤ b3 ∧ b3 ≤ B)
    (hc1 : -C ≤ c1 ∧ c1 ≤ C) (hc2 : -C ≤ c2 ∧ c2 ≤ C) (hc3 : -C ≤ c3 ∧ c3 ≤ C) : -(3 * (A * (2 * (B * C)))) ≤ detI a1 a2 a3 b1 b2 b3 c1 c2 c3 ∧ detI a1 a2 a3 b1 b2 b3 c1 c2 c3 ≤ 3 * (A * (2 * (B * C))) := by
  have m1 := mul_bd B C hb2.1 hb2.2 hc3.1 hc3.2
  have m2 := mul_bd B C hb3.1 hb3.2 hc2.1 hc2.2
  have m3 := mul_bd B C hb1.1 hb1.2 hc3.1 hc3.2
  have m4 := mul_bd B C hb3.1 hb3.2 hc1.1 hc1.2
  have m5 := mul_bd B C hb1.1 hb1.2 hc2.1 hc2.2
  have m6 := mul_bd B C hb2.1 hb2.2 hc1.1 hc1.2
  generalize hBC : B * C = M at *
  have n1 := mul_bd (a := a1) (b := b2 * c3 - b3 * c2) A (2 * M) ha1.1 ha1.2 (by omega) (by omega)
  have n2 := mul_bd (a := a2) (b := b1 * c3 - b3 * c1) A (2 * M) ha2.1 ha2.2 (by omega) (by omega)
  have n3 := mul_bd (a := a3) (b := b1 * c2 - b2 * c1) A (2 * M) ha3.1 ha3.2 (by omega) (by omega)
  unfold detI
  generalize A * (2 * M) = N at *
  omega

theorem rowsAt_three (w : World) (g : Nat) (a b c d e f g' h i j k l : Int)
    (c0 : w.cell? ⟨g, 0, none⟩ = some (.int .i64 a)) (c1 : w.cell? ⟨g, 1, none⟩ = some (.int .i64 b)) (c2 : w.cell? ⟨g, 2, none⟩ = some (.int .i64 c)) (c3 : w.cell? ⟨g, 3, none⟩ = some (.int .i64 d))
    (c4 : w.cell? ⟨g, 4, none⟩ = some (.int .i64 e)) (c5 : w.cell? ⟨g, 5, none⟩ = some (.int .i64 f)) (c6 : w.cell? ⟨g, 6, none⟩ = some (.int .i64 g')) (c7 : w.cell? ⟨g, 7, none⟩ = some (.int .i64 h))
    (c8 : w.cell? ⟨g, 8, none⟩ = some (.int .i64 i)) (c9 : w.cell? ⟨g, 9, none⟩ = some (.int .i64 j)) (ca : w.cell? ⟨g, 10, none⟩ = some (.int .i64 k)) (cb : w.cell? ⟨g, 11, none⟩ = some (.int .i64 l)) :
    RowsAt w g [⟨a, b, c, d⟩, ⟨e, f, g', h⟩, ⟨i, j, k, l⟩] := by
  intro n hn
  match n, hn with
  | 0, _ => exact ⟨c0, c1, c2, c3⟩
  | 1, _ => exact ⟨c4, c5, c6, c7⟩
  | 2, _ => exact ⟨c8, c9, ca, cb⟩
theorem rowsB_three (p q r : R4) : rowsB [p, q, r] = (p.ok && q.ok && r.ok) := by simp [rowsB, Bool.and_assoc]
theorem rows_dets {a b c d e f g h i j k l : Int} (k1 : rowB a b c d = true) (k2 : rowB e f g h = true) (k3 : rowB i j k l = true) :
    I64 (detI a e i b f j c g k) ∧ inB (-4000000000000000000) (detI d h l b f j c g k) 4000000000000000000 = true ∧ inB (-4000000000000000000) (detI a e i d h l c g k) 4000000000000000000 = true ∧ inB (-4000000000000000000) (detI a e i b f j d h l) 4000000000000000000 = true ∧
    inB (-4000000000000000000) (detI a e i b f j c g k) 4000000000000000000 = true := by
  obtain ⟨a1, a2, a3, a4, a5, a6, a7, a8⟩ := rowB_bd k1
  obtain ⟨b1, b2, b3, b4, b5, b6, b7, b8⟩ := rowB_bd k2
  obtain ⟨c1, c2, c3, c4, c5, c6, c7, c8⟩ := rowB_bd k3
  have m0 := det_bd (a1 := a) (a2 := e) (a3 := i) (b1 := b) (b2 := f) (b3 := j) (c1 := c) (c2 := g) (c3 := k) 100 100 1 ⟨a1, a2⟩ ⟨b1, b2⟩ ⟨c1, c2⟩ ⟨a3, a4⟩ ⟨b3, b4⟩ ⟨c3, c4⟩ ⟨a5, a6⟩ ⟨b5, b6⟩ ⟨c5, c6⟩
  have m1 := det_bd (a1 := d) (a2 := h) (a3 := l) (b1 := b) (b2 := f) (b3 := j) (c1 := c) (c2 := g) (c3 := k) 1000000000 100 1 ⟨a7, a8⟩ ⟨b7, b8⟩ ⟨c7, c8⟩ ⟨a3, a4⟩ ⟨b3, b4⟩ ⟨c3, c4⟩ ⟨a5, a6⟩ ⟨b5, b6⟩ ⟨c5, c6⟩
  have m2 := det_bd (a1 := a) (a2 := e) (a3 := i) (b1 := d) (b2 := h) (b3 := l) (c1 := c) (c2 := g) (c3 := k) 100 1000000000 1 ⟨a1, a2⟩ ⟨b1, b2⟩ ⟨c1, c2⟩ ⟨a7, a8⟩ ⟨b7, b8⟩ ⟨c7, c8⟩ ⟨a5, a6⟩ ⟨b5, b6⟩ ⟨c5, c6⟩
  have m3 := det_bd (a1 := a) (a2 := e) (a3 := i) (b1 := b) (b2 := f) (b3 := j) (c1 := d) (c2 := h) (c3 := l) 100 100 1000000000 ⟨a1, a2⟩ ⟨b1, b2⟩ ⟨c1, c2⟩ ⟨a3, a4⟩ ⟨b3, b4⟩ ⟨c3, c4⟩ ⟨a7, a8⟩ ⟨b7, b8⟩ ⟨c7, c8⟩
  simp only [inB_true, I64]
  omega
/-- SolveRows: whether there is a solution; its parts. -/
def slD (a b c e f g i j k : Int) : Int := detI a e i b f j c g k
def slB (a b c d e f g h i j k l : Int) : Bool := rowB a b c d && rowB e f g h && rowB i j k l && !(slD a b c e f g i j k == 0) &&
  mkB (slD d b c h f g l j k) (slD a d c e h g i l k) (slD a b d e f h i j l) (slD a b c e f g i j k)
def slP (n : Nat) (a b c d e f g h i j k l : Int) : Int := if slB a b c d e f g h i j k l then
  mkP (match n with | 0 => slD d b c h f g l j k | 1 => slD a d c e h g i l k | 2 => slD a b d e f h i j l | _ => slD a b c e f g i j k) (slD d b c h f g l j k) (slD a d c e h g i l k) (slD a b d e f h i j l) (slD a b c e f g i j k) else 0
theorem rowsOk_three (a b c d e f g h i j k l : Int) (x cap : Nat) (w : World) (hr : RowsAt w x [⟨a, b, c, d⟩, ⟨e, f, g, h⟩, ⟨i, j, k, l⟩]) (hb : x < w.heap.size) :
    Calls Try.prog 52 #[.slice (some ⟨x, 0, none⟩) 3 cap] w fun e' w' => e' = .returned (.bool (rowB a b c d && rowB e f g h && rowB i j k l)) ∧ Up w w' := by
  have := rowsOk_any _ x cap w hr hb (by simp)
  rw [rowsB_three] at this
  exact this
set_option maxHeartbeats 1000000 in
theorem DetOfRows_any (a b c d e f g h i j k l : Int) (w : World) : Calls Try.prog 90 #[.agg #[.int .i64 a, .int .i64 b, .int .i64 c, .int .i64 d], .agg #[.int .i64 e, .int .i64 f, .int .i64 g, .int .i64 h], .agg #[.int .i64 i, .int .i64 j, .int .i64 k, .int .i64 l]] w fun en w' =>
    en = .returned (.int .i64 (drI a b c d e f g h i j k l)) ∧ Up w w' := by
  by_cases h1 : (rowB a b c d && rowB e f g h && rowB i j k l) = true
  · simp only [Bool.and_eq_true] at h1
    obtain ⟨⟨k1, k2⟩, k3⟩ := h1
    have hd : I64 (detI a e i b f j c g k) := (rows_dets k1 k2 k3).1
    go_enter Try.func90, Try.ntmps90
    go_wp2_with (first | (go_at_call 52; (with_reducible refine (rowsOk_three a b c d e f g h i j k l _ _ _ (rowsAt_three _ _ _ _ _ _ _ _ _ _ _ _ _ _ (by go_simp) (by go_simp) (by go_simp) (by go_simp) (by go_simp) (by go_simp) (by go_simp) (by go_simp) (by go_simp) (by go_simp) (by go_simp) (by go_simp)) (by simp)).mono ?_); rintro e w1 ⟨rfl, hb1⟩; obtain ⟨hc1, hf1⟩ := hb1.cells; have hl1 := hb1.lt; have hle1 := hb1.le; have hs1 := hb1.size; (try simp at hs1); (try have hs1a : w.heap.size < w1.heap.size := by omega); (try have hs1aa : w.heap.size ≤ w1.heap.size := by omega); (try have hs1b : w.heap.size + 1 < w1.heap.size := by omega); (try have hs1bb : w.heap.size + 1 ≤ w1.heap.size := by omega); (try have hs1c : w.heap.size + 1 + 1 < w1.heap.size := by omega); (try have hs1cc : w.heap.size + 1 + 1 ≤ w1.heap.size := by omega); (try have hs1d : w.heap.size + 1 + 1 + 1 < w1.heap.size := by omega); (try have hs1dd : w.heap.size + 1 + 1 + 1 ≤ w1.heap.size := by omega); (try have hs1L := Nat.lt_of_succ_le hs1); (try have hs1M := Nat.lt_of_succ_lt hs1L); (try have hs1N := Nat.lt_of_succ_lt hs1M); (try have hs1LE := Nat.le_of_lt hs1L); (try have hs1ME := Nat.le_of_lt hs1M)) | (go_at_call 95; (with_reducible refine (columnsOf_any _ _ _ _ _ _ _ _ _ _ _ _ _).mono ?_); rintro e w1 ⟨rfl, hb1⟩; obtain ⟨hc1, hf1⟩ := hb1.cells; have hl1 := hb1.lt; have hle1 := hb1.le; have hs1 := hb1.size; (try simp at hs1); (try have hs1a : w.heap.size < w1.heap.size := by omega); (try have hs1aa : w.heap.size ≤ w1.heap.size := by omega); (try have hs1b : w.heap.size + 1 < w1.heap.size := by omega); (try have hs1bb : w.heap.size + 1 ≤ w1.heap.size := by omega); (try have hs1c : w.heap.size + 1 + 1 < w1.heap.size := by omega); (try have hs1cc : w.heap.size + 1 + 1 ≤ w1.heap.size := by omega); (try have hs1d : w.heap.size + 1 + 1 + 1 < w1.heap.size := by omega); (try have hs1dd : w.heap.size + 1 + 1 + 1 ≤ w1.heap.size := by omega); (try have hs1L := Nat.lt_of_succ_le hs1); (try have hs1M := Nat.lt_of_succ_lt hs1L); (try have hs1N := Nat.lt_of_succ_lt hs1M); (try have hs1LE := Nat.le_of_lt hs1L); (try have hs1ME := Nat.le_of_lt hs1M)) | (go_at_call 96; (with_reducible refine (determinant_any _ _ _ _ _ _ _ _ _ _ (by assumption)).mono ?_); rintro e w1 ⟨rfl, hb1⟩; obtain ⟨hc1, hf1⟩ := hb1.cells; have hl1 := hb1.lt; have hle1 := hb1.le; have hs1 := hb1.size; (try simp at hs1); (try have hs1a : w.heap.size < w1.heap.size := by omega); (try have hs1aa : w.heap.size ≤ w1.heap.size := by omega); (try have hs1b : w.heap.size + 1 < w1.heap.size := by omega); (try have hs1bb : w.heap.size + 1 ≤ w1.heap.size := by omega); (try have hs1c : w.heap.size + 1 + 1 < w1.heap.size := by omega); (try have hs1cc : w.heap.size + 1 + 1 ≤ w1.heap.size := by omega); (try have hs1d : w.heap.size + 1 + 1 + 1 < w1.heap.size := by omega); (try have hs1dd : w.heap.size + 1 + 1 + 1 ≤ w1.heap.size := by omega); (try have hs1L := Nat.lt_of_succ_le hs1); (try have hs1M := Nat.lt_of_succ_lt hs1L); (try have hs1N := Nat.lt_of_succ_lt hs1M); (try have hs1LE := Nat.le_of_lt hs1L); (try have hs1ME := Nat.le_of_lt hs1M)))
    go_ret
    exact ⟨by simp [drI, k1, k2, k3, detI_turn a b c], (by repeat (first | with_reducible exact Up.refl _ | with_reducible refine Up.alloc ?_ _ | with_reducible refine Up.drew ?_ | with_reducible refine Up.drewN ?_ _ | (with_reducible refine Up.setCell ?_ (by first | omega | (simp; done) | (simp; omega)) _) | with_reducible assumption | (with_reducible refine Up.trans ?_ (by with_reducible assumption))))⟩
  · go_enter Try.func90, Try.ntmps90
    go_wp2_with (first | (go_at_call 52; (with_reducible refine (rowsOk_three a b c d e f g h i j k l _ _ _ (rowsAt_three _ _ _ _ _ _ _ _ _ _ _ _ _ _ (by go_simp) (by go_simp) (by go_simp) (by go_simp) (by go_simp) (by go_simp) (by go_simp) (by go_simp) (by go_simp) (by go_simp) (by go_simp) (by go_simp)) (by simp)).mono ?_); rintro e w1 ⟨rfl, hb1⟩; obtain ⟨hc1, hf1⟩ := hb1.cells; have hl1 := hb1.lt; have hle1 := hb1.le; have hs1 := hb1.size; (try simp at hs1); (try have hs1a : w.heap.size < w1.heap.size := by omega); (try have hs1aa : w.heap.size ≤ w1.heap.size := by omega); (try have hs1b : w.heap.size + 1 < w1.heap.size := by omega); (try have hs1bb : w.heap.size + 1 ≤ w1.heap.size := by omega); (try have hs1c : w.heap.size + 1 + 1 < w1.heap.size := by omega); (try have hs1cc : w.heap.size + 1 + 1 ≤ w1.heap.size := by omega); (try have hs1d : w.heap.size + 1 + 1 + 1 < w1.heap.size := by omega); (try have hs1dd : w.heap.size + 1 + 1 + 1 ≤ w1.heap.size := by omega); (try have hs1L := Nat.lt_of_succ_le hs1); (try have hs1M := Nat.lt_of_succ_lt hs1L); (try have hs1N := Nat.lt_of_succ_lt hs1M); (try have hs1LE := Nat.le_of_lt hs1L); (try have hs1ME := Nat.le_of_lt hs1M)))
    go_ret
    exact ⟨by simp [drI, h1], (by repeat (first | with_reducible exact Up.refl _ | with_reducible refine Up.alloc ?_ _ | with_reducible refine Up.drew ?_ | with_reducible refine Up.drewN ?_ _ | (with_reducible refine Up.setCell ?_ (by first | omega | (simp; done) | (simp; omega)) _) | with_reducible assumption | (with_reducible refine Up.trans ?_ (by with_reducible assumption))))⟩
theorem sDetOfRows_any (a b c d e f g h i j k l : Int) (w : World) : Calls Try.prog 87 #[.agg #[.int .i64 a, .int .i64 b, .int .i64 c, .int .i64 d], .agg #[.int .i64 e, .int .i64 f, .int .i64 g, .int .i64 h], .agg #[.int .i64 i, .int .i64 j, .int .i64 k, .int .i64 l]] w fun en w' =>
    en = .returned (.int .i64 (drI a b c d e f g h i j k l)) ∧ Up w w' := by
  by_cases k1 : rowB a b c d = true
  rotate_left
  · go_enter Try.func87, Try.ntmps87
    go_wp2_with (go_at_call 55; (with_reducible refine (sRowOk_any _ _ _ _ _).mono ?_); rintro e w1 ⟨rfl, hb1⟩; obtain ⟨hc1, hf1⟩ := hb1.cells; have hl1 := hb1.lt; have hle1 := hb1.le; have hs1 := hb1.size; (try simp at hs1); (try have hs1a : w.heap.size < w1.heap.size := by omega); (try have hs1aa : w.heap.size ≤ w1.heap.size := by omega); (try have hs1b : w.heap.size + 1 < w1.heap.size := by omega); (try have hs1bb : w.heap.size + 1 ≤ w1.heap.size := by omega); (try have hs1c : w.heap.size + 1 + 1 < w1.heap.size := by omega); (try have hs1cc : w.heap.size + 1 + 1 ≤ w1.heap.size := by omega); (try have hs1d : w.heap.size + 1 + 1 + 1 < w1.heap.size := by omega); (try have hs1dd : w.heap.size + 1 + 1 + 1 ≤ w1.heap.size := by omega); (try have hs1L := Nat.lt_of_succ_le hs1); (try have hs1M := Nat.lt_of_succ_lt hs1L); (try have hs1N := Nat.lt_of_succ_lt hs1M); (try have hs1LE := Nat.le_of_lt hs1L); (try have hs1ME := Nat.le_of_lt hs1M))
    go_ret
    exact ⟨by simp [drI, *], (by repeat (first | with_reducible exact Up.refl _ | with_reducible refine Up.alloc ?_ _ | with_reducible refine Up.drew ?_ | with_reducible refine Up.drewN ?_ _ | (with_reducible refine Up.setCell ?_ (by first | omega | (simp; done) | (simp; omega)) _) | with_reducible assumption | (with_reducible refine Up.trans ?_ (by with_reducible assumption))))⟩
  by_cases k2 : rowB e f g h = true
  rotate_left
  · go_enter Try.func87, Try.ntmps87
    go_wp2_with (go_at_call 55; (with_reducible refine (sRowOk_any _ _ _ _ _).mono ?_); rintro e w1 ⟨rfl, hb1⟩; obtain ⟨hc1, hf1⟩ := hb1.cells; have hl1 := hb1.lt; have hle1 := hb1.le; have hs1 := hb1.size; (try simp at hs1); (try have hs1a : w.heap.size < w1.heap.size := by omega); (try have hs1aa : w.heap.size ≤ w1.heap.size := by omega); (try have hs1b : w.heap.size + 1 < w1.heap.size := by omega); (try have hs1bb : w.heap.size + 1 ≤ w1.heap.size := by omega); (try have hs1c : w.heap.size + 1 + 1 < w1.heap.size := by omega); (try have hs1cc : w.heap.size + 1 + 1 ≤ w1.heap.size := by omega); (try have hs1d : w.heap.size + 1 + 1 + 1 < w1.heap.size := by omega); (try have hs1dd : w.heap.size + 1 + 1 + 1 ≤ w1.heap.size := by omega); (try have hs1L := Nat.lt_of_succ_le hs1); (try have hs1M := Nat.lt_of_succ_lt hs1L); (try have hs1N := Nat.lt_of_succ_lt hs1M); (try have hs1LE := Nat.le_of_lt hs1L); (try have hs1ME := Nat.le_of_lt hs1M))
    go_ret
    exact ⟨by simp [drI, *], (by repeat (first | with_reducible exact Up.refl _ | with_reducible refine Up.alloc ?_ _ | with_reducible refine Up.drew ?_ | with_reducible refine Up.drewN ?_ _ | (with_reducible refine Up.setCell ?_ (by first | omega | (simp; done) | (simp; omega)) _) | with_reducible assumption | (with_reducible refine Up.trans ?_ (by with_reducible assumption))))⟩
  by_cases k3 : rowB i j k l = true
  rotate_left
  · go_enter Try.func87, Try.ntmps87
    go_wp2_with (go_at_call 55; (with_reducible refine (sRowOk_any _ _ _ _ _).mono ?_); rintro e w1 ⟨rfl, hb1⟩; obtain ⟨hc1, hf1⟩ := hb1.cells; have hl1 := hb1.lt; have hle1 := hb1.le; have hs1 := hb1.size; (try simp at hs1); (try have hs1a : w.heap.size < w1.heap.size := by omega); (try have hs1aa : w.heap.size ≤ w1.heap.size := by omega); (try have hs1b : w.heap.size + 1 < w1.heap.size := by omega); (try have hs1bb : w.heap.size + 1 ≤ w1.heap.size := by omega); (try have hs1c : w.heap.size + 1 + 1 < w1.heap.size := by omega); (try have hs1cc : w.heap.size + 1 + 1 ≤ w1.heap.size := by omega); (try have hs1d : w.heap.size + 1 + 1 + 1 < w1.heap.size := by omega); (try have hs1dd : w.heap.size + 1 + 1 + 1 ≤ w1.heap.size := by omega); (try have hs1L := Nat.lt_of_succ_le hs1); (try have hs1M := Nat.lt_of_succ_lt hs1L); (try have hs1N := Nat.lt_of_succ_lt hs1M); (try have hs1LE := Nat.le_of_lt hs1L); (try have hs1ME := Nat.le_of_lt hs1M))
    go_ret
    exact ⟨by simp [drI, *], (by repeat (first | with_reducible exact Up.refl _ | with_reducible refine Up.alloc ?_ _ | with_reducible refine Up.drew ?_ | with_reducible refine Up.drewN ?_ _ | (with_reducible refine Up.setCell ?_ (by first | omega | (simp; done) | (simp; omega)) _) | with_reducible assumption | (with_reducible refine Up.trans ?_ (by with_reducible assumption))))⟩
  have hd : I64 (detI a b c e f g i j k) := by rw [detI_turn]; exact (rows_dets k1 k2 k3).1
  go_enter Try.func87, Try.ntmps87
  go_wp2_with (go_at_call 55; (with_reducible refine (sRowOk_any _ _ _ _ _).mono ?_); rintro e w1 ⟨rfl, hb1⟩; obtain ⟨hc1, hf1⟩ := hb1.cells; have hl1 := hb1.lt; have hle1 := hb1.le; have hs1 := hb1.size; (try simp at hs1); (try have hs1a : w.heap.size < w1.heap.size := by omega); (try have hs1aa : w.heap.size ≤ w1.heap.size := by omega); (try have hs1b : w.heap.size + 1 < w1.heap.size := by omega); (try have hs1bb : w.heap.size + 1 ≤ w1.heap.size := by omega); (try have hs1c : w.heap.size + 1 + 1 < w1.heap.size := by omega); (try have hs1cc : w.heap.size + 1 + 1 ≤ w1.heap.size := by omega); (try have hs1d : w.heap.size + 1 + 1 + 1 < w1.heap.size := by omega); (try have hs1dd : w.heap.size + 1 + 1 + 1 ≤ w1.heap.size := by omega); (try have hs1L := Nat.lt_of_succ_le hs1); (try have hs1M := Nat.lt_of_succ_lt hs1L); (try have hs1N := Nat.lt_of_succ_lt hs1M); (try have hs1LE := Nat.le_of_lt hs1L); (try have hs1ME := Nat.le_of_lt hs1M))
  (refine wp_region_up (by kernel_rfl) (by kernel_rfl) ?_; (repeat (refine wpQuiet_step (fun K hK => ?_); go_simp; first | (refine hK _ ?_; clear hK K) | (apply Exists.intro; refine ⟨fun wq hwq => ?_, hK _ ?_⟩; (obtain ⟨hcq, hfq⟩ := hwq.cells; (try go_simp); first | done | rfl | exact ⟨rfl, rfl⟩ | (first | (go_at_call 94; exact up_of hwq (l11Line_any _ _ _ _ _)) | (go_at_call 93; exact up_of hwq (l11Det_any _ _ _ _ _ _ _ _ _ _ (by assumption))))); clear hK K))); refine wpQuiet_nil ?_; intro w1 hb1; obtain ⟨hc1, hf1⟩ := hb1.cells; have hl1 := hb1.lt; have hle1 := hb1.le; have hs1 := hb1.size; (try simp at hs1); (try have hs1a : w.heap.size < w1.heap.size := by omega); (try have hs1aa : w.heap.size ≤ w1.heap.size := by omega); (try have hs1b : w.heap.size + 1 < w1.heap.size := by omega); (try have hs1bb : w.heap.size + 1 ≤ w1.heap.size := by omega); (try have hs1c : w.heap.size + 1 + 1 < w1.heap.size := by omega); (try have hs1cc : w.heap.size + 1 + 1 ≤ w1.heap.size := by omega); (try have hs1d : w.heap.size + 1 + 1 + 1 < w1.heap.size := by omega); (try have hs1dd : w.heap.size + 1 + 1 + 1 ≤ w1.heap.size := by omega); (try have hs1L := Nat.lt_of_succ_le hs1); (try have hs1M := Nat.lt_of_succ_lt hs1L); (try have hs1N := Nat.lt_of_succ_lt hs1M); (try have hs1LE := Nat.le_of_lt hs1L); (try have hs1ME := Nat.le_of_lt hs1M))
  go_wp2
  go_ret
  exact ⟨by simp [drI, *], (by repeat (first | with_reducible exact Up.refl _ | with_reducible refine Up.alloc ?_ _ | with_reducible refine Up.drew ?_ | with_reducible refine Up.drewN ?_ _ | (with_reducible refine Up.setCell ?_ (by first | omega | (simp; done) | (simp; omega)) _) | with_reducible assumption | (with_reducible refine Up.trans ?_ (by with_reducible assumption))))⟩
end Go.Proofs.Ytlpbmdoggcclpaa
