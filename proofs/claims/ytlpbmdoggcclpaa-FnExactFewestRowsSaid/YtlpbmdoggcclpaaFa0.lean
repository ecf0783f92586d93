/- FactorsOf, plain: four determinants, their divisor, the sign. No condition. -/
import Derived.Test.YtlpbmdoggcclpaaDet2
import Derived.Test.YtlpbmdoggcclpaaInt
namespace Go.Proofs.Ytlpbmdoggcclpaa
open Go.RowKit
set_option linter.unusedVariables false
def drR (p q r : R4) : Int := drI p.a p.b p.c p.d q.a q.b q.c q.d r.a r.b r.c r.d
theorem drR_bd (p q r : R4) : -60000 ≤ drR p q r ∧ drR p q r ≤ 60000 := by
  unfold drR drI
  split
  · rename_i h
    simp only [Bool.and_eq_true] at h
    obtain ⟨⟨k1, k2⟩, k3⟩ := h
    obtain ⟨a1, a2, a3, a4, a5, a6, a7, a8⟩ := rowB_bd k1
    obtain ⟨b1, b2, b3, b4, b5, b6, b7, b8⟩ := rowB_bd k2
    obtain ⟨c1, c2, c3, c4, c5, c6, c7, c8⟩ := rowB_bd k3
    rw [detI_turn]
    have m0 := det_bd (a1 := p.a) (a2 := q.a) (a3 := r.a) (b1 := p.b) (b2 := q.b) (b3 := r.b) (c1 := p.c) (c2 := q.c) (c3 := r.c) 100 100 1 ⟨a1, a2⟩ ⟨b1, b2⟩ ⟨c1, c2⟩ ⟨a3, a4⟩ ⟨b3, b4⟩ ⟨c3, c4⟩ ⟨a5, a6⟩ ⟨b5, b6⟩ ⟨c5, c6⟩
    omega
  · omega
/-- The four determinants with their signs. -/
def faV (p q r s : R4) (i : Nat) : Int := if i = 0 then drR q r s else if i = 1 then -drR p r s else if i = 2 then drR p q s else -drR p q r
theorem faV_bd (p q r s : R4) (i : Nat) : -60000 ≤ faV p q r s i ∧ faV p q r s i ≤ 60000 := by
  have h1 := drR_bd q r s
  have h2 := drR_bd p r s
  have h3 := drR_bd p q s
  have h4 := drR_bd p q r
  unfold faV
  split
  · omega
  · split
    · omega
    · split <;> omega
/-- The sign of the first number that is not 0. -/
def sg4 (a b c d : Int) : Int := if a ≠ 0 then (if a < 0 then -1 else 1) else if b ≠ 0 then (if b < 0 then -1 else 1) else if c ≠ 0 then (if c < 0 then -1 else 1) else if d ≠ 0 then (if d < 0 then -1 else 1) else 0
def faG (p q r s : R4) : Nat := g4 (faV p q r s 0) (faV p q r s 1) (faV p q r s 2) (faV p q r s 3)
def faS (p q r s : R4) : Int := sg4 (faV p q r s 0) (faV p q r s 1) (faV p q r s 2) (faV p q r s 3)
def fcB (p q r s : R4) : Bool := p.ok && q.ok && r.ok && s.ok && !(faG p q r s == 0)
def faN (p q r s : R4) : Nat := if fcB p q r s then 4 else 0
def faR (p q r s : R4) (i j : Nat) : Int := (faV p q r s i).tdiv (faS p q r s * (faG p q r s : Int))
theorem g4_zero {a b c d : Int} (h : g4 a b c d = 0) : a = 0 ∧ b = 0 ∧ c = 0 ∧ d = 0 := by
  unfold g4 at h
  have h1 := Nat.eq_zero_of_gcd_eq_zero_left h
  have h2 := Nat.eq_zero_of_gcd_eq_zero_right h
  have := Nat.eq_zero_of_gcd_eq_zero_left h1
  have := Nat.eq_zero_of_gcd_eq_zero_right h1
  have := Nat.eq_zero_of_gcd_eq_zero_left h2
  have := Nat.eq_zero_of_gcd_eq_zero_right h2
  omega
theorem g4_ne {a b c d : Int} (h : ¬ g4 a b c d = 0) : ¬ (a = 0 ∧ b = 0 ∧ c = 0 ∧ d = 0) := by
  rintro ⟨rfl, rfl, rfl, rfl⟩
  exact h (by decide)
theorem sg4_pm {a b c d : Int} (h : ¬ (a = 0 ∧ b = 0 ∧ c = 0 ∧ d = 0)) : sg4 a b c d = 1 ∨ sg4 a b c d = -1 := by
  unfold sg4
  split
  · split <;> simp
  · split
    · split <;> simp
    · split
      · split <;> simp
      · split
        · split <;> simp
        · exfalso; apply h; omega
theorem tdiv_sg {x s g : Int} (hs : s = 1 ∨ s = -1) : (s * x).tdiv g = x.tdiv (s * g) := by
  rcases hs with rfl | rfl
  · simp
  · rw [Int.neg_one_mul, Int.neg_one_mul, Int.neg_tdiv, Int.tdiv_neg]
theorem rowsB_four (p q r s : R4) : rowsB [p, q, r, s] = (p.ok && q.ok && r.ok && s.ok) := by simp [rowsB, Bool.and_assoc]
theorem rowsAt_four (w : World) (g : Nat) (p q r s : R4)
    (c0 : w.cell? ⟨g, 0, none⟩ = some (.int .i64 p.a)) (c1 : w.cell? ⟨g, 1, none⟩ = some (.int .i64 p.b)) (c2 : w.cell? ⟨g, 2, none⟩ = some (.int .i64 p.c)) (c3 : w.cell? ⟨g, 3, none⟩ = some (.int .i64 p.d))
    (c4 : w.cell? ⟨g, 4, none⟩ = some (.int .i64 q.a)) (c5 : w.cell? ⟨g, 5, none⟩ = some (.int .i64 q.b)) (c6 : w.cell? ⟨g, 6, none⟩ = some (.int .i64 q.c)) (c7 : w.cell? ⟨g, 7, none⟩ = some (.int .i64 q.d))
    (c8 : w.cell? ⟨g, 8, none⟩ = some (.int .i64 r.a)) (c9 : w.cell? ⟨g, 9, none⟩ = some (.int .i64 r.b)) (ca : w.cell? ⟨g, 10, none⟩ = some (.int .i64 r.c)) (cb : w.cell? ⟨g, 11, none⟩ = some (.int .i64 r.d))
    (cc : w.cell? ⟨g, 12, none⟩ = some (.int .i64 s.a)) (cd : w.cell? ⟨g, 13, none⟩ = some (.int .i64 s.b)) (ce : w.cell? ⟨g, 14, none⟩ = some (.int .i64 s.c)) (cf : w.cell? ⟨g, 15, none⟩ = some (.int .i64 s.d)) :
    RowsAt w g [p, q, r, s] := by
  intro n hn
  match n, hn with
  | 0, _ => exact ⟨c0, c1, c2, c3⟩
  | 1, _ => exact ⟨c4, c5, c6, c7⟩
  | 2, _ => exact ⟨c8, c9, ca, cb⟩
  | 3, _ => exact ⟨cc, cd, ce, cf⟩
theorem fa_f {p q r s : R4} (h : (p.ok && q.ok && r.ok && s.ok) = false) : faN p q r s = 0 := by
  unfold faN fcB; rw [h]; rfl
theorem fa_g {p q r s : R4} (h : faG p q r s = 0) : faN p q r s = 0 := by
  unfold faN fcB; rw [h]; simp
theorem fa_t {p q r s : R4} (h : (p.ok && q.ok && r.ok && s.ok) = true) (hg : ¬ faG p q r s = 0) : faN p q r s = 4 := by
  unfold faN fcB; rw [h]; simp [hg]
theorem faG_le (p q r s : R4) : faG p q r s ≤ 60000 := by
  unfold faG
  refine g4_le 60000 ?_ ?_ ?_ ?_
  · have := faV_bd p q r s 0; omega
  · have := faV_bd p q r s 1; omega
  · have := faV_bd p q r s 2; omega
  · have := faV_bd p q r s 3; omega
end Go.Proofs.Ytlpbmdoggcclpaa
