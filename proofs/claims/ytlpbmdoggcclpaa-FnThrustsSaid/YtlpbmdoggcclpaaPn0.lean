/- What the law FnPoints leans on. No condition. -/
import Derived.Test.YtlpbmdoggcclpaaIj
import Derived.Test.YtlpbmdoggcclpaaDraw7
import Derived.Test.YtlpbmdoggcclpaaOpen4
import Derived.Test.YtlpbmdoggcclpaaLex
namespace Go.Proofs.Ytlpbmdoggcclpaa
open Go.RowKit
set_option linter.unusedVariables false
/-- A byte of the code. -/
def AtP (w : World) (e : Ending) (w' : World) : Prop := ∃ x : Int, e = .returned (.int .i64 x) ∧ 0 ≤ x ∧ x ≤ 255 ∧ w = w'
set_option maxRecDepth 100000 in
theorem at_any (u : Value) (n lo hi : Nat) (B : Nat → Int) (w : World) (hs : Sl w lo hi 1 u n (bytF B)) (hn : n ≤ 1048576) (hB : ∀ i, i < n → 0 ≤ B i ∧ B i ≤ 255) : Calls Try.prog 29 #[u, .int .i64 0] w (AtP w) := by
  obtain ⟨_, A, c, rfl, hc, hx⟩ := hs
  by_cases h0 : n = 0
  · subst h0
    clear hx
    go_enter Try.func29, Try.ntmps29
    go_wp2
    go_ret
    exact ⟨0, rfl, by omega, by omega, rfl⟩
  · obtain ⟨b, o, rfl, hb1, hb2, hcs⟩ := hx (by omega)
    have hj : 1 % n < n := Nat.mod_lt _ (by omega)
    have hm2 : (1 : Int) % (n : Int) = ((1 % n : Nat) : Int) := (Int.natCast_emod 1 n).symm
    have hm : (1 : Int).tmod (n : Int) = ((1 % n : Nat) : Int) := by rw [Int.tmod_eq_emod_of_nonneg (by omega)]; exact hm2
    have hg := hcs (1 % n) 0 hj (by omega)
    obtain ⟨hB1, hB2⟩ := hB (1 % n) hj
    generalize 1 % n = j at *
    have hg2 : w.cell? ⟨b, o + j, none⟩ = some (.int .u8 (B j)) := by simpa [bytF] using hg
    have hne : ((n : Int) == 0) = false := by rw [beq_eq_false_iff_ne]; omega
    have hne2 : ¬ (n : Int) = 0 := by omega
    have hj2 : (j : Int) < (n : Int) := by omega
    have hj3 : (0 : Int) ≤ (j : Int) := by omega
    clear hcs hx hg
    generalize B j = X at *
    go_enter Try.func29, Try.ntmps29
    go_wp2
    go_ret
    exact ⟨X, rfl, hB1, hB2, rfl⟩
/-- Block b holds a point. -/
def PB2 (W : World) (b : Nat) (x y : Int) : Prop := W.cell? ⟨b, 0, none⟩ = some (.int .i64 x) ∧ W.cell? ⟨b, 1, none⟩ = some (.int .i64 y) ∧ b < W.heap.size
theorem PB2.up {W W' : World} {b : Nat} {x y : Int} (h : PB2 W b x y) (hu : Up W W') : PB2 W' b x y := ⟨(hu.cells.1 _ _ h.2.2).trans h.1, (hu.cells.1 _ _ h.2.2).trans h.2.1, Nat.lt_of_lt_of_le h.2.2 hu.size⟩
theorem PB2.new (W : World) (t : TypeId) (x y : Int) : PB2 (W.alloc (.cells #[.int .i64 x, .int .i64 y] t)) W.heap.size x y := ⟨by rw [World.cell?_alloc_mark]; rfl, by rw [World.cell?_alloc_mark]; rfl, by simp⟩
theorem ptB_in {x y : Int} (h1 : -60 ≤ x) (h2 : x ≤ 60) (h3 : -60 ≤ y) (h4 : y ≤ 60) : ptB x y = true := by simp [ptB, inB]; omega
theorem sd_in {x y z t u v : Int} (h1 : ptB x y = true) (h2 : ptB z t = true) (h3 : ptB u v = true) : sdI x y z t u v = sideI x y z t u v := by rw [sdI, h1, h2, h3]; rfl
theorem sq_in {x y z t : Int} (h1 : ptB x y = true) (h2 : ptB z t = true) : sqI x y z t = (x - z) * (x - z) + (y - t) * (y - t) := by rw [sqI, h1, h2]; rfl
theorem sq_pos {a : Int} (h : a ≠ 0) : 0 < a * a := by
  rcases Int.lt_or_gt_of_ne h with h1 | h1
  · exact Int.mul_pos_of_neg_of_neg h1 h1
  · exact Int.mul_pos h1 h1
theorem sq_nn (a : Int) : 0 ≤ a * a := by
  by_cases h : a = 0
  · subst h; omega
  · exact Int.le_of_lt (sq_pos h)
theorem sq_zero {x y z t : Int} : (x - z) * (x - z) + (y - t) * (y - t) = 0 ↔ x = z ∧ y = t := by
  constructor
  · intro h
    have h1 := sq_nn (x - z)
    have h2 := sq_nn (y - t)
    constructor
    · by_cases e : x - z = 0
      · omega
      · have := sq_pos e; omega
    · by_cases e : y - t = 0
      · omega
      · have := sq_pos e; omega
  · rintro ⟨rfl, rfl⟩; simp
theorem side_mirror (m x0 y0 x1 y1 x2 y2 : Int) : sideI (2 * m - x0) y0 (2 * m - x1) y1 (2 * m - x2) y2 = -sideI x0 y0 x1 y1 x2 y2 := by unfold sideI; grind
theorem side_turn (x0 y0 x1 y1 x2 y2 : Int) : sideI x1 y1 x2 y2 x0 y0 = sideI x0 y0 x1 y1 x2 y2 := by unfold sideI; grind
theorem side_swap (x0 y0 x1 y1 x2 y2 : Int) : sideI x1 y1 x0 y0 x2 y2 = -sideI x0 y0 x1 y1 x2 y2 := by unfold sideI; grind
theorem side_same (x0 y0 x1 y1 : Int) : sideI x0 y0 x1 y1 x1 y1 = 0 := by unfold sideI; grind
theorem sq_mirror (m x0 y0 x1 y1 : Int) : (2 * m - x0 - (2 * m - x1)) * (2 * m - x0 - (2 * m - x1)) + (y0 - y1) * (y0 - y1) = (x0 - x1) * (x0 - x1) + (y0 - y1) * (y0 - y1) := by grind
theorem sq_swap (x0 y0 x1 y1 : Int) : (x1 - x0) * (x1 - x0) + (y1 - y0) * (y1 - y0) = (x0 - x1) * (x0 - x1) + (y0 - y1) * (y0 - y1) := by grind
theorem side_bd {x0 y0 x1 y1 x2 y2 : Int} (hx0 : -5 ≤ x0 ∧ x0 ≤ 15 ∧ -3 ≤ y0 ∧ y0 ≤ 12) (hx1 : -5 ≤ x1 ∧ x1 ≤ 15 ∧ -3 ≤ y1 ∧ y1 ≤ 12) (hx2 : -5 ≤ x2 ∧ x2 ≤ 15 ∧ -3 ≤ y2 ∧ y2 ≤ 12) : -800 ≤ sideI x0 y0 x1 y1 x2 y2 ∧ sideI x0 y0 x1 y1 x2 y2 ≤ 800 := by
  have h1 := mul_bd (a := x1 - x0) (b := y2 - y0) 20 20 (by omega) (by omega) (by omega) (by omega)
  have h2 := mul_bd (a := y1 - y0) (b := x2 - x0) 20 20 (by omega) (by omega) (by omega) (by omega)
  unfold sideI
  omega
theorem eq_pt (x y z t : Int) (W : World) : (Go.binOp .eql 54 (.agg #[.int .i64 x, .int .i64 y]) (.agg #[.int .i64 z, .int .i64 t])).run Try.prog W = .ok (.bool (decide (x = z ∧ y = t))) W := by
  by_cases h1 : x = z
  · subst h1
    by_cases h2 : y = t
    · subst h2
      go_simp
    · have h3 : (y == t) = false := by rw [beq_eq_false_iff_ne]; exact h2
      go_simp
  · have h3 : (x == z) = false := by rw [beq_eq_false_iff_ne]; exact h1
    go_simp
theorem pn_size : (regOf 10 Try.f6).size = 95 := by kernel_rfl
theorem pn_c0 : lexC .any (regOf 10 Try.f6) 0 8 = true := by kernel_rfl
theorem pn_c8 : lexC .any (regOf 10 Try.f6) 8 8 = true := by kernel_rfl
theorem pn_c16 : lexC .any (regOf 10 Try.f6) 16 8 = true := by kernel_rfl
theorem pn_c24 : lexC .any (regOf 10 Try.f6) 24 8 = true := by kernel_rfl
theorem pn_c32 : lexC .any (regOf 10 Try.f6) 32 8 = true := by kernel_rfl
theorem pn_c40 : lexC .any (regOf 10 Try.f6) 40 8 = true := by kernel_rfl
theorem pn_c48 : lexC .any (regOf 10 Try.f6) 48 8 = true := by kernel_rfl
theorem pn_c56 : lexC .any (regOf 10 Try.f6) 56 8 = true := by kernel_rfl
theorem pn_c64 : lexC .any (regOf 10 Try.f6) 64 8 = true := by kernel_rfl
theorem pn_c72 : lexC .any (regOf 10 Try.f6) 72 8 = true := by kernel_rfl
theorem pn_c80 : lexC .any (regOf 10 Try.f6) 80 8 = true := by kernel_rfl
theorem pn_c88 : lexC .any (regOf 10 Try.f6) 88 7 = true := by kernel_rfl
theorem pn_e : (Region.ready .any (regOf 10 Try.f6) (lsT (regOf 10 Try.f6).size (regOf 10 Try.f6).size)).isEmpty = true := by kernel_rfl
theorem pn_s : Region.noSelect (regOf 10 Try.f6) = true := by kernel_rfl
theorem pn_lex : Region.lexB .any (regOf 10 Try.f6) = true := lex_parts pn_s pn_e fun k hk => by
  rw [pn_size] at hk
  by_cases h0 : k < 8
  · exact lexC_get pn_c0 k (by omega) (by omega)
  by_cases h8 : k < 16
  · exact lexC_get pn_c8 k (by omega) (by omega)
  by_cases h16 : k < 24
  · exact lexC_get pn_c16 k (by omega) (by omega)
  by_cases h24 : k < 32
  · exact lexC_get pn_c24 k (by omega) (by omega)
  by_cases h32 : k < 40
  · exact lexC_get pn_c32 k (by omega) (by omega)
  by_cases h40 : k < 48
  · exact lexC_get pn_c40 k (by omega) (by omega)
  by_cases h48 : k < 56
  · exact lexC_get pn_c48 k (by omega) (by omega)
  by_cases h56 : k < 64
  · exact lexC_get pn_c56 k (by omega) (by omega)
  by_cases h64 : k < 72
  · exact lexC_get pn_c64 k (by omega) (by omega)
  by_cases h72 : k < 80
  · exact lexC_get pn_c72 k (by omega) (by omega)
  by_cases h80 : k < 88
  · exact lexC_get pn_c80 k (by omega) (by omega)
  exact lexC_get pn_c88 k (by omega) (by omega)
end Go.Proofs.Ytlpbmdoggcclpaa
