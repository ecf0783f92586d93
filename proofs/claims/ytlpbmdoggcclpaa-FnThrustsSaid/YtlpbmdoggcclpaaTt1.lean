/- What the law FnThrusts leans on. No condition. -/
import Derived.Test.YtlpbmdoggcclpaaIj
import Derived.Test.YtlpbmdoggcclpaaDraw9
import Derived.Test.YtlpbmdoggcclpaaPn0
import Derived.Test.YtlpbmdoggcclpaaTx3
import Derived.Test.YtlpbmdoggcclpaaDet3
namespace Go.Proofs.Ytlpbmdoggcclpaa
open Go.RowKit
set_option linter.unusedVariables false
/-- Block b holds a thrust. -/
def PB4 (W : World) (b : Nat) (x y z t : Int) : Prop := W.cell? ⟨b, 0, none⟩ = some (.int .i64 x) ∧ W.cell? ⟨b, 1, none⟩ = some (.int .i64 y) ∧ W.cell? ⟨b, 2, none⟩ = some (.int .i64 z) ∧ W.cell? ⟨b, 3, none⟩ = some (.int .i64 t) ∧ b < W.heap.size
theorem PB4.up {W W' : World} {b : Nat} {x y z t : Int} (h : PB4 W b x y z t) (hu : Up W W') : PB4 W' b x y z t :=
  ⟨(hu.cells.1 _ _ h.2.2.2.2).trans h.1, (hu.cells.1 _ _ h.2.2.2.2).trans h.2.1, (hu.cells.1 _ _ h.2.2.2.2).trans h.2.2.1, (hu.cells.1 _ _ h.2.2.2.2).trans h.2.2.2.1, Nat.lt_of_lt_of_le h.2.2.2.2 hu.size⟩
theorem PB4.new (W : World) (ty : TypeId) (x y z t : Int) : PB4 (W.alloc (.cells #[.int .i64 x, .int .i64 y, .int .i64 z, .int .i64 t] ty)) W.heap.size x y z t :=
  ⟨by rw [World.cell?_alloc_mark]; rfl, by rw [World.cell?_alloc_mark]; rfl, by rw [World.cell?_alloc_mark]; rfl, by rw [World.cell?_alloc_mark]; rfl, by simp⟩
theorem ct_in {h v m n x y z t : Int} (h1 : thB h v m n = true) (h2 : thB x y z t = true) : ctI h v m n x y z t = cmpI (h * t) (x * n) := by rw [ctI, h1, h2]; rfl
theorem cmp_bd (a b : Int) : -1 ≤ cmpI a b ∧ cmpI a b ≤ 1 := by unfold cmpI; split <;> (try split) <;> omega
/-- What MixThrusts makes of two drawn thrusts. -/
theorem mix_in {h v m n x y z t : Int} (ha : tvB h v m n) (hb : tvB x y z t) : ∃ a b c d : Int, thB a b c d = true ∧ mxB h v m n x y z t = true ∧
    mxP (h * t + x * n) h v m n x y z t = a ∧ mxP (v * t + y * n) h v m n x y z t = b ∧ mxP (m * t + z * n) h v m n x y z t = c ∧ mxP (2 * n * t) h v m n x y z t = d ∧ cmpI (h * d) (a * n) = cmpI (h * t) (x * n) ∧ cmpI (a * t) (x * d) = cmpI (h * t) (x * n) := by
  obtain ⟨k1, a1, a2, a3, a4, a5, a6, a7, a8⟩ := ha
  obtain ⟨k2, b1, b2, b3, b4, b5, b6, b7, b8⟩ := hb
  have m1 := mul_bd (a := h) (b := t) 199 12 (by omega) (by omega) (by omega) (by omega)
  have m2 := mul_bd (a := x) (b := n) 199 12 (by omega) (by omega) (by omega) (by omega)
  have m3 := mul_bd (a := v) (b := t) 1000 12 (by omega) (by omega) (by omega) (by omega)
  have m4 := mul_bd (a := y) (b := n) 1000 12 (by omega) (by omega) (by omega) (by omega)
  have m5 := mul_bd (a := m) (b := t) 1000 12 (by omega) (by omega) (by omega) (by omega)
  have m6 := mul_bd (a := z) (b := n) 1000 12 (by omega) (by omega) (by omega) (by omega)
  have m7 := mul_bd (a := 2 * n) (b := t) 24 12 (by omega) (by omega) (by omega) (by omega)
  have p1 : 0 ≤ h * t := Int.mul_nonneg (by omega) (by omega)
  have p2 : 0 ≤ x * n := Int.mul_nonneg (by omega) (by omega)
  have p3 : 1 ≤ 2 * n * t := Int.mul_pos (show (0 : Int) < 2 * n by omega) (show (0 : Int) < t by omega)
  obtain ⟨g, a, b, c, d, hg0, ea, eb, ec, ed, hmD, hmB, ht, _⟩ := mk_small (h := h * t + x * n) (v := v * t + y * n) (m := m * t + z * n) (n := 2 * n * t) (H := 10000) (M := 100000) (N := 1000) (by omega) (by omega) (by omega) (by omega) (by omega) (by omega) (by omega) (by omega) (by omega) (by omega) (by omega)
  have hgne : g ≠ 0 := by omega
  have hB : mxB h v m n x y z t = true := by
    rw [mxB, k1, k2, hmB, decide_eq_true (show n ≤ 1000 by omega), decide_eq_true (show t ≤ 1000 by omega)]; rfl
  have hp : ∀ q r, q = g * r → mxP q h v m n x y z t = r := fun q r e => by
    rw [mxP, hB, if_pos rfl, mkP, hmB, if_pos rfl, hmD, e]; exact tdiv_mul hgne
  exact ⟨a, b, c, d, ht, hB, hp _ _ ea, hp _ _ eb, hp _ _ ec, hp _ _ ed, mix_left (by omega) hg0 ea ed, mix_right (by omega) hg0 ea ed⟩
theorem eq_th (a b c d x y z t : Int) (W : World) : (Go.binOp .eql 42 (.agg #[.int .i64 a, .int .i64 b, .int .i64 c, .int .i64 d]) (.agg #[.int .i64 x, .int .i64 y, .int .i64 z, .int .i64 t])).run Try.prog W = .ok (.bool (decide (a = x ∧ b = y ∧ c = z ∧ d = t))) W := by
  by_cases h1 : a = x
  · subst h1
    by_cases h2 : b = y
    · subst h2
      by_cases h3 : c = z
      · subst h3
        by_cases h4 : d = t
        · subst h4
          go_simp
        · have h5 : (d == t) = false := by rw [beq_eq_false_iff_ne]; exact h4
          go_simp
      · have h5 : (c == z) = false := by rw [beq_eq_false_iff_ne]; exact h3
        go_simp
    · have h5 : (b == y) = false := by rw [beq_eq_false_iff_ne]; exact h2
      go_simp
  · have h5 : (a == x) = false := by rw [beq_eq_false_iff_ne]; exact h1
    go_simp
theorem tt_size : (regOf 10 Try.f7).size = 53 := by kernel_rfl
theorem tt_c0 : lexC .any (regOf 10 Try.f7) 0 8 = true := by kernel_rfl
theorem tt_c8 : lexC .any (regOf 10 Try.f7) 8 8 = true := by kernel_rfl
theorem tt_c16 : lexC .any (regOf 10 Try.f7) 16 8 = true := by kernel_rfl
theorem tt_c24 : lexC .any (regOf 10 Try.f7) 24 8 = true := by kernel_rfl
theorem tt_c32 : lexC .any (regOf 10 Try.f7) 32 8 = true := by kernel_rfl
theorem tt_c40 : lexC .any (regOf 10 Try.f7) 40 8 = true := by kernel_rfl
theorem tt_c48 : lexC .any (regOf 10 Try.f7) 48 5 = true := by kernel_rfl
theorem tt_e : (Region.ready .any (regOf 10 Try.f7) (lsT (regOf 10 Try.f7).size (regOf 10 Try.f7).size)).isEmpty = true := by kernel_rfl
theorem tt_s : Region.noSelect (regOf 10 Try.f7) = true := by kernel_rfl
theorem tt_lex : Region.lexB .any (regOf 10 Try.f7) = true := lex_parts tt_s tt_e fun k hk => by
  rw [tt_size] at hk
  by_cases h0 : k < 8
  · exact lexC_get tt_c0 k (by omega) (by omega)
  by_cases h8 : k < 16
  · exact lexC_get tt_c8 k (by omega) (by omega)
  by_cases h16 : k < 24
  · exact lexC_get tt_c16 k (by omega) (by omega)
  by_cases h24 : k < 32
  · exact lexC_get tt_c24 k (by omega) (by omega)
  by_cases h32 : k < 40
  · exact lexC_get tt_c32 k (by omega) (by omega)
  by_cases h40 : k < 48
  · exact lexC_get tt_c40 k (by omega) (by omega)
  exact lexC_get tt_c48 k (by omega) (by omega)
end Go.Proofs.Ytlpbmdoggcclpaa
