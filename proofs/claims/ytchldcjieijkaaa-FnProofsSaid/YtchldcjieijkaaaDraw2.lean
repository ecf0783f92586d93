/- The walks of the draws of numbers. No condition. -/
import Derived.Test.YtchldcjieijkaaaDraw
namespace Go.Proofs.Ytchldcjieijkaaa
open Go.RowKit
set_option linter.unusedVariables false
theorem Cur.up {a b : World} {c : Nat} (h : Cur a c) (hu : Up a b) : Cur b c := by
  obtain ⟨A, n, cp, i, hh, B, lo, hi, q0, q1, q2, qf, ql, qh, qn, qi, qI, qs, qB⟩ := h
  exact ⟨A, n, cp, i, hh, B, lo, hi, (hu.cells.1 c 0 ql).trans q0, (hu.cells.1 c 1 ql).trans q1, (hu.cells.1 c 2 ql).trans q2, fun x => (hu.cells.2 c x ql).trans (qf x), Nat.lt_of_lt_of_le ql hu.size, qh, qn, qi, qI, qs.up hu, qB⟩
theorem Cur.lt {a : World} {c : Nat} (h : Cur a c) : c < a.heap.size := by
  obtain ⟨_, _, _, _, _, _, _, _, _, _, _, _, ql, _⟩ := h
  exact ql
theorem i64_k {n : Int} (h1 : -9223372036854775808 ≤ n) (h2 : n ≤ 9223372036854775807) : I64 n := ⟨h1, h2⟩
/-- A number from 0 to below n; 0 where n is not above 0. -/
def beV (n : Int) (v : Value) : Prop := ∃ x : Int, v = .int .i64 x ∧ 0 ≤ x ∧ (x < n ∨ n ≤ 0 ∧ x = 0)
theorem rem_bd {x n : Int} (hx : 0 ≤ x) (hn : 0 < n) : 0 ≤ x % n ∧ x % n < n := ⟨Int.emod_nonneg _ (by omega), Int.emod_lt_of_pos _ hn⟩
set_option maxHeartbeats 1000000 in
set_option maxRecDepth 100000 in
theorem l01Below_any (c : Nat) (n : Int) (w w0 : World) (hn : I64 n) (hc : Cur w c) (h0 : w0.heap.size ≤ c) (hu : Up w0 w) : Calls Try.prog 25 #[.pointer (some ⟨c, 0, none⟩), .int .i64 n] w (DrP w w0 c (beV n)) := by
  obtain ⟨n1, n2⟩ := hn
  by_cases hz : n ≤ 0
  · go_enter Try.func25, Try.ntmps25
    go_wp2
    go_ret
    exact ⟨_, rfl, ⟨0, rfl, by omega, .inr ⟨hz, rfl⟩⟩, hc, ChB.refl _ _, hu⟩
  by_cases h256 : n ≤ 256
  · have hp : (0 : Int) < n := by omega
    have hne : ¬ n = 0 := by omega
    have hne2 : (n == 0) = false := by rw [beq_eq_false_iff_ne]; exact hne
    go_enter Try.func25, Try.ntmps25
    go_wp2_with fail
    (go_at_call 35; (with_reducible refine (l01Byte_any _ _ _ hc h0 hu).mono ?_); rintro e w1 ⟨_, rfl, ⟨x, rfl, hx1, hx2⟩, hC1, hD1, hU1⟩)
    obtain ⟨hm1, hm2⟩ := rem_bd hx1 hp
    go_wp2
    go_ret
    exact ⟨_, rfl, ⟨_, rfl, hm1, .inl hm2⟩, hC1, hD1, hU1⟩
  · have hp : (0 : Int) < n := by omega
    have hne : ¬ n = 0 := by omega
    have hne2 : (n == 0) = false := by rw [beq_eq_false_iff_ne]; exact hne
    go_enter Try.func25, Try.ntmps25
    go_wp2_with fail
    (go_at_call 35; (with_reducible refine (l01Byte_any _ _ _ hc h0 hu).mono ?_); rintro e w1 ⟨_, rfl, ⟨x1, rfl, hx1, hy1⟩, hC1, hD1, hU1⟩)
    go_wp2_with fail
    (go_at_call 35; (with_reducible refine (l01Byte_any _ _ _ hC1 h0 hU1).mono ?_); rintro e w2 ⟨_, rfl, ⟨x2, rfl, hx2, hy2⟩, hC2, hD2, hU2⟩)
    go_wp2_with fail
    (go_at_call 35; (with_reducible refine (l01Byte_any _ _ _ hC2 h0 hU2).mono ?_); rintro e w3 ⟨_, rfl, ⟨x3, rfl, hx3, hy3⟩, hC3, hD3, hU3⟩)
    go_wp2_with fail
    (go_at_call 35; (with_reducible refine (l01Byte_any _ _ _ hC3 h0 hU3).mono ?_); rintro e w4 ⟨_, rfl, ⟨x4, rfl, hx4, hy4⟩, hC4, hD4, hU4⟩)
    obtain ⟨hm1, hm2⟩ := rem_bd (x := x1 * 16777216 + x2 * 65536 + x3 * 256 + x4) (by omega) hp
    go_wp2
    go_ret
    exact ⟨_, rfl, ⟨_, rfl, hm1, .inl hm2⟩, hC4, ((hD1.trans hD2).trans hD3).trans hD4, hU4⟩
def piV (m : Nat) (R : Nat → Nat → Int) (v : Value) : Prop := ∃ i, i < m ∧ v = .int .i64 (R i 0)
set_option maxRecDepth 100000 in
theorem l01PickInt_any (c : Nat) (u : Value) (m lo hi : Nat) (R : Nat → Nat → Int) (w w0 : World) (hs : Sl w lo hi 1 u m (intF R)) (hd : hi ≤ c ∨ c + 1 ≤ lo) (hm : 0 < m) (hm2 : m ≤ 1048576) (hc : Cur w c) (h0 : w0.heap.size ≤ c) (hu : Up w0 w) : Calls Try.prog 26 #[.pointer (some ⟨c, 0, none⟩), u] w (DrP w w0 c (piV m R)) := by
  have HS := hs
  obtain ⟨_, A, cp, rfl, hcp, hx⟩ := hs
  clear hx
  go_enter Try.func26, Try.ntmps26
  go_wp2_with fail
  (go_at_call 25; (with_reducible refine (l01Below_any _ _ _ _ (i64_k (by omega) (by omega)) hc h0 hu).mono ?_); rintro e w1 ⟨_, rfl, ⟨x1, rfl, hx1, hy1⟩, hC1, hD1, hU1⟩)
  obtain ⟨i, rfl⟩ : ∃ i : Nat, x1 = (i : Int) := ⟨x1.toNat, by omega⟩
  have hi1 : i < m := by omega
  have hi2 : (i : Int) < (m : Int) := by omega
  obtain ⟨hz, A', c', hv, _, hx⟩ := HS.off hD1.1 hd
  cases hv
  obtain ⟨b, o, rfl, hb1, hb2, hcs⟩ := hx hm
  have hg := Sl.int hcs hi1
  clear hcs hx hy1
  go_wp2
  go_ret
  exact ⟨_, rfl, ⟨i, hi1, rfl⟩, hC1, hD1, hU1⟩
end Go.Proofs.Ytchldcjieijkaaa
