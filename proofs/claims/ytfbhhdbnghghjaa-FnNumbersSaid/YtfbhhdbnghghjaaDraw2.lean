/- The walks of the draws of numbers. No condition. -/
import Derived.Test.YtfbhhdbnghghjaaDraw
namespace Go.Proofs.Ytfbhhdbnghghjaa
open Go.RowKit
set_option linter.unusedVariables false
theorem Cur.up {a b : World} {c : Nat} (h : Cur a c) (hu : Up a b) : Cur b c := by
  obtain ⟨A, n, cp, i, hh, B, lo, hi, q0, q1, q2, qf, ql, qh, qn, qi, qI, qs, qB⟩ := h
  exact ⟨A, n, cp, i, hh, B, lo, hi, (hu.cells.1 c 0 ql).trans q0, (hu.cells.1 c 1 ql).trans q1, (hu.cells.1 c 2 ql).trans q2, fun x => (hu.cells.2 c x ql).trans (qf x), Nat.lt_of_lt_of_le ql hu.size, qh, qn, qi, qI, qs.up hu, qB⟩
theorem Cur.lt {a : World} {c : Nat} (h : Cur a c) : c < a.heap.size := by
  obtain ⟨_, _, _, _, _, _, _, _, _, _, _, _, ql, _⟩ := h
  exact ql
theorem i64_k {n : Int} (h1 : -9223372036854775808 ≤ n) (h2 : n ≤ 9223372036854775807) : I64 n := ⟨h1, h2⟩
/-- A number from 0 to below n; 0 where n is not above 0. -/
def beV (n : Int) (v : Value) : Prop := ∃ x : Int, v = .int .i64 x ∧ 0 ≤ x ∧ (x < n ∨ n ≤ 0 ∧ x = 0)
theorem rem_bd {x n : Int} (hx : 0 ≤ x) (hn : 0 < n) : 0 ≤ x % n ∧ x % n < n := ⟨Int.emod_nonneg _ (by omega), Int.emod_lt_of_pos _ hn⟩
set_option maxHeartbeats 1000000 in
set_option maxRecDepth 100000 in
theorem l01Below_any (c : Nat) (n : Int) (w w0 : World) (hn : I64 n) (hc : Cur w c) (h0 : w0.heap.size ≤ c) (hu : Up w0 w) : Calls Try.prog 64 #[.pointer (some ⟨c, 0, none⟩), .int .i64 n] w (DrP w w0 c (beV n)) := by
  obtain ⟨n1, n2⟩ := hn
  by_cases hz : n ≤ 0
  · go_enter Try.func64, Try.ntmps64
    go_wp2
    go_ret
    exact ⟨_, rfl, ⟨0, rfl, by omega, .inr ⟨hz, rfl⟩⟩, hc, Chg.refl _ _ _, hu⟩
  by_cases h256 : n ≤ 256
  · have hp : (0 : Int) < n := by omega
    have hne : ¬ n = 0 := by omega
    have hne2 : (n == 0) = false := by rw [beq_eq_false_iff_ne]; exact hne
    go_enter Try.func64, Try.ntmps64
    go_wp2_with fail
    (go_at_call 83; (with_reducible refine (l01Byte_any _ _ _ hc h0 hu).mono ?_); rintro e w1 ⟨_, rfl, ⟨x, rfl, hx1, hx2⟩, hC1, hD1, hU1⟩)
    obtain ⟨hm1, hm2⟩ := rem_bd hx1 hp
    go_wp2
    go_ret
    exact ⟨_, rfl, ⟨_, rfl, hm1, .inl hm2⟩, hC1, hD1, hU1⟩
  · have hp : (0 : Int) < n := by omega
    have hne : ¬ n = 0 := by omega
    have hne2 : (n == 0) = false := by rw [beq_eq_false_iff_ne]; exact hne
    go_enter Try.func64, Try.ntmps64
    go_wp2_with fail
    (go_at_call 83; (with_reducible refine (l01Byte_any _ _ _ hc h0 hu).mono ?_); rintro e w1 ⟨_, rfl, ⟨x1, rfl, hx1, hy1⟩, hC1, hD1, hU1⟩)
    go_wp2_with fail
    (go_at_call 83; (with_reducible refine (l01Byte_any _ _ _ hC1 h0 hU1).mono ?_); rintro e w2 ⟨_, rfl, ⟨x2, rfl, hx2, hy2⟩, hC2, hD2, hU2⟩)
    go_wp2_with fail
    (go_at_call 83; (with_reducible refine (l01Byte_any _ _ _ hC2 h0 hU2).mono ?_); rintro e w3 ⟨_, rfl, ⟨x3, rfl, hx3, hy3⟩, hC3, hD3, hU3⟩)
    go_wp2_with fail
    (go_at_call 83; (with_reducible refine (l01Byte_any _ _ _ hC3 h0 hU3).mono ?_); rintro e w4 ⟨_, rfl, ⟨x4, rfl, hx4, hy4⟩, hC4, hD4, hU4⟩)
    obtain ⟨hm1, hm2⟩ := rem_bd (x := x1 * 16777216 + x2 * 65536 + x3 * 256 + x4) (by omega) hp
    go_wp2
    go_ret
    exact ⟨_, rfl, ⟨_, rfl, hm1, .inl hm2⟩, hC4, ((hD1.trans hD2).trans hD3).trans hD4, hU4⟩
def boV (v : Value) : Prop := ∃ b : Bool, v = .bool b
set_option maxRecDepth 100000 in
theorem l01Once_any (c : Nat) (n : Int) (w w0 : World) (hn : I64 n) (hc : Cur w c) (h0 : w0.heap.size ≤ c) (hu : Up w0 w) : Calls Try.prog 63 #[.pointer (some ⟨c, 0, none⟩), .int .i64 n] w (DrP w w0 c boV) := by
  go_enter Try.func63, Try.ntmps63
  go_wp2_with fail
  (go_at_call 64; (with_reducible refine (l01Below_any _ _ _ _ hn hc h0 hu).mono ?_); rintro e w1 ⟨_, rfl, ⟨x1, rfl, hx1, hy1⟩, hC1, hD1, hU1⟩)
  go_wp2
  go_ret
  exact ⟨_, rfl, ⟨_, rfl⟩, hC1, hD1, hU1⟩
def piV (m : Nat) (R : Nat → Nat → Int) (v : Value) : Prop := ∃ i, i < m ∧ v = .int .i64 (R i 0)
set_option maxRecDepth 100000 in
theorem l01PickInt_any (c : Nat) (u : Value) (m lo hi : Nat) (R : Nat → Nat → Int) (w w0 : World) (hs : Sl w lo hi 1 u m (intF R)) (hd : hi ≤ c ∨ c + 1 ≤ lo) (hm : 0 < m) (hm2 : m ≤ 1048576) (hc : Cur w c) (h0 : w0.heap.size ≤ c) (hu : Up w0 w) : Calls Try.prog 84 #[.pointer (some ⟨c, 0, none⟩), u] w (DrP w w0 c (piV m R)) := by
  have HS := hs
  obtain ⟨_, A, cp, rfl, hcp, hx⟩ := hs
  clear hx
  go_enter Try.func84, Try.ntmps84
  go_wp2_with fail
  (go_at_call 64; (with_reducible refine (l01Below_any _ _ _ _ (i64_k (by omega) (by omega)) hc h0 hu).mono ?_); rintro e w1 ⟨_, rfl, ⟨x1, rfl, hx1, hy1⟩, hC1, hD1, hU1⟩)
  obtain ⟨i, rfl⟩ : ∃ i : Nat, x1 = (i : Int) := ⟨x1.toNat, by omega⟩
  have hi1 : i < m := by omega
  have hi2 : (i : Int) < (m : Int) := by omega
  obtain ⟨hz, A', c', hv, _, hx⟩ := HS.off hD1 hd
  cases hv
  obtain ⟨b, o, rfl, hb1, hb2, hcs⟩ := hx hm
  have hg := Sl.int hcs hi1
  clear hcs hx hy1
  go_wp2
  go_ret
  exact ⟨_, rfl, ⟨i, hi1, rfl⟩, hC1, hD1, hU1⟩
def nuL (i j : Nat) : Int := ([-1, 0, 127, 128, 16383, 16384, 1000000000, 1000000001, 9223372036854775807, -9223372036854775808] : List Int).getD i 0
theorem nuL_bd (i : Nat) : I64 (nuL i 0) := by
  have h : ∀ i : Fin 10, I64 (nuL i 0) := by
    intro i
    unfold I64 nuL
    revert i
    decide
  by_cases hi : i < 10
  · exact h ⟨i, hi⟩
  · have : nuL i 0 = 0 := by unfold nuL; rw [List.getD_eq_getElem?_getD, List.getElem?_eq_none (by simp; omega)]; rfl
    rw [this]; exact ⟨by omega, by omega⟩
def nuC : Array Value := #[.int .i64 (-1), .int .i64 0, .int .i64 127, .int .i64 128, .int .i64 16383, .int .i64 16384, .int .i64 1000000000, .int .i64 1000000001, .int .i64 9223372036854775807, .int .i64 (-9223372036854775808)]
theorem nuL_sl (w : World) : Sl (w.alloc (.cells #[.int .i64 (-1), .int .i64 0, .int .i64 127, .int .i64 128, .int .i64 16383, .int .i64 16384, .int .i64 1000000000, .int .i64 1000000001, .int .i64 9223372036854775807, .int .i64 (-9223372036854775808)] 3)) w.heap.size (w.heap.size + 1) 1 (.slice (some ⟨w.heap.size, 0, none⟩) 10 10) 10 (intF nuL) := by
  refine ⟨by simp, _, 10, rfl, by omega, fun _ => ⟨w.heap.size, 0, rfl, Nat.le_refl _, by omega, fun i j hi hj => ?_⟩⟩
  have hj0 : j = 0 := by omega
  subst hj0
  rw [show 0 + (i * 1 + 0) = i from by omega, World.cell?_alloc_mark]
  have h : ∀ i : Fin 10, nuC[i.val]? = some (intF nuL i.val 0) := by
    intro i
    match i with
    | ⟨0, _⟩ | ⟨1, _⟩ | ⟨2, _⟩ | ⟨3, _⟩ | ⟨4, _⟩ | ⟨5, _⟩ | ⟨6, _⟩ | ⟨7, _⟩ | ⟨8, _⟩ | ⟨9, _⟩ => rfl
  exact h ⟨i, hi⟩
def i64V (v : Value) : Prop := ∃ x : Int, v = .int .i64 x ∧ I64 x
set_option maxHeartbeats 1000000 in
set_option maxRecDepth 100000 in
theorem l01Number_any (c : Nat) (w w0 : World) (hc : Cur w c) (h0 : w0.heap.size ≤ c) (hu : Up w0 w) : Calls Try.prog 65 #[.pointer (some ⟨c, 0, none⟩)] w (DrP w w0 c i64V) := by
  go_enter Try.func65, Try.ntmps65
  go_wp2_with fail
  (go_at_call 64; (with_reducible refine (l01Below_any _ _ _ _ (i64_k (by omega) (by omega)) hc h0 hu).mono ?_); rintro e w1 ⟨_, rfl, ⟨x1, rfl, hx1, hy1⟩, hC1, hD1, hU1⟩)
  have hx4 : x1 < 4 := by omega
  clear hy1
  by_cases h0' : x1 = 0
  · subst h0'
    go_wp2_with fail
    (go_at_call 84; (with_reducible refine (l01PickInt_any c _ 10 w1.heap.size (w1.heap.size + 1) nuL _ w0 (nuL_sl w1) (.inr (Nat.succ_le_of_lt hC1.lt)) (by omega) (by omega) (hC1.up (Up.alloc (Up.refl w1) _)) h0 (hU1.alloc _)).mono ?_); rintro e w2 ⟨_, rfl, ⟨i, hi, rfl⟩, hC2, hD2, hU2⟩)
    go_wp2
    go_ret
    exact ⟨_, rfl, ⟨_, rfl, nuL_bd i⟩, hC2, (hD1.up (Up.alloc (Up.refl w1) _)).trans hD2, hU2⟩
  by_cases h1' : x1 = 1
  · subst h1'
    go_wp2_with fail
    (go_at_call 64; (with_reducible refine (l01Below_any _ _ _ _ (i64_k (by omega) (by omega)) hC1 h0 hU1).mono ?_); rintro e w2 ⟨_, rfl, ⟨x2, rfl, hx2, hy2⟩, hC2, hD2, hU2⟩)
    go_wp2
    go_ret
    exact ⟨_, rfl, ⟨_, rfl, i64_k (by omega) (by omega)⟩, hC2, hD1.trans hD2, hU2⟩
  · have e0 : (x1 == 0) = false := by rw [beq_eq_false_iff_ne]; exact h0'
    have e1 : (x1 == 1) = false := by rw [beq_eq_false_iff_ne]; exact h1'
    go_wp2_with fail
    (go_at_call 64; (with_reducible refine (l01Below_any _ _ _ _ (i64_k (by omega) (by omega)) hC1 h0 hU1).mono ?_); rintro e w2 ⟨_, rfl, ⟨x2, rfl, hx2, hy2⟩, hC2, hD2, hU2⟩)
    go_wp2
    go_ret
    exact ⟨_, rfl, ⟨_, rfl, i64_k (by omega) (by omega)⟩, hC2, hD1.trans hD2, hU2⟩
end Go.Proofs.Ytfbhhdbnghghjaa
