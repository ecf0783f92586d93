/- The walks of the draws of rows, of stones, of what is left of them, of shapes of arches. No condition. -/
import Derived.Test.YtaealkfnhhmmcaaDraw
import Derived.Deep.RegionHeld3
import Derived.Test.YtaealkfnhhmmcaaAg
import Derived.Test.YtaealkfnhhmmcaaKeep
import Derived.Test.YtaealkfnhhmmcaaJm
/- The walks of the draws of numbers. No condition. -/
namespace Go.Proofs.Ytaealkfnhhmmcaa
open Go.RowKit
set_option linter.unusedVariables false
theorem Cur.up {a b : World} {c : Nat} (h : Cur a c) (hu : Up a b) : Cur b c := by
  obtain ⟨A, n, cp, i, hh, B, lo, hi, q0, q1, q2, qf, ql, qh, qn, qi, qI, qs, qB⟩ := h
  exact ⟨A, n, cp, i, hh, B, lo, hi, (hu.cells.1 c 0 ql).trans q0, (hu.cells.1 c 1 ql).trans q1, (hu.cells.1 c 2 ql).trans q2, fun x => (hu.cells.2 c x ql).trans (qf x), Nat.lt_of_lt_of_le ql hu.size, qh, qn, qi, qI, qs.up hu, qB⟩
theorem Cur.lt {a : World} {c : Nat} (h : Cur a c) : c < a.heap.size := by
  obtain ⟨_, _, _, _, _, _, _, _, _, _, _, _, ql, _⟩ := h
  exact ql
theorem i64_k {n : Int} (h1 : -9223372036854775808 ≤ n) (h2 : n ≤ 9223372036854775807) : I64 n := ⟨h1, h2⟩
/-- A number from 0 to below n; 0 where n is not above 0. -/
def beV (n : Int) (v : Value) : Prop := ∃ x : Int, v = .int .i64 x ∧ 0 ≤ x ∧ (x < n ∨ n ≤ 0 ∧ x = 0)
theorem rem_bd {x n : Int} (hx : 0 ≤ x) (hn : 0 < n) : 0 ≤ x % n ∧ x % n < n := ⟨Int.emod_nonneg _ (by omega), Int.emod_lt_of_pos _ hn⟩
set_option maxHeartbeats 1000000 in
set_option maxRecDepth 100000 in
theorem l01Below_any (c : Nat) (n : Int) (w w0 : World) (hn : I64 n) (hc : Cur w c) (h0 : w0.heap.size ≤ c) (hu : Up w0 w) : Calls Try.prog 40 #[.pointer (some ⟨c, 0, none⟩), .int .i64 n] w (DrP w w0 c (beV n)) := by
  obtain ⟨n1, n2⟩ := hn
  by_cases hz : n ≤ 0
  · go_enter Try.func40, Try.ntmps40
    go_wp2
    go_ret
    exact ⟨_, rfl, ⟨0, rfl, by omega, .inr ⟨hz, rfl⟩⟩, hc, ChB.refl _ _, hu⟩
  by_cases h256 : n ≤ 256
  · have hp : (0 : Int) < n := by omega
    have hne : ¬ n = 0 := by omega
    have hne2 : (n == 0) = false := by rw [beq_eq_false_iff_ne]; exact hne
    go_enter Try.func40, Try.ntmps40
    go_wp2_with fail
    (go_at_call 72; (with_reducible refine (l01Byte_any _ _ _ hc h0 hu).mono ?_); rintro e w1 ⟨_, rfl, ⟨x, rfl, hx1, hx2⟩, hC1, hD1, hU1⟩)
    obtain ⟨hm1, hm2⟩ := rem_bd hx1 hp
    go_wp2
    go_ret
    exact ⟨_, rfl, ⟨_, rfl, hm1, .inl hm2⟩, hC1, hD1, hU1⟩
  · have hp : (0 : Int) < n := by omega
    have hne : ¬ n = 0 := by omega
    have hne2 : (n == 0) = false := by rw [beq_eq_false_iff_ne]; exact hne
    go_enter Try.func40, Try.ntmps40
    go_wp2_with fail
    (go_at_call 72; (with_reducible refine (l01Byte_any _ _ _ hc h0 hu).mono ?_); rintro e w1 ⟨_, rfl, ⟨x1, rfl, hx1, hy1⟩, hC1, hD1, hU1⟩)
    go_wp2_with fail
    (go_at_call 72; (with_reducible refine (l01Byte_any _ _ _ hC1 h0 hU1).mono ?_); rintro e w2 ⟨_, rfl, ⟨x2, rfl, hx2, hy2⟩, hC2, hD2, hU2⟩)
    go_wp2_with fail
    (go_at_call 72; (with_reducible refine (l01Byte_any _ _ _ hC2 h0 hU2).mono ?_); rintro e w3 ⟨_, rfl, ⟨x3, rfl, hx3, hy3⟩, hC3, hD3, hU3⟩)
    go_wp2_with fail
    (go_at_call 72; (with_reducible refine (l01Byte_any _ _ _ hC3 h0 hU3).mono ?_); rintro e w4 ⟨_, rfl, ⟨x4, rfl, hx4, hy4⟩, hC4, hD4, hU4⟩)
    obtain ⟨hm1, hm2⟩ := rem_bd (x := x1 * 16777216 + x2 * 65536 + x3 * 256 + x4) (by omega) hp
    go_wp2
    go_ret
    exact ⟨_, rfl, ⟨_, rfl, hm1, .inl hm2⟩, hC4, ((hD1.trans hD2).trans hD3).trans hD4, hU4⟩
def boV (v : Value) : Prop := ∃ b : Bool, v = .bool b
set_option maxRecDepth 100000 in
theorem l01Once_any (c : Nat) (n : Int) (w w0 : World) (hn : I64 n) (hc : Cur w c) (h0 : w0.heap.size ≤ c) (hu : Up w0 w) : Calls Try.prog 75 #[.pointer (some ⟨c, 0, none⟩), .int .i64 n] w (DrP w w0 c boV) := by
  go_enter Try.func75, Try.ntmps75
  go_wp2_with fail
  (go_at_call 40; (with_reducible refine (l01Below_any _ _ _ _ hn hc h0 hu).mono ?_); rintro e w1 ⟨_, rfl, ⟨x1, rfl, hx1, hy1⟩, hC1, hD1, hU1⟩)
  go_wp2
  go_ret
  exact ⟨_, rfl, ⟨_, rfl⟩, hC1, hD1, hU1⟩
def piV (m : Nat) (R : Nat → Nat → Int) (v : Value) : Prop := ∃ i, i < m ∧ v = .int .i64 (R i 0)
set_option maxRecDepth 100000 in
theorem l01PickInt_any (c : Nat) (u : Value) (m lo hi : Nat) (R : Nat → Nat → Int) (w w0 : World) (hs : Sl w lo hi 1 u m (intF R)) (hd : hi ≤ c ∨ c + 1 ≤ lo) (hm : 0 < m) (hm2 : m ≤ 1048576) (hc : Cur w c) (h0 : w0.heap.size ≤ c) (hu : Up w0 w) : Calls Try.prog 76 #[.pointer (some ⟨c, 0, none⟩), u] w (DrP w w0 c (piV m R)) := by
  have HS := hs
  obtain ⟨_, A, cp, rfl, hcp, hx⟩ := hs
  clear hx
  go_enter Try.func76, Try.ntmps76
  go_wp2_with fail
  (go_at_call 40; (with_reducible refine (l01Below_any _ _ _ _ (i64_k (by omega) (by omega)) hc h0 hu).mono ?_); rintro e w1 ⟨_, rfl, ⟨x1, rfl, hx1, hy1⟩, hC1, hD1, hU1⟩)
  obtain ⟨i, rfl⟩ : ∃ i : Nat, x1 = (i : Int) := ⟨x1.toNat, by omega⟩
  have hi1 : i < m := by omega
  have hi2 : (i : Int) < (m : Int) := by omega
  obtain ⟨hz, A', c', hv, _, hx⟩ := HS.off hD1.1 hd
  cases hv
  obtain ⟨b, o, rfl, hb1, hb2, hcs⟩ := hx hm
  have hg := Sl.int hcs hi1
  clear hcs hx hy1
  go_wp2
  go_ret
  exact ⟨_, rfl, ⟨i, hi1, rfl⟩, hC1, hD1, hU1⟩
end Go.Proofs.Ytaealkfnhhmmcaa
/- The walks of a new cursor and of the first draws. No condition. -/
namespace Go.Proofs.Ytaealkfnhhmmcaa
open Go.RowKit
set_option linter.unusedVariables false
theorem and_i64 (x y : Int) : I64 (bits .and .i64 x y) := by
  have h : bits .and .i64 x y = IntKind.i64.wrap ((BitVec.ofInt 64 x &&& BitVec.ofInt 64 y).toNat : Int) := rfl
  rw [h, IntKind.wrap_i64]
  constructor <;> omega
def NeP (w : World) (e : Ending) (w' : World) : Prop := ∃ c, e = .returned (.pointer (some ⟨c, 0, none⟩)) ∧ w.heap.size ≤ c ∧ Cur w' c ∧ Up w w'
theorem cur_new {w : World} {lo hi n cp : Nat} {A : Option Addr} {B : Nat → Int} {hh : Int} {t : TypeId} (hs : Sl w lo hi 1 (.slice A n cp) n (bytF B)) (hn : n ≤ 1048576) (hB : ∀ i, i < n → 0 ≤ B i ∧ B i ≤ 255) (hI : I64 hh) :
    Cur (w.alloc (.cells #[.slice A n cp, .int .i64 0, .int .i64 hh] t)) w.heap.size := by
  have hb := heap_alloc_new w (.cells #[.slice A n cp, .int .i64 0, .int .i64 hh] t)
  exact ⟨A, n, cp, 0, hh, B, lo, hi, by rw [World.cell?_alloc_mark]; rfl, by rw [World.cell?_alloc_mark]; rfl, by rw [World.cell?_alloc_mark]; rfl, fun x => by simp only [World.frozen?, hb]; simp, by simp, hs.1, hn, Nat.zero_le _, hI, hs.up (Up.alloc (Up.refl w) _), hB⟩
theorem big_any (v : Value) (n lo hi : Nat) (f : Nat → Nat → Value) (w : World) (hs : Sl w lo hi 1 v n f) (hn : n ≤ maxLen) : Calls Try.prog 4 #[v] w fun e w' => e = .returned (.bool (decide (1048576 < n))) ∧ w = w' := by
  obtain ⟨_, A, c, rfl, hc, _⟩ := hs
  unfold maxLen at hn
  go_enter Try.func4, Try.ntmps4
  go_wp2
  go_ret
  exact ⟨by simp; try omega, rfl⟩
set_option maxHeartbeats 1000000 in
set_option maxRecDepth 100000 in
theorem l01New_any (u : Value) (n lo hi : Nat) (B : Nat → Int) (w : World) (hs : Sl w lo hi 1 u n (bytF B)) (hn : n ≤ 1048576) (hB : ∀ i, i < n → 0 ≤ B i ∧ B i ≤ 255) : Calls Try.prog 17 #[u] w (NeP w) := by
  have HS := hs
  obtain ⟨hz, A, cp, rfl, hcp, hx⟩ := hs
  have H := Lib.hid hx
  have HB := Lib.hid hB
  clear hx hB
  go_enter Try.func17, Try.ntmps17
  go_wp2
  go_loop [3, 4] (fun t i => ∃ (k : Nat) (hh : Int), i = .int .i64 (k : Int) ∧ k ≤ n ∧ t = .int .i64 hh ∧ I64 hh) (fun _ i => n - (intOf i).toNat)
  case atStart => exact ⟨0, 33017 + (n : Int), rfl, Nat.zero_le _, by rfl, by constructor <;> omega⟩
  case round =>
    obtain ⟨k, hh, rfl, hk, rfl, hI⟩ := hrel
    by_cases hk1 : k < n ∧ k < 4000
    · obtain ⟨hk1, hk4⟩ := hk1
      obtain ⟨b, o, rfl, hb1, hb2, hcs⟩ := H.out (by omega)
      have hbs : b < w.heap.size := by omega
      have hg : w.cell? ⟨b, o + k, none⟩ = some (.int .u8 (B k)) := by simpa [bytF] using hcs k 0 hk1 (by omega)
      have hk2 : (k : Int) < (n : Int) := by omega
      have hk5 : (k : Int) < 4000 := by omega
      clear hcs
      go_wp2
      exact ⟨⟨k + 1, _, by rfl, by omega, rfl, and_i64 _ _⟩, by simp only [intOf]; omega⟩
    · by_cases hk2 : k < n
      · have hk3 : (k : Int) < (n : Int) := by omega
        have hk5 : ¬ (k : Int) < 4000 := by omega
        clear hk1
        go_wp2
        go_ret
        exact ⟨w.heap.size, rfl, Nat.le_refl _, cur_new HS hn HB.out hI, (by repeat (first | with_reducible exact Up.refl _ | with_reducible refine Up.alloc ?_ _ | with_reducible refine Up.drew ?_ | with_reducible refine Up.drewN ?_ _ | (with_reducible refine Up.setCell ?_ (by first | omega | (simp; done) | (simp; omega)) _) | with_reducible assumption | (with_reducible refine Up.trans ?_ (by with_reducible assumption))))⟩
      · have hk3 : ¬ (k : Int) < (n : Int) := by omega
        clear hk1
        go_wp2
        go_ret
        exact ⟨w.heap.size, rfl, Nat.le_refl _, cur_new HS hn HB.out hI, (by repeat (first | with_reducible exact Up.refl _ | with_reducible refine Up.alloc ?_ _ | with_reducible refine Up.drew ?_ | with_reducible refine Up.drewN ?_ _ | (with_reducible refine Up.setCell ?_ (by first | omega | (simp; done) | (simp; omega)) _) | with_reducible assumption | (with_reducible refine Up.trans ?_ (by with_reducible assumption))))⟩
end Go.Proofs.Ytaealkfnhhmmcaa
/- The walks of the draws of points. No condition. -/
namespace Go.Proofs.Ytaealkfnhhmmcaa
open Go.RowKit
set_option linter.unusedVariables false
theorem ChB.far {c p o : Nat} {w a : World} (h : ChB c w a) (hp : w.heap.size ≤ p) (u : Value) : ChB c w (a.setCell ⟨p, o, none⟩ u) := by
  refine ⟨⟨by have := h.1.1; simpa [World.setCell] using this, fun x o' hx hd => ?_⟩, fun x hx hc => ?_⟩
  · obtain ⟨h1, h2⟩ := h.1.2 x o' hx hd
    exact ⟨(World.cell?_setCell_other _ _ _ _ (by intro e; injection e with e _; omega)).trans h1, by rw [World.frozen?_setCell]; exact h2⟩
  · rw [← h.2 x hx hc]
    simp only [World.setCell, Array.getElem?_modify]
    rw [if_neg (by omega)]
theorem Cur.far {c p o : Nat} {a : World} (h : Cur a c) (hp : c < p) (u : Value) : Cur (a.setCell ⟨p, o, none⟩ u) c := by
  have hC : Chg p (p + 1) a (a.setCell ⟨p, o, none⟩ u) := (Chg.refl _ _ a).setCell (p := ⟨p, o, none⟩) (Nat.le_refl _) (Nat.lt_succ_self _) u
  obtain ⟨A, m, cp, i, hh, B, lo, hi, q0, q1, q2, qf, ql, qh, qn, qi, qI, qs, qB⟩ := h
  have e := fun o' => hC.2 c o' ql (.inl hp)
  exact ⟨A, m, cp, i, hh, B, lo, hi, (e 0).1.trans q0, (e 1).1.trans q1, (e 2).1.trans q2, fun x => (e x).2.trans (qf x), Nat.lt_of_lt_of_le ql hC.1, qh, qn, qi, qI, qs.off hC (.inl (by omega)), qB⟩
theorem pk_set {W : World} {b1 b2 : Nat} {p : Addr} {v a b c d : Value} (hp1 : p.block ≠ b1) (hp2 : p.block ≠ b2) (h : W.cell? ⟨b1, 0, none⟩ = some a ∧ W.cell? ⟨b1, 1, none⟩ = some b ∧ W.cell? ⟨b2, 0, none⟩ = some c ∧ W.cell? ⟨b2, 1, none⟩ = some d) :
    (W.setCell p v).cell? ⟨b1, 0, none⟩ = some a ∧ (W.setCell p v).cell? ⟨b1, 1, none⟩ = some b ∧ (W.setCell p v).cell? ⟨b2, 0, none⟩ = some c ∧ (W.setCell p v).cell? ⟨b2, 1, none⟩ = some d := by
  obtain ⟨h1, h2, h3, h4⟩ := h
  refine ⟨(World.cell?_setCell_other _ _ _ _ ?_).trans h1, (World.cell?_setCell_other _ _ _ _ ?_).trans h2, (World.cell?_setCell_other _ _ _ _ ?_).trans h3, (World.cell?_setCell_other _ _ _ _ ?_).trans h4⟩
  all_goals (rintro rfl; simp at hp1 hp2)
/-- A drawn point. -/
def ptV (v : Value) : Prop := ∃ x y : Int, v = .agg #[.int .i64 x, .int .i64 y] ∧ -5 ≤ x ∧ x ≤ 15 ∧ -3 ≤ y ∧ y ≤ 12
end Go.Proofs.Ytaealkfnhhmmcaa
/- The walks of a stone between two joints, its weight; three drawn rows. No condition. -/
namespace Go.Proofs.Ytaealkfnhhmmcaa
open Go.RowKit
set_option linter.unusedVariables false
/-- A row of integers that is built at once. -/
theorem sl_lit (w : World) (sz n : Nat) (l : List Int) (t : TypeId) (hl : l.length = n * sz) : Sl (w.alloc (.cells (l.map (Value.int .i64)).toArray t)) w.heap.size (w.heap.size + 1) sz (.slice (some ⟨w.heap.size, 0, none⟩) n n) n (intF fun i j => l.getD (i * sz + j) 0) := by
  refine ⟨by simp, _, n, rfl, Nat.le_refl _, fun _ => ⟨w.heap.size, 0, rfl, Nat.le_refl _, by omega, fun i j hi hj => ?_⟩⟩
  have hlt : i * sz + j < l.length := by
    rw [hl]
    calc i * sz + j < i * sz + sz := by omega
      _ = (i + 1) * sz := by rw [Nat.add_mul, Nat.one_mul]
      _ ≤ n * sz := Nat.mul_le_mul_right _ hi
  rw [World.cell?_alloc_mark]
  simp [intF, List.getD_eq_getElem?_getD, hlt]
/-- What StoneBetween ends in. -/
def SbP (w : World) (e : Ending) (w' : World) : Prop := ∃ (v : Value) (m : Nat) (Q : Nat → Nat → Int) (b : Bool), e = .returned (.tuple #[.agg #[v], .bool b]) ∧ Sl w' w.heap.size w'.heap.size 2 v m (intF Q) ∧ m ≤ 4 ∧ Up w w'
set_option maxHeartbeats 1000000 in
set_option maxRecDepth 100000 in
theorem StoneBetween_any (a b c d x y z t : Int) (w : World) : Calls Try.prog 47 #[.agg #[.int .i64 a, .int .i64 b, .int .i64 c, .int .i64 d], .agg #[.int .i64 x, .int .i64 y, .int .i64 z, .int .i64 t]] w (SbP w) := by
  obtain ⟨Q, hQ⟩ : ∃ Q : Nat → Nat → Int, Q = fun i j => ([a, b, x, y, z, t, c, d] : List Int).getD (i * 2 + j) 0 := ⟨_, rfl⟩
  have hS : ∀ W, Up ((((w.alloc (.cells #[.int .i64 a, .int .i64 b, .int .i64 c, .int .i64 d] 69)).alloc (.cells #[.int .i64 x, .int .i64 y, .int .i64 z, .int .i64 t] 69)).alloc (.cells #[.slice none 0 0] 96)).alloc (.cells #[.int .i64 a, .int .i64 b, .int .i64 x, .int .i64 y, .int .i64 z, .int .i64 t, .int .i64 c, .int .i64 d] 67)) W →
      Sl W (w.heap.size + 3) (w.heap.size + 4) 2 (.slice (some ⟨w.heap.size + 3, 0, none⟩) 4 4) 4 (intF Q) := fun W hu => by
    rw [hQ]
    have h := (sl_lit (((w.alloc (.cells #[.int .i64 a, .int .i64 b, .int .i64 c, .int .i64 d] 69)).alloc (.cells #[.int .i64 x, .int .i64 y, .int .i64 z, .int .i64 t] 69)).alloc (.cells #[.slice none 0 0] 96)) 2 4 [a, b, x, y, z, t, c, d] 67 rfl).up hu
    simpa using h
  clear hQ
  have hC : ∀ W, Up ((((w.alloc (.cells #[.int .i64 a, .int .i64 b, .int .i64 c, .int .i64 d] 69)).alloc (.cells #[.int .i64 x, .int .i64 y, .int .i64 z, .int .i64 t] 69)).alloc (.cells #[.slice none 0 0] 96)).alloc (.cells #[.int .i64 a, .int .i64 b, .int .i64 x, .int .i64 y, .int .i64 z, .int .i64 t, .int .i64 c, .int .i64 d] 67)) W →
      Calls Try.prog 78 #[.agg #[.slice (some ⟨w.heap.size + 3, 0, none⟩) 4 4]] W fun e w' => e = .returned (.bool (stOk 4 Q)) ∧ Up W w' := fun W hu => sStoneOk_any _ _ _ _ _ _ (hS W hu) (by omega)
  generalize stOk 4 Q = bb at hC
  cases bb with
  | true =>
    go_enter Try.func47, Try.ntmps47
    go_wp2_with (first | (go_at_call 78; (with_reducible refine (hC _ (by repeat (first | with_reducible exact Up.refl _ | with_reducible refine Up.alloc ?_ _ | with_reducible refine Up.drew ?_ | with_reducible refine Up.drewN ?_ _ | (with_reducible refine Up.setCell ?_ (by first | omega | (simp; done) | (simp; omega)) _) | with_reducible assumption | (with_reducible refine Up.trans ?_ (by with_reducible assumption))))).mono ?_); rintro e w1 ⟨rfl, hb1⟩; obtain ⟨hc1, hf1⟩ := hb1.cells; have hl1 := hb1.lt; have hle1 := hb1.le; have hs1 := hb1.size; (try simp at hs1); (try have hs1a : w.heap.size < w1.heap.size := by omega); (try have hs1aa : w.heap.size ≤ w1.heap.size := by omega); (try have hs1b : w.heap.size + 1 < w1.heap.size := by omega); (try have hs1bb : w.heap.size + 1 ≤ w1.heap.size := by omega); (try have hs1c : w.heap.size + 1 + 1 < w1.heap.size := by omega); (try have hs1cc : w.heap.size + 1 + 1 ≤ w1.heap.size := by omega); (try have hs1d : w.heap.size + 1 + 1 + 1 < w1.heap.size := by omega); (try have hs1dd : w.heap.size + 1 + 1 + 1 ≤ w1.heap.size := by omega); (try have hs1L := Nat.lt_of_succ_le hs1); (try have hs1M := Nat.lt_of_succ_lt hs1L); (try have hs1N := Nat.lt_of_succ_lt hs1M); (try have hs1LE := Nat.le_of_lt hs1L); (try have hs1ME := Nat.le_of_lt hs1M)))
    exact bodyPost_ret (v := .tuple #[.agg #[.slice (some ⟨w.heap.size + 3, 0, none⟩) 4 4], .bool true]) (by simp only [results]; go_simp; try simp) rfl ⟨_, 4, Q, true, rfl, ((hS w1 (by repeat (first | with_reducible exact Up.refl _ | with_reducible refine Up.alloc ?_ _ | with_reducible refine Up.drew ?_ | with_reducible refine Up.drewN ?_ _ | (with_reducible refine Up.setCell ?_ (by first | omega | (simp; done) | (simp; omega)) _) | with_reducible assumption | (with_reducible refine Up.trans ?_ (by with_reducible assumption))))).off ((Chg.refl (w.heap.size + 2) (w.heap.size + 3) w1).setCell (p := ⟨w.heap.size + 2, 0, none⟩) (Nat.le_refl _) (Nat.lt_succ_self _) _) (.inr (by omega))).wide (by omega) (by simp only [World.setCell, Array.size_modify]; omega) (Nat.le_refl _), by omega, (by repeat (first | with_reducible exact Up.refl _ | with_reducible refine Up.alloc ?_ _ | with_reducible refine Up.drew ?_ | with_reducible refine Up.drewN ?_ _ | (with_reducible refine Up.setCell ?_ (by first | omega | (simp; done) | (simp; omega)) _) | with_reducible assumption | (with_reducible refine Up.trans ?_ (by with_reducible assumption))))⟩
  | false =>
    go_enter Try.func47, Try.ntmps47
    go_wp2_with (first | (go_at_call 78; (with_reducible refine (hC _ (by repeat (first | with_reducible exact Up.refl _ | with_reducible refine Up.alloc ?_ _ | with_reducible refine Up.drew ?_ | with_reducible refine Up.drewN ?_ _ | (with_reducible refine Up.setCell ?_ (by first | omega | (simp; done) | (simp; omega)) _) | with_reducible assumption | (with_reducible refine Up.trans ?_ (by with_reducible assumption))))).mono ?_); rintro e w1 ⟨rfl, hb1⟩; obtain ⟨hc1, hf1⟩ := hb1.cells; have hl1 := hb1.lt; have hle1 := hb1.le; have hs1 := hb1.size; (try simp at hs1); (try have hs1a : w.heap.size < w1.heap.size := by omega); (try have hs1aa : w.heap.size ≤ w1.heap.size := by omega); (try have hs1b : w.heap.size + 1 < w1.heap.size := by omega); (try have hs1bb : w.heap.size + 1 ≤ w1.heap.size := by omega); (try have hs1c : w.heap.size + 1 + 1 < w1.heap.size := by omega); (try have hs1cc : w.heap.size + 1 + 1 ≤ w1.heap.size := by omega); (try have hs1d : w.heap.size + 1 + 1 + 1 < w1.heap.size := by omega); (try have hs1dd : w.heap.size + 1 + 1 + 1 ≤ w1.heap.size := by omega); (try have hs1L := Nat.lt_of_succ_le hs1); (try have hs1M := Nat.lt_of_succ_lt hs1L); (try have hs1N := Nat.lt_of_succ_lt hs1M); (try have hs1LE := Nat.le_of_lt hs1L); (try have hs1ME := Nat.le_of_lt hs1M)))
    exact bodyPost_ret (v := .tuple #[.agg #[.slice none 0 0], .bool false]) (by simp only [results]; go_simp; try simp) rfl ⟨_, 0, Q, false, rfl, Sl.nil _ _ _ _ _ (Nat.le_refl _), by omega, (by repeat (first | with_reducible exact Up.refl _ | with_reducible refine Up.alloc ?_ _ | with_reducible refine Up.drew ?_ | with_reducible refine Up.drewN ?_ _ | (with_reducible refine Up.setCell ?_ (by first | omega | (simp; done) | (simp; omega)) _) | with_reducible assumption | (with_reducible refine Up.trans ?_ (by with_reducible assumption))))⟩
end Go.Proofs.Ytaealkfnhhmmcaa
/- The walks of an arch and its loads. No condition. -/
namespace Go.Proofs.Ytaealkfnhhmmcaa
open Go.RowKit
set_option linter.unusedVariables false
set_option maxRecDepth 100000 in
theorem sWeightOf_any (u : Value) (n lo hi : Nat) (R : Nat → Nat → Int) (w : World) (hs : Sl w lo hi 2 u n (intF R)) (hn : n ≤ 1048576) : Calls Try.prog 48 #[.agg #[u]] w fun e w' => (∃ x : Int, e = .returned (.int .i64 x)) ∧ Up w w' := by
  have hP := fun W (hu : Up w W) => sAreaTwice_any u n lo hi R W (hs.up hu) hn
  obtain ⟨h0, A, c, rfl, hc, hx⟩ := hs
  clear hx
  go_enter Try.func48, Try.ntmps48
  go_wp2_with (first | (go_at_call 79; (with_reducible refine (hP _ (by repeat (first | with_reducible exact Up.refl _ | with_reducible refine Up.alloc ?_ _ | with_reducible refine Up.drew ?_ | with_reducible refine Up.drewN ?_ _ | (with_reducible refine Up.setCell ?_ (by first | omega | (simp; done) | (simp; omega)) _) | with_reducible assumption | (with_reducible refine Up.trans ?_ (by with_reducible assumption))))).mono ?_); rintro e w1 ⟨rfl, hb1⟩))
  go_ret
  exact ⟨⟨_, rfl⟩, (by repeat (first | with_reducible exact Up.refl _ | with_reducible refine Up.alloc ?_ _ | with_reducible refine Up.drew ?_ | with_reducible refine Up.drewN ?_ _ | (with_reducible refine Up.setCell ?_ (by first | omega | (simp; done) | (simp; omega)) _) | with_reducible assumption | (with_reducible refine Up.trans ?_ (by with_reducible assumption))))⟩
/-- What a check ends in: a boolean with a property. -/
def BoP (w : World) (p : Bool → Prop) (e : Ending) (w' : World) : Prop := (∃ b : Bool, e = .returned (.bool b) ∧ p b) ∧ Up w w'
set_option maxHeartbeats 2000000 in
set_option maxRecDepth 100000 in
theorem ArchOk_any (u : Value) (n lo hi : Nat) (R : Nat → Nat → Int) (w : World) (hs : Sl w lo hi 4 u n (intF R)) (hn : n ≤ 1048576) : Calls Try.prog 46 #[.agg #[u]] w (BoP w fun b => b = true → 3 ≤ n ∧ n ≤ 8) := by
  obtain ⟨h0, A, c, rfl, hc, hx⟩ := hs
  have H := Lib.hid hx
  clear hx
  go_enter Try.func46, Try.ntmps46
  go_wp2
  go_loopw [3] (fun i wr => ∃ j : Nat, i = .int .i64 (j : Int) ∧ 1 ≤ j ∧ Up (w.alloc (.cells #[.slice A n c] 40)) wr) (fun i _ => n - (intOf i).toNat)
  case atStart => exact ⟨1, rfl, Nat.le_refl _, (by repeat (first | with_reducible exact Up.refl _ | with_reducible refine Up.alloc ?_ _ | with_reducible refine Up.drew ?_ | with_reducible refine Up.drewN ?_ _ | (with_reducible refine Up.setCell ?_ (by first | omega | (simp; done) | (simp; omega)) _) | with_reducible assumption | (with_reducible refine Up.trans ?_ (by with_reducible assumption))))⟩
  case round =>
    obtain ⟨j, rfl, hj, hup⟩ := hrel
    have hupw : Up w wr := Up.trans (Up.alloc (Up.refl w) _) hup
    have hbx0 : wr.cell? ⟨w.heap.size, 0, none⟩ = some (.slice A n c) := (hup.cells.1 _ _ (by simp)).trans (by simp [World.cell?_alloc_mark])
    have hbxl : w.heap.size < wr.heap.size := Nat.lt_of_lt_of_le (by simp) hup.size
    by_cases hk1 : j < n
    · obtain ⟨b, o, rfl, hb1, hb2, hcs⟩ := H.out (by omega)
      obtain ⟨k, hk⟩ : ∃ k, j = k + 1 := ⟨j - 1, by omega⟩
      have hk2 : (j : Int) < (n : Int) := by omega
      have hk3 : (k : Int) < (n : Int) := by omega
      have hk4 : k < n := by omega
      have hki : (j : Int) - 1 = (k : Int) := by omega
      have hwr : IntKind.i64.wrap ((j : Int) - 1) = (k : Int) := (IntWalk.i64_in _ (by omega)).trans hki
      clear hki hk
      have hcell : ∀ x j, x < n → j < 4 → wr.cell? ⟨b, o + x * 4 + j, none⟩ = some (.int .i64 (R x j)) := fun x j hx hj => (hupw.cells.1 _ _ (by omega)).trans (by rw [Nat.add_assoc]; exact hcs x j hx hj)
      have a0 : wr.cell? ⟨b, o + k * 4, none⟩ = some (.int .i64 (R k 0)) := hcell k 0 (by omega) (by omega)
      have a1 := hcell k 1 (by omega) (by omega)
      have a2 := hcell k 2 (by omega) (by omega)
      have a3 := hcell k 3 (by omega) (by omega)
      have b0 : wr.cell? ⟨b, o + j * 4, none⟩ = some (.int .i64 (R j 0)) := hcell j 0 hk1 (by omega)
      have b1 := hcell j 1 hk1 (by omega)
      have b2 := hcell j 2 hk1 (by omega)
      have b3 := hcell j 3 hk1 (by omega)
      have hbs : b < wr.heap.size := by have := hupw.size; omega
      clear hcell hcs
      obtain ⟨w0, rfl⟩ : ∃ w0 : World, w0 = wr := ⟨_, rfl⟩
      have tok1 : True := trivial
      go_wp2_with fail
      go_region_held3 (fun w' => (∀ b o, b < w0.heap.size → w'.cell? ⟨b, o, none⟩ = w0.cell? ⟨b, o, none⟩) ∧ w0.heap.size ≤ w'.heap.size) (repeat (first | with_reducible refine kp_drew ?_ | with_reducible refine kp_set ?_ (by first | omega | (simp; done) | (simp; omega)) | with_reducible refine kp_alloc ?_ _ | with_reducible assumption | with_reducible exact kp_start _ | with_reducible refine kp_up ?_ (by assumption))) (first | (go_at_call 47; clear tok1; (with_reducible refine (StoneBetween_any _ _ _ _ _ _ _ _ _).mono ?_); rintro e w1 ⟨v1, m1, Q1, bb, rfl, ⟨hk1z, A1, c1, rfl, hcz, hxz⟩, hm1, hb1⟩; clear hxz; obtain ⟨hc1, hf1⟩ := hb1.cells; have hs1 := hb1.size; (try simp at hs1); (try have hs1_0a : w0.heap.size < w1.heap.size := by omega); (try have hs1_0a' : w0.heap.size ≤ w1.heap.size := by omega); (try have hs1_0b : w0.heap.size + 1 < w1.heap.size := by omega); (try have hs1_0b' : w0.heap.size + 1 ≤ w1.heap.size := by omega)))
      all_goals
        (first
          | (obtain ⟨W, hW⟩ : ∃ W : World, W = w1.alloc (.cells #[.slice A1 m1 c1] 96) := ⟨_, rfl⟩
             have hu0 : Up w0 W := by rw [hW]; exact (by repeat (first | with_reducible exact Up.refl _ | with_reducible refine Up.alloc ?_ _ | with_reducible refine Up.drew ?_ | with_reducible refine Up.drewN ?_ _ | (with_reducible refine Up.setCell ?_ (by first | omega | (simp; done) | (simp; omega)) _) | with_reducible assumption | (with_reducible refine Up.trans ?_ (by with_reducible assumption))))
             rw [← hW]
             clear hW)
          | (obtain ⟨W, hW⟩ : ∃ W : World, W = w1.setCell ⟨w0.heap.size, 0, none⟩ (.slice A1 m1 c1) := ⟨_, rfl⟩
             have hu0 : Up w0 W := by rw [hW]; exact (by repeat (first | with_reducible exact Up.refl _ | with_reducible refine Up.alloc ?_ _ | with_reducible refine Up.drew ?_ | with_reducible refine Up.drewN ?_ _ | (with_reducible refine Up.setCell ?_ (by first | omega | (simp; done) | (simp; omega)) _) | with_reducible assumption | (with_reducible refine Up.trans ?_ (by with_reducible assumption))))
             rw [← hW]
             clear hW))
      all_goals
        (clear hb1 hs1 hc1 hf1
         have d0 := (hu0.cells.1 _ 0 hbxl).trans hbx0
         have e0 := (hu0.cells.1 _ _ hbs).trans a0
         have g0 := (hu0.cells.1 _ _ hbs).trans b0
         have hupW := hup.trans hu0
         have hW1 := hupw.trans hu0
         have hbxW : w.heap.size < W.heap.size := Nat.lt_of_lt_of_le hbxl hu0.size
         clear a0 a1 a2 a3 b0 b1 b2 b3 hbx0 hbxl hbs
         cases bb with
         | false =>
           go_wp2_with fail
           go_quiet (fail)
           go_wp2
           go_ret
           exact ⟨⟨false, rfl, by simp⟩, (by repeat (first | with_reducible exact Up.refl _ | with_reducible refine Up.alloc ?_ _ | with_reducible refine Up.drew ?_ | with_reducible refine Up.drewN ?_ _ | (with_reducible refine Up.setCell ?_ (by first | omega | (simp; done) | (simp; omega)) _) | with_reducible assumption | (with_reducible refine Up.trans ?_ (by with_reducible assumption))))⟩
         | true =>
           by_cases hle : R j 0 ≤ R k 0
           · go_wp2_with fail
             go_quiet (fail)
             go_wp2
             go_ret
             exact ⟨⟨false, rfl, by simp⟩, (by repeat (first | with_reducible exact Up.refl _ | with_reducible refine Up.alloc ?_ _ | with_reducible refine Up.drew ?_ | with_reducible refine Up.drewN ?_ _ | (with_reducible refine Up.setCell ?_ (by first | omega | (simp; done) | (simp; omega)) _) | with_reducible assumption | (with_reducible refine Up.trans ?_ (by with_reducible assumption))))⟩
           · go_wp2_with fail
             go_quiet (fail)
             go_wp2
             exact ⟨⟨j + 1, by rfl, by omega, (by repeat (first | with_reducible exact Up.refl _ | with_reducible refine Up.alloc ?_ _ | with_reducible refine Up.drew ?_ | with_reducible refine Up.drewN ?_ _ | (with_reducible refine Up.setCell ?_ (by first | omega | (simp; done) | (simp; omega)) _) | with_reducible assumption | (with_reducible refine Up.trans ?_ (by with_reducible assumption))))⟩, by simp only [intOf]; omega⟩)
    · have hk2 : ¬ (j : Int) < (n : Int) := by omega
      go_wp2_with (first | (go_at_call 36; (with_reducible refine (l01In_any _ _ _ _).mono ?_); rintro e w1 ⟨rfl, rfl⟩))
      go_ret
      exact ⟨⟨inB 3 (n : Int) 8, rfl, fun h => by have := inB_true.1 h; omega⟩, hupw⟩
set_option maxHeartbeats 2000000 in
set_option maxRecDepth 100000 in
theorem LoadsOk_any (u v : Value) (n m lo hi lo2 hi2 : Nat) (R L : Nat → Nat → Int) (w : World) (hs : Sl w lo hi 4 u n (intF R)) (hl : Sl w lo2 hi2 3 v m (intF L)) (hn : n ≤ 1048576) (hm : m ≤ 1048576) : Calls Try.prog 27 #[.agg #[u], v] w (BoP w fun b => b = true → 3 ≤ n ∧ n ≤ 8) := by
  have hP := fun W (hu : Up w W) => ArchOk_any u n lo hi R W (hs.up hu) hn
  obtain ⟨h0, A, c, rfl, hc, hx⟩ := hs
  clear hx
  obtain ⟨hl0, B, d, rfl, hd, hx⟩ := hl
  have H := Lib.hid hx
  clear hx
  have hw2 : IntKind.i64.wrap ((n : Int) - 2) = (n : Int) - 2 := IntWalk.i64_in _ (by omega)
  go_enter Try.func27, Try.ntmps27
  go_wp2
  go_loopw [5] (fun i wr => ∃ j : Nat, i = .int .i64 (j : Int) ∧ Up (w.alloc (.cells #[.slice A n c] 40)) wr) (fun i _ => m - (intOf i).toNat)
  case atStart => exact ⟨0, rfl, (by repeat (first | with_reducible exact Up.refl _ | with_reducible refine Up.alloc ?_ _ | with_reducible refine Up.drew ?_ | with_reducible refine Up.drewN ?_ _ | (with_reducible refine Up.setCell ?_ (by first | omega | (simp; done) | (simp; omega)) _) | with_reducible assumption | (with_reducible refine Up.trans ?_ (by with_reducible assumption))))⟩
  case round =>
    obtain ⟨j, rfl, hup⟩ := hrel
    have hupw : Up w wr := Up.trans (Up.alloc (Up.refl w) _) hup
    have hbx0 : wr.cell? ⟨w.heap.size, 0, none⟩ = some (.slice A n c) := (hup.cells.1 _ _ (by simp)).trans (by simp [World.cell?_alloc_mark])
    have hbxl : w.heap.size < wr.heap.size := Nat.lt_of_lt_of_le (by simp) hup.size
    by_cases hk1 : j < m
    · obtain ⟨b, o, rfl, hb1, hb2, hcs⟩ := H.out (by omega)
      have hk2 : (j : Int) < (m : Int) := by omega
      have hcell : ∀ x j, x < m → j < 3 → wr.cell? ⟨b, o + x * 3 + j, none⟩ = some (.int .i64 (L x j)) := fun x j hx hj => (hupw.cells.1 _ _ (by omega)).trans (by rw [Nat.add_assoc]; exact hcs x j hx hj)
      have a0 : wr.cell? ⟨b, o + j * 3, none⟩ = some (.int .i64 (L j 0)) := hcell j 0 (by omega) (by omega)
      have a1 := hcell j 1 (by omega) (by omega)
      have a2 := hcell j 2 (by omega) (by omega)
      have hbs : b < wr.heap.size := by have := hupw.size; omega
      clear hcell hcs
      obtain ⟨q1, hq1⟩ : ∃ q, inB 0 (L j 0) ((n : Int) - 2) = q := ⟨_, rfl⟩
      obtain ⟨q2, hq2⟩ : ∃ q, inB 0 (L j 1) 10000 = q := ⟨_, rfl⟩
      obtain ⟨q3, hq3⟩ : ∃ q, inB (-60) (L j 2) 60 = q := ⟨_, rfl⟩
      have C1 : ∀ W, Calls Try.prog 36 #[.int .i64 (L j 0), .int .i64 0, .int .i64 ((n : Int) - 2)] W fun e w' => e = .returned (.bool q1) ∧ W = w' := fun W => by have hh := l01In_any (L j 0) 0 ((n : Int) - 2) W; rw [hq1] at hh; exact hh
      have C2 : ∀ W, Calls Try.prog 36 #[.int .i64 (L j 1), .int .i64 0, .int .i64 10000] W fun e w' => e = .returned (.bool q2) ∧ W = w' := fun W => by have hh := l01In_any (L j 1) 0 10000 W; rw [hq2] at hh; exact hh
      have C3 : ∀ W, Calls Try.prog 36 #[.int .i64 (L j 2), .int .i64 (-60), .int .i64 60] W fun e w' => e = .returned (.bool q3) ∧ W = w' := fun W => by have hh := l01In_any (L j 2) (-60) 60 W; rw [hq3] at hh; exact hh
      clear hq1 hq2 hq3 hP
      cases q1 with
      | false =>
        go_wp2_with (first | (go_at_call 36; (with_reducible refine (C1 _).mono ?_); rintro e w1 ⟨rfl, rfl⟩) | (go_at_call 36; (with_reducible refine (C2 _).mono ?_); rintro e w1 ⟨rfl, rfl⟩) | (go_at_call 36; (with_reducible refine (C3 _).mono ?_); rintro e w1 ⟨rfl, rfl⟩))
        go_ret
        exact ⟨⟨false, rfl, by simp⟩, (by repeat (first | with_reducible exact Up.refl _ | with_reducible refine Up.alloc ?_ _ | with_reducible refine Up.drew ?_ | with_reducible refine Up.drewN ?_ _ | (with_reducible refine Up.setCell ?_ (by first | omega | (simp; done) | (simp; omega)) _) | with_reducible assumption | (with_reducible refine Up.trans ?_ (by with_reducible assumption))))⟩
      | true =>
        cases q2 with
        | false =>
          go_wp2_with (first | (go_at_call 36; (with_reducible refine (C1 _).mono ?_); rintro e w1 ⟨rfl, rfl⟩) | (go_at_call 36; (with_reducible refine (C2 _).mono ?_); rintro e w1 ⟨rfl, rfl⟩) | (go_at_call 36; (with_reducible refine (C3 _).mono ?_); rintro e w1 ⟨rfl, rfl⟩))
          go_ret
          exact ⟨⟨false, rfl, by simp⟩, (by repeat (first | with_reducible exact Up.refl _ | with_reducible refine Up.alloc ?_ _ | with_reducible refine Up.drew ?_ | with_reducible refine Up.drewN ?_ _ | (with_reducible refine Up.setCell ?_ (by first | omega | (simp; done) | (simp; omega)) _) | with_reducible assumption | (with_reducible refine Up.trans ?_ (by with_reducible assumption))))⟩
        | true =>
          cases q3 with
          | false =>
            go_wp2_with (first | (go_at_call 36; (with_reducible refine (C1 _).mono ?_); rintro e w1 ⟨rfl, rfl⟩) | (go_at_call 36; (with_reducible refine (C2 _).mono ?_); rintro e w1 ⟨rfl, rfl⟩) | (go_at_call 36; (with_reducible refine (C3 _).mono ?_); rintro e w1 ⟨rfl, rfl⟩))
            go_ret
            exact ⟨⟨false, rfl, by simp⟩, (by repeat (first | with_reducible exact Up.refl _ | with_reducible refine Up.alloc ?_ _ | with_reducible refine Up.drew ?_ | with_reducible refine Up.drewN ?_ _ | (with_reducible refine Up.setCell ?_ (by first | omega | (simp; done) | (simp; omega)) _) | with_reducible assumption | (with_reducible refine Up.trans ?_ (by with_reducible assumption))))⟩
          | true =>
            go_wp2_with (first | (go_at_call 36; (with_reducible refine (C1 _).mono ?_); rintro e w1 ⟨rfl, rfl⟩) | (go_at_call 36; (with_reducible refine (C2 _).mono ?_); rintro e w1 ⟨rfl, rfl⟩) | (go_at_call 36; (with_reducible refine (C3 _).mono ?_); rintro e w1 ⟨rfl, rfl⟩))
            exact ⟨⟨j + 1, by rfl, (by repeat (first | with_reducible exact Up.refl _ | with_reducible refine Up.alloc ?_ _ | with_reducible refine Up.drew ?_ | with_reducible refine Up.drewN ?_ _ | (with_reducible refine Up.setCell ?_ (by first | omega | (simp; done) | (simp; omega)) _) | with_reducible assumption | (with_reducible refine Up.trans ?_ (by with_reducible assumption))))⟩, by simp only [intOf]; omega⟩
    · have hk2 : ¬ (j : Int) < (m : Int) := by omega
      go_wp2_with fail
      (go_at_call 46; (with_reducible refine (hP _ hupw).mono ?_); rintro e w1 ⟨⟨bb, rfl, hbb⟩, hb1⟩)
      cases bb with
      | false =>
        go_wp2
        go_ret
        exact ⟨⟨_, rfl, by simp⟩, (by repeat (first | with_reducible exact Up.refl _ | with_reducible refine Up.alloc ?_ _ | with_reducible refine Up.drew ?_ | with_reducible refine Up.drewN ?_ _ | (with_reducible refine Up.setCell ?_ (by first | omega | (simp; done) | (simp; omega)) _) | with_reducible assumption | (with_reducible refine Up.trans ?_ (by with_reducible assumption))))⟩
      | true =>
        go_wp2
        go_ret
        exact ⟨⟨_, rfl, fun _ => hbb trivial⟩, (by repeat (first | with_reducible exact Up.refl _ | with_reducible refine Up.alloc ?_ _ | with_reducible refine Up.drew ?_ | with_reducible refine Up.drewN ?_ _ | (with_reducible refine Up.setCell ?_ (by first | omega | (simp; done) | (simp; omega)) _) | with_reducible assumption | (with_reducible refine Up.trans ?_ (by with_reducible assumption))))⟩
end Go.Proofs.Ytaealkfnhhmmcaa
/- The walk of what is left of an arch's stones, with rows of integers of the call's own. No condition. -/
namespace Go.Proofs.Ytaealkfnhhmmcaa
open Go.RowKit
set_option linter.unusedVariables false
/-- A row of integers of the call's own. -/
def IR (w : World) (base sz : Nat) (e : TypeId) (v : Value) (n : Nat) : Prop := ∃ xs : List Int, w.ownsRow base e sz v n (xs.map (Value.int .i64))
theorem IR.up {a b : World} {base sz n : Nat} {e : TypeId} {v : Value} (h : IR a base sz e v n) (hu : Up a b) : IR b base sz e v n := by
  obtain ⟨xs, h⟩ := h
  exact ⟨xs, own_up (w := a) h hu⟩
theorem own_far {a b : World} {base sz n : Nat} {e : TypeId} {v : Value} {xs : List Value} {row : Option Nat} (h : a.ownsRow base e sz v n xs) (hg : a.grownBy b row) (hr : row ≠ v.ownBlock ∨ v.ownBlock = none) : b.ownsRow base e sz v n xs := by
  refine ⟨h.1, ?_⟩
  rcases h.2 with ⟨rfl, rfl⟩ | ⟨g, cap, cur, rfl, h1, h2, h3⟩
  · exact .inl ⟨rfl, rfl⟩
  · refine .inr ⟨g, cap, cur, rfl, h1, ?_, h3⟩
    have hlt : g < a.heap.size := by
      rcases Nat.lt_or_ge g a.heap.size with hlt | hge
      · exact hlt
      · rw [Array.getElem?_eq_none hge] at h2; cases h2
    refine (hg.block g hlt ?_).trans h2
    rcases hr with hr | hr
    · intro e; exact hr (by rw [← e]; rfl)
    · cases hr
theorem IR.far {a b : World} {base sz n : Nat} {e : TypeId} {v : Value} {row : Option Nat} (h : IR a base sz e v n) (hg : a.grownBy b row) (hr : row ≠ v.ownBlock ∨ v.ownBlock = none) : IR b base sz e v n := by
  obtain ⟨xs, h⟩ := h
  exact ⟨xs, own_far h hg hr⟩
theorem IR.more {a b : World} {base sz n m : Nat} {e : TypeId} {v v' : Value} {xs ys : List Int} (h : b.ownsRow base e sz v' m (xs.map (Value.int .i64) ++ ys.map (Value.int .i64))) : IR b base sz e v' m := ⟨xs ++ ys, by rw [List.map_append]; exact h⟩
theorem IR.sl {w : World} {base sz n : Nat} {e : TypeId} {v : Value} (h : IR w base sz e v n) : ∃ F, Sl w base w.heap.size sz v n (intF F) := by
  obtain ⟨xs, hl, h⟩ := h
  rw [List.length_map] at hl
  refine ⟨fun i j => xs.getD (i * sz + j) 0, ?_⟩
  rcases h with ⟨rfl, rfl⟩ | ⟨g, cap, cur, rfl, h1, h2, h3, h4, h5, h6⟩
  · exact Sl.nil _ _ _ _ _ (Nat.le_refl _)
  · have hlt : g < w.heap.size := by
      rcases Nat.lt_or_ge g w.heap.size with hlt | hge
      · exact hlt
      · rw [Array.getElem?_eq_none hge] at h2; cases h2
    refine ⟨Nat.le_refl _, _, cap, rfl, h3, fun _ => ⟨g, 0, rfl, h1, hlt, fun i j hi hj => ?_⟩⟩
    have hk : i * sz + j < xs.length := by
      rw [hl]
      calc i * sz + j < i * sz + sz := by omega
        _ = (i + 1) * sz := by rw [Nat.add_mul, Nat.one_mul]
        _ ≤ n * sz := Nat.mul_le_mul_right _ hi
    have e1 : cur[i * sz + j]? = some (.int .i64 (xs.getD (i * sz + j) 0)) := by
      have e2 : (cur.toList.take (n * sz))[i * sz + j]? = some (.int .i64 (xs.getD (i * sz + j) 0)) := by
        rw [h6]
        simp [List.getD_eq_getElem?_getD, hk]
      rw [List.getElem?_take, if_pos (by rw [← hl]; exact hk)] at e2
      simpa using e2
    simp only [World.cell?, h2, intF]
    simpa using e1
theorem own_new (w : World) (l : List Int) (n sz : Nat) (e : TypeId) {base : Nat} (hb : base ≤ w.heap.size) (hm : n ≤ maxLen) (hs : l.length = n * sz) : IR (w.alloc (.cells (l.map (Value.int .i64)).toArray e)) base sz e (.slice (some ⟨w.heap.size, 0, none⟩) n n) n :=
  ⟨l, by have := World.ownsRow_lit (base := base) (e := e) (size := sz) w (l.map (Value.int .i64)).toArray n hb hm (by simpa using hs); simpa using this⟩
theorem Sl.shape {w : World} {lo hi sz n : Nat} {v : Value} {f : Nat → Nat → Value} (h : Sl w lo hi sz v n f) : ∃ A c, v = .slice A n c := by
  obtain ⟨_, A, c, rfl, _⟩ := h
  exact ⟨A, c, rfl⟩
theorem IR.cap {w : World} {base n c sz : Nat} {e : TypeId} {A : Option Addr} (h : IR w base sz e (.slice A n c) n) : n ≤ c := by
  obtain ⟨xs, _, h⟩ := h
  rcases h with ⟨h, h0⟩ | ⟨g, cap, cur, h, _, _, h3, _⟩
  · cases h; omega
  · cases h; exact h3
theorem IR.cell {w : World} {base g n c : Nat} {e : TypeId} (h : IR w base 1 e (.slice (some ⟨g, 0, none⟩) n c) n) {j : Nat} (hj : j < n) : ∃ x : Int, w.cell? ⟨g, j, none⟩ = some (.int .i64 x) := by
  obtain ⟨F, _, A, c', e1, _, hx⟩ := h.sl
  obtain ⟨b, o, e2, _, _, hc⟩ := hx (by omega)
  injection e1 with e1 _ _
  rw [e2] at e1
  injection e1 with e1
  injection e1 with e1 e3 _
  subst e1
  subst e3
  have := hc j 0 hj (by omega)
  simp only [Nat.zero_add, Nat.mul_one, Nat.add_zero, intF] at this
  exact ⟨_, this⟩
/-- Two rows of the call's own, of one length, apart. -/
def Two (w : World) (base : Nat) (e : TypeId) (A B : Value) (k : Nat) : Prop :=
  ∃ g h c d, A = .slice (some ⟨g, 0, none⟩) k c ∧ B = .slice (some ⟨h, 0, none⟩) k d ∧ g ≠ h ∧ g < w.heap.size ∧ h < w.heap.size ∧ k ≤ c ∧ k ≤ d ∧ IR w base 1 e A k ∧ IR w base 1 e B k
theorem Two.up {a b : World} {base k : Nat} {e : TypeId} {A B : Value} (h : Two a base e A B k) (hu : Up a b) : Two b base e A B k := by
  obtain ⟨g, h', c, d, e1, e2, hne, h1, h2, h3, h4, r1, r2⟩ := h
  exact ⟨g, h', c, d, e1, e2, hne, Nat.lt_of_lt_of_le h1 hu.size, Nat.lt_of_lt_of_le h2 hu.size, h3, h4, r1.up hu, r2.up hu⟩
theorem upS {W w' : World} (h : Up W w') : (∀ b o, b < W.heap.size → w'.cell? ⟨b, o, none⟩ = W.cell? ⟨b, o, none⟩) ∧ Up W w' := ⟨h.cells.1, h⟩
/-- What l07Left ends in. -/
def LeP (w : World) (n : Nat) (e : Ending) (w' : World) : Prop := ∃ (a b : Value) (F G : Nat → Nat → Int), e = .returned (.tuple #[a, b]) ∧ Sl w' w.heap.size w'.heap.size 1 a n (intF F) ∧ Sl w' w.heap.size w'.heap.size 1 b n (intF G) ∧ Up w w'
set_option maxHeartbeats 4000000 in
set_option maxRecDepth 100000 in
theorem l07Left_any (u v : Value) (n m lo hi lo2 hi2 : Nat) (R L : Nat → Nat → Int) (w : World) (hs : Sl w lo hi 4 u n (intF R)) (hl : Sl w lo2 hi2 3 v m (intF L)) (hn0 : 1 ≤ n) (hn : n ≤ 8) (hm : m ≤ 1048576) : Calls Try.prog 28 #[.agg #[u], v] w (LeP w n) := by
  obtain ⟨h0, A, c, rfl, hc, hx⟩ := hs
  have H := Lib.hid hx
  clear hx
  obtain ⟨hl0, B, d, rfl, hd, hx⟩ := hl
  have HL := Lib.hid hx
  clear hx
  obtain ⟨i0, hi0, hz0, hz1, hz2⟩ := info_parts int_info
  go_enter Try.func28, Try.ntmps28
  go_wp2
  go_loopw [6, 7, 8] (fun p q i wr => ∃ j : Nat, i = .int .i64 (j : Int) ∧ 1 ≤ j ∧ j ≤ n ∧ Hid (Two wr (w.heap.size + 1) 3 p q j) ∧ Up (w.alloc (.cells #[.slice A n c] 40)) wr) (fun _ _ i _ => n - (intOf i).toNat)
  case atStart =>
    refine ⟨1, by rfl, Nat.le_refl _, by omega, ?_, (by repeat (first | with_reducible exact Up.refl _ | with_reducible refine Up.alloc ?_ _ | with_reducible refine Up.drew ?_ | with_reducible refine Up.drewN ?_ _ | (with_reducible refine Up.setCell ?_ (by first | omega | (simp; done) | (simp; omega)) _) | with_reducible assumption | (with_reducible refine Up.trans ?_ (by with_reducible assumption))))⟩
    have q1 := own_new (w.alloc (.cells #[.slice A n c] 40)) [0] 1 1 3 (base := w.heap.size + 1) (by simp) (by unfold maxLen; omega) rfl
    have q2 := own_new ((w.alloc (.cells #[.slice A n c] 40)).alloc (.cells #[.int .i64 0] 3)) [0] 1 1 3 (base := w.heap.size + 1) (by simp) (by unfold maxLen; omega) rfl
    have q3 := q1.up (Up.alloc (Up.refl _) (.cells #[.int .i64 0] 3))
    exact Lib.hid ⟨w.heap.size + 1, w.heap.size + 2, 1, 1, rfl, rfl, by omega, by simp, by simp, Nat.le_refl _, Nat.le_refl _, by simpa using q3, by simpa using q2⟩
  case round =>
    obtain ⟨j, rfl, hj, hjn, ho, hup⟩ := hrel
    have hupw : Up w wr := Up.trans (Up.alloc (Up.refl w) _) hup
    have hbx0 : wr.cell? ⟨w.heap.size, 0, none⟩ = some (.slice A n c) := (hup.cells.1 _ _ (by simp)).trans (by simp [World.cell?_alloc_mark])
    have hbxl : w.heap.size < wr.heap.size := Nat.lt_of_lt_of_le (by simp) hup.size
    by_cases hk1 : j < n
    · obtain ⟨b, o, rfl, hb1, hb2, hcs⟩ := H.out (by omega)
      obtain ⟨k, hk⟩ : ∃ k, j = k + 1 := ⟨j - 1, by omega⟩
      have hk2 : (j : Int) < (n : Int) := by omega
      have hk3 : (k : Int) < (n : Int) := by omega
      have hk4 : k < n := by omega
      have hk5 : k < j := by omega
      have hk6 : (k : Int) < (j : Int) := by omega
      have hki : (j : Int) - 1 = (k : Int) := by omega
      have hwr : IntKind.i64.wrap ((j : Int) - 1) = (k : Int) := (IntWalk.i64_in _ (by omega)).trans hki
      have HK := Lib.hid hk
      clear hki hk
      have hcell : ∀ x j, x < n → j < 4 → wr.cell? ⟨b, o + x * 4 + j, none⟩ = some (.int .i64 (R x j)) := fun x j hx hj => (hupw.cells.1 _ _ (by omega)).trans (by rw [Nat.add_assoc]; exact hcs x j hx hj)
      have a0 : wr.cell? ⟨b, o + k * 4, none⟩ = some (.int .i64 (R k 0)) := hcell k 0 (by omega) (by omega)
      have a1 := hcell k 1 (by omega) (by omega)
      have a2 := hcell k 2 (by omega) (by omega)
      have a3 := hcell k 3 (by omega) (by omega)
      have b0 : wr.cell? ⟨b, o + j * 4, none⟩ = some (.int .i64 (R j 0)) := hcell j 0 hk1 (by omega)
      have b1 := hcell j 1 hk1 (by omega)
      have b2 := hcell j 2 hk1 (by omega)
      have b3 := hcell j 3 hk1 (by omega)
      have hbs : b < wr.heap.size := by have := hupw.size; omega
      clear hcell hcs
      obtain ⟨w0, rfl⟩ : ∃ w0 : World, w0 = wr := ⟨_, rfl⟩
      have tok1 : True := trivial
      go_wp2_with fail
      go_region_held3 (fun w' => (∀ b o, b < w0.heap.size → w'.cell? ⟨b, o, none⟩ = w0.cell? ⟨b, o, none⟩) ∧ w0.heap.size ≤ w'.heap.size) (repeat (first | with_reducible refine kp_drew ?_ | with_reducible refine kp_set ?_ (by first | omega | (simp; done) | (simp; omega)) | with_reducible refine kp_alloc ?_ _ | with_reducible assumption | with_reducible exact kp_start _ | with_reducible refine kp_up ?_ (by assumption))) (first | (go_at_call 47; clear tok1; (with_reducible refine (StoneBetween_any _ _ _ _ _ _ _ _ _).mono ?_); rintro e w1 ⟨v1, m1, Q1, bb, rfl, hv1, hm1, hb1⟩; (obtain ⟨A1, c1, rfl⟩ : ∃ A1 c1, v1 = .slice A1 m1 c1 := hv1.shape); obtain ⟨hc1, hf1⟩ := hb1.cells; have hs1 := hb1.size; (try simp at hs1); (try have hs1_0a : w0.heap.size < w1.heap.size := by omega); (try have hs1_0a' : w0.heap.size ≤ w1.heap.size := by omega); (try have hs1_0b : w0.heap.size + 1 < w1.heap.size := by omega); (try have hs1_0b' : w0.heap.size + 1 ≤ w1.heap.size := by omega)))
      all_goals
        (first
          | (obtain ⟨W, hW⟩ : ∃ W : World, W = w1.alloc (.cells #[.slice A1 m1 c1] 96) := ⟨_, rfl⟩
             obtain ⟨bx, hbx⟩ : ∃ bx : Nat, bx = w1.heap.size := ⟨_, rfl⟩
             have SV : Sl W w0.heap.size w1.heap.size 2 (.slice A1 m1 c1) m1 (intF Q1) := by rw [hW]; exact hv1.up (by repeat (first | with_reducible exact Up.refl _ | with_reducible refine Up.alloc ?_ _ | with_reducible refine Up.drew ?_ | with_reducible refine Up.drewN ?_ _ | (with_reducible refine Up.setCell ?_ (by first | omega | (simp; done) | (simp; omega)) _) | with_reducible assumption | (with_reducible refine Up.trans ?_ (by with_reducible assumption))))
             have p0 : W.cell? ⟨bx, 0, none⟩ = some (.slice A1 m1 c1) := by rw [hW, hbx, World.cell?_alloc_mark]; rfl
             have hxl : bx < W.heap.size := by rw [hW, hbx]; simp
             have hu0 : Up w0 W := by rw [hW]; exact (by repeat (first | with_reducible exact Up.refl _ | with_reducible refine Up.alloc ?_ _ | with_reducible refine Up.drew ?_ | with_reducible refine Up.drewN ?_ _ | (with_reducible refine Up.setCell ?_ (by first | omega | (simp; done) | (simp; omega)) _) | with_reducible assumption | (with_reducible refine Up.trans ?_ (by with_reducible assumption))))
             rw [← hW, ← hbx]
             clear hW hbx)
          | (obtain ⟨W, hW⟩ : ∃ W : World, W = w1.setCell ⟨w0.heap.size, 0, none⟩ (.slice A1 m1 c1) := ⟨_, rfl⟩
             obtain ⟨bx, hbx⟩ : ∃ bx : Nat, bx = w0.heap.size := ⟨_, rfl⟩
             have hz0 : w1.cell? ⟨w0.heap.size, 0, none⟩ = some (.slice none 0 0) := (hb1.cells.1 _ _ (by simp)).trans (by simp [World.cell?_alloc_mark])
             have SV : Sl W (w0.heap.size + 1) w1.heap.size 2 (.slice A1 m1 c1) m1 (intF Q1) := by
               rw [hW]
               have hh := hv1.off ((Chg.refl w0.heap.size (w0.heap.size + 1) w1).setCell (p := ⟨w0.heap.size, 0, none⟩) (Nat.le_refl _) (Nat.lt_succ_self _) (.slice A1 m1 c1)) (.inr (by simp))
               simpa using hh
             have p0 : W.cell? ⟨bx, 0, none⟩ = some (.slice A1 m1 c1) := by rw [hW, hbx]; go_simp
             have hxl : bx < W.heap.size := by rw [hW, hbx]; simp; omega
             have hu0 : Up w0 W := by rw [hW]; exact (by repeat (first | with_reducible exact Up.refl _ | with_reducible refine Up.alloc ?_ _ | with_reducible refine Up.drew ?_ | with_reducible refine Up.drewN ?_ _ | (with_reducible refine Up.setCell ?_ (by first | omega | (simp; done) | (simp; omega)) _) | with_reducible assumption | (with_reducible refine Up.trans ?_ (by with_reducible assumption))))
             rw [← hW, ← hbx]
             clear hW hbx hz0))
      all_goals
        (clear hb1 hs1 hc1 hf1 hv1 a0 a1 a2 a3 b0 b1 b2 b3 hbs
         have hupW := hup.trans hu0
         have hW1 := hupw.trans hu0
         have hT := ho.out.up hu0
         obtain ⟨w2, rfl⟩ : ∃ w2 : World, w2 = W := ⟨_, rfl⟩
         obtain ⟨ga, gb, ca, cb, rfl, rfl, hgne, hga, hgb, hca, hcb, hIA, hIB⟩ := hT
         obtain ⟨xa, hxa⟩ := hIA.cell hk5
         obtain ⟨xb, hxb⟩ := hIB.cell hk5
         have HIA := Lib.hid hIA
         have HIB := Lib.hid hIB
         have HSV := Lib.hid SV
         clear hIA hIB SV ho hbx0 hbxl hup hupw hu0
         have tok2 : True := trivial
         go_wp2_with fail
         go_region_held3 (fun w' => (∀ b o, b < w2.heap.size → w'.cell? ⟨b, o, none⟩ = w2.cell? ⟨b, o, none⟩) ∧ Up w2 w') (exact upS (by repeat (first | with_reducible exact Up.refl _ | with_reducible refine Up.alloc ?_ _ | with_reducible refine Up.drew ?_ | with_reducible refine Up.drewN ?_ _ | (with_reducible refine Up.setCell ?_ (by first | omega | (simp; done) | (simp; omega)) _) | with_reducible assumption | (with_reducible refine Up.trans ?_ (by with_reducible assumption))))) (first | (go_at_call 48; clear tok2; (with_reducible refine (sWeightOf_any _ _ _ _ _ _ (HSV.out.up (by repeat (first | with_reducible exact Up.refl _ | with_reducible refine Up.alloc ?_ _ | with_reducible refine Up.drew ?_ | with_reducible refine Up.drewN ?_ _ | (with_reducible refine Up.setCell ?_ (by first | omega | (simp; done) | (simp; omega)) _) | with_reducible assumption | (with_reducible refine Up.trans ?_ (by with_reducible assumption))))) (by omega)).mono ?_); rintro e w3 ⟨⟨x1, rfl⟩, hb3⟩; obtain ⟨hc3, hf3⟩ := hb3.cells; have hs3 := hb3.size; (try simp at hs3); (try have hs3_2a : w2.heap.size < w3.heap.size := by omega); (try have hs3_2a' : w2.heap.size ≤ w3.heap.size := by omega); (try have hs3_2b : w2.heap.size + 1 < w3.heap.size := by omega); (try have hs3_2b' : w2.heap.size + 1 ≤ w3.heap.size := by omega)))
         have hb3 : Up w2 w3 := Up.trans (Up.drew (Up.refl w2)) hb3
         have p3 := (hb3.cells.1 _ 0 hxl).trans p0
         have xb3 := (hb3.cells.1 _ _ hgb).trans hxb
         have hxl3 : bx < w3.heap.size := Nat.lt_of_lt_of_le hxl hb3.size
         have hgb3 : gb < w3.heap.size := Nat.lt_of_lt_of_le hgb hb3.size
         clear hxa hs3 hc3 hf3
         have tok4 : True := trivial
         go_wp2_with fail
         go_region_held3 (fun w' => (∀ b o, b < w3.heap.size → w'.cell? ⟨b, o, none⟩ = w3.cell? ⟨b, o, none⟩) ∧ Up w3 w') (exact upS (by repeat (first | with_reducible exact Up.refl _ | with_reducible refine Up.alloc ?_ _ | with_reducible refine Up.drew ?_ | with_reducible refine Up.drewN ?_ _ | (with_reducible refine Up.setCell ?_ (by first | omega | (simp; done) | (simp; omega)) _) | with_reducible assumption | (with_reducible refine Up.trans ?_ (by with_reducible assumption))))) (first | (go_at_call 49; clear tok4; (with_reducible refine (sMomentOf_any _ _ _ _ _ _ (HSV.out.up (hb3.trans (by repeat (first | with_reducible exact Up.refl _ | with_reducible refine Up.alloc ?_ _ | with_reducible refine Up.drew ?_ | with_reducible refine Up.drewN ?_ _ | (with_reducible refine Up.setCell ?_ (by first | omega | (simp; done) | (simp; omega)) _) | with_reducible assumption | (with_reducible refine Up.trans ?_ (by with_reducible assumption)))))) (by omega)).mono ?_); rintro e w4 ⟨rfl, hb4⟩; obtain ⟨hc4, hf4⟩ := hb4.cells; have hs4 := hb4.size; (try simp at hs4); (try have hs4_3a : w3.heap.size < w4.heap.size := by omega); (try have hs4_3a' : w3.heap.size ≤ w4.heap.size := by omega); (try have hs4_3b : w3.heap.size + 1 < w4.heap.size := by omega); (try have hs4_3b' : w3.heap.size + 1 ≤ w4.heap.size := by omega)))
         generalize arI 1 m1 Q1 = x2
         have hu24 := hb3.trans (Up.trans (Up.drew (Up.refl w3)) hb4)
         have hupW4 := hupW.trans hu24
         have hW4 := hW1.trans hu24
         have hIA := HIA.out.up hu24
         have hIB := HIB.out.up hu24
         have hga4 : ga < w4.heap.size := Nat.lt_of_lt_of_le hga hu24.size
         have hgb4 : gb < w4.heap.size := Nat.lt_of_lt_of_le hgb hu24.size
         have HIA4 := Lib.hid hIA
         have HIB4 := Lib.hid hIB
         clear hIA hIB HIA HIB HSV p0 hxb hxl p3 xb3 hxl3 hgb3 hb3 hb4 hs4 hc4 hf4 hga hgb hupW hW1 hu24
         go_wp2
         go_loopw [11, 12, 13] (fun p q i wr => ∃ (x y : Int) (t : Nat), p = .int .i64 x ∧ q = .int .i64 y ∧ i = .int .i64 (t : Int) ∧ Up w4 wr) (fun _ _ i _ => m - (intOf i).toNat)
         case atStart => exact ⟨_, _, 0, rfl, rfl, rfl, (by repeat (first | with_reducible exact Up.refl _ | with_reducible refine Up.alloc ?_ _ | with_reducible refine Up.drew ?_ | with_reducible refine Up.drewN ?_ _ | (with_reducible refine Up.setCell ?_ (by first | omega | (simp; done) | (simp; omega)) _) | with_reducible assumption | (with_reducible refine Up.trans ?_ (by with_reducible assumption))))⟩
         case round =>
           obtain ⟨x, y, t, rfl, rfl, rfl, hu4⟩ := hrel
           by_cases ht1 : t < m
           · obtain ⟨b', o', rfl, hb1', hb2', hcs⟩ := HL.out (by omega)
             have ht2 : (t : Int) < (m : Int) := by omega
             have hw0r : Up w wr := hW4.trans hu4
             have g0 : wr.cell? ⟨b', o' + t * 3, none⟩ = some (.int .i64 (L t 0)) := (hw0r.cells.1 _ _ (by omega)).trans (hcs t 0 ht1 (by omega))
             have g1 : wr.cell? ⟨b', o' + t * 3 + 1, none⟩ = some (.int .i64 (L t 1)) := (hw0r.cells.1 _ _ (by omega)).trans (by rw [Nat.add_assoc]; exact hcs t 1 ht1 (by omega))
             have g2 : wr.cell? ⟨b', o' + t * 3 + 2, none⟩ = some (.int .i64 (L t 2)) := (hw0r.cells.1 _ _ (by omega)).trans (by rw [Nat.add_assoc]; exact hcs t 2 ht1 (by omega))
             clear hcs hw0r
             by_cases hq : L t 0 = (k : Int)
             · rw [hq] at g0
               go_wp2_with fail
               go_quiet (fail)
               go_wp2
               exact ⟨⟨_, _, t + 1, by rfl, by rfl, by rfl, (by repeat (first | with_reducible exact Up.refl _ | with_reducible refine Up.alloc ?_ _ | with_reducible refine Up.drew ?_ | with_reducible refine Up.drewN ?_ _ | (with_reducible refine Up.setCell ?_ (by first | omega | (simp; done) | (simp; omega)) _) | with_reducible assumption | (with_reducible refine Up.trans ?_ (by with_reducible assumption))))⟩, by simp only [intOf]; omega⟩
             · go_wp2
               exact ⟨⟨_, _, t + 1, by rfl, by rfl, by rfl, (by repeat (first | with_reducible exact Up.refl _ | with_reducible refine Up.alloc ?_ _ | with_reducible refine Up.drew ?_ | with_reducible refine Up.drewN ?_ _ | (with_reducible refine Up.setCell ?_ (by first | omega | (simp; done) | (simp; omega)) _) | with_reducible assumption | (with_reducible refine Up.trans ?_ (by with_reducible assumption))))⟩, by simp only [intOf]; omega⟩
           · have ht2 : ¬ (t : Int) < (m : Int) := by omega
             have hup5 := hupW4.trans hu4
             have hIA := HIA4.out.up hu4
             have hIB := HIB4.out.up hu4
             have hga5 : ga < wr.heap.size := Nat.lt_of_lt_of_le hga4 hu4.size
             have hgb5 : gb < wr.heap.size := Nat.lt_of_lt_of_le hgb4 hu4.size
             have hsz := hup5.size
             simp only [World.size_alloc] at hsz
             obtain ⟨xs, hxs⟩ := hIA
             obtain ⟨ys, hys⟩ := hIB
             go_wp2_with (first
               | (at_builtin; refine wpList_append_lies _ rfl (.tmp 88) (.tmp 90) 35 rfl (w.heap.size + 1) 3 i0 (.int .i64 0) 1 8 Try.underlying35 hi0 hz0 hz1 hz2 rfl (by omega) (.slice (some ⟨ga, 0, none⟩) j ca) j _ rfl (hxs.alloc _) ⟨wr.heap.size, 0, none⟩ 1 1 [.int .i64 x] rfl rfl (World.news_of_block (heap_alloc_new wr _)) (by simp [Value.oneCell']) (by omega) (by simp only [maxLen]; omega) (by omega) (by simp; omega) (wr.heap.size + 1) (by simp) ?_; intro g cap w5 hown hgrow hat hlt
                  have hu5 : Up (w.alloc (.cells #[.slice (some ⟨b, o, none⟩) n c] 40)) w5 := up_own (hup5.alloc _) (by simp) (hxs.alloc _) hgrow
                  have hys5 := own_far (hys.alloc (.cells #[.int .i64 x] 3)) hgrow (.inl (by simp [Value.ownBlock]; exact hgne))
                  have hI5 : IR w5 (w.heap.size + 1) 1 3 (.slice (some ⟨g, 0, none⟩) (j + 1) cap) (j + 1) := ⟨xs ++ [x], by rw [List.map_append]; exact hown⟩
                  have hcap1 := hI5.cap
                  have hgb6 : gb < w5.heap.size := Nat.lt_of_lt_of_le hgb5 (Nat.le_trans (by simp) hgrow.size)
                  have hgg : g ≠ gb := by
                    rcases hat with h | h
                    · simp only [Value.ownBlock, Option.some.injEq] at h; rw [← h]; exact hgne
                    · omega
                  have hsz6 := hu5.size
                  simp only [World.size_alloc] at hsz6
                  clear hown hgrow hat)
               | (at_builtin; refine wpList_append_lies _ rfl (.tmp 92) (.tmp 94) 35 rfl (w.heap.size + 1) 3 i0 (.int .i64 0) 1 8 Try.underlying35 hi0 hz0 hz1 hz2 rfl (by omega) (.slice (some ⟨gb, 0, none⟩) j cb) j _ rfl (hys5.alloc _) ⟨w5.heap.size, 0, none⟩ 1 1 [.int .i64 y] rfl rfl (World.news_of_block (heap_alloc_new w5 _)) (by simp [Value.oneCell']) (by omega) (by simp only [maxLen]; omega) (by omega) (by simp; omega) (w5.heap.size + 1) (by simp) ?_; intro g2 cap2 w6 hown hgrow hat hlt2
                  have hu6 : Up (w.alloc (.cells #[.slice (some ⟨b, o, none⟩) n c] 40)) w6 := up_own (hu5.alloc _) (by simp) (hys5.alloc _) hgrow
                  have hI6 : IR w6 (w.heap.size + 1) 1 3 (.slice (some ⟨g, 0, none⟩) (j + 1) cap) (j + 1) := (hI5.up (Up.alloc (Up.refl w5) _)).far hgrow (.inl (by simp [Value.ownBlock]; exact hgg.symm))
                  have hJ6 : IR w6 (w.heap.size + 1) 1 3 (.slice (some ⟨g2, 0, none⟩) (j + 1) cap2) (j + 1) := ⟨ys ++ [y], by rw [List.map_append]; exact hown⟩
                  have hcap2 := hJ6.cap
                  have hg6 : g < w6.heap.size := Nat.lt_of_lt_of_le hlt (Nat.le_trans (by simp) hgrow.size)
                  have hg2 : g ≠ g2 := by
                    rcases hat with h | h
                    · simp only [Value.ownBlock, Option.some.injEq] at h; rw [← h]; exact hgg
                    · omega
                  clear hown hgrow hat))
             exact ⟨⟨j + 1, by rfl, by omega, by omega, Lib.hid ⟨g, g2, cap, cap2, rfl, rfl, hg2, hg6, hlt2, hcap1, hcap2, hI6, hJ6⟩, hu6⟩, by simp only [intOf]; omega⟩)
    · have hk2 : ¬ (j : Int) < (n : Int) := by omega
      have hjj : j = n := by omega
      subst hjj
      obtain ⟨ga, gb, ca, cb, rfl, rfl, hgne, hga, hgb, hca, hcb, hIA, hIB⟩ := ho.out
      obtain ⟨F, hF⟩ := hIA.sl
      obtain ⟨G, hG⟩ := hIB.sl
      go_wp2
      exact bodyPost_ret (v := .tuple #[.slice (some ⟨ga, 0, none⟩) j ca, .slice (some ⟨gb, 0, none⟩) j cb]) (by simp only [results]; go_simp; try simp) rfl ⟨_, _, F, G, rfl, hF.wide (by omega) (Nat.le_refl _) (Nat.le_refl _), hG.wide (by omega) (Nat.le_refl _) (Nat.le_refl _), hupw⟩
end Go.Proofs.Ytaealkfnhhmmcaa
/- The walk of the draw of three rows. No condition. -/
namespace Go.Proofs.Ytaealkfnhhmmcaa
open Go.RowKit
set_option linter.unusedVariables false
def rwV (v : Value) : Prop := ∃ a b c d : Int, v = .agg #[.int .i64 a, .int .i64 b, .int .i64 c, .int .i64 d] ∧ rowB a b c d = true
theorem Cur.row4 {c p : Nat} {a : World} (h : Cur a c) (hp : c < p) (x y z t : Value) : Cur ((((a.setCell ⟨p, 0, none⟩ x).setCell ⟨p, 1, none⟩ y).setCell ⟨p, 2, none⟩ z).setCell ⟨p, 3, none⟩ t) c := (((h.far hp _).far hp _).far hp _).far hp _
theorem ChB.row4 {c p : Nat} {w a : World} (h : ChB c w a) (hp : w.heap.size ≤ p) (x y z t : Value) : ChB c w ((((a.setCell ⟨p, 0, none⟩ x).setCell ⟨p, 1, none⟩ y).setCell ⟨p, 2, none⟩ z).setCell ⟨p, 3, none⟩ t) := (((h.far hp _).far hp _).far hp _).far hp _
theorem Up.row4 {p : Nat} {w a : World} (h : Up w a) (hp : w.heap.size ≤ p) (x y z t : Value) : Up w ((((a.setCell ⟨p, 0, none⟩ x).setCell ⟨p, 1, none⟩ y).setCell ⟨p, 2, none⟩ z).setCell ⟨p, 3, none⟩ t) :=
  (((h.setCell (p := ⟨p, 0, none⟩) hp _).setCell (p := ⟨p, 1, none⟩) hp _).setCell (p := ⟨p, 2, none⟩) hp _).setCell (p := ⟨p, 3, none⟩) hp _
/-- A row's four cells. -/
def R4c (W : World) (p : Nat) (a b c d : Int) : Prop := W.cell? ⟨p, 0, none⟩ = some (.int .i64 a) ∧ W.cell? ⟨p, 1, none⟩ = some (.int .i64 b) ∧ W.cell? ⟨p, 2, none⟩ = some (.int .i64 c) ∧ W.cell? ⟨p, 3, none⟩ = some (.int .i64 d)
theorem R4c.set {W : World} {p : Nat} {q : Addr} {v : Value} {a b c d : Int} (hq : q.block ≠ p) (h : R4c W p a b c d) : R4c (W.setCell q v) p a b c d := by
  obtain ⟨h1, h2, h3, h4⟩ := h
  refine ⟨(World.cell?_setCell_other _ _ _ _ ?_).trans h1, (World.cell?_setCell_other _ _ _ _ ?_).trans h2, (World.cell?_setCell_other _ _ _ _ ?_).trans h3, (World.cell?_setCell_other _ _ _ _ ?_).trans h4⟩
  all_goals (rintro rfl; simp at hq)
theorem R4c.new (W : World) (a b c d : Int) (t : TypeId) : R4c (W.alloc (.cells #[.int .i64 a, .int .i64 b, .int .i64 c, .int .i64 d] t)) W.heap.size a b c d := by
  refine ⟨?_, ?_, ?_, ?_⟩ <;> (rw [World.cell?_alloc_mark]; rfl)
theorem R4c.up {W W' : World} {p : Nat} {a b c d : Int} (h : R4c W p a b c d) (hu : Up W W') (hp : p < W.heap.size) : R4c W' p a b c d :=
  ⟨(hu.cells.1 p 0 hp).trans h.1, (hu.cells.1 p 1 hp).trans h.2.1, (hu.cells.1 p 2 hp).trans h.2.2.1, (hu.cells.1 p 3 hp).trans h.2.2.2⟩
theorem R4c.chb {W W' : World} {k p : Nat} {a b c d : Int} (h : R4c W p a b c d) (hu : ChB k W W') (hp : p < W.heap.size) (hk : k + 1 ≤ p) : R4c W' p a b c d :=
  ⟨((hu.1.2 p 0 hp (.inr hk)).1).trans h.1, ((hu.1.2 p 1 hp (.inr hk)).1).trans h.2.1, ((hu.1.2 p 2 hp (.inr hk)).1).trans h.2.2.1, ((hu.1.2 p 3 hp (.inr hk)).1).trans h.2.2.2⟩
theorem pk_set8 {W : World} {b1 b2 : Nat} {p : Addr} {v a b c d x y z t : Value} (hp1 : p.block ≠ b1) (hp2 : p.block ≠ b2)
    (h : W.cell? ⟨b1, 0, none⟩ = some a ∧ W.cell? ⟨b1, 1, none⟩ = some b ∧ W.cell? ⟨b1, 2, none⟩ = some c ∧ W.cell? ⟨b1, 3, none⟩ = some d ∧ W.cell? ⟨b2, 0, none⟩ = some x ∧ W.cell? ⟨b2, 1, none⟩ = some y ∧ W.cell? ⟨b2, 2, none⟩ = some z ∧ W.cell? ⟨b2, 3, none⟩ = some t) :
    (W.setCell p v).cell? ⟨b1, 0, none⟩ = some a ∧ (W.setCell p v).cell? ⟨b1, 1, none⟩ = some b ∧ (W.setCell p v).cell? ⟨b1, 2, none⟩ = some c ∧ (W.setCell p v).cell? ⟨b1, 3, none⟩ = some d ∧ (W.setCell p v).cell? ⟨b2, 0, none⟩ = some x ∧ (W.setCell p v).cell? ⟨b2, 1, none⟩ = some y ∧ (W.setCell p v).cell? ⟨b2, 2, none⟩ = some z ∧ (W.setCell p v).cell? ⟨b2, 3, none⟩ = some t := by
  obtain ⟨h1, h2, h3, h4, h5, h6, h7, h8⟩ := h
  refine ⟨(World.cell?_setCell_other _ _ _ _ ?_).trans h1, (World.cell?_setCell_other _ _ _ _ ?_).trans h2, (World.cell?_setCell_other _ _ _ _ ?_).trans h3, (World.cell?_setCell_other _ _ _ _ ?_).trans h4, (World.cell?_setCell_other _ _ _ _ ?_).trans h5, (World.cell?_setCell_other _ _ _ _ ?_).trans h6, (World.cell?_setCell_other _ _ _ _ ?_).trans h7, (World.cell?_setCell_other _ _ _ _ ?_).trans h8⟩
  all_goals (rintro rfl; simp at hp1 hp2)
set_option maxHeartbeats 2000000 in
set_option maxRecDepth 100000 in
theorem l10Row_any (c : Nat) (w w0 : World) (hc : Cur w c) (h0 : w0.heap.size ≤ c) (hu : Up w0 w) : Calls Try.prog 18 #[.pointer (some ⟨c, 0, none⟩)] w (DrP w w0 c rwV) := by
  have hcl := hc.lt
  have hu1 : Up w (w.alloc (.cells #[.int .i64 0, .int .i64 0, .int .i64 0, .int .i64 0] 25)) := Up.alloc (Up.refl w) _
  have hb0 := heap_alloc_new w (.cells #[.int .i64 0, .int .i64 0, .int .i64 0, .int .i64 0] 25)
  have hlw := hu.size
  go_enter Try.func18, Try.ntmps18
  go_wp2_with fail
  (go_at_call 40; (with_reducible refine (l01Below_any _ _ _ w0 (i64_k (by omega) (by omega)) (hc.up hu1) h0 (hu.trans hu1)).mono ?_); rintro e w1 ⟨_, rfl, ⟨x1, rfl, hx1, hy1⟩, hC1, hD1, hU1⟩)
  go_wp2_with fail
  (go_at_call 40; (with_reducible refine (l01Below_any _ _ _ w0 (i64_k (by omega) (by omega)) hC1 h0 hU1).mono ?_); rintro e w2 ⟨_, rfl, ⟨x2, rfl, hx2, hy2⟩, hC2, hD2, hU2⟩)
  go_wp2_with fail
  (go_at_call 40; (with_reducible refine (l01Below_any _ _ _ w0 (i64_k (by omega) (by omega)) hC2 h0 hU2).mono ?_); rintro e w3 ⟨_, rfl, ⟨x3, rfl, hx3, hy3⟩, hC3, hD3, hU3⟩)
  go_wp2_with fail
  (go_at_call 40; (with_reducible refine (l01Below_any _ _ _ w0 (i64_k (by omega) (by omega)) hC3 h0 hU3).mono ?_); rintro e w4 ⟨_, rfl, ⟨x4, rfl, hx4, hy4⟩, hC4, hD4, hU4⟩)
  have hz1 : x1 ≤ 20 := by omega
  have hz2 : x2 ≤ 20 := by omega
  have hz3 : x3 ≤ 2 := by omega
  have hz4 : x4 ≤ 4000 := by omega
  clear hy1 hy2 hy3 hy4
  have hrow : rowB (x1 - 10) (x2 - 10) (x3 - 1) (x4 - 2000) = true := by simp [rowB, inB]; omega
  have hD := (((((ChB.refl c w).up hu1).trans hD1).trans hD2).trans hD3).trans hD4
  have hk : w4.heap[w.heap.size]? = some (.cells #[.int .i64 0, .int .i64 0, .int .i64 0, .int .i64 0] 25 (0, 0)) := ((((hD1.trans hD2).trans hD3).trans hD4).2 w.heap.size (by simp) (by omega)).trans hb0
  have c0 : w4.cell? ⟨w.heap.size, 0, none⟩ = some (.int .i64 0) := by simp only [World.cell?, hk]; rfl
  have c1 : w4.cell? ⟨w.heap.size, 1, none⟩ = some (.int .i64 0) := by simp only [World.cell?, hk]; rfl
  have c2 : w4.cell? ⟨w.heap.size, 2, none⟩ = some (.int .i64 0) := by simp only [World.cell?, hk]; rfl
  have c3 : w4.cell? ⟨w.heap.size, 3, none⟩ = some (.int .i64 0) := by simp only [World.cell?, hk]; rfl
  have f0 : ∀ x, w4.frozen? ⟨w.heap.size, x, none⟩ = false := fun x => by simp only [World.frozen?, hk]; simp
  have hC6 := hC4.row4 hcl (.int .i64 (x1 - 10)) (.int .i64 (x2 - 10)) (.int .i64 (x3 - 1)) (.int .i64 (x4 - 2000))
  have hD6 := hD.row4 (Nat.le_refl _) (.int .i64 (x1 - 10)) (.int .i64 (x2 - 10)) (.int .i64 (x3 - 1)) (.int .i64 (x4 - 2000))
  have hU6 := hU4.row4 (p := w.heap.size) (by omega) (.int .i64 (x1 - 10)) (.int .i64 (x2 - 10)) (.int .i64 (x3 - 1)) (.int .i64 (x4 - 2000))
  clear hk hb0 hC1 hC2 hC3 hC4 hU1 hU2 hU3 hU4 hD1 hD2 hD3 hD4 hD
  go_wp2
  exact bodyPost_ret (v := .agg #[.int .i64 (x1 - 10), .int .i64 (x2 - 10), .int .i64 (x3 - 1), .int .i64 (x4 - 2000)]) (by simp only [results]; go_simp; try simp) rfl ⟨_, rfl, ⟨_, _, _, _, rfl, hrow⟩, hC6, hD6, hU6⟩
def D3R (w : World) (e : Ending) (w' : World) : Prop := ∃ a0 b0 c0 d0 a1 b1 c1 d1 a2 b2 c2 d2 : Int, e = .returned (.tuple #[.agg #[.int .i64 a0, .int .i64 b0, .int .i64 c0, .int .i64 d0], .agg #[.int .i64 a1, .int .i64 b1, .int .i64 c1, .int .i64 d1], .agg #[.int .i64 a2, .int .i64 b2, .int .i64 c2, .int .i64 d2]]) ∧ rowB a0 b0 c0 d0 = true ∧ rowB a1 b1 c1 d1 = true ∧ rowB a2 b2 c2 d2 = true ∧ Up w w'
set_option maxHeartbeats 4000000 in
set_option maxRecDepth 100000 in
theorem DrawRows_any (u : Value) (n lo hi : Nat) (B : Nat → Int) (w : World) (hs : Sl w lo hi 1 u n (bytF B)) (hn : n ≤ 1048576) (hB : ∀ i, i < n → 0 ≤ B i ∧ B i ≤ 255) : Calls Try.prog 5 #[u] w (D3R w) := by
  obtain ⟨wA, hwA⟩ : ∃ wA, ((w.alloc (.cells #[.int .i64 0, .int .i64 0, .int .i64 0, .int .i64 0] 25)).alloc (.cells #[.int .i64 0, .int .i64 0, .int .i64 0, .int .i64 0] 25)).alloc (.cells #[.int .i64 0, .int .i64 0, .int .i64 0, .int .i64 0] 25) = wA := ⟨_, rfl⟩
  have huA : Up w wA := by rw [← hwA]; exact (((Up.refl w).alloc _).alloc _).alloc _
  have hzA : wA.heap.size = w.heap.size + 3 := by rw [← hwA]; simp
  have hA0 : ∀ j, j < 3 → wA.heap[w.heap.size + j]? = some (.cells #[.int .i64 0, .int .i64 0, .int .i64 0, .int .i64 0] 25 (0, 0)) := by
    intro j hj
    rw [← hwA]
    have g0 := heap_alloc_new w (.cells #[.int .i64 0, .int .i64 0, .int .i64 0, .int .i64 0] 25)
    have g1 := heap_alloc_new (w.alloc (.cells #[.int .i64 0, .int .i64 0, .int .i64 0, .int .i64 0] 25)) (.cells #[.int .i64 0, .int .i64 0, .int .i64 0, .int .i64 0] 25)
    have g2 := heap_alloc_new ((w.alloc (.cells #[.int .i64 0, .int .i64 0, .int .i64 0, .int .i64 0] 25)).alloc (.cells #[.int .i64 0, .int .i64 0, .int .i64 0, .int .i64 0] 25)) (.cells #[.int .i64 0, .int .i64 0, .int .i64 0, .int .i64 0] 25)
    simp only [World.size_alloc] at g1 g2
    match j, hj with
    | 0, _ => exact (Below.heap_alloc _ _ _ (by simp; omega)).trans ((Below.heap_alloc _ _ _ (by simp)).trans g0)
    | 1, _ => exact (Below.heap_alloc _ _ _ (by simp)).trans g1
    | 2, _ => exact g2
  have hL5 : ∀ w5, Up wA w5 → (w5.cell? ⟨w.heap.size, 0, none⟩ = some (.int .i64 0) ∧ w5.cell? ⟨w.heap.size, 1, none⟩ = some (.int .i64 0) ∧ w5.cell? ⟨w.heap.size, 2, none⟩ = some (.int .i64 0) ∧ w5.cell? ⟨w.heap.size, 3, none⟩ = some (.int .i64 0)) ∧
      (w5.cell? ⟨w.heap.size + 1, 0, none⟩ = some (.int .i64 0) ∧ w5.cell? ⟨w.heap.size + 1, 1, none⟩ = some (.int .i64 0) ∧ w5.cell? ⟨w.heap.size + 1, 2, none⟩ = some (.int .i64 0) ∧ w5.cell? ⟨w.heap.size + 1, 3, none⟩ = some (.int .i64 0)) ∧
      (w5.cell? ⟨w.heap.size + 1 + 1, 0, none⟩ = some (.int .i64 0) ∧ w5.cell? ⟨w.heap.size + 1 + 1, 1, none⟩ = some (.int .i64 0) ∧ w5.cell? ⟨w.heap.size + 1 + 1, 2, none⟩ = some (.int .i64 0) ∧ w5.cell? ⟨w.heap.size + 1 + 1, 3, none⟩ = some (.int .i64 0)) ∧
      (∀ x, w5.frozen? ⟨w.heap.size, x, none⟩ = false) ∧ (∀ x, w5.frozen? ⟨w.heap.size + 1, x, none⟩ = false) ∧ (∀ x, w5.frozen? ⟨w.heap.size + 1 + 1, x, none⟩ = false) := by
    intro w5 h
    have g0 := (Below.block h (w.heap.size + 0) (by omega)).trans (hA0 0 (by omega))
    have g1 := (Below.block h (w.heap.size + 1) (by omega)).trans (hA0 1 (by omega))
    have g2 := (Below.block h (w.heap.size + 1 + 1) (by omega)).trans (hA0 2 (by omega))
    rw [Nat.add_zero] at g0
    refine ⟨⟨?_, ?_, ?_, ?_⟩, ⟨?_, ?_, ?_, ?_⟩, ⟨?_, ?_, ?_, ?_⟩, fun x => ?_, fun x => ?_, fun x => ?_⟩
    · simp only [World.cell?, g0]; rfl
    · simp only [World.cell?, g0]; rfl
    · simp only [World.cell?, g0]; rfl
    · simp only [World.cell?, g0]; rfl
    · simp only [World.cell?, g1]; rfl
    · simp only [World.cell?, g1]; rfl
    · simp only [World.cell?, g1]; rfl
    · simp only [World.cell?, g1]; rfl
    · simp only [World.cell?, g2]; rfl
    · simp only [World.cell?, g2]; rfl
    · simp only [World.cell?, g2]; rfl
    · simp only [World.cell?, g2]; rfl
    · simp only [World.frozen?, g0]; simp
    · simp only [World.frozen?, g1]; simp
    · simp only [World.frozen?, g2]; simp
  go_enter Try.func5, Try.ntmps5
  go_wp2_with fail
  (go_at_call 17; (with_reducible refine (l01New_any _ _ _ _ _ _ (hs.up huA) hn hB).mono ?_); rintro e w1 ⟨c, rfl, h0, hC1, hU1⟩)
  go_wp2_with fail
  (go_at_call 18; (with_reducible refine (l10Row_any _ _ wA hC1 h0 hU1).mono ?_); rintro e w2 ⟨_, rfl, ⟨a0, b0, c0, d0, rfl, hr0⟩, hC2, hD2, hU2⟩)
  have hu2 : Up w2 (w2.alloc (.cells #[.int .i64 a0, .int .i64 b0, .int .i64 c0, .int .i64 d0] 25)) := Up.alloc (Up.refl w2) _
  have hc2l := hC2.lt
  have q0 := R4c.new w2 a0 b0 c0 d0 25
  go_wp2_with fail
  (go_at_call 18; (with_reducible refine (l10Row_any _ _ wA (hC2.up hu2) h0 (hU2.trans hu2)).mono ?_); rintro e w3 ⟨_, rfl, ⟨a1, b1, c1, d1, rfl, hr1⟩, hC3, hD3, hU3⟩)
  have hu3 : Up w3 (w3.alloc (.cells #[.int .i64 a1, .int .i64 b1, .int .i64 c1, .int .i64 d1] 25)) := Up.alloc (Up.refl w3) _
  have hc3l := hC3.lt
  have q1 := R4c.new w3 a1 b1 c1 d1 25
  have hz23 : w2.heap.size + 1 ≤ w3.heap.size := by have := hD3.1.1; simpa using this
  have p0 := (q0.chb hD3 (by simp) (by omega)).up hu3 (by omega)
  have hC4 := hC3.up hu3
  have hU4 := hU3.trans hu3
  obtain ⟨w4, hw4⟩ : ∃ w4, w3.alloc (.cells #[.int .i64 a1, .int .i64 b1, .int .i64 c1, .int .i64 d1] 25) = w4 := ⟨_, rfl⟩
  rw [hw4] at q1 p0 hC4 hU4
  have hz34 : w4.heap.size = w3.heap.size + 1 := by rw [← hw4]; simp
  have n2 : w.heap.size + 3 ≤ w2.heap.size := by have := hU2.size; omega
  clear hu3 hu2 q0 hC2 hD2 hU2 hC3 hD3 hU3 hC1 hU1
  have hC4d : Cur w4.drew c := hC4
  have hU4d : Up wA w4.drew := hU4.drew
  have HK4 : Hid (w4.cell? ⟨w2.heap.size, 0, none⟩ = some (.int .i64 a0) ∧ w4.cell? ⟨w2.heap.size, 1, none⟩ = some (.int .i64 b0) ∧ w4.cell? ⟨w2.heap.size, 2, none⟩ = some (.int .i64 c0) ∧ w4.cell? ⟨w2.heap.size, 3, none⟩ = some (.int .i64 d0) ∧ w4.cell? ⟨w3.heap.size, 0, none⟩ = some (.int .i64 a1) ∧ w4.cell? ⟨w3.heap.size, 1, none⟩ = some (.int .i64 b1) ∧ w4.cell? ⟨w3.heap.size, 2, none⟩ = some (.int .i64 c1) ∧ w4.cell? ⟨w3.heap.size, 3, none⟩ = some (.int .i64 d1)) := ⟨p0.1, p0.2.1, p0.2.2.1, p0.2.2.2, q1.1, q1.2.1, q1.2.2.1, q1.2.2.2⟩
  have HK4d : Hid (w4.drew.cell? ⟨w2.heap.size, 0, none⟩ = some (.int .i64 a0) ∧ w4.drew.cell? ⟨w2.heap.size, 1, none⟩ = some (.int .i64 b0) ∧ w4.drew.cell? ⟨w2.heap.size, 2, none⟩ = some (.int .i64 c0) ∧ w4.drew.cell? ⟨w2.heap.size, 3, none⟩ = some (.int .i64 d0) ∧ w4.drew.cell? ⟨w3.heap.size, 0, none⟩ = some (.int .i64 a1) ∧ w4.drew.cell? ⟨w3.heap.size, 1, none⟩ = some (.int .i64 b1) ∧ w4.drew.cell? ⟨w3.heap.size, 2, none⟩ = some (.int .i64 c1) ∧ w4.drew.cell? ⟨w3.heap.size, 3, none⟩ = some (.int .i64 d1)) := HK4
  have hK5 : ∀ w5, ChB c w4.drew w5 → Hid (w5.cell? ⟨w2.heap.size, 0, none⟩ = some (.int .i64 a0) ∧ w5.cell? ⟨w2.heap.size, 1, none⟩ = some (.int .i64 b0) ∧ w5.cell? ⟨w2.heap.size, 2, none⟩ = some (.int .i64 c0) ∧ w5.cell? ⟨w2.heap.size, 3, none⟩ = some (.int .i64 d0) ∧ w5.cell? ⟨w3.heap.size, 0, none⟩ = some (.int .i64 a1) ∧ w5.cell? ⟨w3.heap.size, 1, none⟩ = some (.int .i64 b1) ∧ w5.cell? ⟨w3.heap.size, 2, none⟩ = some (.int .i64 c1) ∧ w5.cell? ⟨w3.heap.size, 3, none⟩ = some (.int .i64 d1)) := by
    intro w5 hD5
    have g0 := R4c.chb (W := w4.drew) p0 hD5 (show w2.heap.size < w4.heap.size by omega) (by omega)
    have g1 := R4c.chb (W := w4.drew) q1 hD5 (show w3.heap.size < w4.heap.size by omega) (by omega)
    exact ⟨g0.1, g0.2.1, g0.2.2.1, g0.2.2.2, g1.1, g1.2.1, g1.2.2.1, g1.2.2.2⟩
  clear p0 q1 hwA
  go_wp2_with fail
  go_region_held3 (fun w' => w'.cell? ⟨w2.heap.size, 0, none⟩ = some (.int .i64 a0) ∧ w'.cell? ⟨w2.heap.size, 1, none⟩ = some (.int .i64 b0) ∧ w'.cell? ⟨w2.heap.size, 2, none⟩ = some (.int .i64 c0) ∧ w'.cell? ⟨w2.heap.size, 3, none⟩ = some (.int .i64 d0) ∧ w'.cell? ⟨w3.heap.size, 0, none⟩ = some (.int .i64 a1) ∧ w'.cell? ⟨w3.heap.size, 1, none⟩ = some (.int .i64 b1) ∧ w'.cell? ⟨w3.heap.size, 2, none⟩ = some (.int .i64 c1) ∧ w'.cell? ⟨w3.heap.size, 3, none⟩ = some (.int .i64 d1)) (repeat (first | with_reducible exact HK4.out | with_reducible exact HK4d.out | with_reducible exact k5.out | with_reducible refine pk_set8 (by dsimp only; omega) (by dsimp only; omega) ?_)) (first | (go_at_call 18; (with_reducible refine (l10Row_any _ _ wA hC4d h0 hU4d).mono ?_); rintro e w5 ⟨_, rfl, ⟨a2, b2, c2, d2, rfl, hr2⟩, hC5, hD5, hU5⟩; have k5 := hK5 _ hD5; obtain ⟨⟨m0, m1, m2, m3⟩, ⟨m4, m5, m6, m7⟩, ⟨m8, m9, m10, m11⟩, f0, f1, f2⟩ := hL5 _ hU5))
  have hu5 := huA.trans hU5
  have hup := ((hu5.row4 (p := w.heap.size) (Nat.le_refl _) (.int .i64 a0) (.int .i64 b0) (.int .i64 c0) (.int .i64 d0)).row4 (p := w.heap.size + 1) (by omega) (.int .i64 a1) (.int .i64 b1) (.int .i64 c1) (.int .i64 d1)).row4 (p := w.heap.size + 1 + 1) (by omega) (.int .i64 a2) (.int .i64 b2) (.int .i64 c2) (.int .i64 d2)
  clear k5 HK4 HK4d hK5 hL5 hA0 hC5 hD5 hU5 hC4d hU4d
  go_wp2
  exact bodyPost_ret (v := .tuple #[.agg #[.int .i64 a0, .int .i64 b0, .int .i64 c0, .int .i64 d0], .agg #[.int .i64 a1, .int .i64 b1, .int .i64 c1, .int .i64 d1], .agg #[.int .i64 a2, .int .i64 b2, .int .i64 c2, .int .i64 d2]]) (by simp only [results]; go_simp; try simp) rfl ⟨a0, b0, c0, d0, a1, b1, c1, d1, a2, b2, c2, d2, rfl, hr0, hr1, hr2, hup⟩
end Go.Proofs.Ytaealkfnhhmmcaa
/- The walks of the shapes of arches, a copy of one, a drawn one. No condition. -/
namespace Go.Proofs.Ytaealkfnhhmmcaa
open Go.RowKit
set_option linter.unusedVariables false
/-- An arch of three to six joints, of the call's own. -/
def ArP (w w' : World) (n : Nat) (v : Value) : Prop := ∃ (A : Option Addr) (c : Nat) (F : Nat → Nat → Int), v = .slice A n c ∧ Wr w' w.heap.size w'.heap.size 4 v n (intF F)
def ShP (w : World) (e : Ending) (w' : World) : Prop := ∃ v n, e = .returned (.agg #[v]) ∧ 3 ≤ n ∧ n ≤ 6 ∧ ArP w w' n v ∧ Up w w'
theorem IR.wr {w : World} {base sz n : Nat} {e : TypeId} {v : Value} (h : IR w base sz e v n) : ∃ F, Wr w base w.heap.size sz v n (intF F) := by
  obtain ⟨F, hF⟩ := h.sl
  obtain ⟨xs, _, h⟩ := h
  refine ⟨F, ?_⟩
  rcases h with ⟨rfl, rfl⟩ | ⟨g, cap, cur, rfl, h1, h2, h3, h4, h5, h6⟩
  · exact Wr.nil _ _ _ _ _ (Nat.le_refl _)
  · obtain ⟨_, A, c', e1, _, hx⟩ := hF
    refine ⟨Nat.le_refl _, _, cap, rfl, h3, fun hn => ?_⟩
    obtain ⟨b, o, e2, hb1, hb2, hc⟩ := hx hn
    cases e1
    cases e2
    refine ⟨g, rfl, hb1, hb2, fun i j hi hj => by simpa using hc i j hi hj, fun o => ?_⟩
    simp only [World.frozen?, h2]
    simp
theorem sh_new (w : World) (l : List Int) (n : Nat) (X : Value) (t2 t : TypeId) (hl : l.length = n * 4) (h3 : 3 ≤ n) (h6 : n ≤ 6) : ShP w (.returned (.agg #[.slice (some ⟨w.heap.size + 1, 0, none⟩) n n])) ((w.alloc (.cells #[X] t2)).alloc (.cells (l.map (Value.int .i64)).toArray t)) := by
  have h := own_new (w.alloc (.cells #[X] t2)) l n 4 t (base := w.heap.size) (by simp) (by unfold maxLen; omega) hl
  obtain ⟨F, hF⟩ := h.wr
  refine ⟨_, n, rfl, h3, h6, ⟨_, _, F, rfl, ?_⟩, (by repeat (first | with_reducible exact Up.refl _ | with_reducible refine Up.alloc ?_ _ | with_reducible refine Up.drew ?_ | with_reducible refine Up.drewN ?_ _ | (with_reducible refine Up.setCell ?_ (by first | omega | (simp; done) | (simp; omega)) _) | with_reducible assumption | (with_reducible refine Up.trans ?_ (by with_reducible assumption))))⟩
  simpa using hF
set_option maxHeartbeats 4000000 in
set_option maxRecDepth 100000 in
theorem l06Shape_any (k : Int) (w : World) : Calls Try.prog 45 #[.int .i64 k] w (ShP w) := by
  by_cases h0 : k = 0
  · subst h0
    go_enter Try.func45, Try.ntmps45
    go_wp2
    exact bodyPost_ret (v := .agg #[.slice (some ⟨w.heap.size + 1, 0, none⟩) 6 6]) (by simp only [results]; go_simp; try simp) rfl (sh_new w [-8, 0, -11, 0, -6, 5, -8, 7, -2, 8, -3, 11, 2, 8, 3, 11, 6, 5, 8, 7, 8, 0, 11, 0] 6 _ _ _ rfl (by omega) (by omega))
  · by_cases h1 : k = 1
    · subst h1
      go_enter Try.func45, Try.ntmps45
      go_wp2
      exact bodyPost_ret (v := .agg #[.slice (some ⟨w.heap.size + 1, 0, none⟩) 4 4]) (by simp only [results]; go_simp; try simp) rfl (sh_new w [0, 0, -2, 3, 5, 2, 4, 6, 11, 2, 12, 6, 16, 0, 18, 3] 4 _ _ _ rfl (by omega) (by omega))
    · by_cases h2 : k = 2
      · subst h2
        go_enter Try.func45, Try.ntmps45
        go_wp2
        exact bodyPost_ret (v := .agg #[.slice (some ⟨w.heap.size + 1, 0, none⟩) 5 5]) (by simp only [results]; go_simp; try simp) rfl (sh_new w [0, 0, -3, 0, 2, 6, 0, 8, 6, 11, 6, 14, 10, 6, 12, 8, 12, 0, 15, 0] 5 _ _ _ rfl (by omega) (by omega))
      · by_cases h3 : k = 3
        · subst h3
          go_enter Try.func45, Try.ntmps45
          go_wp2
          exact bodyPost_ret (v := .agg #[.slice (some ⟨w.heap.size + 1, 0, none⟩) 4 4]) (by simp only [results]; go_simp; try simp) rfl (sh_new w [0, 0, -1, 4, 4, 0, 4, 4, 8, 0, 8, 4, 12, 0, 13, 4] 4 _ _ _ rfl (by omega) (by omega))
        · by_cases h4 : k = 4
          · subst h4
            go_enter Try.func45, Try.ntmps45
            go_wp2
            exact bodyPost_ret (v := .agg #[.slice (some ⟨w.heap.size + 1, 0, none⟩) 5 5]) (by simp only [results]; go_simp; try simp) rfl (sh_new w [-9, 0, -10, 0, -6, 7, -7, 8, 0, 9, 0, 10, 6, 7, 7, 8, 9, 0, 10, 0] 5 _ _ _ rfl (by omega) (by omega))
          · go_enter Try.func45, Try.ntmps45
            go_wp2
            exact bodyPost_ret (v := .agg #[.slice (some ⟨w.heap.size + 1, 0, none⟩) 3 3]) (by simp only [results]; go_simp; try simp) rfl (sh_new w [0, 0, -2, 2, 6, 4, 6, 7, 12, 2, 14, 4] 3 _ _ _ rfl (by omega) (by omega))
end Go.Proofs.Ytaealkfnhhmmcaa
