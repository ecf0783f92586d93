/- The walks of SumOfRows. No condition. -/
import Derived.Test.YtlpbmdoggcclpaaPf2
import Derived.Test.YtlpbmdoggcclpaaMp
namespace Go.Proofs.Ytlpbmdoggcclpaa
open Go.RowKit
set_option linter.unusedVariables false
/-- The first j rows of the proof, times their factors, added up at component c (no wrapping). -/
def smI (R P F : Nat → Nat → Int) (c : Nat) : Nat → Int
  | 0 => 0
  | j + 1 => smI R P F c j + F j 0 * R (P j 0).toNat c
def srI (k n m : Nat) (R P F : Nat → Nat → Int) (c : Nat) : Int := if pfOk k n m R P F then wrap64 (smI R P F c n) else 0
theorem srI_t {k n m : Nat} {R P F : Nat → Nat → Int} (h : pfOk k n m R P F = true) (c : Nat) : srI k n m R P F c = wrap64 (smI R P F c n) := by rw [srI, h]; rfl
theorem srI_f {k n m : Nat} {R P F : Nat → Nat → Int} (h : pfOk k n m R P F = false) (c : Nat) : srI k n m R P F c = 0 := by rw [srI, h]; rfl
theorem wrap_step (x y : Int) : (wrap64 x + wrap64 y + 9223372036854775808) % 18446744073709551616 - 9223372036854775808 = wrap64 (x + y) := by
  simp only [wrap64]; omega
theorem smI_step (R P F : Nat → Nat → Int) (c j : Nat) : wrap64 (wrap64 (smI R P F c j) + wrap64 (F j 0 * R (P j 0).toNat c)) = wrap64 (smI R P F c (j + 1)) := by
  rw [smI]
  generalize smI R P F c j = x
  generalize F j 0 * R (P j 0).toNat c = y
  simp only [wrap64]; omega
theorem pf_inv {k n m : Nat} {R P F : Nat → Nat → Int} (h : pfOk k n m R P F = true) : m = n ∧ 1 ≤ n ∧ n ≤ 4 ∧ k ≤ 40 ∧ (∀ i, i < n → 0 ≤ P i 0 ∧ P i 0 < (k : Int)) ∧ ∀ i, i + 1 < n → P i 0 < P (i + 1) 0 := by
  simp only [pfOk, Bool.and_eq_true, decide_eq_true_eq] at h
  obtain ⟨⟨⟨⟨⟨h1, h2⟩, h3⟩, h4⟩, h5⟩, h6⟩ := h
  have h3 := inB_true.1 h3
  refine ⟨h4, by omega, by omega, h1, fun i hi => ?_, fun i hi => ?_⟩
  · have := allN_get h5 hi
    rw [ascI, Bool.and_eq_true] at this
    have := inB_true.1 this.1
    omega
  · have := allN_get h5 hi
    rw [ascI, Bool.and_eq_true] at this
    have := this.2
    simp at this
    omega
theorem asc_lt {n : Nat} {P : Nat → Nat → Int} (h : ∀ i, i + 1 < n → P i 0 < P (i + 1) 0) : ∀ d i, i + d + 1 < n → P i 0 < P (i + d + 1) 0
  | 0, i, hd => h i hd
  | d + 1, i, hd => Int.lt_trans (asc_lt h d i (by omega)) (h (i + d + 1) (by omega))
set_option maxHeartbeats 4000000 in
set_option maxRecDepth 100000 in
theorem sSumOfRows_any (u a b : Value) (k n m lo hi lo' hi' lo2 hi2 : Nat) (R P F : Nat → Nat → Int) (w : World) (hs : Sl w lo hi 4 u k (intF R)) (hs' : Sl w lo' hi' 1 a n (intF P)) (hs2 : Sl w lo2 hi2 1 b m (intF F)) (hn : k ≤ 1048576) (hn' : n ≤ 1048576) (hm : m ≤ 1048576) :
    Calls Try.prog 88 #[u, .agg #[a, b]] w fun e w' => e = .returned (.tuple #[.int .i64 (srI k n m R P F 0), .int .i64 (srI k n m R P F 1), .int .i64 (srI k n m R P F 2), .int .i64 (srI k n m R P F 3)]) ∧ Up w w' := by
  have hP := fun W (hu : Up w W) => sProofOk_any u a b k n m lo hi lo' hi' lo2 hi2 R P F W (hs.up hu) (hs'.up hu) (hs2.up hu) hn hn' hm
  obtain ⟨hz1, A1, c1, rfl, hc1, hx1⟩ := hs
  obtain ⟨hz2, A2, c2, rfl, hc2, hx2⟩ := hs'
  obtain ⟨hz3, A3, c3, rfl, hc3, hx3⟩ := hs2
  have H1 := Lib.hid hx1
  have H2 := Lib.hid hx2
  have H3 := Lib.hid hx3
  clear hx1 hx2 hx3
  cases hok : pfOk k n m R P F with
  | false =>
    rw [srI_f hok, srI_f hok, srI_f hok, srI_f hok]
    have HPo : ∀ W, Up w W → Calls Try.prog 89 #[.slice A1 k c1, .agg #[.slice A2 n c2, .slice A3 m c3]] W fun e w' => e = .returned (.bool false) ∧ Up W w' := fun W hu => by have hh := hP W hu; rw [hok] at hh; exact hh
    clear hok hP
    by_cases h0 : 0 < n
    · have h0' : (0 : Int) < (n : Int) := by omega
      go_enter Try.func88, Try.ntmps88
      go_wp2
      refine wp_loop_rounds 1 ?_
      rw [rounds_succ]
      go_wp2_with fail
      (go_at_call 89; (with_reducible refine (HPo _ (by repeat (first | with_reducible exact Up.refl _ | with_reducible refine Up.alloc ?_ _ | with_reducible refine Up.drew ?_ | with_reducible refine Up.drewN ?_ _ | (with_reducible refine Up.setCell ?_ (by first | omega | (simp; done) | (simp; omega)) _) | with_reducible assumption | (with_reducible refine Up.trans ?_ (by with_reducible assumption))))).mono ?_); rintro e w1 ⟨rfl, hb1⟩)
      go_wp2
      exact bodyPost_ret (v := .tuple #[.int .i64 0, .int .i64 0, .int .i64 0, .int .i64 0]) (by simp [results, Try.results88, go_sem]) rfl ⟨rfl, (by repeat (first | with_reducible exact Up.refl _ | with_reducible refine Up.alloc ?_ _ | with_reducible refine Up.drew ?_ | with_reducible refine Up.drewN ?_ _ | (with_reducible refine Up.setCell ?_ (by first | omega | (simp; done) | (simp; omega)) _) | with_reducible assumption | (with_reducible refine Up.trans ?_ (by with_reducible assumption))))⟩
    · have h0' : ¬ (0 : Int) < (n : Int) := by omega
      go_enter Try.func88, Try.ntmps88
      go_wp2
      refine wp_loop_rounds 1 ?_
      rw [rounds_succ]
      go_wp2
      exact bodyPost_ret (v := .tuple #[.int .i64 0, .int .i64 0, .int .i64 0, .int .i64 0]) (by simp [results, Try.results88, go_sem]) rfl ⟨rfl, (by repeat (first | with_reducible exact Up.refl _ | with_reducible refine Up.alloc ?_ _ | with_reducible refine Up.drew ?_ | with_reducible refine Up.drewN ?_ _ | (with_reducible refine Up.setCell ?_ (by first | omega | (simp; done) | (simp; omega)) _) | with_reducible assumption | (with_reducible refine Up.trans ?_ (by with_reducible assumption))))⟩
  | true =>
    rw [srI_t hok, srI_t hok, srI_t hok, srI_t hok]
    have HPo : ∀ W, Up w W → Calls Try.prog 89 #[.slice A1 k c1, .agg #[.slice A2 n c2, .slice A3 m c3]] W fun e w' => e = .returned (.bool true) ∧ Up W w' := fun W hu => by have hh := hP W hu; rw [hok] at hh; exact hh
    clear hP
    obtain ⟨rfl, hn1, hn4, hk40, hin, _⟩ := pf_inv hok
    have HI := Lib.hid hin
    clear hok hin
    have hst := fun c j => smI_step R P F c j
    have HST := Lib.hid hst
    clear hst
    go_enter Try.func88, Try.ntmps88
    go_wp2
    go_loopw [8, 9, 10, 11, 12] (fun s0 s1 s2 s3 i wr => ∃ j : Nat, i = .int .i64 (j : Int) ∧ j ≤ m ∧ s0 = .int .i64 (wrap64 (smI R P F 0 j)) ∧ s1 = .int .i64 (wrap64 (smI R P F 1 j)) ∧ s2 = .int .i64 (wrap64 (smI R P F 2 j)) ∧ s3 = .int .i64 (wrap64 (smI R P F 3 j)) ∧ Up (w.alloc (.cells #[.slice A2 m c2, .slice A3 m c3] 26)) wr) (fun _ _ _ _ i _ => m - (intOf i).toNat)
    case atStart => exact ⟨0, rfl, Nat.zero_le _, by simp [smI, wrap64], by simp [smI, wrap64], by simp [smI, wrap64], by simp [smI, wrap64], (by repeat (first | with_reducible exact Up.refl _ | with_reducible refine Up.alloc ?_ _ | with_reducible refine Up.drew ?_ | with_reducible refine Up.drewN ?_ _ | (with_reducible refine Up.setCell ?_ (by first | omega | (simp; done) | (simp; omega)) _) | with_reducible assumption | (with_reducible refine Up.trans ?_ (by with_reducible assumption))))⟩
    case round =>
      obtain ⟨j, rfl, hj, rfl, rfl, rfl, rfl, hup⟩ := hrel
      have hupw : Up w wr := Up.trans (Up.alloc (Up.refl w) _) hup
      have hws : w.heap.size < wr.heap.size := Nat.lt_of_lt_of_le (by simp) hup.size
      have hq0 : wr.cell? ⟨w.heap.size, 0, none⟩ = some (.slice A2 m c2) := (hup.cells.1 _ _ (by simp)).trans (by simp [World.cell?_alloc_mark])
      have hq1 : wr.cell? ⟨w.heap.size, 1, none⟩ = some (.slice A3 m c3) := (hup.cells.1 _ _ (by simp)).trans (by simp [World.cell?_alloc_mark])
      by_cases hk1 : j < m
      · have hk2 : (j : Int) < (m : Int) := by omega
        obtain ⟨hi0, hi1⟩ := HI.out j hk1
        obtain ⟨b, o, rfl, hb1, hb2, hcs⟩ := H1.out (by omega)
        obtain ⟨b', o', rfl, hb1', hb2', hcs'⟩ := H2.out (by omega)
        obtain ⟨b2, o2, rfl, hb12, hb22, hcs2⟩ := H3.out (by omega)
        have hR := fun c (hc : c < 4) => hcs (P j 0).toNat c (by omega) hc
        have hE : P j 0 = ((P j 0).toNat : Int) := by omega
        obtain ⟨q, hq⟩ : ∃ q, (P j 0).toNat = q := ⟨_, rfl⟩
        have hqk : q < k := by omega
        have hqk2 : (q : Int) < (k : Int) := by omega
        rw [hq] at hE
        have hu : ∀ w1 : World, Up wr w1 → w1.cell? ⟨b', o' + j, none⟩ = some (.int .i64 (q : Int)) ∧ w1.cell? ⟨b2, o2 + j, none⟩ = some (.int .i64 (F j 0)) ∧ w1.cell? ⟨b, o + q * 4, none⟩ = some (.int .i64 (R q 0)) ∧ w1.cell? ⟨b, o + q * 4 + 1, none⟩ = some (.int .i64 (R q 1)) ∧ w1.cell? ⟨b, o + q * 4 + 2, none⟩ = some (.int .i64 (R q 2)) ∧ w1.cell? ⟨b, o + q * 4 + 3, none⟩ = some (.int .i64 (R q 3)) := fun w1 h1 => by
          have h2 := hupw.trans h1
          refine ⟨(h2.cells.1 _ _ (by omega)).trans (by rw [← hE]; exact Sl.int hcs' hk1), (h2.cells.1 _ _ (by omega)).trans (Sl.int hcs2 hk1), (h2.cells.1 _ _ (by omega)).trans ?_, (h2.cells.1 _ _ (by omega)).trans ?_, (h2.cells.1 _ _ (by omega)).trans ?_, (h2.cells.1 _ _ (by omega)).trans ?_⟩
          · simpa [intF, Nat.add_assoc, hq] using hR 0 (by omega)
          · simpa [intF, Nat.add_assoc, hq] using hR 1 (by omega)
          · simpa [intF, Nat.add_assoc, hq] using hR 2 (by omega)
          · simpa [intF, Nat.add_assoc, hq] using hR 3 (by omega)
        have e0 := HST.out 0 j
        have e1 := HST.out 1 j
        have e2 := HST.out 2 j
        have e3 := HST.out 3 j
        rw [hq] at e0 e1 e2 e3
        have E0 := Lib.hid e0
        have E1 := Lib.hid e1
        have E2 := Lib.hid e2
        have E3 := Lib.hid e3
        clear e0 e1 e2 e3 hR hE hcs hcs' hcs2 hi0 hi1 hq
        have hqn : (0 : Int) ≤ (q : Int) := by omega
        go_wp2_with fail
        (go_at_call 89; (with_reducible refine (HPo _ (by repeat (first | with_reducible exact Up.refl _ | with_reducible refine Up.alloc ?_ _ | with_reducible refine Up.drew ?_ | with_reducible refine Up.drewN ?_ _ | (with_reducible refine Up.setCell ?_ (by first | omega | (simp; done) | (simp; omega)) _) | with_reducible assumption | (with_reducible refine Up.trans ?_ (by with_reducible assumption))))).mono ?_); rintro e w1 ⟨rfl, hb1⟩)
        obtain ⟨hr1, hr2, hr3, hr4, hr5, hr6⟩ := hu w1 hb1
        clear hu
        have hy0 := (hb1.cells.1 _ 0 hws).trans hq0
        have hy1 := (hb1.cells.1 _ 1 hws).trans hq1
        have hl1 : b < w1.heap.size := by have := hb1.size; have := hupw.size; omega
        have hl2 : b' < w1.heap.size := by have := hb1.size; have := hupw.size; omega
        have hl3 : b2 < w1.heap.size := by have := hb1.size; have := hupw.size; omega
        have hl4 : w.heap.size < w1.heap.size := by have := hb1.size; omega
        go_wp2
        refine ⟨⟨j + 1, by rfl, by omega, ?_, ?_, ?_, ?_, (by repeat (first | with_reducible exact Up.refl _ | with_reducible refine Up.alloc ?_ _ | with_reducible refine Up.drew ?_ | with_reducible refine Up.drewN ?_ _ | (with_reducible refine Up.setCell ?_ (by first | omega | (simp; done) | (simp; omega)) _) | with_reducible assumption | (with_reducible refine Up.trans ?_ (by with_reducible assumption))))⟩, by simp only [intOf]; omega⟩
        · rw [← E0.out]
        · rw [← E1.out]
        · rw [← E2.out]
        · rw [← E3.out]
      · have hkk : j = m := by omega
        subst hkk
        have hk2 : ¬ (j : Int) < (j : Int) := by omega
        go_wp2
        exact bodyPost_ret (v := .tuple #[.int .i64 (wrap64 (smI R P F 0 j)), .int .i64 (wrap64 (smI R P F 1 j)), .int .i64 (wrap64 (smI R P F 2 j)), .int .i64 (wrap64 (smI R P F 3 j))]) (by simp [results, Try.results88, go_sem]) rfl ⟨rfl, (by repeat (first | with_reducible exact Up.refl _ | with_reducible refine Up.alloc ?_ _ | with_reducible refine Up.drew ?_ | with_reducible refine Up.drewN ?_ _ | (with_reducible refine Up.setCell ?_ (by first | omega | (simp; done) | (simp; omega)) _) | with_reducible assumption | (with_reducible refine Up.trans ?_ (by with_reducible assumption))))⟩
end Go.Proofs.Ytlpbmdoggcclpaa
