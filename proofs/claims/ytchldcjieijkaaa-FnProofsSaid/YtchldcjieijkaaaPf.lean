/- The walks of ProofOk and what it calls. No condition. -/
import Derived.Test.YtchldcjieijkaaaRw
import Derived.Test.YtchldcjieijkaaaInt
namespace Go.Proofs.Ytchldcjieijkaaa
open Go.RowKit
set_option linter.unusedVariables false
def rowR (R : Nat → Nat → Int) (i : Nat) : Bool := rowB (R i 0) (R i 1) (R i 2) (R i 3)
/-- Number i is in the range and above the one ahead of it. -/
def ascI (lo hi : Int) (P : Nat → Nat → Int) (i : Nat) : Bool := inB lo (P i 0) hi && !(decide (0 < i) && decide (P i 0 ≤ P (i - 1) 0))
def facI (F : Nat → Nat → Int) (i : Nat) : Bool := inB 1 (F i 0) 1000000
/-- ProofOk. -/
def pfOk (k n m : Nat) (R P F : Nat → Nat → Int) : Bool := decide (k ≤ 40) && allN (rowR R) k && inB 1 (n : Int) 4 && decide (m = n) && allN (ascI 0 ((k : Int) - 1) P) n && allN (facI F) n
theorem pf_1 {k n m : Nat} {R P F : Nat → Nat → Int} (h : ¬ k ≤ 40) : pfOk k n m R P F = false := by simp [pfOk, h]
theorem pf_2 {k n m : Nat} {R P F : Nat → Nat → Int} (h : allN (rowR R) k = false) : pfOk k n m R P F = false := by simp [pfOk, h]
theorem pf_3 {k n m : Nat} {R P F : Nat → Nat → Int} (h : inB 1 (n : Int) 4 = false) : pfOk k n m R P F = false := by simp [pfOk, h]
theorem pf_4 {k n m : Nat} {R P F : Nat → Nat → Int} (h : ¬ m = n) : pfOk k n m R P F = false := by simp [pfOk, h]
theorem pf_5 {k n m : Nat} {R P F : Nat → Nat → Int} (h : allN (ascI 0 ((k : Int) - 1) P) n = false) : pfOk k n m R P F = false := by simp [pfOk, h]
theorem pf_6 {k n m : Nat} {R P F : Nat → Nat → Int} (h : allN (facI F) n = false) : pfOk k n m R P F = false := by simp [pfOk, h]
theorem pf_t {k n m : Nat} {R P F : Nat → Nat → Int} (h1 : k ≤ 40) (h2 : allN (rowR R) k = true) (h3 : inB 1 (n : Int) 4 = true) (h4 : m = n) (h5 : allN (ascI 0 ((k : Int) - 1) P) n = true) (h6 : allN (facI F) n = true) : pfOk k n m R P F = true := by simp [pfOk, h1, h2, h3, h4, h5, h6]
set_option maxRecDepth 100000 in
theorem rowsOk_sl (u : Value) (k lo hi : Nat) (R : Nat → Nat → Int) (w : World) (hs : Sl w lo hi 4 u k (intF R)) (hn : k ≤ 1048576) : Calls Try.prog 17 #[u] w fun e w' => e = .returned (.bool (allN (rowR R) k)) ∧ Up w w' := by
  obtain ⟨h0, A, c, rfl, hc, hx⟩ := hs
  have H := Lib.hid hx
  clear hx
  go_enter Try.func17, Try.ntmps17
  go_wp2
  go_loopw [7] (fun i wr => ∃ j : Nat, i = .int .i64 (j : Int) ∧ j ≤ k ∧ Hid (allN (rowR R) j = true) ∧ Up w wr) (fun i _ => k - (intOf i).toNat)
  case atStart => exact ⟨0, rfl, Nat.zero_le _, rfl, (by repeat (first | with_reducible exact Up.refl _ | with_reducible refine Up.alloc ?_ _ | with_reducible refine Up.drew ?_ | with_reducible refine Up.drewN ?_ _ | (with_reducible refine Up.setCell ?_ (by first | omega | (simp; done) | (simp; omega)) _) | with_reducible assumption | (with_reducible refine Up.trans ?_ (by with_reducible assumption))))⟩
  case round =>
    obtain ⟨j, rfl, hj, ha, hup⟩ := hrel
    by_cases hk1 : j < k
    · obtain ⟨b, o, rfl, hb1, hb2, hcs⟩ := H.out (by omega)
      have hbs2 : b < wr.heap.size := Nat.lt_of_lt_of_le (by omega) hup.size
      have hg0 : wr.cell? ⟨b, o + j * 4, none⟩ = some (.int .i64 (R j 0)) := (hup.cells.1 _ _ (by omega)).trans (by simpa [intF, Nat.add_assoc] using hcs j 0 hk1 (by omega))
      have hg1 : wr.cell? ⟨b, o + j * 4 + 1, none⟩ = some (.int .i64 (R j 1)) := (hup.cells.1 _ _ (by omega)).trans (by simpa [intF, Nat.add_assoc] using hcs j 1 hk1 (by omega))
      have hg2 : wr.cell? ⟨b, o + j * 4 + 2, none⟩ = some (.int .i64 (R j 2)) := (hup.cells.1 _ _ (by omega)).trans (by simpa [intF, Nat.add_assoc] using hcs j 2 hk1 (by omega))
      have hg3 : wr.cell? ⟨b, o + j * 4 + 3, none⟩ = some (.int .i64 (R j 3)) := (hup.cells.1 _ _ (by omega)).trans (by simpa [intF, Nat.add_assoc] using hcs j 3 hk1 (by omega))
      clear hcs
      cases hf : rowB (R j 0) (R j 1) (R j 2) (R j 3) with
      | true =>
        have HA := Lib.hid (allN_step (p := rowR R) ha.out hf)
        go_wp2_with fail
        (go_at_call 29; (with_reducible refine (RowOk_any _ _ _ _ _).mono ?_); rintro e w1 ⟨rfl, hb1⟩)
        go_wp2
        exact ⟨⟨j + 1, by rfl, by omega, HA, (by repeat (first | with_reducible exact Up.refl _ | with_reducible refine Up.alloc ?_ _ | with_reducible refine Up.drew ?_ | with_reducible refine Up.drewN ?_ _ | (with_reducible refine Up.setCell ?_ (by first | omega | (simp; done) | (simp; omega)) _) | with_reducible assumption | (with_reducible refine Up.trans ?_ (by with_reducible assumption))))⟩, by simp only [intOf]; omega⟩
      | false =>
        have HA := Lib.hid (allN_false (p := rowR R) hk1 hf)
        go_wp2_with fail
        (go_at_call 29; (with_reducible refine (RowOk_any _ _ _ _ _).mono ?_); rintro e w1 ⟨rfl, hb1⟩)
        go_wp2
        go_ret
        exact ⟨by rw [HA.out]; rfl, (by repeat (first | with_reducible exact Up.refl _ | with_reducible refine Up.alloc ?_ _ | with_reducible refine Up.drew ?_ | with_reducible refine Up.drewN ?_ _ | (with_reducible refine Up.setCell ?_ (by first | omega | (simp; done) | (simp; omega)) _) | with_reducible assumption | (with_reducible refine Up.trans ?_ (by with_reducible assumption))))⟩
    · have hkk : j = k := by omega
      subst hkk
      go_wp2
      go_ret
      exact ⟨by rw [ha.out]; rfl, (by repeat (first | with_reducible exact Up.refl _ | with_reducible refine Up.alloc ?_ _ | with_reducible refine Up.drew ?_ | with_reducible refine Up.drewN ?_ _ | (with_reducible refine Up.setCell ?_ (by first | omega | (simp; done) | (simp; omega)) _) | with_reducible assumption | (with_reducible refine Up.trans ?_ (by with_reducible assumption))))⟩
set_option maxRecDepth 100000 in
theorem ascending_sl (u : Value) (n lo hi : Nat) (P : Nat → Nat → Int) (l h : Int) (w : World) (hs : Sl w lo hi 1 u n (intF P)) (hn : n ≤ 1048576) : Calls Try.prog 18 #[u, .int .i64 l, .int .i64 h] w fun e w' => e = .returned (.bool (allN (ascI l h P) n)) ∧ w = w' := by
  obtain ⟨h0, A, c, rfl, hc, hx⟩ := hs
  have H := Lib.hid hx
  clear hx
  go_enter Try.func18, Try.ntmps18
  go_wp2
  go_loop [11] (fun i => ∃ j : Nat, i = .int .i64 (j : Int) ∧ j ≤ n ∧ Hid (allN (ascI l h P) j = true)) (fun i => n - (intOf i).toNat)
  case atStart => exact ⟨0, rfl, Nat.zero_le _, rfl⟩
  case round =>
    obtain ⟨j, rfl, hj, ha⟩ := hrel
    by_cases hk1 : j < n
    · obtain ⟨b, o, rfl, hb1, hb2, hcs⟩ := H.out (by omega)
      have hbs : b < w.heap.size := by omega
      have hg0 : w.cell? ⟨b, o + j, none⟩ = some (.int .i64 (P j 0)) := Sl.int hcs hk1
      have hk2 : (j : Int) < (n : Int) := by omega
      cases hin : inB l (P j 0) h with
      | false =>
        have HA := Lib.hid (allN_false (p := ascI l h P) hk1 (by rw [ascI, hin]; rfl))
        clear hcs
        go_wp2_with (first | (go_at_call 16; (with_reducible refine (within_any _ _ _ _).mono ?_); rintro e w1 ⟨rfl, rfl⟩))
        go_ret
        exact ⟨by rw [HA.out]; rfl, rfl⟩
      | true =>
        rcases Nat.eq_zero_or_pos j with hj0 | hj0
        · subst hj0
          have hg00 : w.cell? ⟨b, o, none⟩ = some (.int .i64 (P 0 0)) := by simpa using hg0
          have HA := Lib.hid (allN_step (p := ascI l h P) ha.out (by rw [ascI, hin]; rfl))
          clear hcs
          go_wp2_with (first | (go_at_call 16; (with_reducible refine (within_any _ _ _ _).mono ?_); rintro e w1 ⟨rfl, rfl⟩))
          exact ⟨⟨1, by rfl, by omega, HA⟩, by simp only [intOf]; omega⟩
        · obtain ⟨q, rfl⟩ : ∃ q, j = q + 1 := ⟨j - 1, by omega⟩
          have hg1 : w.cell? ⟨b, o + q, none⟩ = some (.int .i64 (P q 0)) := Sl.int hcs (by omega)
          have hq1 : (q : Int) < (n : Int) := by omega
          have hq2 : (0 : Int) < (q : Int) + 1 := by omega
          clear hcs
          by_cases hle : P (q + 1) 0 ≤ P q 0
          · have HA := Lib.hid (allN_false (p := ascI l h P) hk1 (by rw [ascI, hin]; simp [hle]))
            go_wp2_with (first | (go_at_call 16; (with_reducible refine (within_any _ _ _ _).mono ?_); rintro e w1 ⟨rfl, rfl⟩))
            go_ret
            exact ⟨by rw [HA.out]; rfl, rfl⟩
          · have HA := Lib.hid (allN_step (p := ascI l h P) ha.out (by rw [ascI, hin]; simp; omega))
            go_wp2_with (first | (go_at_call 16; (with_reducible refine (within_any _ _ _ _).mono ?_); rintro e w1 ⟨rfl, rfl⟩))
            exact ⟨⟨q + 1 + 1, by rfl, by omega, HA⟩, by simp only [intOf]; omega⟩
    · have hkk : j = n := by omega
      subst hkk
      go_wp2
      go_ret
      exact ⟨by rw [ha.out]; rfl, rfl⟩
set_option maxHeartbeats 1000000 in
set_option maxRecDepth 100000 in
theorem ProofOk_any (u a b : Value) (k n m lo hi lo' hi' lo2 hi2 : Nat) (R P F : Nat → Nat → Int) (w : World) (hs : Sl w lo hi 4 u k (intF R)) (hs' : Sl w lo' hi' 1 a n (intF P)) (hs2 : Sl w lo2 hi2 1 b m (intF F)) (hn : k ≤ 1048576) (hn' : n ≤ 1048576) (hm : m ≤ 1048576) :
    Calls Try.prog 10 #[u, .agg #[a, b]] w fun e w' => e = .returned (.bool (pfOk k n m R P F)) ∧ Up w w' := by
  have hR := fun W (hu : Up w W) => rowsOk_sl u k lo hi R W (hs.up hu) hn
  have hA := fun W (hu : Up w W) l h => ascending_sl a n lo' hi' P l h W (hs'.up hu) hn'
  obtain ⟨_, A1, c1, rfl, hc1, hx1⟩ := hs
  obtain ⟨_, A2, c2, rfl, hc2, hx2⟩ := hs'
  obtain ⟨hz3, A3, c3, rfl, hc3, hx3⟩ := hs2
  have H := Lib.hid hx3
  clear hx1 hx2 hx3
  by_cases h40 : k ≤ 40
  rotate_left
  · rw [pf_1 h40]
    have h1 : (40 : Int) < (k : Int) := by omega
    go_enter Try.func10, Try.ntmps10
    go_wp2
    go_ret
    exact ⟨rfl, (by repeat (first | with_reducible exact Up.refl _ | with_reducible refine Up.alloc ?_ _ | with_reducible refine Up.drew ?_ | with_reducible refine Up.drewN ?_ _ | (with_reducible refine Up.setCell ?_ (by first | omega | (simp; done) | (simp; omega)) _) | with_reducible assumption | (with_reducible refine Up.trans ?_ (by with_reducible assumption))))⟩
  have h1 : ¬ (40 : Int) < (k : Int) := by omega
  cases hr : allN (rowR R) k with
  | false =>
    rw [pf_2 hr]
    have HRo : ∀ W, Up w W → Calls Try.prog 17 #[.slice A1 k c1] W fun e w' => e = .returned (.bool false) ∧ Up W w' := fun W hu => by have hh := hR W hu; rw [hr] at hh; exact hh
    clear hr hR
    go_enter Try.func10, Try.ntmps10
    go_wp2_with fail
    (go_at_call 17; (with_reducible refine (HRo _ (by repeat (first | with_reducible exact Up.refl _ | with_reducible refine Up.alloc ?_ _ | with_reducible refine Up.drew ?_ | with_reducible refine Up.drewN ?_ _ | (with_reducible refine Up.setCell ?_ (by first | omega | (simp; done) | (simp; omega)) _) | with_reducible assumption | (with_reducible refine Up.trans ?_ (by with_reducible assumption))))).mono ?_); rintro e w1 ⟨rfl, hb1⟩)
    go_wp2
    go_ret
    exact ⟨rfl, (by repeat (first | with_reducible exact Up.refl _ | with_reducible refine Up.alloc ?_ _ | with_reducible refine Up.drew ?_ | with_reducible refine Up.drewN ?_ _ | (with_reducible refine Up.setCell ?_ (by first | omega | (simp; done) | (simp; omega)) _) | with_reducible assumption | (with_reducible refine Up.trans ?_ (by with_reducible assumption))))⟩
  | true =>
  have HRo : ∀ W, Up w W → Calls Try.prog 17 #[.slice A1 k c1] W fun e w' => e = .returned (.bool true) ∧ Up W w' := fun W hu => by have hh := hR W hu; rw [hr] at hh; exact hh
  clear hR
  have HR := Lib.hid hr
  clear hr
  cases hin : inB 1 (n : Int) 4 with
  | false =>
    rw [pf_3 hin]
    go_enter Try.func10, Try.ntmps10
    go_wp2_with fail
    (go_at_call 17; (with_reducible refine (HRo _ (by repeat (first | with_reducible exact Up.refl _ | with_reducible refine Up.alloc ?_ _ | with_reducible refine Up.drew ?_ | with_reducible refine Up.drewN ?_ _ | (with_reducible refine Up.setCell ?_ (by first | omega | (simp; done) | (simp; omega)) _) | with_reducible assumption | (with_reducible refine Up.trans ?_ (by with_reducible assumption))))).mono ?_); rintro e w1 ⟨rfl, hb1⟩)
    have hq0 : w1.cell? ⟨w.heap.size, 0, none⟩ = some (.slice A2 n c2) := (hb1.cells.1 _ _ (by simp)).trans (by simp [World.cell?_alloc_mark])
    have hq1 : w1.cell? ⟨w.heap.size, 1, none⟩ = some (.slice A3 m c3) := (hb1.cells.1 _ _ (by simp)).trans (by simp [World.cell?_alloc_mark])
    go_wp2_with (first | (go_at_call 16; (with_reducible refine (within_any _ _ _ _).mono ?_); rintro e w1 ⟨rfl, rfl⟩))
    go_ret
    exact ⟨rfl, (by repeat (first | with_reducible exact Up.refl _ | with_reducible refine Up.alloc ?_ _ | with_reducible refine Up.drew ?_ | with_reducible refine Up.drewN ?_ _ | (with_reducible refine Up.setCell ?_ (by first | omega | (simp; done) | (simp; omega)) _) | with_reducible assumption | (with_reducible refine Up.trans ?_ (by with_reducible assumption))))⟩
  | true =>
  cases has : allN (ascI 0 ((k : Int) - 1) P) n with
  | false =>
    rw [pf_5 has]
    have HAo : ∀ W, Up w W → Calls Try.prog 18 #[.slice A2 n c2, .int .i64 0, .int .i64 ((k : Int) - 1)] W fun e w' => e = .returned (.bool false) ∧ W = w' := fun W hu => by have hh := hA W hu 0 ((k : Int) - 1); rw [has] at hh; exact hh
    clear has hA
    go_enter Try.func10, Try.ntmps10
    go_wp2_with fail
    (go_at_call 17; (with_reducible refine (HRo _ (by repeat (first | with_reducible exact Up.refl _ | with_reducible refine Up.alloc ?_ _ | with_reducible refine Up.drew ?_ | with_reducible refine Up.drewN ?_ _ | (with_reducible refine Up.setCell ?_ (by first | omega | (simp; done) | (simp; omega)) _) | with_reducible assumption | (with_reducible refine Up.trans ?_ (by with_reducible assumption))))).mono ?_); rintro e w1 ⟨rfl, hb1⟩)
    have hq0 : w1.cell? ⟨w.heap.size, 0, none⟩ = some (.slice A2 n c2) := (hb1.cells.1 _ _ (by simp)).trans (by simp [World.cell?_alloc_mark])
    have hq1 : w1.cell? ⟨w.heap.size, 1, none⟩ = some (.slice A3 m c3) := (hb1.cells.1 _ _ (by simp)).trans (by simp [World.cell?_alloc_mark])
    have hw1 : Up w w1 := (by repeat (first | with_reducible exact Up.refl _ | with_reducible refine Up.alloc ?_ _ | with_reducible refine Up.drew ?_ | with_reducible refine Up.drewN ?_ _ | (with_reducible refine Up.setCell ?_ (by first | omega | (simp; done) | (simp; omega)) _) | with_reducible assumption | (with_reducible refine Up.trans ?_ (by with_reducible assumption))))
    go_wp2_with (first | (go_at_call 16; (with_reducible refine (within_any _ _ _ _).mono ?_); rintro e w1 ⟨rfl, rfl⟩) | (go_at_call 18; (with_reducible refine (HAo _ hw1).mono ?_); rintro e w1 ⟨rfl, rfl⟩))
    go_ret
    exact ⟨rfl, (by repeat (first | with_reducible exact Up.refl _ | with_reducible refine Up.alloc ?_ _ | with_reducible refine Up.drew ?_ | with_reducible refine Up.drewN ?_ _ | (with_reducible refine Up.setCell ?_ (by first | omega | (simp; done) | (simp; omega)) _) | with_reducible assumption | (with_reducible refine Up.trans ?_ (by with_reducible assumption))))⟩
  | true =>
  have HAo : ∀ W, Up w W → Calls Try.prog 18 #[.slice A2 n c2, .int .i64 0, .int .i64 ((k : Int) - 1)] W fun e w' => e = .returned (.bool true) ∧ W = w' := fun W hu => by have hh := hA W hu 0 ((k : Int) - 1); rw [has] at hh; exact hh
  clear hA
  have HS := Lib.hid has
  clear has
  by_cases hmn : m = n
  rotate_left
  · rw [pf_4 hmn]
    have h2 : ((m : Int) != (n : Int)) = true := by rw [bne_iff_ne]; omega
    go_enter Try.func10, Try.ntmps10
    go_wp2_with fail
    (go_at_call 17; (with_reducible refine (HRo _ (by repeat (first | with_reducible exact Up.refl _ | with_reducible refine Up.alloc ?_ _ | with_reducible refine Up.drew ?_ | with_reducible refine Up.drewN ?_ _ | (with_reducible refine Up.setCell ?_ (by first | omega | (simp; done) | (simp; omega)) _) | with_reducible assumption | (with_reducible refine Up.trans ?_ (by with_reducible assumption))))).mono ?_); rintro e w1 ⟨rfl, hb1⟩)
    have hq0 : w1.cell? ⟨w.heap.size, 0, none⟩ = some (.slice A2 n c2) := (hb1.cells.1 _ _ (by simp)).trans (by simp [World.cell?_alloc_mark])
    have hq1 : w1.cell? ⟨w.heap.size, 1, none⟩ = some (.slice A3 m c3) := (hb1.cells.1 _ _ (by simp)).trans (by simp [World.cell?_alloc_mark])
    have hw1 : Up w w1 := (by repeat (first | with_reducible exact Up.refl _ | with_reducible refine Up.alloc ?_ _ | with_reducible refine Up.drew ?_ | with_reducible refine Up.drewN ?_ _ | (with_reducible refine Up.setCell ?_ (by first | omega | (simp; done) | (simp; omega)) _) | with_reducible assumption | (with_reducible refine Up.trans ?_ (by with_reducible assumption))))
    go_wp2_with (first | (go_at_call 16; (with_reducible refine (within_any _ _ _ _).mono ?_); rintro e w1 ⟨rfl, rfl⟩) | (go_at_call 18; (with_reducible refine (HAo _ hw1).mono ?_); rintro e w1 ⟨rfl, rfl⟩))
    go_ret
    exact ⟨rfl, (by repeat (first | with_reducible exact Up.refl _ | with_reducible refine Up.alloc ?_ _ | with_reducible refine Up.drew ?_ | with_reducible refine Up.drewN ?_ _ | (with_reducible refine Up.setCell ?_ (by first | omega | (simp; done) | (simp; omega)) _) | with_reducible assumption | (with_reducible refine Up.trans ?_ (by with_reducible assumption))))⟩
  · subst hmn
    obtain ⟨pB, hpB⟩ : ∃ pB, pfOk k m m R P F = pB := ⟨_, rfl⟩
    rw [hpB]
    have HB := Lib.hid hpB
    clear hpB
    go_enter Try.func10, Try.ntmps10
    go_wp2_with fail
    (go_at_call 17; (with_reducible refine (HRo _ (by repeat (first | with_reducible exact Up.refl _ | with_reducible refine Up.alloc ?_ _ | with_reducible refine Up.drew ?_ | with_reducible refine Up.drewN ?_ _ | (with_reducible refine Up.setCell ?_ (by first | omega | (simp; done) | (simp; omega)) _) | with_reducible assumption | (with_reducible refine Up.trans ?_ (by with_reducible assumption))))).mono ?_); rintro e w1 ⟨rfl, hb1⟩)
    have hq0 : w1.cell? ⟨w.heap.size, 0, none⟩ = some (.slice A2 m c2) := (hb1.cells.1 _ _ (by simp)).trans (by simp [World.cell?_alloc_mark])
    have hq1 : w1.cell? ⟨w.heap.size, 1, none⟩ = some (.slice A3 m c3) := (hb1.cells.1 _ _ (by simp)).trans (by simp [World.cell?_alloc_mark])
    have hw1 : Up w w1 := (by repeat (first | with_reducible exact Up.refl _ | with_reducible refine Up.alloc ?_ _ | with_reducible refine Up.drew ?_ | with_reducible refine Up.drewN ?_ _ | (with_reducible refine Up.setCell ?_ (by first | omega | (simp; done) | (simp; omega)) _) | with_reducible assumption | (with_reducible refine Up.trans ?_ (by with_reducible assumption))))
    go_wp2_with (first | (go_at_call 16; (with_reducible refine (within_any _ _ _ _).mono ?_); rintro e w1 ⟨rfl, rfl⟩) | (go_at_call 18; (with_reducible refine (HAo _ hw1).mono ?_); rintro e w1 ⟨rfl, rfl⟩))
    go_loop [43] (fun i => ∃ j : Nat, i = .int .i64 (j : Int) ∧ j ≤ m ∧ Hid (allN (facI F) j = true)) (fun i => m - (intOf i).toNat)
    case atStart => exact ⟨0, rfl, Nat.zero_le _, rfl⟩
    case round =>
      obtain ⟨j, rfl, hj, ha⟩ := hrel
      by_cases hk1 : j < m
      · obtain ⟨b, o, rfl, hb1', hb2', hcs⟩ := H.out (by omega)
        have hg0 : w1.cell? ⟨b, o + j, none⟩ = some (.int .i64 (F j 0)) := (hw1.cells.1 _ _ (by omega)).trans (Sl.int hcs hk1)
        have hk2 : (j : Int) < (m : Int) := by omega
        clear hcs
        cases hfa : inB 1 (F j 0) 1000000 with
        | false =>
          have e1 := pf_6 (k := k) (m := m) (R := R) (P := P) (allN_false (p := facI F) hk1 hfa)
          rw [HB.out] at e1
          subst e1
          go_wp2_with (first | (go_at_call 16; (with_reducible refine (within_any _ _ _ _).mono ?_); rintro e w1 ⟨rfl, rfl⟩))
          go_ret
          exact ⟨rfl, (by repeat (first | with_reducible exact Up.refl _ | with_reducible refine Up.alloc ?_ _ | with_reducible refine Up.drew ?_ | with_reducible refine Up.drewN ?_ _ | (with_reducible refine Up.setCell ?_ (by first | omega | (simp; done) | (simp; omega)) _) | with_reducible assumption | (with_reducible refine Up.trans ?_ (by with_reducible assumption))))⟩
        | true =>
          have HA := Lib.hid (allN_step (p := facI F) ha.out hfa)
          go_wp2_with (first | (go_at_call 16; (with_reducible refine (within_any _ _ _ _).mono ?_); rintro e w1 ⟨rfl, rfl⟩))
          exact ⟨⟨j + 1, by rfl, by omega, HA⟩, by simp only [intOf]; omega⟩
      · have hkk : j = m := by omega
        subst hkk
        have e1 := pf_t h40 HR.out hin rfl HS.out ha.out
        rw [HB.out] at e1
        subst e1
        go_wp2
        go_ret
        exact ⟨rfl, (by repeat (first | with_reducible exact Up.refl _ | with_reducible refine Up.alloc ?_ _ | with_reducible refine Up.drew ?_ | with_reducible refine Up.drewN ?_ _ | (with_reducible refine Up.setCell ?_ (by first | omega | (simp; done) | (simp; omega)) _) | with_reducible assumption | (with_reducible refine Up.trans ?_ (by with_reducible assumption))))⟩
end Go.Proofs.Ytchldcjieijkaaa
