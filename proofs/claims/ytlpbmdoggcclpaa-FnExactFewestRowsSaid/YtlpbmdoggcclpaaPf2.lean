/- The walk of the reference's ProofOk. No condition. -/
import Derived.Test.YtlpbmdoggcclpaaPf
import Derived.Deep.QuietTactic
namespace Go.Proofs.Ytlpbmdoggcclpaa
open Go.RowKit
set_option linter.unusedVariables false
set_option maxHeartbeats 4000000 in
set_option maxRecDepth 100000 in
theorem sProofOk_any (u a b : Value) (k n m lo hi lo' hi' lo2 hi2 : Nat) (R P F : Nat → Nat → Int) (w : World) (hs : Sl w lo hi 4 u k (intF R)) (hs' : Sl w lo' hi' 1 a n (intF P)) (hs2 : Sl w lo2 hi2 1 b m (intF F)) (hn : k ≤ 1048576) (hn' : n ≤ 1048576) (hm : m ≤ 1048576) :
    Calls Try.prog 89 #[u, .agg #[a, b]] w fun e w' => e = .returned (.bool (pfOk k n m R P F)) ∧ Up w w' := by
  obtain ⟨hz1, A1, c1, rfl, hc1, hx1⟩ := hs
  obtain ⟨hz2, A2, c2, rfl, hc2, hx2⟩ := hs'
  obtain ⟨hz3, A3, c3, rfl, hc3, hx3⟩ := hs2
  have H1 := Lib.hid hx1
  have H2 := Lib.hid hx2
  have H3 := Lib.hid hx3
  clear hx1 hx2 hx3
  by_cases h40 : k ≤ 40
  rotate_left
  · rw [pf_1 h40]
    have h1 : (40 : Int) < (k : Int) := by omega
    go_enter Try.func89, Try.ntmps89
    go_wp2
    go_ret
    exact ⟨rfl, (by repeat (first | with_reducible exact Up.refl _ | with_reducible refine Up.alloc ?_ _ | with_reducible refine Up.drew ?_ | with_reducible refine Up.drewN ?_ _ | (with_reducible refine Up.setCell ?_ (by first | omega | (simp; done) | (simp; omega)) _) | with_reducible assumption | (with_reducible refine Up.trans ?_ (by with_reducible assumption))))⟩
  have h1 : ¬ (40 : Int) < (k : Int) := by omega
  cases hin : inB 1 (n : Int) 4 with
  | false =>
    rw [pf_3 hin]
    go_enter Try.func89, Try.ntmps89
    go_wp2_with (first | (go_at_call 75; (with_reducible refine (l01In_any _ _ _ _).mono ?_); rintro e w1 ⟨rfl, rfl⟩))
    go_ret
    exact ⟨rfl, (by repeat (first | with_reducible exact Up.refl _ | with_reducible refine Up.alloc ?_ _ | with_reducible refine Up.drew ?_ | with_reducible refine Up.drewN ?_ _ | (with_reducible refine Up.setCell ?_ (by first | omega | (simp; done) | (simp; omega)) _) | with_reducible assumption | (with_reducible refine Up.trans ?_ (by with_reducible assumption))))⟩
  | true =>
  by_cases hmn : m = n
  rotate_left
  · rw [pf_4 hmn]
    have h2 : ((m : Int) != (n : Int)) = true := by rw [bne_iff_ne]; omega
    go_enter Try.func89, Try.ntmps89
    go_wp2_with (first | (go_at_call 75; (with_reducible refine (l01In_any _ _ _ _).mono ?_); rintro e w1 ⟨rfl, rfl⟩))
    go_ret
    exact ⟨rfl, (by repeat (first | with_reducible exact Up.refl _ | with_reducible refine Up.alloc ?_ _ | with_reducible refine Up.drew ?_ | with_reducible refine Up.drewN ?_ _ | (with_reducible refine Up.setCell ?_ (by first | omega | (simp; done) | (simp; omega)) _) | with_reducible assumption | (with_reducible refine Up.trans ?_ (by with_reducible assumption))))⟩
  subst hmn
  obtain ⟨pB, hpB⟩ : ∃ pB, pfOk k m m R P F = pB := ⟨_, rfl⟩
  rw [hpB]
  have HB := Lib.hid hpB
  clear hpB
  go_enter Try.func89, Try.ntmps89
  go_wp2_with (first | (go_at_call 75; (with_reducible refine (l01In_any _ _ _ _).mono ?_); rintro e w1 ⟨rfl, rfl⟩))
  go_loopw [5] (fun i wr => ∃ j : Nat, i = .int .i64 (j : Int) ∧ j ≤ k ∧ Hid (allN (rowR R) j = true) ∧ Up (w.alloc (.cells #[.slice A2 m c2, .slice A3 m c3] 26)) wr) (fun i _ => k - (intOf i).toNat)
  case atStart => exact ⟨0, rfl, Nat.zero_le _, rfl, (by repeat (first | with_reducible exact Up.refl _ | with_reducible refine Up.alloc ?_ _ | with_reducible refine Up.drew ?_ | with_reducible refine Up.drewN ?_ _ | (with_reducible refine Up.setCell ?_ (by first | omega | (simp; done) | (simp; omega)) _) | with_reducible assumption | (with_reducible refine Up.trans ?_ (by with_reducible assumption))))⟩
  case round =>
    obtain ⟨j, rfl, hj, ha, hup⟩ := hrel
    have hupw : Up w wr := Up.trans (Up.alloc (Up.refl w) _) hup
    by_cases hk1 : j < k
    · obtain ⟨b, o, rfl, hb1, hb2, hcs⟩ := H1.out (by omega)
      have hbs2 : b < wr.heap.size := Nat.lt_of_lt_of_le (by omega) hupw.size
      have hg0 : wr.cell? ⟨b, o + j * 4, none⟩ = some (.int .i64 (R j 0)) := (hupw.cells.1 _ _ (by omega)).trans (by simpa [intF, Nat.add_assoc] using hcs j 0 hk1 (by omega))
      have hg1 : wr.cell? ⟨b, o + j * 4 + 1, none⟩ = some (.int .i64 (R j 1)) := (hupw.cells.1 _ _ (by omega)).trans (by simpa [intF, Nat.add_assoc] using hcs j 1 hk1 (by omega))
      have hg2 : wr.cell? ⟨b, o + j * 4 + 2, none⟩ = some (.int .i64 (R j 2)) := (hupw.cells.1 _ _ (by omega)).trans (by simpa [intF, Nat.add_assoc] using hcs j 2 hk1 (by omega))
      have hg3 : wr.cell? ⟨b, o + j * 4 + 3, none⟩ = some (.int .i64 (R j 3)) := (hupw.cells.1 _ _ (by omega)).trans (by simpa [intF, Nat.add_assoc] using hcs j 3 hk1 (by omega))
      clear hcs
      have hk2 : (j : Int) < (k : Int) := by omega
      cases hf : rowB (R j 0) (R j 1) (R j 2) (R j 3) with
      | true =>
        have HA := Lib.hid (allN_step (p := rowR R) ha.out hf)
        go_wp2_with fail
        (go_at_call 55; (with_reducible refine (sRowOk_any _ _ _ _ _).mono ?_); rintro e w1 ⟨rfl, hb1⟩)
        go_wp2
        exact ⟨⟨j + 1, by rfl, by omega, HA, (by repeat (first | with_reducible exact Up.refl _ | with_reducible refine Up.alloc ?_ _ | with_reducible refine Up.drew ?_ | with_reducible refine Up.drewN ?_ _ | (with_reducible refine Up.setCell ?_ (by first | omega | (simp; done) | (simp; omega)) _) | with_reducible assumption | (with_reducible refine Up.trans ?_ (by with_reducible assumption))))⟩, by simp only [intOf]; omega⟩
      | false =>
        have e1 := pf_2 (k := k) (n := m) (m := m) (P := P) (F := F) (allN_false (p := rowR R) hk1 hf)
        rw [HB.out] at e1
        subst e1
        go_wp2_with fail
        (go_at_call 55; (with_reducible refine (sRowOk_any _ _ _ _ _).mono ?_); rintro e w1 ⟨rfl, hb1⟩)
        go_wp2
        go_ret
        exact ⟨rfl, (by repeat (first | with_reducible exact Up.refl _ | with_reducible refine Up.alloc ?_ _ | with_reducible refine Up.drew ?_ | with_reducible refine Up.drewN ?_ _ | (with_reducible refine Up.setCell ?_ (by first | omega | (simp; done) | (simp; omega)) _) | with_reducible assumption | (with_reducible refine Up.trans ?_ (by with_reducible assumption))))⟩
    · have hkk : j = k := by omega
      subst hkk
      have hws : w.heap.size < wr.heap.size := Nat.lt_of_lt_of_le (by simp) hup.size
      have hq0 : wr.cell? ⟨w.heap.size, 0, none⟩ = some (.slice A2 m c2) := (hup.cells.1 _ _ (by simp)).trans (by simp [World.cell?_alloc_mark])
      have hq1 : wr.cell? ⟨w.heap.size, 1, none⟩ = some (.slice A3 m c3) := (hup.cells.1 _ _ (by simp)).trans (by simp [World.cell?_alloc_mark])
      obtain ⟨wo, rfl⟩ : ∃ wo : World, wo = wr := ⟨_, rfl⟩
      go_wp2
      go_loopw [6] (fun i wr => ∃ q : Nat, i = .int .i64 (q : Int) ∧ q ≤ m ∧ Hid (allN (ascI 0 ((j : Int) - 1) P) q = true) ∧ Hid (allN (facI F) q = true) ∧ Up wo wr) (fun i _ => m - (intOf i).toNat)
      case atStart => exact ⟨0, rfl, Nat.zero_le _, rfl, rfl, (by repeat (first | with_reducible exact Up.refl _ | with_reducible refine Up.alloc ?_ _ | with_reducible refine Up.drew ?_ | with_reducible refine Up.drewN ?_ _ | (with_reducible refine Up.setCell ?_ (by first | omega | (simp; done) | (simp; omega)) _) | with_reducible assumption | (with_reducible refine Up.trans ?_ (by with_reducible assumption))))⟩
      case round =>
        obtain ⟨q, rfl, hq, ha1, ha2, hup2⟩ := hrel
        have hup3 : Up w wr := hupw.trans hup2
        have hws2 : w.heap.size < wr.heap.size := Nat.lt_of_lt_of_le hws hup2.size
        have hr0 := (hup2.cells.1 _ 0 hws).trans hq0
        have hr1 := (hup2.cells.1 _ 1 hws).trans hq1
        by_cases hk1 : q < m
        · obtain ⟨b, o, rfl, hb1, hb2, hcs⟩ := H2.out (by omega)
          obtain ⟨b', o', rfl, hb1', hb2', hcs'⟩ := H3.out (by omega)
          have hbs2 : b < wr.heap.size := Nat.lt_of_lt_of_le (by omega) hup3.size
          have hbs2' : b' < wr.heap.size := Nat.lt_of_lt_of_le (by omega) hup3.size
          have hg0 : wr.cell? ⟨b, o + q, none⟩ = some (.int .i64 (P q 0)) := (hup3.cells.1 _ _ (by omega)).trans (Sl.int hcs hk1)
          have hh0 : wr.cell? ⟨b', o' + q, none⟩ = some (.int .i64 (F q 0)) := (hup3.cells.1 _ _ (by omega)).trans (Sl.int hcs' hk1)
          have hk2 : (q : Int) < (m : Int) := by omega
          have hwj : IntKind.i64.wrap ((j : Int) - 1) = (j : Int) - 1 := by rw [IntKind.wrap_i64]; omega
          cases hi2 : inB 0 (P q 0) ((j : Int) - 1) with
          | false =>
            have e1 := pf_5 (k := j) (m := m) (R := R) (F := F) (allN_false (p := ascI 0 ((j : Int) - 1) P) hk1 (by rw [ascI, hi2]; rfl))
            rw [HB.out] at e1
            subst e1
            have HT1 : ∀ W : World, Calls Try.prog 75 #[.int .i64 (P q 0), .int .i64 0, .int .i64 ((j : Int) - 1)] W (fun e w' => e = .returned (.bool false) ∧ W = w') := fun W => by have hh := l01In_any (P q 0) 0 ((j : Int) - 1) W; rw [hi2] at hh; exact hh
            clear hcs hcs' hi2
            go_wp2_with fail
            go_quiet ((go_at_call 75; (with_reducible refine (HT1 _).mono ?_); exact fun _ _ hh => ⟨hh.1, _, hh.2.symm⟩))
            go_wp2
            go_ret
            exact ⟨rfl, (by repeat (first | with_reducible exact Up.refl _ | with_reducible refine Up.alloc ?_ _ | with_reducible refine Up.drew ?_ | with_reducible refine Up.drewN ?_ _ | (with_reducible refine Up.setCell ?_ (by first | omega | (simp; done) | (simp; omega)) _) | with_reducible assumption | (with_reducible refine Up.trans ?_ (by with_reducible assumption))))⟩
          | true =>
            rcases Nat.eq_zero_or_pos q with hj0 | hj0
            · subst hj0
              have hg00 : wr.cell? ⟨b, o, none⟩ = some (.int .i64 (P 0 0)) := by simpa using hg0
              have hh00 : wr.cell? ⟨b', o', none⟩ = some (.int .i64 (F 0 0)) := by simpa using hh0
              have HA1 := Lib.hid (allN_step (p := ascI 0 ((j : Int) - 1) P) ha1.out (by rw [ascI, hi2]; rfl))
              have HT1 : ∀ W : World, Calls Try.prog 75 #[.int .i64 (P 0 0), .int .i64 0, .int .i64 ((j : Int) - 1)] W (fun e w' => e = .returned (.bool true) ∧ W = w') := fun W => by have hh := l01In_any (P 0 0) 0 ((j : Int) - 1) W; rw [hi2] at hh; exact hh
              clear hcs hcs' hi2
              cases hfa : inB 1 (F 0 0) 1000000 with
              | false =>
                have e1 := pf_6 (k := j) (m := m) (R := R) (P := P) (allN_false (p := facI F) hk1 hfa)
                rw [HB.out] at e1
                subst e1
                have HT2 : ∀ W : World, Calls Try.prog 75 #[.int .i64 (F 0 0), .int .i64 1, .int .i64 (1000000)] W (fun e w' => e = .returned (.bool false) ∧ W = w') := fun W => by have hh := l01In_any (F 0 0) 1 (1000000) W; rw [hfa] at hh; exact hh
                clear hfa
                go_wp2_with fail
                go_quiet ((first | (go_at_call 75; (with_reducible refine (HT1 _).mono ?_); exact fun _ _ hh => ⟨hh.1, _, hh.2.symm⟩) | (go_at_call 75; (with_reducible refine (HT2 _).mono ?_); exact fun _ _ hh => ⟨hh.1, _, hh.2.symm⟩)))
                go_wp2
                go_ret
                exact ⟨rfl, (by repeat (first | with_reducible exact Up.refl _ | with_reducible refine Up.alloc ?_ _ | with_reducible refine Up.drew ?_ | with_reducible refine Up.drewN ?_ _ | (with_reducible refine Up.setCell ?_ (by first | omega | (simp; done) | (simp; omega)) _) | with_reducible assumption | (with_reducible refine Up.trans ?_ (by with_reducible assumption))))⟩
              | true =>
                have HA2 := Lib.hid (allN_step (p := facI F) ha2.out hfa)
                have HT2 : ∀ W : World, Calls Try.prog 75 #[.int .i64 (F 0 0), .int .i64 1, .int .i64 (1000000)] W (fun e w' => e = .returned (.bool true) ∧ W = w') := fun W => by have hh := l01In_any (F 0 0) 1 (1000000) W; rw [hfa] at hh; exact hh
                clear hfa
                go_wp2_with fail
                go_quiet ((first | (go_at_call 75; (with_reducible refine (HT1 _).mono ?_); exact fun _ _ hh => ⟨hh.1, _, hh.2.symm⟩) | (go_at_call 75; (with_reducible refine (HT2 _).mono ?_); exact fun _ _ hh => ⟨hh.1, _, hh.2.symm⟩)))
                go_wp2
                exact ⟨⟨1, by rfl, by omega, HA1, HA2, (by repeat (first | with_reducible exact Up.refl _ | with_reducible refine Up.alloc ?_ _ | with_reducible refine Up.drew ?_ | with_reducible refine Up.drewN ?_ _ | (with_reducible refine Up.setCell ?_ (by first | omega | (simp; done) | (simp; omega)) _) | with_reducible assumption | (with_reducible refine Up.trans ?_ (by with_reducible assumption))))⟩, by simp only [intOf]; omega⟩
            · obtain ⟨p, rfl⟩ : ∃ p, q = p + 1 := ⟨q - 1, by omega⟩
              have hg1 : wr.cell? ⟨b, o + p, none⟩ = some (.int .i64 (P p 0)) := (hup3.cells.1 _ _ (by omega)).trans (Sl.int hcs (by omega))
              have hp1 : (p : Int) < (m : Int) := by omega
              have hp3 : (p : Int) + 1 < (m : Int) := by omega
              have hp2 : (0 : Int) < (p : Int) + 1 := by omega
              have hwp : IntKind.i64.wrap (p : Int) = (p : Int) := by rw [IntKind.wrap_i64]; omega
              clear hcs hcs'
              have HT1 : ∀ W : World, Calls Try.prog 75 #[.int .i64 (P (p + 1) 0), .int .i64 0, .int .i64 ((j : Int) - 1)] W (fun e w' => e = .returned (.bool true) ∧ W = w') := fun W => by have hh := l01In_any (P (p + 1) 0) 0 ((j : Int) - 1) W; rw [hi2] at hh; exact hh
              by_cases hle : P (p + 1) 0 ≤ P p 0
              · have e1 := pf_5 (k := j) (m := m) (R := R) (F := F) (allN_false (p := ascI 0 ((j : Int) - 1) P) hk1 (by rw [ascI, hi2]; simp [hle]))
                rw [HB.out] at e1
                subst e1
                have hd := decide_eq_true hle
                clear hi2
                go_wp2_with fail
                go_quiet ((go_at_call 75; (with_reducible refine (HT1 _).mono ?_); exact fun _ _ hh => ⟨hh.1, _, hh.2.symm⟩))
                go_wp2
                go_ret
                exact ⟨rfl, (by repeat (first | with_reducible exact Up.refl _ | with_reducible refine Up.alloc ?_ _ | with_reducible refine Up.drew ?_ | with_reducible refine Up.drewN ?_ _ | (with_reducible refine Up.setCell ?_ (by first | omega | (simp; done) | (simp; omega)) _) | with_reducible assumption | (with_reducible refine Up.trans ?_ (by with_reducible assumption))))⟩
              · have HA1 := Lib.hid (allN_step (p := ascI 0 ((j : Int) - 1) P) ha1.out (by rw [ascI, hi2]; simp; omega))
                have hd := decide_eq_false hle
                clear hi2
                cases hfa : inB 1 (F (p + 1) 0) 1000000 with
                | false =>
                  have e1 := pf_6 (k := j) (m := m) (R := R) (P := P) (allN_false (p := facI F) hk1 hfa)
                  rw [HB.out] at e1
                  subst e1
                  have HT2 : ∀ W : World, Calls Try.prog 75 #[.int .i64 (F (p + 1) 0), .int .i64 1, .int .i64 (1000000)] W (fun e w' => e = .returned (.bool false) ∧ W = w') := fun W => by have hh := l01In_any (F (p + 1) 0) 1 (1000000) W; rw [hfa] at hh; exact hh
                  clear hfa
                  go_wp2_with fail
                  go_quiet ((first | (go_at_call 75; (with_reducible refine (HT1 _).mono ?_); exact fun _ _ hh => ⟨hh.1, _, hh.2.symm⟩) | (go_at_call 75; (with_reducible refine (HT2 _).mono ?_); exact fun _ _ hh => ⟨hh.1, _, hh.2.symm⟩)))
                  go_wp2
                  go_ret
                  exact ⟨rfl, (by repeat (first | with_reducible exact Up.refl _ | with_reducible refine Up.alloc ?_ _ | with_reducible refine Up.drew ?_ | with_reducible refine Up.drewN ?_ _ | (with_reducible refine Up.setCell ?_ (by first | omega | (simp; done) | (simp; omega)) _) | with_reducible assumption | (with_reducible refine Up.trans ?_ (by with_reducible assumption))))⟩
                | true =>
                  have HA2 := Lib.hid (allN_step (p := facI F) ha2.out hfa)
                  have HT2 : ∀ W : World, Calls Try.prog 75 #[.int .i64 (F (p + 1) 0), .int .i64 1, .int .i64 (1000000)] W (fun e w' => e = .returned (.bool true) ∧ W = w') := fun W => by have hh := l01In_any (F (p + 1) 0) 1 (1000000) W; rw [hfa] at hh; exact hh
                  clear hfa
                  go_wp2_with fail
                  go_quiet ((first | (go_at_call 75; (with_reducible refine (HT1 _).mono ?_); exact fun _ _ hh => ⟨hh.1, _, hh.2.symm⟩) | (go_at_call 75; (with_reducible refine (HT2 _).mono ?_); exact fun _ _ hh => ⟨hh.1, _, hh.2.symm⟩)))
                  go_wp2
                  exact ⟨⟨p + 1 + 1, by rfl, by omega, HA1, HA2, (by repeat (first | with_reducible exact Up.refl _ | with_reducible refine Up.alloc ?_ _ | with_reducible refine Up.drew ?_ | with_reducible refine Up.drewN ?_ _ | (with_reducible refine Up.setCell ?_ (by first | omega | (simp; done) | (simp; omega)) _) | with_reducible assumption | (with_reducible refine Up.trans ?_ (by with_reducible assumption))))⟩, by simp only [intOf]; omega⟩
        · have hkk : q = m := by omega
          subst hkk
          have e1 := pf_t h40 ha.out hin rfl ha1.out ha2.out
          rw [HB.out] at e1
          subst e1
          go_wp2
          go_ret
          exact ⟨rfl, (by repeat (first | with_reducible exact Up.refl _ | with_reducible refine Up.alloc ?_ _ | with_reducible refine Up.drew ?_ | with_reducible refine Up.drewN ?_ _ | (with_reducible refine Up.setCell ?_ (by first | omega | (simp; done) | (simp; omega)) _) | with_reducible assumption | (with_reducible refine Up.trans ?_ (by with_reducible assumption))))⟩
end Go.Proofs.Ytlpbmdoggcclpaa
