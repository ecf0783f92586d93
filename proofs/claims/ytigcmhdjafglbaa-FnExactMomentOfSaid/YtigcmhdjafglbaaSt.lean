/- The walks of StoneOk, the program's. No condition. -/
import Derived.Test.YtigcmhdjafglbaaRw
import Derived.Test.YtigcmhdjafglbaaPts
import Derived.Deep.QuietTactic
import Derived.Deep.RegionHeld3
namespace Go.Proofs.Ytigcmhdjafglbaa
open Go.RowKit
set_option linter.unusedVariables false
def ptR (R : Nat → Nat → Int) (i : Nat) : Bool := ptB (R i 0) (R i 1)
/-- The side on which corner c lies of the way from corner a to corner b. -/
def sdR (R : Nat → Nat → Int) (a b c : Nat) : Int := sideI (R a 0) (R a 1) (R b 0) (R b 1) (R c 0) (R c 1)
/-- What StoneOk asks at corner i. -/
def trB (n : Nat) (R : Nat → Nat → Int) (i : Nat) : Bool := decide (0 < sdR R i ((i + 1) % n) ((i + 2) % n)) && !(decide (0 < i) && decide (i + 1 < n) && decide (sdR R 0 i (i + 1) < 0))
def stOk (n : Nat) (R : Nat → Nat → Int) : Bool := inB 3 (n : Int) 6 && allN (ptR R) n && allN (trB n R) n
theorem st_1 {n : Nat} {R : Nat → Nat → Int} (h : inB 3 (n : Int) 6 = false) : stOk n R = false := by simp [stOk, h]
theorem st_2 {n : Nat} {R : Nat → Nat → Int} (h : allN (ptR R) n = false) : stOk n R = false := by simp [stOk, h]
theorem st_3 {n : Nat} {R : Nat → Nat → Int} (h : allN (trB n R) n = false) : stOk n R = false := by simp [stOk, h]
theorem st_t {n : Nat} {R : Nat → Nat → Int} (h1 : inB 3 (n : Int) 6 = true) (h2 : allN (ptR R) n = true) (h3 : allN (trB n R) n = true) : stOk n R = true := by simp [stOk, h1, h2, h3]
theorem Sl.pt {w : World} {b o k n : Nat} {R : Nat → Nat → Int} (h : ∀ i j, i < n → j < 2 → w.cell? ⟨b, o + (i * 2 + j), none⟩ = some (intF R i j)) (hk : k < n) : w.cell? ⟨b, o + k * 2, none⟩ = some (.int .i64 (R k 0)) ∧ w.cell? ⟨b, o + k * 2 + 1, none⟩ = some (.int .i64 (R k 1)) :=
  ⟨by simpa [intF, Nat.add_assoc] using h k 0 hk (by omega), by simpa [intF, Nat.add_assoc] using h k 1 hk (by omega)⟩
theorem sd_bd {x y z t u v : Int} (h1 : ptB x y = true) (h2 : ptB z t = true) (h3 : ptB u v = true) : -28800 ≤ sideI x y z t u v ∧ sideI x y z t u v ≤ 28800 := by
  obtain ⟨a1, a2, a3, a4⟩ := ptB_bd h1
  obtain ⟨b1, b2, b3, b4⟩ := ptB_bd h2
  obtain ⟨c1, c2, c3, c4⟩ := ptB_bd h3
  have e1 := mul_bd (a := z - x) (b := v - y) 120 120 (by omega) (by omega) (by omega) (by omega)
  have e2 := mul_bd (a := t - y) (b := u - x) 120 120 (by omega) (by omega) (by omega) (by omega)
  unfold sideI
  omega
/-- Whether the search of the first bad corner has found one. -/
def FiP (b : Bool) (w : World) (e : Ending) (w' : World) : Prop := ∃ r : Int, e = .returned (.int .i64 r) ∧ decide (0 ≤ r) = b ∧ Up w w'
theorem mod_facts (i k n : Nat) (hi : i < n) (hn : n ≤ 6) (hk : k ≤ 2) : (i + k) % n < n ∧ ((i : Int) + (k : Int)).tmod (n : Int) = (((i + k) % n : Nat) : Int) :=
  ⟨Nat.mod_lt _ (by omega), by rw [Int.tmod_eq_emod_of_nonneg (by omega), ← Int.natCast_add]; rfl⟩
theorem stPt_any (x y : Int) (w : World) : Calls Try.prog 103 #[.agg #[.int .i64 x, .int .i64 y]] w fun e w' => e = .returned (.bool (!ptB x y)) ∧ Up w w' := by
  go_enter Try.func103, Try.ntmps103
  go_wp2_with (first | (go_at_call 104; (with_reducible refine (ptOk_any _ _ _).mono ?_); rintro e w1 ⟨rfl, hb1⟩))
  go_ret
  exact ⟨rfl, (by repeat (first | with_reducible exact Up.refl _ | with_reducible refine Up.alloc ?_ _ | with_reducible refine Up.drew ?_ | with_reducible refine Up.drewN ?_ _ | (with_reducible refine Up.setCell ?_ (by first | omega | (simp; done) | (simp; omega)) _) | with_reducible assumption | (with_reducible refine Up.trans ?_ (by with_reducible assumption))))⟩
set_option maxRecDepth 100000 in
theorem idxPt_any (u : Value) (n lo hi : Nat) (R : Nat → Nat → Int) (w : World) (hs : Sl w lo hi 2 u n (intF R)) (hn : n ≤ 1048576) :
    Calls Try.prog 116 #[u, .func (.func 103) #[] #[]] w (FiP (!allN (ptR R) n) w) := by
  obtain ⟨h0, A, c, rfl, hc, hx⟩ := hs
  have H := Lib.hid hx
  clear hx
  go_enter Try.func116, Try.ntmps116
  go_wp2
  go_loopw [8] (fun i wr => ∃ j : Nat, i = .int .i64 (j : Int) ∧ j ≤ n ∧ Hid (allN (ptR R) j = true) ∧ Up w wr) (fun i _ => n - (intOf i).toNat)
  case atStart => exact ⟨0, rfl, Nat.zero_le _, rfl, (by repeat (first | with_reducible exact Up.refl _ | with_reducible refine Up.alloc ?_ _ | with_reducible refine Up.drew ?_ | with_reducible refine Up.drewN ?_ _ | (with_reducible refine Up.setCell ?_ (by first | omega | (simp; done) | (simp; omega)) _) | with_reducible assumption | (with_reducible refine Up.trans ?_ (by with_reducible assumption))))⟩
  case round =>
    obtain ⟨j, rfl, hj, ha, hup⟩ := hrel
    by_cases hk1 : j < n
    · obtain ⟨b, o, rfl, hb1, hb2, hcs⟩ := H.out (by omega)
      have hbs2 : b < wr.heap.size := Nat.lt_of_lt_of_le (by omega) hup.size
      obtain ⟨p0, p1⟩ := Sl.pt hcs hk1
      have hg0 := (hup.cells.1 _ (o + j * 2) (by omega)).trans p0
      have hg1 := (hup.cells.1 _ (o + j * 2 + 1) (by omega)).trans p1
      have hk2 : (j : Int) < (n : Int) := by omega
      clear hcs p0 p1
      cases hf : ptB (R j 0) (R j 1) with
      | true =>
        have HA := Lib.hid (allN_step (p := ptR R) ha.out hf)
        have HT : ∀ W : World, Calls Try.prog 103 #[.agg #[.int .i64 (R j 0), .int .i64 (R j 1)]] W fun e w' => e = .returned (.bool false) ∧ Up W w' := fun W => by have hh := stPt_any (R j 0) (R j 1) W; rw [hf] at hh; exact hh
        clear hf
        go_wp2_with (go_at_call 103; (with_reducible refine (HT _).mono ?_); rintro e w1 ⟨rfl, hb1'⟩)
        exact ⟨⟨j + 1, by rfl, by omega, HA, (by repeat (first | with_reducible exact Up.refl _ | with_reducible refine Up.alloc ?_ _ | with_reducible refine Up.drew ?_ | with_reducible refine Up.drewN ?_ _ | (with_reducible refine Up.setCell ?_ (by first | omega | (simp; done) | (simp; omega)) _) | with_reducible assumption | (with_reducible refine Up.trans ?_ (by with_reducible assumption))))⟩, by simp only [intOf]; omega⟩
      | false =>
        have HA := Lib.hid (allN_false (p := ptR R) hk1 hf)
        have HT : ∀ W : World, Calls Try.prog 103 #[.agg #[.int .i64 (R j 0), .int .i64 (R j 1)]] W fun e w' => e = .returned (.bool true) ∧ Up W w' := fun W => by have hh := stPt_any (R j 0) (R j 1) W; rw [hf] at hh; exact hh
        clear hf
        go_wp2_with (go_at_call 103; (with_reducible refine (HT _).mono ?_); rintro e w1 ⟨rfl, hb1'⟩)
        go_ret
        exact ⟨_, rfl, by rw [HA.out]; simp, (by repeat (first | with_reducible exact Up.refl _ | with_reducible refine Up.alloc ?_ _ | with_reducible refine Up.drew ?_ | with_reducible refine Up.drewN ?_ _ | (with_reducible refine Up.setCell ?_ (by first | omega | (simp; done) | (simp; omega)) _) | with_reducible assumption | (with_reducible refine Up.trans ?_ (by with_reducible assumption))))⟩
    · have hkk : j = n := by omega
      subst hkk
      have hk2 : ¬ (j : Int) < (j : Int) := by omega
      go_wp2
      go_ret
      exact ⟨_, rfl, by rw [ha.out]; simp, (by repeat (first | with_reducible exact Up.refl _ | with_reducible refine Up.alloc ?_ _ | with_reducible refine Up.drew ?_ | with_reducible refine Up.drewN ?_ _ | (with_reducible refine Up.setCell ?_ (by first | omega | (simp; done) | (simp; omega)) _) | with_reducible assumption | (with_reducible refine Up.trans ?_ (by with_reducible assumption))))⟩
theorem hasPt_any (u : Value) (n lo hi : Nat) (R : Nat → Nat → Int) (w : World) (hs : Sl w lo hi 2 u n (intF R)) (hn : n ≤ 1048576) :
    Calls Try.prog 102 #[u, .func (.func 103) #[] #[]] w fun e w' => e = .returned (.bool (!allN (ptR R) n)) ∧ Up w w' := by
  go_enter Try.func102, Try.ntmps102
  go_wp2_with (go_at_call 116; (with_reducible refine (idxPt_any _ _ _ _ _ _ hs hn).mono ?_); rintro e w1 ⟨r, rfl, hr, hb1⟩)
  go_ret
  exact ⟨by rw [← hr]; rfl, hb1⟩
end Go.Proofs.Ytigcmhdjafglbaa
