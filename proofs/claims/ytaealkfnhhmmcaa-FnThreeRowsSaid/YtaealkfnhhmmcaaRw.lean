/- The walks of the functions on lists of rows. No condition. -/
import Derived.Test.YtaealkfnhhmmcaaSlT
import Derived.Test.YtaealkfnhhmmcaaThr2
import Derived.Test.YtaealkfnhhmmcaaHg
namespace Go.Proofs.Ytaealkfnhhmmcaa
open Go.RowKit
set_option linter.unusedVariables false
def allN (p : Nat → Bool) : Nat → Bool
  | 0 => true
  | n + 1 => allN p n && p n
theorem allN_step {p : Nat → Bool} {n : Nat} (h : allN p n = true) (hp : p n = true) : allN p (n + 1) = true := by simp [allN, h, hp]
theorem allN_false {p : Nat → Bool} {n i : Nat} (hi : i < n) (hp : p i = false) : allN p n = false := by
  induction n with
  | zero => omega
  | succ n ih =>
    rw [allN]
    by_cases h : i < n
    · rw [ih h]; rfl
    · rw [show n = i from by omega, hp]; simp
theorem allN_get {p : Nat → Bool} {n i : Nat} (h : allN p n = true) (hi : i < n) : p i = true := by
  cases hp : p i with
  | true => rfl
  | false => rw [allN_false hi hp] at h; cases h
/-- FulfillsAll. -/
def fuR (h v m n : Int) (R : Nat → Nat → Int) (i : Nat) : Bool := fuB h v m n (R i 0) (R i 1) (R i 2) (R i 3)
def faB (h v m n : Int) (R : Nat → Nat → Int) (k : Nat) : Bool := inB 1 (k : Int) 40 && allN (fuR h v m n R) k
/-- CountBroken. -/
def brk (h v m n : Int) (R : Nat → Nat → Int) (i : Nat) : Bool := rowB (R i 0) (R i 1) (R i 2) (R i 3) && !decide (lefI (R i 0) (R i 1) (R i 2) h v m ≤ rigI (R i 3) n)
def cbI (h v m n : Int) (R : Nat → Nat → Int) (k : Nat) : Int := if thB h v m n then (cnt (brk h v m n R) k : Int) else -1
set_option maxRecDepth 100000 in
theorem FulfillsAll_any (h v m n : Int) (u : Value) (k lo hi : Nat) (R : Nat → Nat → Int) (w : World) (hs : Sl w lo hi 4 u k (intF R)) (hn : k ≤ 1048576) : Calls Try.prog 15 #[.agg #[.int .i64 h, .int .i64 v, .int .i64 m, .int .i64 n], u] w fun e w' => e = .returned (.bool (faB h v m n R k)) ∧ Up w w' := by
  obtain ⟨h0, A, c, rfl, hc, hx⟩ := hs
  have H := Lib.hid hx
  clear hx
  by_cases hin : inB 1 (k : Int) 40 = true
  rotate_left
  · have hin2 : inB 1 (k : Int) 40 = false := by simpa using hin
    go_enter Try.func15, Try.ntmps15
    go_wp2_with (first | (go_at_call 23; (with_reducible refine (within_any _ _ _ _).mono ?_); rintro e w1 ⟨rfl, rfl⟩))
    go_ret
    exact ⟨by rw [faB, hin2]; rfl, (by repeat (first | with_reducible exact Up.refl _ | with_reducible refine Up.alloc ?_ _ | with_reducible refine Up.drew ?_ | with_reducible refine Up.drewN ?_ _ | (with_reducible refine Up.setCell ?_ (by first | omega | (simp; done) | (simp; omega)) _) | with_reducible assumption | (with_reducible refine Up.trans ?_ (by with_reducible assumption))))⟩
  · go_enter Try.func15, Try.ntmps15
    go_wp2_with (first | (go_at_call 23; (with_reducible refine (within_any _ _ _ _).mono ?_); rintro e w1 ⟨rfl, rfl⟩))
    go_loopw [13] (fun i wr => ∃ j : Nat, i = .int .i64 (j : Int) ∧ j ≤ k ∧ Hid (allN (fuR h v m n R) j = true) ∧ Up (w.alloc (.cells #[.int .i64 h, .int .i64 v, .int .i64 m, .int .i64 n] 29)) wr) (fun i _ => k - (intOf i).toNat)
    case atStart => exact ⟨0, rfl, Nat.zero_le _, rfl, (by repeat (first | with_reducible exact Up.refl _ | with_reducible refine Up.alloc ?_ _ | with_reducible refine Up.drew ?_ | with_reducible refine Up.drewN ?_ _ | (with_reducible refine Up.setCell ?_ (by first | omega | (simp; done) | (simp; omega)) _) | with_reducible assumption | (with_reducible refine Up.trans ?_ (by with_reducible assumption))))⟩
    case round =>
      obtain ⟨j, rfl, hj, ha, hup⟩ := hrel
      have hupw : Up w wr := Up.trans (Up.alloc (Up.refl w) _) hup
      by_cases hk1 : j < k
      · obtain ⟨b, o, rfl, hb1, hb2, hcs⟩ := H.out (by omega)
        have hbs2 : b < wr.heap.size := Nat.lt_of_lt_of_le (by omega) hupw.size
        have hg0 : wr.cell? ⟨b, o + j * 4, none⟩ = some (.int .i64 (R j 0)) := (hupw.cells.1 _ _ (by omega)).trans (by simpa [intF, Nat.add_assoc] using hcs j 0 hk1 (by omega))
        have hg1 : wr.cell? ⟨b, o + j * 4 + 1, none⟩ = some (.int .i64 (R j 1)) := (hupw.cells.1 _ _ (by omega)).trans (by simpa [intF, Nat.add_assoc] using hcs j 1 hk1 (by omega))
        have hg2 : wr.cell? ⟨b, o + j * 4 + 2, none⟩ = some (.int .i64 (R j 2)) := (hupw.cells.1 _ _ (by omega)).trans (by simpa [intF, Nat.add_assoc] using hcs j 2 hk1 (by omega))
        have hg3 : wr.cell? ⟨b, o + j * 4 + 3, none⟩ = some (.int .i64 (R j 3)) := (hupw.cells.1 _ _ (by omega)).trans (by simpa [intF, Nat.add_assoc] using hcs j 3 hk1 (by omega))
        have hws : w.heap.size < wr.heap.size := Nat.lt_of_lt_of_le (by simp) hup.size
        have ht0 : wr.cell? ⟨w.heap.size, 0, none⟩ = some (.int .i64 h) := (hup.cells.1 _ _ (by simp)).trans (by simp [World.cell?_alloc_mark])
        have ht1 : wr.cell? ⟨w.heap.size, 1, none⟩ = some (.int .i64 v) := (hup.cells.1 _ _ (by simp)).trans (by simp [World.cell?_alloc_mark])
        have ht2 : wr.cell? ⟨w.heap.size, 2, none⟩ = some (.int .i64 m) := (hup.cells.1 _ _ (by simp)).trans (by simp [World.cell?_alloc_mark])
        have ht3 : wr.cell? ⟨w.heap.size, 3, none⟩ = some (.int .i64 n) := (hup.cells.1 _ _ (by simp)).trans (by simp [World.cell?_alloc_mark])
        clear hcs
        cases hf : fuB h v m n (R j 0) (R j 1) (R j 2) (R j 3) with
        | true =>
          have HA := Lib.hid (allN_step (p := fuR h v m n R) ha.out hf)
          go_wp2_with fail
          (go_at_call 11; (with_reducible refine (Fulfills_any _ _ _ _ _ _ _ _ _).mono ?_); rintro e w1 ⟨rfl, hb1⟩)
          go_wp2
          exact ⟨⟨j + 1, by rfl, by omega, HA, (by repeat (first | with_reducible exact Up.refl _ | with_reducible refine Up.alloc ?_ _ | with_reducible refine Up.drew ?_ | with_reducible refine Up.drewN ?_ _ | (with_reducible refine Up.setCell ?_ (by first | omega | (simp; done) | (simp; omega)) _) | with_reducible assumption | (with_reducible refine Up.trans ?_ (by with_reducible assumption))))⟩, by simp only [intOf]; omega⟩
        | false =>
          have HA := Lib.hid (allN_false (p := fuR h v m n R) hk1 hf)
          go_wp2_with fail
          (go_at_call 11; (with_reducible refine (Fulfills_any _ _ _ _ _ _ _ _ _).mono ?_); rintro e w1 ⟨rfl, hb1⟩)
          go_wp2
          go_ret
          exact ⟨by rw [faB, HA.out]; simp, (by repeat (first | with_reducible exact Up.refl _ | with_reducible refine Up.alloc ?_ _ | with_reducible refine Up.drew ?_ | with_reducible refine Up.drewN ?_ _ | (with_reducible refine Up.setCell ?_ (by first | omega | (simp; done) | (simp; omega)) _) | with_reducible assumption | (with_reducible refine Up.trans ?_ (by with_reducible assumption))))⟩
      · have hkk : j = k := by omega
        subst hkk
        go_wp2
        go_ret
        exact ⟨by rw [faB, ha.out, hin]; rfl, (by repeat (first | with_reducible exact Up.refl _ | with_reducible refine Up.alloc ?_ _ | with_reducible refine Up.drew ?_ | with_reducible refine Up.drewN ?_ _ | (with_reducible refine Up.setCell ?_ (by first | omega | (simp; done) | (simp; omega)) _) | with_reducible assumption | (with_reducible refine Up.trans ?_ (by with_reducible assumption))))⟩
end Go.Proofs.Ytaealkfnhhmmcaa
