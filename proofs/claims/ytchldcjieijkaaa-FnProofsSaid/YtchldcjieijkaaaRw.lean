/- The walks of the functions on lists of rows. No condition. -/
import Derived.Test.YtchldcjieijkaaaSlT
import Derived.Test.YtchldcjieijkaaaThr2
import Derived.Test.YtchldcjieijkaaaHg
namespace Go.Proofs.Ytchldcjieijkaaa
open Go.RowKit
set_option linter.unusedVariables false
def allN (p : Nat → Bool) : Nat → Bool
  | 0 => true
  | n + 1 => allN p n && p n
theorem allN_step {p : Nat → Bool} {n : Nat} (h : allN p n = true) (hp : p n = true) : allN p (n + 1) = true := by simp [allN, h, hp]
theorem allN_false {p : Nat → Bool} {n i : Nat} (hi : i < n) (hp : p i = false) : allN p n = false := by
  induction n with
  | zero => omega
  | succ n ih =>
    rw [allN]
    by_cases h : i < n
    · rw [ih h]; rfl
    · rw [show n = i from by omega, hp]; simp
theorem allN_get {p : Nat → Bool} {n i : Nat} (h : allN p n = true) (hi : i < n) : p i = true := by
  cases hp : p i with
  | true => rfl
  | false => rw [allN_false hi hp] at h; cases h
/-- FulfillsAll. -/
def fuR (h v m n : Int) (R : Nat → Nat → Int) (i : Nat) : Bool := fuB h v m n (R i 0) (R i 1) (R i 2) (R i 3)
def faB (h v m n : Int) (R : Nat → Nat → Int) (k : Nat) : Bool := inB 1 (k : Int) 40 && allN (fuR h v m n R) k
/-- CountBroken. -/
def brk (h v m n : Int) (R : Nat → Nat → Int) (i : Nat) : Bool := rowB (R i 0) (R i 1) (R i 2) (R i 3) && !decide (lefI (R i 0) (R i 1) (R i 2) h v m ≤ rigI (R i 3) n)
def cbI (h v m n : Int) (R : Nat → Nat → Int) (k : Nat) : Int := if thB h v m n then (cnt (brk h v m n R) k : Int) else -1
set_option maxHeartbeats 1000000 in
set_option maxRecDepth 100000 in
theorem sCountBroken_any (h v m n : Int) (u : Value) (k lo hi : Nat) (R : Nat → Nat → Int) (w : World) (hs : Sl w lo hi 4 u k (intF R)) (hn : k ≤ 1048576) : Calls Try.prog 11 #[.agg #[.int .i64 h, .int .i64 v, .int .i64 m, .int .i64 n], u] w fun e w' => e = .returned (.int .i64 (cbI h v m n R k)) ∧ Up w w' := by
  obtain ⟨h0, A, c, rfl, hc, hx⟩ := hs
  have H := Lib.hid hx
  clear hx
  cases hth : thB h v m n with
  | false =>
    go_enter Try.func11, Try.ntmps11
    go_wp2_with fail
    (go_at_call 19; (with_reducible refine (sThrustOk_any _ _ _ _ _).mono ?_); rintro e w1 ⟨rfl, hb1⟩)
    go_wp2
    go_ret
    exact ⟨by rw [cbI, hth]; rfl, (by repeat (first | with_reducible exact Up.refl _ | with_reducible refine Up.alloc ?_ _ | with_reducible refine Up.drew ?_ | with_reducible refine Up.drewN ?_ _ | (with_reducible refine Up.setCell ?_ (by first | omega | (simp; done) | (simp; omega)) _) | with_reducible assumption | (with_reducible refine Up.trans ?_ (by with_reducible assumption))))⟩
  | true =>
    have hcb : cbI h v m n R k = (cnt (brk h v m n R) k : Int) := by rw [cbI, hth]; rfl
    have HC := Lib.hid hcb
    clear hcb
    go_enter Try.func11, Try.ntmps11
    go_wp2_with fail
    (go_at_call 19; (with_reducible refine (sThrustOk_any _ _ _ _ _).mono ?_); rintro e w1 ⟨rfl, hb1⟩)
    go_wp2
    go_loopw [5, 6] (fun t i wr => ∃ j : Nat, i = .int .i64 (j : Int) ∧ j ≤ k ∧ t = .int .i64 (cnt (brk h v m n R) j : Int) ∧ Up (w.alloc (.cells #[.int .i64 h, .int .i64 v, .int .i64 m, .int .i64 n] 31)) wr) (fun _ i _ => k - (intOf i).toNat)
    case atStart => exact ⟨0, rfl, Nat.zero_le _, rfl, (by repeat (first | with_reducible exact Up.refl _ | with_reducible refine Up.alloc ?_ _ | with_reducible refine Up.drew ?_ | with_reducible refine Up.drewN ?_ _ | (with_reducible refine Up.setCell ?_ (by first | omega | (simp; done) | (simp; omega)) _) | with_reducible assumption | (with_reducible refine Up.trans ?_ (by with_reducible assumption))))⟩
    case round =>
      obtain ⟨j, rfl, hj, rfl, hup⟩ := hrel
      have hle := cnt_le (brk h v m n R) j
      have hupw : Up w wr := Up.trans (Up.alloc (Up.refl w) _) hup
      by_cases hk1 : j < k
      · obtain ⟨b, o, rfl, hb1, hb2, hcs⟩ := H.out (by omega)
        have hbs2 : b < wr.heap.size := Nat.lt_of_lt_of_le (by omega) hupw.size
        have hg0 : wr.cell? ⟨b, o + j * 4, none⟩ = some (.int .i64 (R j 0)) := (hupw.cells.1 _ _ (by omega)).trans (by simpa [intF, Nat.add_assoc] using hcs j 0 hk1 (by omega))
        have hg1 : wr.cell? ⟨b, o + j * 4 + 1, none⟩ = some (.int .i64 (R j 1)) := (hupw.cells.1 _ _ (by omega)).trans (by simpa [intF, Nat.add_assoc] using hcs j 1 hk1 (by omega))
        have hg2 : wr.cell? ⟨b, o + j * 4 + 2, none⟩ = some (.int .i64 (R j 2)) := (hupw.cells.1 _ _ (by omega)).trans (by simpa [intF, Nat.add_assoc] using hcs j 2 hk1 (by omega))
        have hg3 : wr.cell? ⟨b, o + j * 4 + 3, none⟩ = some (.int .i64 (R j 3)) := (hupw.cells.1 _ _ (by omega)).trans (by simpa [intF, Nat.add_assoc] using hcs j 3 hk1 (by omega))
        have hws : w.heap.size < wr.heap.size := Nat.lt_of_lt_of_le (by simp) hup.size
        have ht0 : wr.cell? ⟨w.heap.size, 0, none⟩ = some (.int .i64 h) := (hup.cells.1 _ _ (by simp)).trans (by simp [World.cell?_alloc_mark])
        have ht1 : wr.cell? ⟨w.heap.size, 1, none⟩ = some (.int .i64 v) := (hup.cells.1 _ _ (by simp)).trans (by simp [World.cell?_alloc_mark])
        have ht2 : wr.cell? ⟨w.heap.size, 2, none⟩ = some (.int .i64 m) := (hup.cells.1 _ _ (by simp)).trans (by simp [World.cell?_alloc_mark])
        have ht3 : wr.cell? ⟨w.heap.size, 3, none⟩ = some (.int .i64 n) := (hup.cells.1 _ _ (by simp)).trans (by simp [World.cell?_alloc_mark])
        clear hcs
        have hk2 : (j : Int) < (k : Int) := by omega
        have hws1 : w.heap.size < wr.heap.size + 1 := by omega
        cases hr : rowB (R j 0) (R j 1) (R j 2) (R j 3) with
        | false =>
          have HA := Lib.hid (cnt_f (p := brk h v m n R) (n := j) (by rw [brk, hr]; rfl))
          go_wp2_with fail
          (refine wp_region_up (by kernel_rfl) (by kernel_rfl) ?_; (repeat (refine wpQuiet_step (fun K hK => ?_); go_simp; first | (refine hK _ ?_; clear hK K) | (apply Exists.intro; refine ⟨fun wq hwq => ?_, hK _ ?_⟩; (obtain ⟨hcq, hfq⟩ := hwq.cells; (try go_simp); first | done | rfl | exact ⟨rfl, rfl⟩ | (go_at_call 20; exact up_of hwq (sRowOk_any _ _ _ _ _))); clear hK K))); refine wpQuiet_nil ?_; intro w1 hb1; obtain ⟨hc1, hf1⟩ := hb1.cells; have hl1 := hb1.lt; have hle1 := hb1.le; have hs1 := hb1.size; (try simp at hs1); (try have hs1a : wr.heap.size < w1.heap.size := by omega); (try have hs1aa : wr.heap.size ≤ w1.heap.size := by omega); (try have hs1b : wr.heap.size + 1 < w1.heap.size := by omega); (try have hs1bb : wr.heap.size + 1 ≤ w1.heap.size := by omega); (try have hs1c : wr.heap.size + 1 + 1 < w1.heap.size := by omega); (try have hs1cc : wr.heap.size + 1 + 1 ≤ w1.heap.size := by omega); (try have hs1d : wr.heap.size + 1 + 1 + 1 < w1.heap.size := by omega); (try have hs1dd : wr.heap.size + 1 + 1 + 1 ≤ w1.heap.size := by omega); (try have hs1L := Nat.lt_of_succ_le hs1); (try have hs1M := Nat.lt_of_succ_lt hs1L); (try have hs1N := Nat.lt_of_succ_lt hs1M); (try have hs1LE := Nat.le_of_lt hs1L); (try have hs1ME := Nat.le_of_lt hs1M))
          go_wp2
          exact ⟨⟨j + 1, by rfl, by omega, by rw [HA.out], (by repeat (first | with_reducible exact Up.refl _ | with_reducible refine Up.alloc ?_ _ | with_reducible refine Up.drew ?_ | with_reducible refine Up.drewN ?_ _ | (with_reducible refine Up.setCell ?_ (by first | omega | (simp; done) | (simp; omega)) _) | with_reducible assumption | (with_reducible refine Up.trans ?_ (by with_reducible assumption))))⟩, by simp only [intOf]; omega⟩
        | true =>
          cases hd : decide (lefI (R j 0) (R j 1) (R j 2) h v m ≤ rigI (R j 3) n) with
          | true =>
            have HA := Lib.hid (cnt_f (p := brk h v m n R) (n := j) (by rw [brk, hr, hd]; rfl))
            go_wp2_with fail
            (refine wp_region_up (by kernel_rfl) (by kernel_rfl) ?_; (repeat (refine wpQuiet_step (fun K hK => ?_); go_simp; first | (refine hK _ ?_; clear hK K) | (apply Exists.intro; refine ⟨fun wq hwq => ?_, hK _ ?_⟩; (obtain ⟨hcq, hfq⟩ := hwq.cells; (try go_simp); first | done | rfl | exact ⟨rfl, rfl⟩ | (first | (go_at_call 20; exact up_of hwq (sRowOk_any _ _ _ _ _)) | (go_at_call 21; exact up_of hwq (l10Holds_any _ _ _ _ _ _ _ _ _ hth hr)))); clear hK K))); refine wpQuiet_nil ?_; intro w1 hb1; obtain ⟨hc1, hf1⟩ := hb1.cells; have hl1 := hb1.lt; have hle1 := hb1.le; have hs1 := hb1.size; (try simp at hs1); (try have hs1a : wr.heap.size < w1.heap.size := by omega); (try have hs1aa : wr.heap.size ≤ w1.heap.size := by omega); (try have hs1b : wr.heap.size + 1 < w1.heap.size := by omega); (try have hs1bb : wr.heap.size + 1 ≤ w1.heap.size := by omega); (try have hs1c : wr.heap.size + 1 + 1 < w1.heap.size := by omega); (try have hs1cc : wr.heap.size + 1 + 1 ≤ w1.heap.size := by omega); (try have hs1d : wr.heap.size + 1 + 1 + 1 < w1.heap.size := by omega); (try have hs1dd : wr.heap.size + 1 + 1 + 1 ≤ w1.heap.size := by omega); (try have hs1L := Nat.lt_of_succ_le hs1); (try have hs1M := Nat.lt_of_succ_lt hs1L); (try have hs1N := Nat.lt_of_succ_lt hs1M); (try have hs1LE := Nat.le_of_lt hs1L); (try have hs1ME := Nat.le_of_lt hs1M))
            go_wp2
            exact ⟨⟨j + 1, by rfl, by omega, by rw [HA.out], (by repeat (first | with_reducible exact Up.refl _ | with_reducible refine Up.alloc ?_ _ | with_reducible refine Up.drew ?_ | with_reducible refine Up.drewN ?_ _ | (with_reducible refine Up.setCell ?_ (by first | omega | (simp; done) | (simp; omega)) _) | with_reducible assumption | (with_reducible refine Up.trans ?_ (by with_reducible assumption))))⟩, by simp only [intOf]; omega⟩
          | false =>
            have HA := Lib.hid (cnt_t (p := brk h v m n R) (n := j) (by rw [brk, hr, hd]; rfl))
            go_wp2_with fail
            (refine wp_region_up (by kernel_rfl) (by kernel_rfl) ?_; (repeat (refine wpQuiet_step (fun K hK => ?_); go_simp; first | (refine hK _ ?_; clear hK K) | (apply Exists.intro; refine ⟨fun wq hwq => ?_, hK _ ?_⟩; (obtain ⟨hcq, hfq⟩ := hwq.cells; (try go_simp); first | done | rfl | exact ⟨rfl, rfl⟩ | (first | (go_at_call 20; exact up_of hwq (sRowOk_any _ _ _ _ _)) | (go_at_call 21; exact up_of hwq (l10Holds_any _ _ _ _ _ _ _ _ _ hth hr)))); clear hK K))); refine wpQuiet_nil ?_; intro w1 hb1; obtain ⟨hc1, hf1⟩ := hb1.cells; have hl1 := hb1.lt; have hle1 := hb1.le; have hs1 := hb1.size; (try simp at hs1); (try have hs1a : wr.heap.size < w1.heap.size := by omega); (try have hs1aa : wr.heap.size ≤ w1.heap.size := by omega); (try have hs1b : wr.heap.size + 1 < w1.heap.size := by omega); (try have hs1bb : wr.heap.size + 1 ≤ w1.heap.size := by omega); (try have hs1c : wr.heap.size + 1 + 1 < w1.heap.size := by omega); (try have hs1cc : wr.heap.size + 1 + 1 ≤ w1.heap.size := by omega); (try have hs1d : wr.heap.size + 1 + 1 + 1 < w1.heap.size := by omega); (try have hs1dd : wr.heap.size + 1 + 1 + 1 ≤ w1.heap.size := by omega); (try have hs1L := Nat.lt_of_succ_le hs1); (try have hs1M := Nat.lt_of_succ_lt hs1L); (try have hs1N := Nat.lt_of_succ_lt hs1M); (try have hs1LE := Nat.le_of_lt hs1L); (try have hs1ME := Nat.le_of_lt hs1M))
            go_wp2
            exact ⟨⟨j + 1, by rfl, by omega, by rw [HA.out]; simp, (by repeat (first | with_reducible exact Up.refl _ | with_reducible refine Up.alloc ?_ _ | with_reducible refine Up.drew ?_ | with_reducible refine Up.drewN ?_ _ | (with_reducible refine Up.setCell ?_ (by first | omega | (simp; done) | (simp; omega)) _) | with_reducible assumption | (with_reducible refine Up.trans ?_ (by with_reducible assumption))))⟩, by simp only [intOf]; omega⟩
      · have hkk : j = k := by omega
        subst hkk
        go_wp2
        go_ret
        exact ⟨by rw [HC.out]; rfl, (by repeat (first | with_reducible exact Up.refl _ | with_reducible refine Up.alloc ?_ _ | with_reducible refine Up.drew ?_ | with_reducible refine Up.drewN ?_ _ | (with_reducible refine Up.setCell ?_ (by first | omega | (simp; done) | (simp; omega)) _) | with_reducible assumption | (with_reducible refine Up.trans ?_ (by with_reducible assumption))))⟩
end Go.Proofs.Ytchldcjieijkaaa
