/- The walk of spec.CornersOf. No condition. Printed by wip/gensc.py. -/
import Derived.Test.YtaealkfnhhmmcaaHas
import Derived.Test.YtaealkfnhhmmcaaDet3
namespace Go.Proofs.Ytaealkfnhhmmcaa
open Go.RowKit
set_option linter.unusedVariables false
/-- The list at (i, k, m). -/
def acc (R : Nat → Nat → Int) (n i k m : Nat) : List T4 := ddp [] (ca R n i ++ ck R n i k ++ cm R n i k m)
theorem acc_t (R : Nat → Nat → Int) (n : Nat) {i k m : Nat} (h : k < m) (hh : hit R n i k m = true) : acc R n i k (m + 1) = addN (acc R n i k m) (sol R i k m) := by
  rw [acc, cm_t R n h hh, ← List.append_assoc, ddp_app]; rfl
theorem acc_f (R : Nat → Nat → Int) (n : Nat) {i k m : Nat} (hh : hit R n i k m = false) : acc R n i k (m + 1) = acc R n i k m := by
  rw [acc, cm_f R n hh]; rfl
theorem acc_k (R : Nat → Nat → Int) (n : Nat) {i k : Nat} (h : i < k) : acc R n i k n = acc R n i (k + 1) 0 := by
  rw [acc, acc, ck_s R n h, cm, List.append_nil, List.append_assoc]
theorem acc_m (R : Nat → Nat → Int) (n : Nat) {i k m : Nat} (h : m ≤ k + 1) : acc R n i k m = acc R n i k 0 := by rw [acc, cm_low R n h]; rfl
theorem acc_i (R : Nat → Nat → Int) (n : Nat) (i : Nat) : acc R n i n 0 = acc R n (i + 1) 0 0 := by
  rw [acc, acc, ca, cm, cm, ck, List.append_nil, List.append_nil, List.append_nil]; rfl
theorem acc_k0 (R : Nat → Nat → Int) (n : Nat) {i k : Nat} (h : k ≤ i + 1) : acc R n i k 0 = acc R n i 0 0 := by rw [acc, ck_low R n h]; rfl
theorem acc_len (R : Nat → Nat → Int) (n : Nat) (hn : n ≤ 20) {i k m : Nat} (hi : i ≤ 20) (hk : k ≤ 20) (hm : m ≤ 20) : (acc R n i k m).length ≤ 9000 := by
  have h1 := ddp_len (ca R n i ++ ck R n i k ++ cm R n i k m) []
  have h2 := ca_len R n hn i
  have h3 := ck_len R n i k
  have h4 := cm_len R n i k m
  have h5 : k * n ≤ 20 * 20 := Nat.mul_le_mul hk hn
  simp only [List.length_append, List.length_nil] at h1
  rw [acc]
  omega
theorem sok_th (R : Nat → Nat → Int) {i k m : Nat} (h : sok R i k m = true) : thB (sol R i k m).1 (sol R i k m).2.1 (sol R i k m).2.2.1 (sol R i k m).2.2.2 = true := by
  have h0 := h
  unfold sok slB at h0
  simp only [Bool.and_eq_true] at h0
  have hm := h0.2
  have hm2 := hm
  unfold mkB at hm2
  rw [Bool.and_eq_true] at hm2
  unfold sok at h
  unfold sol
  simp only [slP, h, if_true, mkP, hm]
  exact hm2.2
theorem fal_all (R : Nat → Nat → Int) (n : Nat) (t : T4) (h : inB 3 (n : Int) 20 = true) : fal R n t = allN (fuR t.1 t.2.1 t.2.2.1 t.2.2.2 R) n := by
  have h1 : inB 1 (n : Int) 40 = true := by rw [inB_true] at h ⊢; omega
  rw [fal, faB, h1, Bool.true_and]
theorem all_stop {p : Nat → Bool} {x n : Nat} (h : allN p x = false) (hx : x ≤ n) : allN p n = false := by
  induction n with
  | zero => rw [show x = 0 from by omega] at h; exact h
  | succ n ih =>
    by_cases e : x = n + 1
    · rw [← e]; exact h
    · rw [allN, ih (by omega)]; rfl
theorem coL_rows {R : Nat → Nat → Int} {n : Nat} (h : allN (fun i => rowB (R i 0) (R i 1) (R i 2) (R i 3)) n = false) : coL R n = [] := by
  rw [coL, if_neg]; rw [coOk, h]; simp
theorem coL_in {R : Nat → Nat → Int} {n : Nat} (h : inB 3 (n : Int) 20 = false) : coL R n = [] := by
  rw [coL, if_neg]; rw [coOk, h]; simp
theorem coL_ok {R : Nat → Nat → Int} {n : Nat} (h : inB 3 (n : Int) 20 = true) (h2 : allN (fun i => rowB (R i 0) (R i 1) (R i 2) (R i 3)) n = true) : coL R n = acc R n n 0 0 := by
  rw [coL, if_pos (by rw [coOk, h, h2]; rfl), acc, ck, cm, List.append_nil, List.append_nil]
theorem Wr.none (w : World) (lo hi sz : Nat) (f : Nat → Nat → Value) (A : Option Addr) (h : hi ≤ w.heap.size) : Wr w lo hi sz (.slice A 0 0) 0 f := ⟨h, A, 0, rfl, Nat.le_refl _, fun h => absurd h (by omega)⟩
set_option maxHeartbeats 8000000 in
set_option maxRecDepth 100000 in
theorem sCornersOf_any (u : Value) (n lo hi : Nat) (R : Nat → Nat → Int) (w : World) (hs : Sl w lo hi 4 u n (intF R)) (hn0 : n ≤ 1048576) : Calls Try.prog 16 #[u] w (ToP w 4 (coL R n).length (thF (coL R n))) := by
  obtain ⟨h0, A, c, rfl, hc, hx⟩ := hs
  obtain ⟨i0, hi0, hz0, hz1, hz2⟩ := info_parts Thr_info
  have H := Lib.hid hx
  clear hx
  obtain ⟨LL, hLL⟩ : ∃ LL, LL = coL R n := ⟨_, rfl⟩
  rw [← hLL]
  have HLL := Lib.hid hLL
  clear hLL
  go_enter Try.func16, Try.ntmps16
  go_wp2
  go_loopw [4] (fun i wr => ∃ j : Nat, i = .int .i64 (j : Int) ∧ j ≤ n ∧ Hid (allN (fun i => rowB (R i 0) (R i 1) (R i 2) (R i 3)) j = true) ∧ Up (w.alloc (.cells #[] 29)) wr) (fun i _ => n - (intOf i).toNat)
  case atStart => exact ⟨0, by rfl, Nat.zero_le _, rfl, (by repeat (first | with_reducible exact Up.refl _ | with_reducible refine Up.alloc ?_ _ | with_reducible refine Up.drew ?_ | with_reducible refine Up.drewN ?_ _ | (with_reducible refine Up.setCell ?_ (by first | omega | (simp; done) | (simp; omega)) _) | with_reducible assumption | (with_reducible refine Up.trans ?_ (by with_reducible assumption))))⟩
  case round =>
    obtain ⟨j, rfl, hj, ha, hup0⟩ := hrel
    have hupw : Up w wr := Up.trans (Up.alloc (Up.refl w) _) hup0
    by_cases hk1 : j < n
    · obtain ⟨b, o, rfl, hb1, hb2, hcs⟩ := H.out (by omega)
      have hbs2 : b < wr.heap.size := Nat.lt_of_lt_of_le (by omega) hupw.size
      have hg0 : wr.cell? ⟨b, o + j * 4, none⟩ = some (.int .i64 (R j 0)) := (hupw.cells.1 _ _ (by omega)).trans (hcs j 0 hk1 (by omega))
      have hg1 : wr.cell? ⟨b, o + j * 4 + 1, none⟩ = some (.int .i64 (R j 1)) := (hupw.cells.1 _ _ (by omega)).trans (hcs j 1 hk1 (by omega))
      have hg2 : wr.cell? ⟨b, o + j * 4 + 2, none⟩ = some (.int .i64 (R j 2)) := (hupw.cells.1 _ _ (by omega)).trans (hcs j 2 hk1 (by omega))
      have hg3 : wr.cell? ⟨b, o + j * 4 + 3, none⟩ = some (.int .i64 (R j 3)) := (hupw.cells.1 _ _ (by omega)).trans (hcs j 3 hk1 (by omega))
      clear hcs
      have hk2 : (j : Int) < (n : Int) := by omega
      have hRo : ∀ W, Calls Try.prog 29 #[.agg #[.int .i64 (R j 0), .int .i64 (R j 1), .int .i64 (R j 2), .int .i64 (R j 3)]] W fun e w' => e = .returned (.bool (rowB (R j 0) (R j 1) (R j 2) (R j 3))) ∧ Up W w' := fun W => sRowOk_any _ _ _ _ W
      cases hr : rowB (R j 0) (R j 1) (R j 2) (R j 3) with
      | true =>
        rw [hr] at hRo
        have HA := Lib.hid (allN_step (p := fun i => rowB (R i 0) (R i 1) (R i 2) (R i 3)) ha.out hr)
        clear hr
        go_wp2_with fail
        (go_at_call 29; (with_reducible refine (hRo _).mono ?_); rintro e w1 ⟨rfl, hb1⟩)
        go_wp2
        exact ⟨⟨j + 1, by rfl, by omega, HA, (by repeat (first | with_reducible exact Up.refl _ | with_reducible refine Up.alloc ?_ _ | with_reducible refine Up.drew ?_ | with_reducible refine Up.drewN ?_ _ | (with_reducible refine Up.setCell ?_ (by first | omega | (simp; done) | (simp; omega)) _) | with_reducible assumption | (with_reducible refine Up.trans ?_ (by with_reducible assumption))))⟩, by simp only [intOf]; omega⟩
      | false =>
        rw [hr] at hRo
        have HA := Lib.hid (allN_false (p := fun i => rowB (R i 0) (R i 1) (R i 2) (R i 3)) hk1 hr)
        clear hr
        go_wp2_with fail
        (go_at_call 29; (with_reducible refine (hRo _).mono ?_); rintro e w1 ⟨rfl, hb1⟩)
        go_wp2
        go_ret
        have e := HLL.out.trans (coL_rows HA.out)
        subst e
        exact ⟨_, rfl, Wr.none _ _ _ _ _ _ (Nat.le_refl _), hupw.trans hb1⟩
    · have hkk : j = n := by omega
      subst hkk
      have HR := ha
      clear ha
      cases hin : inB 3 (j : Int) 20 with
      | false =>
        go_wp2_with (first | (go_at_call 36; (with_reducible refine (l01In_any _ _ _ _).mono ?_); rintro e w1 ⟨rfl, rfl⟩))
        go_ret
        have e := HLL.out.trans (coL_in hin)
        subst e
        exact ⟨_, rfl, Wr.none _ _ _ _ _ _ (Nat.le_refl _), hupw⟩
      | true =>
        have HN3 := Lib.hid hin
        have hn : j ≤ 20 := by have := inB_true.1 hin; omega
        have hown : wr.ownsRow w.heap.size 29 4 (.slice (some ⟨w.heap.size, 0, none⟩) 0 0) (acc R j 0 0 0).length (flat 4 (thF (acc R j 0 0 0)) (acc R j 0 0 0).length) := own_up (w := w) (by have := World.ownsRow_made w #[] 0 (base := w.heap.size) (e := 29) (size := 4) (by simp) (Nat.zero_le _) rfl; exact this) hup0
        have HO0 := Lib.hid hown
        clear hown hup0
        obtain ⟨n, hnj⟩ : ∃ n, n = j := ⟨_, rfl⟩
        subst hnj
        go_wp2_with (first | (go_at_call 36; (with_reducible refine (l01In_any _ _ _ _).mono ?_); rintro e w1 ⟨rfl, rfl⟩))
        go_loopw [3, 5] (fun t ii wr => ∃ iN : Nat, ii = .int .i64 (iN : Int) ∧ iN ≤ n ∧ Hid (wr.ownsRow w.heap.size 29 4 t (acc R n iN 0 0).length (flat 4 (thF (acc R n iN 0 0)) (acc R n iN 0 0).length)) ∧ Up w wr) (fun _ ii _ => n - (intOf ii).toNat)
        case atStart => exact ⟨0, by rfl, by omega, HO0, hupw⟩
        case round =>
          clear HO0 hupw
          obtain ⟨iN, rfl, hin1, hoi, hupi⟩ := hrel
          by_cases hi1 : iN < n
          · have hi2 : (iN : Int) < (n : Int) := by omega
            go_wp2
            go_loopw [3, 6] (fun t kk wr => ∃ kN : Nat, kk = .int .i64 (kN : Int) ∧ iN + 1 ≤ kN ∧ kN ≤ n ∧ Hid (wr.ownsRow w.heap.size 29 4 t (acc R n iN kN 0).length (flat 4 (thF (acc R n iN kN 0)) (acc R n iN kN 0).length)) ∧ Up w wr) (fun _ kk _ => n - (intOf kk).toNat)
            case atStart => exact ⟨iN + 1, by rfl, by omega, by omega, by rw [acc_k0 R n (Nat.le_refl _)]; exact hoi, hupi⟩
            case round =>
              clear hoi hupi
              obtain ⟨kN, rfl, hk0, hkn, hok, hupk⟩ := hrel
              by_cases hk1 : kN < n
              · have hk2 : (kN : Int) < (n : Int) := by omega
                go_wp2
                go_loopw [3, 7] (fun t mm wr => ∃ mN : Nat, mm = .int .i64 (mN : Int) ∧ kN + 1 ≤ mN ∧ mN ≤ n ∧ Hid (wr.ownsRow w.heap.size 29 4 t (acc R n iN kN mN).length (flat 4 (thF (acc R n iN kN mN)) (acc R n iN kN mN).length)) ∧ Up w wr) (fun _ mm _ => n - (intOf mm).toNat)
                case atStart => exact ⟨kN + 1, by rfl, by omega, by omega, by rw [acc_m R n (Nat.le_refl _)]; exact hok, hupk⟩
                case round =>
                  clear hok hupk
                  obtain ⟨mN, rfl, hm0, hmn, ho, hup⟩ := hrel
                  by_cases hm1 : mN < n
                  · have hm2 : (mN : Int) < (n : Int) := by omega
                    obtain ⟨b, o, rfl, hb1, hb2, hcs⟩ := H.out (by omega)
                    have hz := hup.size
                    have hcell : ∀ x j, x < n → j < 4 → wr.cell? ⟨b, o + x * 4 + j, none⟩ = some (.int .i64 (R x j)) := fun x j hx hj => (hup.cells.1 _ _ (by omega)).trans (by rw [Nat.add_assoc]; exact hcs x j hx hj)
                    have a0 : wr.cell? ⟨b, o + iN * 4, none⟩ = some (.int .i64 (R iN 0)) := hcell iN 0 hi1 (by omega)
                    have a1 := hcell iN 1 hi1 (by omega)
                    have a2 := hcell iN 2 hi1 (by omega)
                    have a3 := hcell iN 3 hi1 (by omega)
                    have b0 : wr.cell? ⟨b, o + kN * 4, none⟩ = some (.int .i64 (R kN 0)) := hcell kN 0 hk1 (by omega)
                    have b1 := hcell kN 1 hk1 (by omega)
                    have b2 := hcell kN 2 hk1 (by omega)
                    have b3 := hcell kN 3 hk1 (by omega)
                    have c0 : wr.cell? ⟨b, o + mN * 4, none⟩ = some (.int .i64 (R mN 0)) := hcell mN 0 hm1 (by omega)
                    have c1 := hcell mN 1 hm1 (by omega)
                    have c2 := hcell mN 2 hm1 (by omega)
                    have c3 := hcell mN 3 hm1 (by omega)
                    have hbs : b < wr.heap.size := by omega
                    clear hcell hcs
                    have hC : ∀ W, Calls Try.prog 37 #[.agg #[.int .i64 (R iN 0), .int .i64 (R iN 1), .int .i64 (R iN 2), .int .i64 (R iN 3)], .agg #[.int .i64 (R kN 0), .int .i64 (R kN 1), .int .i64 (R kN 2), .int .i64 (R kN 3)], .agg #[.int .i64 (R mN 0), .int .i64 (R mN 1), .int .i64 (R mN 2), .int .i64 (R mN 3)]] W fun en w' => en = .returned (.tuple #[.agg #[.int .i64 (sol R iN kN mN).1, .int .i64 (sol R iN kN mN).2.1, .int .i64 (sol R iN kN mN).2.2.1, .int .i64 (sol R iN kN mN).2.2.2], .bool (sok R iN kN mN)]) ∧ Up W w' := fun W => sSolveRows_any _ _ _ _ _ _ _ _ _ _ _ _ W
                    obtain ⟨w0, rfl⟩ : ∃ w0 : World, w0 = wr := ⟨_, rfl⟩
                    have hlen4 := acc_len R n hn (i := iN) (k := kN) (m := mN) (by omega) (by omega) (by omega)
                    have HT := acc_t R n (i := iN) (k := kN) (m := mN) (by omega)
                    have HF := acc_f R n (i := iN) (k := kN) (m := mN)
                    have HB : hit R n iN kN mN = (sok R iN kN mN && fal R n (sol R iN kN mN)) := rfl
                    have HTH := sok_th R (i := iN) (k := kN) (m := mN)
                    have HFA := fal_all R n (sol R iN kN mN) HN3.out
                    obtain ⟨⟨s0, s1, s2, s3⟩, hS⟩ : ∃ s, s = sol R iN kN mN := ⟨_, rfl⟩
                    rw [← hS] at HB HT HTH HFA
                    simp only [← hS] at hC
                    clear hS
                    generalize acc R n iN kN mN = L at *
                    generalize hL' : acc R n iN kN (mN + 1) = L' at HT HF
                    generalize hit R n iN kN mN = hb at *
                    generalize sok R iN kN mN = sb at *
                    have tok1 : True := trivial
                    go_wp2_with fail
                    go_region_held3 (fun w' => (∀ b o, b < w0.heap.size → w'.cell? ⟨b, o, none⟩ = w0.cell? ⟨b, o, none⟩) ∧ w0.heap.size ≤ w'.heap.size) (repeat (first | with_reducible refine kp_drew ?_ | with_reducible refine kp_set ?_ (by first | omega | (simp; done) | (simp; omega)) | with_reducible refine kp_alloc ?_ _ | with_reducible assumption | with_reducible exact kp_start _ | with_reducible refine kp_up ?_ (by assumption))) (first | (go_at_call 37; clear tok1; (with_reducible refine (hC _).mono ?_); rintro e w1 ⟨rfl, hb1⟩; obtain ⟨hc1, hf1⟩ := hb1.cells; have hs1 := hb1.size; (try simp at hs1); (try have hs1_0a : w0.heap.size < w1.heap.size := by omega); (try have hs1_0a' : w0.heap.size ≤ w1.heap.size := by omega)))
                    all_goals
                      (first
                        | (obtain ⟨W, hW⟩ : ∃ W : World, W = w1.alloc (.cells #[.int .i64 s0, .int .i64 s1, .int .i64 s2, .int .i64 s3] 29) := ⟨_, rfl⟩
                           obtain ⟨bx, hbx⟩ : ∃ bx : Nat, bx = w1.heap.size := ⟨_, rfl⟩
                           have p0 : W.cell? ⟨bx, 0, none⟩ = some (.int .i64 s0) := by rw [hW, hbx, World.cell?_alloc_mark]; rfl
                           have p1 : W.cell? ⟨bx, 1, none⟩ = some (.int .i64 s1) := by rw [hW, hbx, World.cell?_alloc_mark]; rfl
                           have p2 : W.cell? ⟨bx, 2, none⟩ = some (.int .i64 s2) := by rw [hW, hbx, World.cell?_alloc_mark]; rfl
                           have p3 : W.cell? ⟨bx, 3, none⟩ = some (.int .i64 s3) := by rw [hW, hbx, World.cell?_alloc_mark]; rfl
                           have hxl : bx < W.heap.size := by rw [hW, hbx]; simp
                           have hx0 : w0.heap.size ≤ bx := by rw [hbx]; omega
                           have hu0 : Up w0 W := by rw [hW]; exact (by repeat (first | with_reducible exact Up.refl _ | with_reducible refine Up.alloc ?_ _ | with_reducible refine Up.drew ?_ | with_reducible refine Up.drewN ?_ _ | (with_reducible refine Up.setCell ?_ (by first | omega | (simp; done) | (simp; omega)) _) | with_reducible assumption | (with_reducible refine Up.trans ?_ (by with_reducible assumption))))
                           rw [← hW, ← hbx]
                           clear hW hbx)
                        | (obtain ⟨W, hW⟩ : ∃ W : World, W = (((w1.setCell ⟨w0.heap.size, 0, none⟩ (.int .i64 s0)).setCell ⟨w0.heap.size, 1, none⟩ (.int .i64 s1)).setCell ⟨w0.heap.size, 2, none⟩ (.int .i64 s2)).setCell ⟨w0.heap.size, 3, none⟩ (.int .i64 s3) := ⟨_, rfl⟩
                           have hz0 : w1.cell? ⟨w0.heap.size, 0, none⟩ = some (.int .i64 0) := (hb1.cells.1 _ _ (by simp)).trans (by simp [World.cell?_alloc_mark])
                           have hz1 : w1.cell? ⟨w0.heap.size, 1, none⟩ = some (.int .i64 0) := (hb1.cells.1 _ _ (by simp)).trans (by simp [World.cell?_alloc_mark])
                           have hz2 : w1.cell? ⟨w0.heap.size, 2, none⟩ = some (.int .i64 0) := (hb1.cells.1 _ _ (by simp)).trans (by simp [World.cell?_alloc_mark])
                           have hz3 : w1.cell? ⟨w0.heap.size, 3, none⟩ = some (.int .i64 0) := (hb1.cells.1 _ _ (by simp)).trans (by simp [World.cell?_alloc_mark])
                           have p0 : W.cell? ⟨w0.heap.size, 0, none⟩ = some (.int .i64 s0) := by rw [hW]; go_simp
                           have p1 : W.cell? ⟨w0.heap.size, 1, none⟩ = some (.int .i64 s1) := by rw [hW]; go_simp
                           have p2 : W.cell? ⟨w0.heap.size, 2, none⟩ = some (.int .i64 s2) := by rw [hW]; go_simp
                           have p3 : W.cell? ⟨w0.heap.size, 3, none⟩ = some (.int .i64 s3) := by rw [hW]; go_simp
                           have hxl : w0.heap.size < W.heap.size := by rw [hW]; simp; omega
                           have hx0 : w0.heap.size ≤ w0.heap.size := Nat.le_refl _
                           have hu0 : Up w0 W := by rw [hW]; exact (by repeat (first | with_reducible exact Up.refl _ | with_reducible refine Up.alloc ?_ _ | with_reducible refine Up.drew ?_ | with_reducible refine Up.drewN ?_ _ | (with_reducible refine Up.setCell ?_ (by first | omega | (simp; done) | (simp; omega)) _) | with_reducible assumption | (with_reducible refine Up.trans ?_ (by with_reducible assumption))))
                           rw [← hW]
                           obtain ⟨bx, hbx⟩ : ∃ bx : Nat, bx = w0.heap.size := ⟨_, rfl⟩
                           rw [← hbx] at p0 p1 p2 p3 hxl hx0
                           rw [← hbx]
                           clear hW hbx hz0 hz1 hz2 hz3))
                    all_goals
                      (clear hb1 hs1 hc1 hf1 hC
                       have hup1 : Up w W := hup.trans hu0
                       have ho1 := Lib.hid (own_up (w := w) ho.out hu0)
                       clear ho
                       cases sb with
                       | false =>
                         have hL := HF (by rw [HB]; rfl)
                         clear HT HF HB HTH HFA
                         subst hL
                         go_wp2
                         exact ⟨⟨mN + 1, by rfl, by omega, by omega, by rw [hL']; exact ho1, hup1⟩, by simp only [intOf]; omega⟩
                       | true =>
                         have hth := HTH rfl
                         have hSlL := (Wr.of_own ho1.out).sl
                         have hHas : ∀ W', Up W W' → Calls Try.prog 38 #[u3, .agg #[.int .i64 s0, .int .i64 s1, .int .i64 s2, .int .i64 s3]] W' fun e w' => e = .returned (.bool (L.contains (s0, s1, s2, s3))) ∧ Up W' w' := fun W' hW' => l11Has_any L (s0, s1, s2, s3) _ _ _ _ W' rfl (hSlL.up hW') (by omega)
                         have HC1 := Lib.hid (addN_t (L := L) (t := (s0, s1, s2, s3)))
                         have HC2 := Lib.hid (addN_f (L := L) (t := (s0, s1, s2, s3)))
                         clear hSlL HTH
                         generalize L.contains (s0, s1, s2, s3) = hc at *
                         cases hc with
                         | true =>
                           have hL : L' = L := by
                             cases hb with
                             | true => rw [HT rfl, HC1.out rfl]
                             | false => exact HF rfl
                           clear HT HF HB HFA HC1 HC2
                           subst hL
                           go_wp2_with fail
                           (go_at_call 38; (with_reducible refine (hHas _ (by repeat (first | with_reducible exact Up.refl _ | with_reducible refine Up.alloc ?_ _ | with_reducible refine Up.drew ?_ | with_reducible refine Up.drewN ?_ _ | (with_reducible refine Up.setCell ?_ (by first | omega | (simp; done) | (simp; omega)) _) | with_reducible assumption | (with_reducible refine Up.trans ?_ (by with_reducible assumption))))).mono ?_); rintro e w1 ⟨rfl, hb1⟩)
                           have ho2 := Lib.hid (own_up (w := w) ho1.out hb1)
                           go_wp2
                           exact ⟨⟨mN + 1, by rfl, by omega, by omega, by rw [hL']; exact ho2, hup1.trans hb1⟩, by simp only [intOf]; omega⟩
                         | false =>
                           rw [HC2.out rfl] at HT
                           clear HC1 HC2
                           go_wp2_with fail
                           (go_at_call 38; (with_reducible refine (hHas _ (by repeat (first | with_reducible exact Up.refl _ | with_reducible refine Up.alloc ?_ _ | with_reducible refine Up.drew ?_ | with_reducible refine Up.drewN ?_ _ | (with_reducible refine Up.setCell ?_ (by first | omega | (simp; done) | (simp; omega)) _) | with_reducible assumption | (with_reducible refine Up.trans ?_ (by with_reducible assumption))))).mono ?_); rintro e w1 ⟨rfl, hb1⟩)
                           have ho2 := Lib.hid (own_up (w := w) ho1.out hb1)
                           have hup2 : Up w w1 := hup1.trans hb1
                           have q0 := (hb1.cells.1 _ 0 hxl).trans p0
                           have q1 := (hb1.cells.1 _ 1 hxl).trans p1
                           have q2 := (hb1.cells.1 _ 2 hxl).trans p2
                           have q3 := (hb1.cells.1 _ 3 hxl).trans p3
                           have hxl1 := Nat.lt_of_lt_of_le hxl hb1.size
                           clear p0 p1 p2 p3 hHas ho1
                           go_wp2
                           go_loopw [10, 11] (fun al xx wr => ∃ (x : Nat) (ab : Bool), al = .bool ab ∧ xx = .int .i64 (x : Int) ∧ x ≤ n ∧ Hid (ab = allN (fuR s0 s1 s2 s3 R) x) ∧ Up w1 wr) (fun _ xx _ => n - (intOf xx).toNat)
                           case atStart => exact ⟨0, true, by rfl, by rfl, Nat.zero_le _, rfl, (by repeat (first | with_reducible exact Up.refl _ | with_reducible refine Up.alloc ?_ _ | with_reducible refine Up.drew ?_ | with_reducible refine Up.drewN ?_ _ | (with_reducible refine Up.setCell ?_ (by first | omega | (simp; done) | (simp; omega)) _) | with_reducible assumption | (with_reducible refine Up.trans ?_ (by with_reducible assumption))))⟩
                           case round =>
                             obtain ⟨x, ab, rfl, rfl, hxn, hab, hupx⟩ := hrel
                             obtain ⟨wy, rfl⟩ : ∃ wy : World, wy = wr := ⟨_, rfl⟩
                             have hupw : Up w wy := hup2.trans hupx
                             by_cases hx1 : x < n ∧ ab = true
                             · obtain ⟨hx1, rfl⟩ := hx1
                               have hx2 : (x : Int) < (n : Int) := by omega
                               obtain ⟨bb, oo, hbo, hb3, hb4, hcs⟩ := H.out (by omega)
                               cases hbo
                               have hxs := hupw.size
                               have hg0 : wy.cell? ⟨b, o + x * 4, none⟩ = some (.int .i64 (R x 0)) := (hupw.cells.1 _ _ (by omega)).trans (hcs x 0 hx1 (by omega))
                               have hg1 : wy.cell? ⟨b, o + x * 4 + 1, none⟩ = some (.int .i64 (R x 1)) := (hupw.cells.1 _ _ (by omega)).trans (hcs x 1 hx1 (by omega))
                               have hg2 : wy.cell? ⟨b, o + x * 4 + 2, none⟩ = some (.int .i64 (R x 2)) := (hupw.cells.1 _ _ (by omega)).trans (hcs x 2 hx1 (by omega))
                               have hg3 : wy.cell? ⟨b, o + x * 4 + 3, none⟩ = some (.int .i64 (R x 3)) := (hupw.cells.1 _ _ (by omega)).trans (hcs x 3 hx1 (by omega))
                               have r0 := (hupx.cells.1 _ 0 hxl1).trans q0
                               have r1 := (hupx.cells.1 _ 1 hxl1).trans q1
                               have r2 := (hupx.cells.1 _ 2 hxl1).trans q2
                               have r3 := (hupx.cells.1 _ 3 hxl1).trans q3
                               have hxl2 := Nat.lt_of_lt_of_le hxl1 hupx.size
                               have hbs2 : b < wy.heap.size := by omega
                               clear hcs
                               have hrow : rowB (R x 0) (R x 1) (R x 2) (R x 3) = true := allN_get HR.out hx1
                               have hst : Hid (decide (lefI (R x 0) (R x 1) (R x 2) s0 s1 s2 ≤ rigI (R x 3) s3) = allN (fuR s0 s1 s2 s3 R) (x + 1)) := by
                                 show _ = (allN _ x && fuR s0 s1 s2 s3 R x)
                                 rw [← hab.out, Bool.true_and, fuR, fuB, hth, hrow]
                                 rfl
                               have hHo : ∀ W', Calls Try.prog 39 #[.agg #[.int .i64 s0, .int .i64 s1, .int .i64 s2, .int .i64 s3], .agg #[.int .i64 (R x 0), .int .i64 (R x 1), .int .i64 (R x 2), .int .i64 (R x 3)]] W' fun e w' => e = .returned (.bool (decide (lefI (R x 0) (R x 1) (R x 2) s0 s1 s2 ≤ rigI (R x 3) s3))) ∧ Up W' w' := fun W' => l10Holds_any _ _ _ _ _ _ _ _ W' hth hrow
                               clear hrow
                               generalize decide (lefI (R x 0) (R x 1) (R x 2) s0 s1 s2 ≤ rigI (R x 3) s3) = nb at *
                               go_wp2_with fail
                               (refine wp_region_up (by kernel_rfl) (by kernel_rfl) ?_; (repeat (refine wpQuiet_step (fun K hK => ?_); go_simp; first | (refine hK _ ?_; clear hK K) | (apply Exists.intro; refine ⟨fun wq hwq => ?_, hK _ ?_⟩; (obtain ⟨hcq, hfq⟩ := hwq.cells; (try go_simp); first | done | rfl | exact ⟨rfl, rfl⟩ | (go_at_call 39; exact up_of hwq (hHo _))); clear hK K))); refine wpQuiet_nil ?_; intro w2 hb2)
                               go_wp2
                               exact ⟨⟨x + 1, nb, by rfl, by rfl, by omega, hst, hupx.trans hb2⟩, by simp only [intOf]; omega⟩
                             · have hall : Hid (ab = allN (fuR s0 s1 s2 s3 R) n) := by
                                 cases ab with
                                 | true => rw [show n = x from by have h2 : ¬ x < n := fun h => hx1 ⟨h, rfl⟩; omega]; exact hab
                                 | false => exact (all_stop hab.out.symm hxn).symm
                               have ho3 := Lib.hid (own_up (w := w) ho2.out hupx)
                               have r0 := (hupx.cells.1 _ 0 hxl1).trans q0
                               have r1 := (hupx.cells.1 _ 1 hxl1).trans q1
                               have r2 := (hupx.cells.1 _ 2 hxl1).trans q2
                               have r3 := (hupx.cells.1 _ 3 hxl1).trans q3
                               have hxl2 := Nat.lt_of_lt_of_le hxl1 hupx.size
                               rw [HFA, ← hall.out] at HB
                               have hxx : ((x : Int) < (n : Int)) = (x < n) := by simp
                               clear hab hall ho2 q0 q1 q2 q3 hxl hxl1
                               cases ab with
                               | false =>
                                 have hL := HF (by rw [HB]; rfl)
                                 clear HT HF HB HFA
                                 subst hL
                                 by_cases hxn2 : (x : Int) < (n : Int)
                                 · go_wp2
                                   exact ⟨⟨mN + 1, by rfl, by omega, by omega, by rw [hL']; exact ho3, hupw⟩, by simp only [intOf]; omega⟩
                                 · go_wp2
                                   exact ⟨⟨mN + 1, by rfl, by omega, by omega, by rw [hL']; exact ho3, hupw⟩, by simp only [intOf]; omega⟩
                               | true =>
                                 have hL := HT (by rw [HB]; rfl)
                                 clear HT HF HB HFA
                                 have hxn2 : ¬ (x : Int) < (n : Int) := by have h2 : ¬ x < n := fun h => hx1 ⟨h, rfl⟩; omega
                                 go_wp2_with (at_builtin; refine wpList_append_lies _ rfl (.tmp 92) (.tmp 94) 45 rfl w.heap.size 29 i0 _ 4 32 Try.underlying45 hi0 hz0 hz1 hz2 rfl (by omega) _ _ _ rfl (ho3.out.alloc _) ⟨wy.heap.size, 0, none⟩ 1 1 [.int .i64 s0, .int .i64 s1, .int .i64 s2, .int .i64 s3] rfl rfl (World.news_of_block (heap_alloc_new wy _)) (by simp [Value.oneCell']) (by omega) (by simp only [maxLen]; omega) (by omega) (by have := hupw.size; simp; omega) (wy.heap.size + 1) (by simp) ?_; intro g cap w2 hown hgrow hat hlt)
                                 have hu4 : Up w w2 := up_own (hupw.alloc _) (Nat.le_refl _) (ho3.out.alloc _) hgrow
                                 have ho4 : w2.ownsRow w.heap.size 29 4 (.slice (some ⟨g, 0, none⟩) (L.length + 1) cap) L'.length (flat 4 (thF L') L'.length) := by
                                   rw [hL, List.length_append, List.length_singleton, flat_th]; exact hown
                                 have HO := Lib.hid ho4
                                 clear hown hgrow hat hlt ho4
                                 go_wp2
                                 exact ⟨⟨mN + 1, by rfl, by omega, by omega, by rw [hL']; exact HO, hu4⟩, by simp only [intOf]; omega⟩)
                  · have hkk : mN = n := by omega
                    subst hkk
                    have HRX := ho
                    rw [acc_k R mN (by omega)] at HRX
                    clear ho
                    go_wp2
                    exact ⟨⟨kN + 1, by rfl, by omega, by omega, HRX, hup⟩, by simp only [intOf]; omega⟩
              · have hkk : kN = n := by omega
                subst hkk
                have HRX := hok
                rw [acc_i R kN] at HRX
                clear hok
                go_wp2
                exact ⟨⟨iN + 1, by rfl, by omega, HRX, hupk⟩, by simp only [intOf]; omega⟩
          · have hkk : iN = n := by omega
            subst hkk
            have e := HLL.out.trans (coL_ok HN3.out HR.out)
            go_wp2
            go_ret
            rw [e]
            exact ⟨_, rfl, Wr.of_own hoi.out, hupi⟩
end Go.Proofs.Ytaealkfnhhmmcaa
