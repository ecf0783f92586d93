/- The walks of AreaTwice, MomentOf, HeightMoment, the program's. No condition. -/
import Derived.Test.YtigcmhdjafglbaaAr0
namespace Go.Proofs.Ytigcmhdjafglbaa
open Go.RowKit
set_option linter.unusedVariables false
set_option maxRecDepth 100000 in
theorem clo_0 (R : Nat → Nat → Int) (i q : Nat) (w : World) (h1 : ptB (R i 0) (R i 1) = true) (h2 : ptB (R q 0) (R q 1) = true) : Calls Try.prog 109 #[.agg #[.int .i64 (R i 0), .int .i64 (R i 1)], .agg #[.int .i64 (R q 0), .int .i64 (R q 1)]] w fun e w' => e = .returned (.int .i64 (fkQ 0 R i q)) ∧ Up w w' := by
  obtain ⟨a1, a2, a3, a4⟩ := ptB_bd h1
  obtain ⟨b1, b2, b3, b4⟩ := ptB_bd h2
  clear h1 h2
  go_enter Try.func109, Try.ntmps109
  go_wp2
  exact bodyPost_ret (v := .int .i64 1) (by simp only [results]; go_simp; try simp) rfl ⟨by simp [fkQ], (by repeat (first | with_reducible exact Up.refl _ | with_reducible refine Up.alloc ?_ _ | with_reducible refine Up.drew ?_ | with_reducible refine Up.drewN ?_ _ | (with_reducible refine Up.setCell ?_ (by first | omega | (simp; done) | (simp; omega)) _) | with_reducible assumption | (with_reducible refine Up.trans ?_ (by with_reducible assumption))))⟩
set_option maxHeartbeats 2000000 in
set_option maxRecDepth 100000 in
theorem over_0 (u : Value) (n lo hi : Nat) (R : Nat → Nat → Int) (w : World) (hs : Sl w lo hi 2 u n (intF R)) (hn : n ≤ 1048576) : Calls Try.prog 108 #[.agg #[u], .func (.func 109) #[] #[]] w fun e w' => e = .returned (.int .i64 (arI 0 n R)) ∧ Up w w' := by
  have hP := fun W (hu : Up w W) => StoneOk_any u n lo hi R W (hs.up hu) hn
  obtain ⟨h0, A, c, rfl, hc, hx⟩ := hs
  have H := Lib.hid hx
  clear hx
  cases hok : stOk n R with
  | false =>
    rw [arI_f hok]
    have HPo : ∀ W, Up w W → Calls Try.prog 67 #[.agg #[.slice A n c]] W fun e w' => e = .returned (.bool false) ∧ Up W w' := fun W hu => by have hh := hP W hu; rw [hok] at hh; exact hh
    clear hok hP
    go_enter Try.func108, Try.ntmps108
    go_wp2_with (first | (go_at_call 67; (with_reducible refine (HPo _ (by repeat (first | with_reducible exact Up.refl _ | with_reducible refine Up.alloc ?_ _ | with_reducible refine Up.drew ?_ | with_reducible refine Up.drewN ?_ _ | (with_reducible refine Up.setCell ?_ (by first | omega | (simp; done) | (simp; omega)) _) | with_reducible assumption | (with_reducible refine Up.trans ?_ (by with_reducible assumption))))).mono ?_); rintro e w1 ⟨rfl, hb1⟩))
    exact bodyPost_ret (v := .int .i64 0) (by simp only [results]; go_simp; try simp) rfl ⟨rfl, (by repeat (first | with_reducible exact Up.refl _ | with_reducible refine Up.alloc ?_ _ | with_reducible refine Up.drew ?_ | with_reducible refine Up.drewN ?_ _ | (with_reducible refine Up.setCell ?_ (by first | omega | (simp; done) | (simp; omega)) _) | with_reducible assumption | (with_reducible refine Up.trans ?_ (by with_reducible assumption))))⟩
  | true =>
    have HPo : ∀ W, Up w W → Calls Try.prog 67 #[.agg #[.slice A n c]] W fun e w' => e = .returned (.bool true) ∧ Up W w' := fun W hu => by have hh := hP W hu; rw [hok] at hh; exact hh
    obtain ⟨hn3, hn6, hgp⟩ := st_inv hok
    rw [arI_t hok]
    have hbd := fun j hj => arS_bd (k := 0) (R := R) (n := n) (by omega) hgp j hj
    have HBD := Lib.hid hbd
    have HG := Lib.hid hgp
    clear hok hP hgp hbd
    go_enter Try.func108, Try.ntmps108
    go_wp2_with fail
    (go_at_call 67; (with_reducible refine (HPo _ (by repeat (first | with_reducible exact Up.refl _ | with_reducible refine Up.alloc ?_ _ | with_reducible refine Up.drew ?_ | with_reducible refine Up.drewN ?_ _ | (with_reducible refine Up.setCell ?_ (by first | omega | (simp; done) | (simp; omega)) _) | with_reducible assumption | (with_reducible refine Up.trans ?_ (by with_reducible assumption))))).mono ?_); rintro e w1 ⟨rfl, hb1⟩)
    have hw1 : Up w w1 := (by repeat (first | with_reducible exact Up.refl _ | with_reducible refine Up.alloc ?_ _ | with_reducible refine Up.drew ?_ | with_reducible refine Up.drewN ?_ _ | (with_reducible refine Up.setCell ?_ (by first | omega | (simp; done) | (simp; omega)) _) | with_reducible assumption | (with_reducible refine Up.trans ?_ (by with_reducible assumption))))
    have hx0 : w1.cell? ⟨w.heap.size, 0, none⟩ = some (.slice A n c) := (hb1.cells.1 _ _ (by simp)).trans (by simp [World.cell?_alloc_mark])
    have hxl : w.heap.size < w1.heap.size := Nat.lt_of_lt_of_le (by simp) hb1.size
    clear hb1 HPo
    obtain ⟨wz, rfl⟩ : ∃ wz : World, wz = w1 := ⟨_, rfl⟩
    go_wp2_with fail
    go_loopw [5, 15] (fun s i wr => ∃ j : Nat, i = .int .i64 (j : Int) ∧ j ≤ n ∧ s = .int .i64 (arS 0 n R j) ∧ Up wz wr) (fun _ i _ => n - (intOf i).toNat)
    case atStart => exact ⟨0, rfl, Nat.zero_le _, rfl, (by repeat (first | with_reducible exact Up.refl _ | with_reducible refine Up.alloc ?_ _ | with_reducible refine Up.drew ?_ | with_reducible refine Up.drewN ?_ _ | (with_reducible refine Up.setCell ?_ (by first | omega | (simp; done) | (simp; omega)) _) | with_reducible assumption | (with_reducible refine Up.trans ?_ (by with_reducible assumption))))⟩
    case round =>
      obtain ⟨j, rfl, hj, rfl, hup⟩ := hrel
      have hupw : Up w wr := hw1.trans hup
      have hbx := (hup.cells.1 _ 0 hxl).trans hx0
      have hbxr : w.heap.size < wr.heap.size := Nat.lt_of_lt_of_le hxl hup.size
      by_cases hk1 : j < n
      · obtain ⟨b, o, rfl, hb1, hb2, hcs⟩ := H.out (by omega)
        obtain ⟨m1, t1⟩ := mod_facts j 1 n hk1 hn6 (by omega)
        have hst : arS 0 n R (j + 1) = arS 0 n R j + fkQ 0 R j ((j + 1) % n) * crQ R j ((j + 1) % n) := rfl
        generalize hq1 : (j + 1) % n = q at m1 t1 hst
        obtain ⟨a0, a1⟩ := Sl.pt hcs hk1
        obtain ⟨b0, b1⟩ := Sl.pt hcs m1
        have hbw : b < w.heap.size := by omega
        have g0 := (hupw.cells.1 _ (o + j * 2) hbw).trans a0
        have g1 := (hupw.cells.1 _ (o + j * 2 + 1) hbw).trans a1
        have g2 := (hupw.cells.1 _ (o + q * 2) hbw).trans b0
        have g3 := (hupw.cells.1 _ (o + q * 2 + 1) hbw).trans b1
        have hbr : b < wr.heap.size := Nat.lt_of_lt_of_le hbw hupw.size
        have hk2 : (j : Int) < (n : Int) := by omega
        have m1i : (q : Int) < (n : Int) := by omega
        have hw1a : IntKind.i64.wrap ((j : Int) + 1) = (j : Int) + 1 := by rw [IntKind.wrap_i64]; omega
        have hwq1 : IntKind.i64.wrap (q : Int) = (q : Int) := by rw [IntKind.wrap_i64]; omega
        have hn0 : ¬ (n : Int) = 0 := by omega
        have hnn : ¬ n = 0 := by omega
        have T1 : ((j : Int) + 1).tmod (n : Int) = (q : Int) := t1
        have HST := Lib.hid hst
        obtain ⟨x1, x2, x3, x4, y1, y2, y3, y4, y5, y6⟩ := ar_bd (k := 0) (HG.out j hk1) (HG.out q m1)
        obtain ⟨z1, z2⟩ := HBD.out j (by omega)
        have z3 := HBD.out (j + 1) (by omega)
        rw [HST.out] at z3
        have HF : ∀ W : World, Calls Try.prog 109 #[.agg #[.int .i64 (R j 0), .int .i64 (R j 1)], .agg #[.int .i64 (R q 0), .int .i64 (R q 1)]] W fun e w' => e = .returned (.int .i64 (fkQ 0 R j q)) ∧ Up W w' := fun W => clo_0 R j q W (HG.out j hk1) (HG.out q m1)
        have HCR : Hid (crQ R j q = R j 0 * R q 1 - R j 1 * R q 0) := rfl
        generalize fkQ 0 R j q = f at *
        generalize crQ R j q = cr at *
        generalize arS 0 n R j = s at *
        have v1 : IntKind.i64.wrap (R j 0 * R q 1) = R j 0 * R q 1 := by rw [IntKind.wrap_i64]; omega
        have v2 : IntKind.i64.wrap (R j 1 * R q 0) = R j 1 * R q 0 := by rw [IntKind.wrap_i64]; omega
        have v3 : IntKind.i64.wrap (R j 0 * R q 1 - R j 1 * R q 0) = cr := by rw [IntKind.wrap_i64, HCR.out]; omega
        have v4 : IntKind.i64.wrap (f * cr) = f * cr := by rw [IntKind.wrap_i64]; omega
        have v5 : IntKind.i64.wrap (s + f * cr) = s + f * cr := by rw [IntKind.wrap_i64]; omega
        clear a0 a1 b0 b1 hcs t1 hq1 hst z3
        go_wp2_with fail
        go_region_held3 (fun w' => (∀ b o, b < wr.heap.size → w'.cell? ⟨b, o, none⟩ = wr.cell? ⟨b, o, none⟩) ∧ wr.heap.size ≤ w'.heap.size) (repeat (first | with_reducible refine kp_drew ?_ | with_reducible refine kp_set ?_ (by first | omega | (simp; done) | (simp; omega)) | with_reducible refine kp_alloc ?_ _ | with_reducible assumption | with_reducible exact kp_start _)) (first | fail)
        · obtain ⟨wk, hW⟩ : ∃ wk : World, wk = ((wr.alloc (.cells #[.int .i64 (R j 0), .int .i64 (R j 1)] 111)).alloc (.cells #[.int .i64 (R q 0), .int .i64 (R q 1)] 111)).drew := ⟨_, rfl⟩
          rw [← hW]
          have q70 : wk.cell? ⟨wr.heap.size, 0, none⟩ = some (.int .i64 (R j 0)) := by rw [hW]; go_simp
          have q71 : wk.cell? ⟨wr.heap.size, 1, none⟩ = some (.int .i64 (R j 1)) := by rw [hW]; go_simp
          have q80 : wk.cell? ⟨wr.heap.size + 1, 0, none⟩ = some (.int .i64 (R q 0)) := by rw [hW]; go_simp
          have q81 : wk.cell? ⟨wr.heap.size + 1, 1, none⟩ = some (.int .i64 (R q 1)) := by rw [hW]; go_simp
          have hl7 : wr.heap.size < wk.heap.size := by rw [hW]; simp <;> omega
          have hl8 : wr.heap.size + 1 < wk.heap.size := by rw [hW]; simp <;> omega
          have hu7 : Up wr wk := by rw [hW]; exact (by repeat (first | with_reducible exact Up.refl _ | with_reducible refine Up.alloc ?_ _ | with_reducible refine Up.drew ?_ | with_reducible refine Up.drewN ?_ _ | (with_reducible refine Up.setCell ?_ (by first | omega | (simp; done) | (simp; omega)) _) | with_reducible assumption | (with_reducible refine Up.trans ?_ (by with_reducible assumption))))
          clear hW
          go_wp2_with fail
          (refine wp_region_up (by kernel_rfl) (by kernel_rfl) ?_; (repeat (refine wpQuiet_step (fun K hK => ?_); go_simp; first | (refine hK _ ?_; clear hK K) | (apply Exists.intro; refine ⟨fun wq hwq => ?_, hK _ ?_⟩; (obtain ⟨hcq, hfq⟩ := hwq.cells; (try go_simp); first | done | rfl | exact ⟨rfl, rfl⟩ | (go_at_call 109; exact up_of hwq (HF _))); clear hK K))); refine wpQuiet_nil ?_; intro w1 hb1; obtain ⟨hc1, hf1⟩ := hb1.cells; have hl1 := hb1.lt; have hle1 := hb1.le; have hs1 := hb1.size; (try simp at hs1); (try have hs1a : wk.heap.size < w1.heap.size := by omega); (try have hs1aa : wk.heap.size ≤ w1.heap.size := by omega); (try have hs1b : wk.heap.size + 1 < w1.heap.size := by omega); (try have hs1bb : wk.heap.size + 1 ≤ w1.heap.size := by omega); (try have hs1c : wk.heap.size + 1 + 1 < w1.heap.size := by omega); (try have hs1cc : wk.heap.size + 1 + 1 ≤ w1.heap.size := by omega); (try have hs1d : wk.heap.size + 1 + 1 + 1 < w1.heap.size := by omega); (try have hs1dd : wk.heap.size + 1 + 1 + 1 ≤ w1.heap.size := by omega); (try have hs1L := Nat.lt_of_succ_le hs1); (try have hs1M := Nat.lt_of_succ_lt hs1L); (try have hs1N := Nat.lt_of_succ_lt hs1M); (try have hs1LE := Nat.le_of_lt hs1L); (try have hs1ME := Nat.le_of_lt hs1M))
          go_wp2
          exact ⟨⟨j + 1, by rfl, by omega, by rw [HST.out], (by repeat (first | with_reducible exact Up.refl _ | with_reducible refine Up.alloc ?_ _ | with_reducible refine Up.drew ?_ | with_reducible refine Up.drewN ?_ _ | (with_reducible refine Up.setCell ?_ (by first | omega | (simp; done) | (simp; omega)) _) | with_reducible assumption | (with_reducible refine Up.trans ?_ (by with_reducible assumption))))⟩, by simp only [intOf]; omega⟩
        · obtain ⟨wk, hW⟩ : ∃ wk : World, wk = ((wr.alloc (.cells #[.int .i64 (R q 0), .int .i64 (R q 1)] 111)).alloc (.cells #[.int .i64 (R j 0), .int .i64 (R j 1)] 111)).drew := ⟨_, rfl⟩
          rw [← hW]
          have q70 : wk.cell? ⟨wr.heap.size + 1, 0, none⟩ = some (.int .i64 (R j 0)) := by rw [hW]; go_simp
          have q71 : wk.cell? ⟨wr.heap.size + 1, 1, none⟩ = some (.int .i64 (R j 1)) := by rw [hW]; go_simp
          have q80 : wk.cell? ⟨wr.heap.size, 0, none⟩ = some (.int .i64 (R q 0)) := by rw [hW]; go_simp
          have q81 : wk.cell? ⟨wr.heap.size, 1, none⟩ = some (.int .i64 (R q 1)) := by rw [hW]; go_simp
          have hl7 : wr.heap.size + 1 < wk.heap.size := by rw [hW]; simp <;> omega
          have hl8 : wr.heap.size < wk.heap.size := by rw [hW]; simp <;> omega
          have hu7 : Up wr wk := by rw [hW]; exact (by repeat (first | with_reducible exact Up.refl _ | with_reducible refine Up.alloc ?_ _ | with_reducible refine Up.drew ?_ | with_reducible refine Up.drewN ?_ _ | (with_reducible refine Up.setCell ?_ (by first | omega | (simp; done) | (simp; omega)) _) | with_reducible assumption | (with_reducible refine Up.trans ?_ (by with_reducible assumption))))
          clear hW
          go_wp2_with fail
          (refine wp_region_up (by kernel_rfl) (by kernel_rfl) ?_; (repeat (refine wpQuiet_step (fun K hK => ?_); go_simp; first | (refine hK _ ?_; clear hK K) | (apply Exists.intro; refine ⟨fun wq hwq => ?_, hK _ ?_⟩; (obtain ⟨hcq, hfq⟩ := hwq.cells; (try go_simp); first | done | rfl | exact ⟨rfl, rfl⟩ | (go_at_call 109; exact up_of hwq (HF _))); clear hK K))); refine wpQuiet_nil ?_; intro w1 hb1; obtain ⟨hc1, hf1⟩ := hb1.cells; have hl1 := hb1.lt; have hle1 := hb1.le; have hs1 := hb1.size; (try simp at hs1); (try have hs1a : wk.heap.size < w1.heap.size := by omega); (try have hs1aa : wk.heap.size ≤ w1.heap.size := by omega); (try have hs1b : wk.heap.size + 1 < w1.heap.size := by omega); (try have hs1bb : wk.heap.size + 1 ≤ w1.heap.size := by omega); (try have hs1c : wk.heap.size + 1 + 1 < w1.heap.size := by omega); (try have hs1cc : wk.heap.size + 1 + 1 ≤ w1.heap.size := by omega); (try have hs1d : wk.heap.size + 1 + 1 + 1 < w1.heap.size := by omega); (try have hs1dd : wk.heap.size + 1 + 1 + 1 ≤ w1.heap.size := by omega); (try have hs1L := Nat.lt_of_succ_le hs1); (try have hs1M := Nat.lt_of_succ_lt hs1L); (try have hs1N := Nat.lt_of_succ_lt hs1M); (try have hs1LE := Nat.le_of_lt hs1L); (try have hs1ME := Nat.le_of_lt hs1M))
          go_wp2
          exact ⟨⟨j + 1, by rfl, by omega, by rw [HST.out], (by repeat (first | with_reducible exact Up.refl _ | with_reducible refine Up.alloc ?_ _ | with_reducible refine Up.drew ?_ | with_reducible refine Up.drewN ?_ _ | (with_reducible refine Up.setCell ?_ (by first | omega | (simp; done) | (simp; omega)) _) | with_reducible assumption | (with_reducible refine Up.trans ?_ (by with_reducible assumption))))⟩, by simp only [intOf]; omega⟩
      · have hkk : j = n := by omega
        subst hkk
        have hk2 : ¬ (j : Int) < (j : Int) := by omega
        go_wp2
        go_ret
        exact ⟨rfl, (by repeat (first | with_reducible exact Up.refl _ | with_reducible refine Up.alloc ?_ _ | with_reducible refine Up.drew ?_ | with_reducible refine Up.drewN ?_ _ | (with_reducible refine Up.setCell ?_ (by first | omega | (simp; done) | (simp; omega)) _) | with_reducible assumption | (with_reducible refine Up.trans ?_ (by with_reducible assumption))))⟩
set_option maxRecDepth 100000 in
theorem AreaTwice_any (u : Value) (n lo hi : Nat) (R : Nat → Nat → Int) (w : World) (hs : Sl w lo hi 2 u n (intF R)) (hn : n ≤ 1048576) : Calls Try.prog 70 #[.agg #[u]] w fun e w' => e = .returned (.int .i64 (arI 0 n R)) ∧ Up w w' := by
  have hP := fun W (hu : Up w W) => over_0 u n lo hi R W (hs.up hu) hn
  go_enter Try.func70, Try.ntmps70
  go_wp2_with (first | (go_at_call 108; (with_reducible refine (hP _ (by repeat (first | with_reducible exact Up.refl _ | with_reducible refine Up.alloc ?_ _ | with_reducible refine Up.drew ?_ | with_reducible refine Up.drewN ?_ _ | (with_reducible refine Up.setCell ?_ (by first | omega | (simp; done) | (simp; omega)) _) | with_reducible assumption | (with_reducible refine Up.trans ?_ (by with_reducible assumption))))).mono ?_); rintro e w1 ⟨rfl, hb1⟩))
  go_ret
  exact ⟨rfl, (by repeat (first | with_reducible exact Up.refl _ | with_reducible refine Up.alloc ?_ _ | with_reducible refine Up.drew ?_ | with_reducible refine Up.drewN ?_ _ | (with_reducible refine Up.setCell ?_ (by first | omega | (simp; done) | (simp; omega)) _) | with_reducible assumption | (with_reducible refine Up.trans ?_ (by with_reducible assumption))))⟩
set_option maxRecDepth 100000 in
theorem clo_1 (R : Nat → Nat → Int) (i q : Nat) (w : World) (h1 : ptB (R i 0) (R i 1) = true) (h2 : ptB (R q 0) (R q 1) = true) : Calls Try.prog 111 #[.agg #[.int .i64 (R i 0), .int .i64 (R i 1)], .agg #[.int .i64 (R q 0), .int .i64 (R q 1)]] w fun e w' => e = .returned (.int .i64 (fkQ 1 R i q)) ∧ Up w w' := by
  obtain ⟨a1, a2, a3, a4⟩ := ptB_bd h1
  obtain ⟨b1, b2, b3, b4⟩ := ptB_bd h2
  clear h1 h2
  go_enter Try.func111, Try.ntmps111
  go_wp2
  go_ret
  exact ⟨by rfl, (by repeat (first | with_reducible exact Up.refl _ | with_reducible refine Up.alloc ?_ _ | with_reducible refine Up.drew ?_ | with_reducible refine Up.drewN ?_ _ | (with_reducible refine Up.setCell ?_ (by first | omega | (simp; done) | (simp; omega)) _) | with_reducible assumption | (with_reducible refine Up.trans ?_ (by with_reducible assumption))))⟩
set_option maxHeartbeats 2000000 in
set_option maxRecDepth 100000 in
theorem over_1 (u : Value) (n lo hi : Nat) (R : Nat → Nat → Int) (w : World) (hs : Sl w lo hi 2 u n (intF R)) (hn : n ≤ 1048576) : Calls Try.prog 108 #[.agg #[u], .func (.func 111) #[] #[]] w fun e w' => e = .returned (.int .i64 (arI 1 n R)) ∧ Up w w' := by
  have hP := fun W (hu : Up w W) => StoneOk_any u n lo hi R W (hs.up hu) hn
  obtain ⟨h0, A, c, rfl, hc, hx⟩ := hs
  have H := Lib.hid hx
  clear hx
  cases hok : stOk n R with
  | false =>
    rw [arI_f hok]
    have HPo : ∀ W, Up w W → Calls Try.prog 67 #[.agg #[.slice A n c]] W fun e w' => e = .returned (.bool false) ∧ Up W w' := fun W hu => by have hh := hP W hu; rw [hok] at hh; exact hh
    clear hok hP
    go_enter Try.func108, Try.ntmps108
    go_wp2_with (first | (go_at_call 67; (with_reducible refine (HPo _ (by repeat (first | with_reducible exact Up.refl _ | with_reducible refine Up.alloc ?_ _ | with_reducible refine Up.drew ?_ | with_reducible refine Up.drewN ?_ _ | (with_reducible refine Up.setCell ?_ (by first | omega | (simp; done) | (simp; omega)) _) | with_reducible assumption | (with_reducible refine Up.trans ?_ (by with_reducible assumption))))).mono ?_); rintro e w1 ⟨rfl, hb1⟩))
    exact bodyPost_ret (v := .int .i64 0) (by simp only [results]; go_simp; try simp) rfl ⟨rfl, (by repeat (first | with_reducible exact Up.refl _ | with_reducible refine Up.alloc ?_ _ | with_reducible refine Up.drew ?_ | with_reducible refine Up.drewN ?_ _ | (with_reducible refine Up.setCell ?_ (by first | omega | (simp; done) | (simp; omega)) _) | with_reducible assumption | (with_reducible refine Up.trans ?_ (by with_reducible assumption))))⟩
  | true =>
    have HPo : ∀ W, Up w W → Calls Try.prog 67 #[.agg #[.slice A n c]] W fun e w' => e = .returned (.bool true) ∧ Up W w' := fun W hu => by have hh := hP W hu; rw [hok] at hh; exact hh
    obtain ⟨hn3, hn6, hgp⟩ := st_inv hok
    rw [arI_t hok]
    have hbd := fun j hj => arS_bd (k := 1) (R := R) (n := n) (by omega) hgp j hj
    have HBD := Lib.hid hbd
    have HG := Lib.hid hgp
    clear hok hP hgp hbd
    go_enter Try.func108, Try.ntmps108
    go_wp2_with fail
    (go_at_call 67; (with_reducible refine (HPo _ (by repeat (first | with_reducible exact Up.refl _ | with_reducible refine Up.alloc ?_ _ | with_reducible refine Up.drew ?_ | with_reducible refine Up.drewN ?_ _ | (with_reducible refine Up.setCell ?_ (by first | omega | (simp; done) | (simp; omega)) _) | with_reducible assumption | (with_reducible refine Up.trans ?_ (by with_reducible assumption))))).mono ?_); rintro e w1 ⟨rfl, hb1⟩)
    have hw1 : Up w w1 := (by repeat (first | with_reducible exact Up.refl _ | with_reducible refine Up.alloc ?_ _ | with_reducible refine Up.drew ?_ | with_reducible refine Up.drewN ?_ _ | (with_reducible refine Up.setCell ?_ (by first | omega | (simp; done) | (simp; omega)) _) | with_reducible assumption | (with_reducible refine Up.trans ?_ (by with_reducible assumption))))
    have hx0 : w1.cell? ⟨w.heap.size, 0, none⟩ = some (.slice A n c) := (hb1.cells.1 _ _ (by simp)).trans (by simp [World.cell?_alloc_mark])
    have hxl : w.heap.size < w1.heap.size := Nat.lt_of_lt_of_le (by simp) hb1.size
    clear hb1 HPo
    obtain ⟨wz, rfl⟩ : ∃ wz : World, wz = w1 := ⟨_, rfl⟩
    go_wp2_with fail
    go_loopw [5, 15] (fun s i wr => ∃ j : Nat, i = .int .i64 (j : Int) ∧ j ≤ n ∧ s = .int .i64 (arS 1 n R j) ∧ Up wz wr) (fun _ i _ => n - (intOf i).toNat)
    case atStart => exact ⟨0, rfl, Nat.zero_le _, rfl, (by repeat (first | with_reducible exact Up.refl _ | with_reducible refine Up.alloc ?_ _ | with_reducible refine Up.drew ?_ | with_reducible refine Up.drewN ?_ _ | (with_reducible refine Up.setCell ?_ (by first | omega | (simp; done) | (simp; omega)) _) | with_reducible assumption | (with_reducible refine Up.trans ?_ (by with_reducible assumption))))⟩
    case round =>
      obtain ⟨j, rfl, hj, rfl, hup⟩ := hrel
      have hupw : Up w wr := hw1.trans hup
      have hbx := (hup.cells.1 _ 0 hxl).trans hx0
      have hbxr : w.heap.size < wr.heap.size := Nat.lt_of_lt_of_le hxl hup.size
      by_cases hk1 : j < n
      · obtain ⟨b, o, rfl, hb1, hb2, hcs⟩ := H.out (by omega)
        obtain ⟨m1, t1⟩ := mod_facts j 1 n hk1 hn6 (by omega)
        have hst : arS 1 n R (j + 1) = arS 1 n R j + fkQ 1 R j ((j + 1) % n) * crQ R j ((j + 1) % n) := rfl
        generalize hq1 : (j + 1) % n = q at m1 t1 hst
        obtain ⟨a0, a1⟩ := Sl.pt hcs hk1
        obtain ⟨b0, b1⟩ := Sl.pt hcs m1
        have hbw : b < w.heap.size := by omega
        have g0 := (hupw.cells.1 _ (o + j * 2) hbw).trans a0
        have g1 := (hupw.cells.1 _ (o + j * 2 + 1) hbw).trans a1
        have g2 := (hupw.cells.1 _ (o + q * 2) hbw).trans b0
        have g3 := (hupw.cells.1 _ (o + q * 2 + 1) hbw).trans b1
        have hbr : b < wr.heap.size := Nat.lt_of_lt_of_le hbw hupw.size
        have hk2 : (j : Int) < (n : Int) := by omega
        have m1i : (q : Int) < (n : Int) := by omega
        have hw1a : IntKind.i64.wrap ((j : Int) + 1) = (j : Int) + 1 := by rw [IntKind.wrap_i64]; omega
        have hwq1 : IntKind.i64.wrap (q : Int) = (q : Int) := by rw [IntKind.wrap_i64]; omega
        have hn0 : ¬ (n : Int) = 0 := by omega
        have hnn : ¬ n = 0 := by omega
        have T1 : ((j : Int) + 1).tmod (n : Int) = (q : Int) := t1
        have HST := Lib.hid hst
        obtain ⟨x1, x2, x3, x4, y1, y2, y3, y4, y5, y6⟩ := ar_bd (k := 1) (HG.out j hk1) (HG.out q m1)
        obtain ⟨z1, z2⟩ := HBD.out j (by omega)
        have z3 := HBD.out (j + 1) (by omega)
        rw [HST.out] at z3
        have HF : ∀ W : World, Calls Try.prog 111 #[.agg #[.int .i64 (R j 0), .int .i64 (R j 1)], .agg #[.int .i64 (R q 0), .int .i64 (R q 1)]] W fun e w' => e = .returned (.int .i64 (fkQ 1 R j q)) ∧ Up W w' := fun W => clo_1 R j q W (HG.out j hk1) (HG.out q m1)
        have HCR : Hid (crQ R j q = R j 0 * R q 1 - R j 1 * R q 0) := rfl
        generalize fkQ 1 R j q = f at *
        generalize crQ R j q = cr at *
        generalize arS 1 n R j = s at *
        have v1 : IntKind.i64.wrap (R j 0 * R q 1) = R j 0 * R q 1 := by rw [IntKind.wrap_i64]; omega
        have v2 : IntKind.i64.wrap (R j 1 * R q 0) = R j 1 * R q 0 := by rw [IntKind.wrap_i64]; omega
        have v3 : IntKind.i64.wrap (R j 0 * R q 1 - R j 1 * R q 0) = cr := by rw [IntKind.wrap_i64, HCR.out]; omega
        have v4 : IntKind.i64.wrap (f * cr) = f * cr := by rw [IntKind.wrap_i64]; omega
        have v5 : IntKind.i64.wrap (s + f * cr) = s + f * cr := by rw [IntKind.wrap_i64]; omega
        clear a0 a1 b0 b1 hcs t1 hq1 hst z3
        go_wp2_with fail
        go_region_held3 (fun w' => (∀ b o, b < wr.heap.size → w'.cell? ⟨b, o, none⟩ = wr.cell? ⟨b, o, none⟩) ∧ wr.heap.size ≤ w'.heap.size) (repeat (first | with_reducible refine kp_drew ?_ | with_reducible refine kp_set ?_ (by first | omega | (simp; done) | (simp; omega)) | with_reducible refine kp_alloc ?_ _ | with_reducible assumption | with_reducible exact kp_start _)) (first | fail)
        · obtain ⟨wk, hW⟩ : ∃ wk : World, wk = ((wr.alloc (.cells #[.int .i64 (R j 0), .int .i64 (R j 1)] 111)).alloc (.cells #[.int .i64 (R q 0), .int .i64 (R q 1)] 111)).drew := ⟨_, rfl⟩
          rw [← hW]
          have q70 : wk.cell? ⟨wr.heap.size, 0, none⟩ = some (.int .i64 (R j 0)) := by rw [hW]; go_simp
          have q71 : wk.cell? ⟨wr.heap.size, 1, none⟩ = some (.int .i64 (R j 1)) := by rw [hW]; go_simp
          have q80 : wk.cell? ⟨wr.heap.size + 1, 0, none⟩ = some (.int .i64 (R q 0)) := by rw [hW]; go_simp
          have q81 : wk.cell? ⟨wr.heap.size + 1, 1, none⟩ = some (.int .i64 (R q 1)) := by rw [hW]; go_simp
          have hl7 : wr.heap.size < wk.heap.size := by rw [hW]; simp <;> omega
          have hl8 : wr.heap.size + 1 < wk.heap.size := by rw [hW]; simp <;> omega
          have hu7 : Up wr wk := by rw [hW]; exact (by repeat (first | with_reducible exact Up.refl _ | with_reducible refine Up.alloc ?_ _ | with_reducible refine Up.drew ?_ | with_reducible refine Up.drewN ?_ _ | (with_reducible refine Up.setCell ?_ (by first | omega | (simp; done) | (simp; omega)) _) | with_reducible assumption | (with_reducible refine Up.trans ?_ (by with_reducible assumption))))
          clear hW
          go_wp2_with fail
          (refine wp_region_up (by kernel_rfl) (by kernel_rfl) ?_; (repeat (refine wpQuiet_step (fun K hK => ?_); go_simp; first | (refine hK _ ?_; clear hK K) | (apply Exists.intro; refine ⟨fun wq hwq => ?_, hK _ ?_⟩; (obtain ⟨hcq, hfq⟩ := hwq.cells; (try go_simp); first | done | rfl | exact ⟨rfl, rfl⟩ | (go_at_call 111; exact up_of hwq (HF _))); clear hK K))); refine wpQuiet_nil ?_; intro w1 hb1; obtain ⟨hc1, hf1⟩ := hb1.cells; have hl1 := hb1.lt; have hle1 := hb1.le; have hs1 := hb1.size; (try simp at hs1); (try have hs1a : wk.heap.size < w1.heap.size := by omega); (try have hs1aa : wk.heap.size ≤ w1.heap.size := by omega); (try have hs1b : wk.heap.size + 1 < w1.heap.size := by omega); (try have hs1bb : wk.heap.size + 1 ≤ w1.heap.size := by omega); (try have hs1c : wk.heap.size + 1 + 1 < w1.heap.size := by omega); (try have hs1cc : wk.heap.size + 1 + 1 ≤ w1.heap.size := by omega); (try have hs1d : wk.heap.size + 1 + 1 + 1 < w1.heap.size := by omega); (try have hs1dd : wk.heap.size + 1 + 1 + 1 ≤ w1.heap.size := by omega); (try have hs1L := Nat.lt_of_succ_le hs1); (try have hs1M := Nat.lt_of_succ_lt hs1L); (try have hs1N := Nat.lt_of_succ_lt hs1M); (try have hs1LE := Nat.le_of_lt hs1L); (try have hs1ME := Nat.le_of_lt hs1M))
          go_wp2
          exact ⟨⟨j + 1, by rfl, by omega, by rw [HST.out], (by repeat (first | with_reducible exact Up.refl _ | with_reducible refine Up.alloc ?_ _ | with_reducible refine Up.drew ?_ | with_reducible refine Up.drewN ?_ _ | (with_reducible refine Up.setCell ?_ (by first | omega | (simp; done) | (simp; omega)) _) | with_reducible assumption | (with_reducible refine Up.trans ?_ (by with_reducible assumption))))⟩, by simp only [intOf]; omega⟩
        · obtain ⟨wk, hW⟩ : ∃ wk : World, wk = ((wr.alloc (.cells #[.int .i64 (R q 0), .int .i64 (R q 1)] 111)).alloc (.cells #[.int .i64 (R j 0), .int .i64 (R j 1)] 111)).drew := ⟨_, rfl⟩
          rw [← hW]
          have q70 : wk.cell? ⟨wr.heap.size + 1, 0, none⟩ = some (.int .i64 (R j 0)) := by rw [hW]; go_simp
          have q71 : wk.cell? ⟨wr.heap.size + 1, 1, none⟩ = some (.int .i64 (R j 1)) := by rw [hW]; go_simp
          have q80 : wk.cell? ⟨wr.heap.size, 0, none⟩ = some (.int .i64 (R q 0)) := by rw [hW]; go_simp
          have q81 : wk.cell? ⟨wr.heap.size, 1, none⟩ = some (.int .i64 (R q 1)) := by rw [hW]; go_simp
          have hl7 : wr.heap.size + 1 < wk.heap.size := by rw [hW]; simp <;> omega
          have hl8 : wr.heap.size < wk.heap.size := by rw [hW]; simp <;> omega
          have hu7 : Up wr wk := by rw [hW]; exact (by repeat (first | with_reducible exact Up.refl _ | with_reducible refine Up.alloc ?_ _ | with_reducible refine Up.drew ?_ | with_reducible refine Up.drewN ?_ _ | (with_reducible refine Up.setCell ?_ (by first | omega | (simp; done) | (simp; omega)) _) | with_reducible assumption | (with_reducible refine Up.trans ?_ (by with_reducible assumption))))
          clear hW
          go_wp2_with fail
          (refine wp_region_up (by kernel_rfl) (by kernel_rfl) ?_; (repeat (refine wpQuiet_step (fun K hK => ?_); go_simp; first | (refine hK _ ?_; clear hK K) | (apply Exists.intro; refine ⟨fun wq hwq => ?_, hK _ ?_⟩; (obtain ⟨hcq, hfq⟩ := hwq.cells; (try go_simp); first | done | rfl | exact ⟨rfl, rfl⟩ | (go_at_call 111; exact up_of hwq (HF _))); clear hK K))); refine wpQuiet_nil ?_; intro w1 hb1; obtain ⟨hc1, hf1⟩ := hb1.cells; have hl1 := hb1.lt; have hle1 := hb1.le; have hs1 := hb1.size; (try simp at hs1); (try have hs1a : wk.heap.size < w1.heap.size := by omega); (try have hs1aa : wk.heap.size ≤ w1.heap.size := by omega); (try have hs1b : wk.heap.size + 1 < w1.heap.size := by omega); (try have hs1bb : wk.heap.size + 1 ≤ w1.heap.size := by omega); (try have hs1c : wk.heap.size + 1 + 1 < w1.heap.size := by omega); (try have hs1cc : wk.heap.size + 1 + 1 ≤ w1.heap.size := by omega); (try have hs1d : wk.heap.size + 1 + 1 + 1 < w1.heap.size := by omega); (try have hs1dd : wk.heap.size + 1 + 1 + 1 ≤ w1.heap.size := by omega); (try have hs1L := Nat.lt_of_succ_le hs1); (try have hs1M := Nat.lt_of_succ_lt hs1L); (try have hs1N := Nat.lt_of_succ_lt hs1M); (try have hs1LE := Nat.le_of_lt hs1L); (try have hs1ME := Nat.le_of_lt hs1M))
          go_wp2
          exact ⟨⟨j + 1, by rfl, by omega, by rw [HST.out], (by repeat (first | with_reducible exact Up.refl _ | with_reducible refine Up.alloc ?_ _ | with_reducible refine Up.drew ?_ | with_reducible refine Up.drewN ?_ _ | (with_reducible refine Up.setCell ?_ (by first | omega | (simp; done) | (simp; omega)) _) | with_reducible assumption | (with_reducible refine Up.trans ?_ (by with_reducible assumption))))⟩, by simp only [intOf]; omega⟩
      · have hkk : j = n := by omega
        subst hkk
        have hk2 : ¬ (j : Int) < (j : Int) := by omega
        go_wp2
        go_ret
        exact ⟨rfl, (by repeat (first | with_reducible exact Up.refl _ | with_reducible refine Up.alloc ?_ _ | with_reducible refine Up.drew ?_ | with_reducible refine Up.drewN ?_ _ | (with_reducible refine Up.setCell ?_ (by first | omega | (simp; done) | (simp; omega)) _) | with_reducible assumption | (with_reducible refine Up.trans ?_ (by with_reducible assumption))))⟩
set_option maxRecDepth 100000 in
theorem MomentOf_any (u : Value) (n lo hi : Nat) (R : Nat → Nat → Int) (w : World) (hs : Sl w lo hi 2 u n (intF R)) (hn : n ≤ 1048576) : Calls Try.prog 74 #[.agg #[u]] w fun e w' => e = .returned (.int .i64 (arI 1 n R)) ∧ Up w w' := by
  have hP := fun W (hu : Up w W) => over_1 u n lo hi R W (hs.up hu) hn
  go_enter Try.func74, Try.ntmps74
  go_wp2_with (first | (go_at_call 108; (with_reducible refine (hP _ (by repeat (first | with_reducible exact Up.refl _ | with_reducible refine Up.alloc ?_ _ | with_reducible refine Up.drew ?_ | with_reducible refine Up.drewN ?_ _ | (with_reducible refine Up.setCell ?_ (by first | omega | (simp; done) | (simp; omega)) _) | with_reducible assumption | (with_reducible refine Up.trans ?_ (by with_reducible assumption))))).mono ?_); rintro e w1 ⟨rfl, hb1⟩))
  go_ret
  exact ⟨rfl, (by repeat (first | with_reducible exact Up.refl _ | with_reducible refine Up.alloc ?_ _ | with_reducible refine Up.drew ?_ | with_reducible refine Up.drewN ?_ _ | (with_reducible refine Up.setCell ?_ (by first | omega | (simp; done) | (simp; omega)) _) | with_reducible assumption | (with_reducible refine Up.trans ?_ (by with_reducible assumption))))⟩
set_option maxRecDepth 100000 in
theorem clo_2 (R : Nat → Nat → Int) (i q : Nat) (w : World) (h1 : ptB (R i 0) (R i 1) = true) (h2 : ptB (R q 0) (R q 1) = true) : Calls Try.prog 110 #[.agg #[.int .i64 (R i 0), .int .i64 (R i 1)], .agg #[.int .i64 (R q 0), .int .i64 (R q 1)]] w fun e w' => e = .returned (.int .i64 (fkQ 2 R i q)) ∧ Up w w' := by
  obtain ⟨a1, a2, a3, a4⟩ := ptB_bd h1
  obtain ⟨b1, b2, b3, b4⟩ := ptB_bd h2
  clear h1 h2
  go_enter Try.func110, Try.ntmps110
  go_wp2
  go_ret
  exact ⟨by rfl, (by repeat (first | with_reducible exact Up.refl _ | with_reducible refine Up.alloc ?_ _ | with_reducible refine Up.drew ?_ | with_reducible refine Up.drewN ?_ _ | (with_reducible refine Up.setCell ?_ (by first | omega | (simp; done) | (simp; omega)) _) | with_reducible assumption | (with_reducible refine Up.trans ?_ (by with_reducible assumption))))⟩
set_option maxHeartbeats 2000000 in
set_option maxRecDepth 100000 in
theorem over_2 (u : Value) (n lo hi : Nat) (R : Nat → Nat → Int) (w : World) (hs : Sl w lo hi 2 u n (intF R)) (hn : n ≤ 1048576) : Calls Try.prog 108 #[.agg #[u], .func (.func 110) #[] #[]] w fun e w' => e = .returned (.int .i64 (arI 2 n R)) ∧ Up w w' := by
  have hP := fun W (hu : Up w W) => StoneOk_any u n lo hi R W (hs.up hu) hn
  obtain ⟨h0, A, c, rfl, hc, hx⟩ := hs
  have H := Lib.hid hx
  clear hx
  cases hok : stOk n R with
  | false =>
    rw [arI_f hok]
    have HPo : ∀ W, Up w W → Calls Try.prog 67 #[.agg #[.slice A n c]] W fun e w' => e = .returned (.bool false) ∧ Up W w' := fun W hu => by have hh := hP W hu; rw [hok] at hh; exact hh
    clear hok hP
    go_enter Try.func108, Try.ntmps108
    go_wp2_with (first | (go_at_call 67; (with_reducible refine (HPo _ (by repeat (first | with_reducible exact Up.refl _ | with_reducible refine Up.alloc ?_ _ | with_reducible refine Up.drew ?_ | with_reducible refine Up.drewN ?_ _ | (with_reducible refine Up.setCell ?_ (by first | omega | (simp; done) | (simp; omega)) _) | with_reducible assumption | (with_reducible refine Up.trans ?_ (by with_reducible assumption))))).mono ?_); rintro e w1 ⟨rfl, hb1⟩))
    exact bodyPost_ret (v := .int .i64 0) (by simp only [results]; go_simp; try simp) rfl ⟨rfl, (by repeat (first | with_reducible exact Up.refl _ | with_reducible refine Up.alloc ?_ _ | with_reducible refine Up.drew ?_ | with_reducible refine Up.drewN ?_ _ | (with_reducible refine Up.setCell ?_ (by first | omega | (simp; done) | (simp; omega)) _) | with_reducible assumption | (with_reducible refine Up.trans ?_ (by with_reducible assumption))))⟩
  | true =>
    have HPo : ∀ W, Up w W → Calls Try.prog 67 #[.agg #[.slice A n c]] W fun e w' => e = .returned (.bool true) ∧ Up W w' := fun W hu => by have hh := hP W hu; rw [hok] at hh; exact hh
    obtain ⟨hn3, hn6, hgp⟩ := st_inv hok
    rw [arI_t hok]
    have hbd := fun j hj => arS_bd (k := 2) (R := R) (n := n) (by omega) hgp j hj
    have HBD := Lib.hid hbd
    have HG := Lib.hid hgp
    clear hok hP hgp hbd
    go_enter Try.func108, Try.ntmps108
    go_wp2_with fail
    (go_at_call 67; (with_reducible refine (HPo _ (by repeat (first | with_reducible exact Up.refl _ | with_reducible refine Up.alloc ?_ _ | with_reducible refine Up.drew ?_ | with_reducible refine Up.drewN ?_ _ | (with_reducible refine Up.setCell ?_ (by first | omega | (simp; done) | (simp; omega)) _) | with_reducible assumption | (with_reducible refine Up.trans ?_ (by with_reducible assumption))))).mono ?_); rintro e w1 ⟨rfl, hb1⟩)
    have hw1 : Up w w1 := (by repeat (first | with_reducible exact Up.refl _ | with_reducible refine Up.alloc ?_ _ | with_reducible refine Up.drew ?_ | with_reducible refine Up.drewN ?_ _ | (with_reducible refine Up.setCell ?_ (by first | omega | (simp; done) | (simp; omega)) _) | with_reducible assumption | (with_reducible refine Up.trans ?_ (by with_reducible assumption))))
    have hx0 : w1.cell? ⟨w.heap.size, 0, none⟩ = some (.slice A n c) := (hb1.cells.1 _ _ (by simp)).trans (by simp [World.cell?_alloc_mark])
    have hxl : w.heap.size < w1.heap.size := Nat.lt_of_lt_of_le (by simp) hb1.size
    clear hb1 HPo
    obtain ⟨wz, rfl⟩ : ∃ wz : World, wz = w1 := ⟨_, rfl⟩
    go_wp2_with fail
    go_loopw [5, 15] (fun s i wr => ∃ j : Nat, i = .int .i64 (j : Int) ∧ j ≤ n ∧ s = .int .i64 (arS 2 n R j) ∧ Up wz wr) (fun _ i _ => n - (intOf i).toNat)
    case atStart => exact ⟨0, rfl, Nat.zero_le _, rfl, (by repeat (first | with_reducible exact Up.refl _ | with_reducible refine Up.alloc ?_ _ | with_reducible refine Up.drew ?_ | with_reducible refine Up.drewN ?_ _ | (with_reducible refine Up.setCell ?_ (by first | omega | (simp; done) | (simp; omega)) _) | with_reducible assumption | (with_reducible refine Up.trans ?_ (by with_reducible assumption))))⟩
    case round =>
      obtain ⟨j, rfl, hj, rfl, hup⟩ := hrel
      have hupw : Up w wr := hw1.trans hup
      have hbx := (hup.cells.1 _ 0 hxl).trans hx0
      have hbxr : w.heap.size < wr.heap.size := Nat.lt_of_lt_of_le hxl hup.size
      by_cases hk1 : j < n
      · obtain ⟨b, o, rfl, hb1, hb2, hcs⟩ := H.out (by omega)
        obtain ⟨m1, t1⟩ := mod_facts j 1 n hk1 hn6 (by omega)
        have hst : arS 2 n R (j + 1) = arS 2 n R j + fkQ 2 R j ((j + 1) % n) * crQ R j ((j + 1) % n) := rfl
        generalize hq1 : (j + 1) % n = q at m1 t1 hst
        obtain ⟨a0, a1⟩ := Sl.pt hcs hk1
        obtain ⟨b0, b1⟩ := Sl.pt hcs m1
        have hbw : b < w.heap.size := by omega
        have g0 := (hupw.cells.1 _ (o + j * 2) hbw).trans a0
        have g1 := (hupw.cells.1 _ (o + j * 2 + 1) hbw).trans a1
        have g2 := (hupw.cells.1 _ (o + q * 2) hbw).trans b0
        have g3 := (hupw.cells.1 _ (o + q * 2 + 1) hbw).trans b1
        have hbr : b < wr.heap.size := Nat.lt_of_lt_of_le hbw hupw.size
        have hk2 : (j : Int) < (n : Int) := by omega
        have m1i : (q : Int) < (n : Int) := by omega
        have hw1a : IntKind.i64.wrap ((j : Int) + 1) = (j : Int) + 1 := by rw [IntKind.wrap_i64]; omega
        have hwq1 : IntKind.i64.wrap (q : Int) = (q : Int) := by rw [IntKind.wrap_i64]; omega
        have hn0 : ¬ (n : Int) = 0 := by omega
        have hnn : ¬ n = 0 := by omega
        have T1 : ((j : Int) + 1).tmod (n : Int) = (q : Int) := t1
        have HST := Lib.hid hst
        obtain ⟨x1, x2, x3, x4, y1, y2, y3, y4, y5, y6⟩ := ar_bd (k := 2) (HG.out j hk1) (HG.out q m1)
        obtain ⟨z1, z2⟩ := HBD.out j (by omega)
        have z3 := HBD.out (j + 1) (by omega)
        rw [HST.out] at z3
        have HF : ∀ W : World, Calls Try.prog 110 #[.agg #[.int .i64 (R j 0), .int .i64 (R j 1)], .agg #[.int .i64 (R q 0), .int .i64 (R q 1)]] W fun e w' => e = .returned (.int .i64 (fkQ 2 R j q)) ∧ Up W w' := fun W => clo_2 R j q W (HG.out j hk1) (HG.out q m1)
        have HCR : Hid (crQ R j q = R j 0 * R q 1 - R j 1 * R q 0) := rfl
        generalize fkQ 2 R j q = f at *
        generalize crQ R j q = cr at *
        generalize arS 2 n R j = s at *
        have v1 : IntKind.i64.wrap (R j 0 * R q 1) = R j 0 * R q 1 := by rw [IntKind.wrap_i64]; omega
        have v2 : IntKind.i64.wrap (R j 1 * R q 0) = R j 1 * R q 0 := by rw [IntKind.wrap_i64]; omega
        have v3 : IntKind.i64.wrap (R j 0 * R q 1 - R j 1 * R q 0) = cr := by rw [IntKind.wrap_i64, HCR.out]; omega
        have v4 : IntKind.i64.wrap (f * cr) = f * cr := by rw [IntKind.wrap_i64]; omega
        have v5 : IntKind.i64.wrap (s + f * cr) = s + f * cr := by rw [IntKind.wrap_i64]; omega
        clear a0 a1 b0 b1 hcs t1 hq1 hst z3
        go_wp2_with fail
        go_region_held3 (fun w' => (∀ b o, b < wr.heap.size → w'.cell? ⟨b, o, none⟩ = wr.cell? ⟨b, o, none⟩) ∧ wr.heap.size ≤ w'.heap.size) (repeat (first | with_reducible refine kp_drew ?_ | with_reducible refine kp_set ?_ (by first | omega | (simp; done) | (simp; omega)) | with_reducible refine kp_alloc ?_ _ | with_reducible assumption | with_reducible exact kp_start _)) (first | fail)
        · obtain ⟨wk, hW⟩ : ∃ wk : World, wk = ((wr.alloc (.cells #[.int .i64 (R j 0), .int .i64 (R j 1)] 111)).alloc (.cells #[.int .i64 (R q 0), .int .i64 (R q 1)] 111)).drew := ⟨_, rfl⟩
          rw [← hW]
          have q70 : wk.cell? ⟨wr.heap.size, 0, none⟩ = some (.int .i64 (R j 0)) := by rw [hW]; go_simp
          have q71 : wk.cell? ⟨wr.heap.size, 1, none⟩ = some (.int .i64 (R j 1)) := by rw [hW]; go_simp
          have q80 : wk.cell? ⟨wr.heap.size + 1, 0, none⟩ = some (.int .i64 (R q 0)) := by rw [hW]; go_simp
          have q81 : wk.cell? ⟨wr.heap.size + 1, 1, none⟩ = some (.int .i64 (R q 1)) := by rw [hW]; go_simp
          have hl7 : wr.heap.size < wk.heap.size := by rw [hW]; simp <;> omega
          have hl8 : wr.heap.size + 1 < wk.heap.size := by rw [hW]; simp <;> omega
          have hu7 : Up wr wk := by rw [hW]; exact (by repeat (first | with_reducible exact Up.refl _ | with_reducible refine Up.alloc ?_ _ | with_reducible refine Up.drew ?_ | with_reducible refine Up.drewN ?_ _ | (with_reducible refine Up.setCell ?_ (by first | omega | (simp; done) | (simp; omega)) _) | with_reducible assumption | (with_reducible refine Up.trans ?_ (by with_reducible assumption))))
          clear hW
          go_wp2_with fail
          (refine wp_region_up (by kernel_rfl) (by kernel_rfl) ?_; (repeat (refine wpQuiet_step (fun K hK => ?_); go_simp; first | (refine hK _ ?_; clear hK K) | (apply Exists.intro; refine ⟨fun wq hwq => ?_, hK _ ?_⟩; (obtain ⟨hcq, hfq⟩ := hwq.cells; (try go_simp); first | done | rfl | exact ⟨rfl, rfl⟩ | (go_at_call 110; exact up_of hwq (HF _))); clear hK K))); refine wpQuiet_nil ?_; intro w1 hb1; obtain ⟨hc1, hf1⟩ := hb1.cells; have hl1 := hb1.lt; have hle1 := hb1.le; have hs1 := hb1.size; (try simp at hs1); (try have hs1a : wk.heap.size < w1.heap.size := by omega); (try have hs1aa : wk.heap.size ≤ w1.heap.size := by omega); (try have hs1b : wk.heap.size + 1 < w1.heap.size := by omega); (try have hs1bb : wk.heap.size + 1 ≤ w1.heap.size := by omega); (try have hs1c : wk.heap.size + 1 + 1 < w1.heap.size := by omega); (try have hs1cc : wk.heap.size + 1 + 1 ≤ w1.heap.size := by omega); (try have hs1d : wk.heap.size + 1 + 1 + 1 < w1.heap.size := by omega); (try have hs1dd : wk.heap.size + 1 + 1 + 1 ≤ w1.heap.size := by omega); (try have hs1L := Nat.lt_of_succ_le hs1); (try have hs1M := Nat.lt_of_succ_lt hs1L); (try have hs1N := Nat.lt_of_succ_lt hs1M); (try have hs1LE := Nat.le_of_lt hs1L); (try have hs1ME := Nat.le_of_lt hs1M))
          go_wp2
          exact ⟨⟨j + 1, by rfl, by omega, by rw [HST.out], (by repeat (first | with_reducible exact Up.refl _ | with_reducible refine Up.alloc ?_ _ | with_reducible refine Up.drew ?_ | with_reducible refine Up.drewN ?_ _ | (with_reducible refine Up.setCell ?_ (by first | omega | (simp; done) | (simp; omega)) _) | with_reducible assumption | (with_reducible refine Up.trans ?_ (by with_reducible assumption))))⟩, by simp only [intOf]; omega⟩
        · obtain ⟨wk, hW⟩ : ∃ wk : World, wk = ((wr.alloc (.cells #[.int .i64 (R q 0), .int .i64 (R q 1)] 111)).alloc (.cells #[.int .i64 (R j 0), .int .i64 (R j 1)] 111)).drew := ⟨_, rfl⟩
          rw [← hW]
          have q70 : wk.cell? ⟨wr.heap.size + 1, 0, none⟩ = some (.int .i64 (R j 0)) := by rw [hW]; go_simp
          have q71 : wk.cell? ⟨wr.heap.size + 1, 1, none⟩ = some (.int .i64 (R j 1)) := by rw [hW]; go_simp
          have q80 : wk.cell? ⟨wr.heap.size, 0, none⟩ = some (.int .i64 (R q 0)) := by rw [hW]; go_simp
          have q81 : wk.cell? ⟨wr.heap.size, 1, none⟩ = some (.int .i64 (R q 1)) := by rw [hW]; go_simp
          have hl7 : wr.heap.size + 1 < wk.heap.size := by rw [hW]; simp <;> omega
          have hl8 : wr.heap.size < wk.heap.size := by rw [hW]; simp <;> omega
          have hu7 : Up wr wk := by rw [hW]; exact (by repeat (first | with_reducible exact Up.refl _ | with_reducible refine Up.alloc ?_ _ | with_reducible refine Up.drew ?_ | with_reducible refine Up.drewN ?_ _ | (with_reducible refine Up.setCell ?_ (by first | omega | (simp; done) | (simp; omega)) _) | with_reducible assumption | (with_reducible refine Up.trans ?_ (by with_reducible assumption))))
          clear hW
          go_wp2_with fail
          (refine wp_region_up (by kernel_rfl) (by kernel_rfl) ?_; (repeat (refine wpQuiet_step (fun K hK => ?_); go_simp; first | (refine hK _ ?_; clear hK K) | (apply Exists.intro; refine ⟨fun wq hwq => ?_, hK _ ?_⟩; (obtain ⟨hcq, hfq⟩ := hwq.cells; (try go_simp); first | done | rfl | exact ⟨rfl, rfl⟩ | (go_at_call 110; exact up_of hwq (HF _))); clear hK K))); refine wpQuiet_nil ?_; intro w1 hb1; obtain ⟨hc1, hf1⟩ := hb1.cells; have hl1 := hb1.lt; have hle1 := hb1.le; have hs1 := hb1.size; (try simp at hs1); (try have hs1a : wk.heap.size < w1.heap.size := by omega); (try have hs1aa : wk.heap.size ≤ w1.heap.size := by omega); (try have hs1b : wk.heap.size + 1 < w1.heap.size := by omega); (try have hs1bb : wk.heap.size + 1 ≤ w1.heap.size := by omega); (try have hs1c : wk.heap.size + 1 + 1 < w1.heap.size := by omega); (try have hs1cc : wk.heap.size + 1 + 1 ≤ w1.heap.size := by omega); (try have hs1d : wk.heap.size + 1 + 1 + 1 < w1.heap.size := by omega); (try have hs1dd : wk.heap.size + 1 + 1 + 1 ≤ w1.heap.size := by omega); (try have hs1L := Nat.lt_of_succ_le hs1); (try have hs1M := Nat.lt_of_succ_lt hs1L); (try have hs1N := Nat.lt_of_succ_lt hs1M); (try have hs1LE := Nat.le_of_lt hs1L); (try have hs1ME := Nat.le_of_lt hs1M))
          go_wp2
          exact ⟨⟨j + 1, by rfl, by omega, by rw [HST.out], (by repeat (first | with_reducible exact Up.refl _ | with_reducible refine Up.alloc ?_ _ | with_reducible refine Up.drew ?_ | with_reducible refine Up.drewN ?_ _ | (with_reducible refine Up.setCell ?_ (by first | omega | (simp; done) | (simp; omega)) _) | with_reducible assumption | (with_reducible refine Up.trans ?_ (by with_reducible assumption))))⟩, by simp only [intOf]; omega⟩
      · have hkk : j = n := by omega
        subst hkk
        have hk2 : ¬ (j : Int) < (j : Int) := by omega
        go_wp2
        go_ret
        exact ⟨rfl, (by repeat (first | with_reducible exact Up.refl _ | with_reducible refine Up.alloc ?_ _ | with_reducible refine Up.drew ?_ | with_reducible refine Up.drewN ?_ _ | (with_reducible refine Up.setCell ?_ (by first | omega | (simp; done) | (simp; omega)) _) | with_reducible assumption | (with_reducible refine Up.trans ?_ (by with_reducible assumption))))⟩
set_option maxRecDepth 100000 in
theorem HeightMoment_any (u : Value) (n lo hi : Nat) (R : Nat → Nat → Int) (w : World) (hs : Sl w lo hi 2 u n (intF R)) (hn : n ≤ 1048576) : Calls Try.prog 72 #[.agg #[u]] w fun e w' => e = .returned (.int .i64 (arI 2 n R)) ∧ Up w w' := by
  have hP := fun W (hu : Up w W) => over_2 u n lo hi R W (hs.up hu) hn
  go_enter Try.func72, Try.ntmps72
  go_wp2_with (first | (go_at_call 108; (with_reducible refine (hP _ (by repeat (first | with_reducible exact Up.refl _ | with_reducible refine Up.alloc ?_ _ | with_reducible refine Up.drew ?_ | with_reducible refine Up.drewN ?_ _ | (with_reducible refine Up.setCell ?_ (by first | omega | (simp; done) | (simp; omega)) _) | with_reducible assumption | (with_reducible refine Up.trans ?_ (by with_reducible assumption))))).mono ?_); rintro e w1 ⟨rfl, hb1⟩))
  go_ret
  exact ⟨rfl, (by repeat (first | with_reducible exact Up.refl _ | with_reducible refine Up.alloc ?_ _ | with_reducible refine Up.drew ?_ | with_reducible refine Up.drewN ?_ _ | (with_reducible refine Up.setCell ?_ (by first | omega | (simp; done) | (simp; omega)) _) | with_reducible assumption | (with_reducible refine Up.trans ?_ (by with_reducible assumption))))⟩
end Go.Proofs.Ytigcmhdjafglbaa
