/- The walks of AreaTwice, MomentOf, HeightMoment, the reference's. No condition. -/
import Derived.Test.YtigcmhdjafglbaaAr1
namespace Go.Proofs.Ytigcmhdjafglbaa
open Go.RowKit
set_option linter.unusedVariables false
set_option maxRecDepth 100000 in
theorem crs_any (R : Nat → Nat → Int) (i q : Nat) (w : World) (h1 : ptB (R i 0) (R i 1) = true) (h2 : ptB (R q 0) (R q 1) = true) : Calls Try.prog 107 #[.agg #[.int .i64 (R i 0), .int .i64 (R i 1)], .agg #[.int .i64 (R q 0), .int .i64 (R q 1)]] w fun e w' => e = .returned (.int .i64 (crQ R i q)) ∧ Up w w' := by
  obtain ⟨x1, x2, x3, x4, y1, y2, _⟩ := ar_bd (k := 0) h1 h2
  have HC : Hid (crQ R i q = R i 0 * R q 1 - R i 1 * R q 0) := rfl
  rw [HC.out] at y1 y2 ⊢
  clear h1 h2
  go_enter Try.func107, Try.ntmps107
  go_wp2
  go_ret
  exact ⟨by rfl, (by repeat (first | with_reducible exact Up.refl _ | with_reducible refine Up.alloc ?_ _ | with_reducible refine Up.drew ?_ | with_reducible refine Up.drewN ?_ _ | (with_reducible refine Up.setCell ?_ (by first | omega | (simp; done) | (simp; omega)) _) | with_reducible assumption | (with_reducible refine Up.trans ?_ (by with_reducible assumption))))⟩
set_option maxHeartbeats 2000000 in
set_option maxRecDepth 100000 in
theorem sAreaTwice_any (u : Value) (n lo hi : Nat) (R : Nat → Nat → Int) (w : World) (hs : Sl w lo hi 2 u n (intF R)) (hn : n ≤ 1048576) : Calls Try.prog 69 #[.agg #[u]] w fun e w' => e = .returned (.int .i64 (arI 0 n R)) ∧ Up w w' := by
  have hP := fun W (hu : Up w W) => sStoneOk_any u n lo hi R W (hs.up hu) hn
  obtain ⟨h0, A, c, rfl, hc, hx⟩ := hs
  have H := Lib.hid hx
  clear hx
  cases hok : stOk n R with
  | false =>
    rw [arI_f hok]
    have HPo : ∀ W, Up w W → Calls Try.prog 65 #[.agg #[.slice A n c]] W fun e w' => e = .returned (.bool false) ∧ Up W w' := fun W hu => by have hh := hP W hu; rw [hok] at hh; exact hh
    clear hok hP
    by_cases hp : 0 < n
    · have hp2 : (0 : Int) < (n : Int) := by omega
      go_enter Try.func69, Try.ntmps69
      go_wp2
      refine wp_loop_rounds 1 ?_
      rw [rounds_succ]
      go_wp2_with (first | (go_at_call 65; (with_reducible refine (HPo _ (by repeat (first | with_reducible exact Up.refl _ | with_reducible refine Up.alloc ?_ _ | with_reducible refine Up.drew ?_ | with_reducible refine Up.drewN ?_ _ | (with_reducible refine Up.setCell ?_ (by first | omega | (simp; done) | (simp; omega)) _) | with_reducible assumption | (with_reducible refine Up.trans ?_ (by with_reducible assumption))))).mono ?_); rintro e w1 ⟨rfl, hb1⟩))
      exact bodyPost_ret (v := .int .i64 0) (by simp only [results]; go_simp; try simp) rfl ⟨rfl, (by repeat (first | with_reducible exact Up.refl _ | with_reducible refine Up.alloc ?_ _ | with_reducible refine Up.drew ?_ | with_reducible refine Up.drewN ?_ _ | (with_reducible refine Up.setCell ?_ (by first | omega | (simp; done) | (simp; omega)) _) | with_reducible assumption | (with_reducible refine Up.trans ?_ (by with_reducible assumption))))⟩
    · have hp2 : ¬ (0 : Int) < (n : Int) := by omega
      go_enter Try.func69, Try.ntmps69
      go_wp2
      refine wp_loop_rounds 1 ?_
      rw [rounds_succ]
      go_wp2
      exact bodyPost_ret (v := .int .i64 0) (by simp only [results]; go_simp; try simp) rfl ⟨rfl, (by repeat (first | with_reducible exact Up.refl _ | with_reducible refine Up.alloc ?_ _ | with_reducible refine Up.drew ?_ | with_reducible refine Up.drewN ?_ _ | (with_reducible refine Up.setCell ?_ (by first | omega | (simp; done) | (simp; omega)) _) | with_reducible assumption | (with_reducible refine Up.trans ?_ (by with_reducible assumption))))⟩
  | true =>
    have HPo : ∀ W, Up w W → Calls Try.prog 65 #[.agg #[.slice A n c]] W fun e w' => e = .returned (.bool true) ∧ Up W w' := fun W hu => by have hh := hP W hu; rw [hok] at hh; exact hh
    obtain ⟨hn3, hn6, hgp⟩ := st_inv hok
    rw [arI_t hok]
    have hbd := fun j hj => arS_bd (k := 0) (R := R) (n := n) (by omega) hgp j hj
    have HBD := Lib.hid hbd
    have HG := Lib.hid hgp
    clear hok hP hgp hbd
    go_enter Try.func69, Try.ntmps69
    go_wp2
    go_loopw [3, 4] (fun s i wr => ∃ j : Nat, i = .int .i64 (j : Int) ∧ j ≤ n ∧ s = .int .i64 (arS 0 n R j) ∧ Up (w.alloc (.cells #[.slice A n c] 80)) wr) (fun _ i _ => n - (intOf i).toNat)
    case atStart => exact ⟨0, rfl, Nat.zero_le _, rfl, (by repeat (first | with_reducible exact Up.refl _ | with_reducible refine Up.alloc ?_ _ | with_reducible refine Up.drew ?_ | with_reducible refine Up.drewN ?_ _ | (with_reducible refine Up.setCell ?_ (by first | omega | (simp; done) | (simp; omega)) _) | with_reducible assumption | (with_reducible refine Up.trans ?_ (by with_reducible assumption))))⟩
    case round =>
      obtain ⟨j, rfl, hj, rfl, hup⟩ := hrel
      have hupw : Up w wr := Up.trans (Up.alloc (Up.refl w) _) hup
      have hbx : wr.cell? ⟨w.heap.size, 0, none⟩ = some (.slice A n c) := (hup.cells.1 _ _ (by simp)).trans (by simp [World.cell?_alloc_mark])
      have hbxr : w.heap.size < wr.heap.size := Nat.lt_of_lt_of_le (by simp) hup.size
      by_cases hk1 : j < n
      · obtain ⟨b, o, rfl, hb1, hb2, hcs⟩ := H.out (by omega)
        obtain ⟨m1, t1⟩ := mod_facts j 1 n hk1 hn6 (by omega)
        have hst : arS 0 n R (j + 1) = arS 0 n R j + fkQ 0 R j ((j + 1) % n) * crQ R j ((j + 1) % n) := rfl
        generalize hq1 : (j + 1) % n = q at m1 t1 hst
        obtain ⟨a0, a1⟩ := Sl.pt hcs hk1
        obtain ⟨b0, b1⟩ := Sl.pt hcs m1
        have hbw : b < w.heap.size := by omega
        have g0 := (hupw.cells.1 _ (o + j * 2) hbw).trans a0
        have g1 := (hupw.cells.1 _ (o + j * 2 + 1) hbw).trans a1
        have g2 := (hupw.cells.1 _ (o + q * 2) hbw).trans b0
        have g3 := (hupw.cells.1 _ (o + q * 2 + 1) hbw).trans b1
        have hbr : b < wr.heap.size := Nat.lt_of_lt_of_le hbw hupw.size
        have hk2 : (j : Int) < (n : Int) := by omega
        have m1i : (q : Int) < (n : Int) := by omega
        have hw1a : IntKind.i64.wrap ((j : Int) + 1) = (j : Int) + 1 := by rw [IntKind.wrap_i64]; omega
        have hwq1 : IntKind.i64.wrap (q : Int) = (q : Int) := by rw [IntKind.wrap_i64]; omega
        have hn0 : ¬ (n : Int) = 0 := by omega
        have hnn : ¬ n = 0 := by omega
        have T1 : ((j : Int) + 1).tmod (n : Int) = (q : Int) := t1
        have HST := Lib.hid hst
        obtain ⟨x1, x2, x3, x4, y1, y2, y3, y4, y5, y6⟩ := ar_bd (k := 0) (HG.out j hk1) (HG.out q m1)
        obtain ⟨z1, z2⟩ := HBD.out j (by omega)
        have z3 := HBD.out (j + 1) (by omega)
        rw [HST.out, show fkQ 0 R j q = 1 from rfl, Int.one_mul] at z3
        have HF : ∀ W : World, Calls Try.prog 107 #[.agg #[.int .i64 (R j 0), .int .i64 (R j 1)], .agg #[.int .i64 (R q 0), .int .i64 (R q 1)]] W fun e w' => e = .returned (.int .i64 (crQ R j q)) ∧ Up W w' := fun W => crs_any R j q W (HG.out j hk1) (HG.out q m1)
        have HFK : Hid (fkQ 0 R j q = 1) := rfl
        have HCR : Hid (crQ R j q = R j 0 * R q 1 - R j 1 * R q 0) := rfl
        generalize fkQ 0 R j q = f at *
        generalize crQ R j q = cr at *
        generalize arS 0 n R j = s at *
        have v1 : IntKind.i64.wrap (R j 0 * R q 1) = R j 0 * R q 1 := by rw [IntKind.wrap_i64]; omega
        have v2 : IntKind.i64.wrap (R j 1 * R q 0) = R j 1 * R q 0 := by rw [IntKind.wrap_i64]; omega
        have v3 : IntKind.i64.wrap (R j 0 * R q 1 - R j 1 * R q 0) = cr := by rw [IntKind.wrap_i64, HCR.out]; omega
        rw [HFK.out, Int.one_mul] at y5 y6
        have hst2 := HST.out
        rw [HFK.out, Int.one_mul] at hst2
        have HST2 := Lib.hid hst2
        have v5 : IntKind.i64.wrap (s + cr) = s + cr := by rw [IntKind.wrap_i64]; omega
        clear hst2 a0 a1 b0 b1 hcs t1 hq1 hst z3
        go_wp2_with fail
        (go_at_call 65; (with_reducible refine (HPo _ (by repeat (first | with_reducible exact Up.refl _ | with_reducible refine Up.alloc ?_ _ | with_reducible refine Up.drew ?_ | with_reducible refine Up.drewN ?_ _ | (with_reducible refine Up.setCell ?_ (by first | omega | (simp; done) | (simp; omega)) _) | with_reducible assumption | (with_reducible refine Up.trans ?_ (by with_reducible assumption))))).mono ?_); rintro e w1 ⟨rfl, hb1'⟩)
        have hc0 := (hb1'.cells.1 _ 0 hbxr).trans hbx
        have hcl : w.heap.size < w1.heap.size := Nat.lt_of_lt_of_le hbxr hb1'.size
        have k0 := (hb1'.cells.1 _ _ hbr).trans g0
        have k1 := (hb1'.cells.1 _ _ hbr).trans g1
        have k2 := (hb1'.cells.1 _ _ hbr).trans g2
        have k3 := (hb1'.cells.1 _ _ hbr).trans g3
        have hbl : b < w1.heap.size := Nat.lt_of_lt_of_le hbr hb1'.size
        have hu1 : Up w w1 := hupw.trans hb1'
        have huz : Up (w.alloc (.cells #[.slice (some ⟨b, o, none⟩) n c] 80)) w1 := hup.trans hb1'
        obtain ⟨wy, rfl⟩ : ∃ wy : World, wy = w1 := ⟨_, rfl⟩
        clear hb1' g0 g1 g2 g3 hbx hbxr hup hupw hbr
        go_wp2_with fail
        (refine wp_region_up (by kernel_rfl) (by kernel_rfl) ?_; (repeat (refine wpQuiet_step (fun K hK => ?_); go_simp; first | (refine hK _ ?_; clear hK K) | (apply Exists.intro; refine ⟨fun wq hwq => ?_, hK _ ?_⟩; (obtain ⟨hcq, hfq⟩ := hwq.cells; (try go_simp); first | done | rfl | exact ⟨rfl, rfl⟩ | (go_at_call 107; exact up_of hwq (HF _))); clear hK K))); refine wpQuiet_nil ?_; intro w1 hb1; obtain ⟨hc1, hf1⟩ := hb1.cells; have hl1 := hb1.lt; have hle1 := hb1.le; have hs1 := hb1.size; (try simp at hs1); (try have hs1a : wy.heap.size < w1.heap.size := by omega); (try have hs1aa : wy.heap.size ≤ w1.heap.size := by omega); (try have hs1b : wy.heap.size + 1 < w1.heap.size := by omega); (try have hs1bb : wy.heap.size + 1 ≤ w1.heap.size := by omega); (try have hs1c : wy.heap.size + 1 + 1 < w1.heap.size := by omega); (try have hs1cc : wy.heap.size + 1 + 1 ≤ w1.heap.size := by omega); (try have hs1d : wy.heap.size + 1 + 1 + 1 < w1.heap.size := by omega); (try have hs1dd : wy.heap.size + 1 + 1 + 1 ≤ w1.heap.size := by omega); (try have hs1L := Nat.lt_of_succ_le hs1); (try have hs1M := Nat.lt_of_succ_lt hs1L); (try have hs1N := Nat.lt_of_succ_lt hs1M); (try have hs1LE := Nat.le_of_lt hs1L); (try have hs1ME := Nat.le_of_lt hs1M))
        go_wp2
        exact ⟨⟨j + 1, by rfl, by omega, by rw [HST2.out], (by repeat (first | with_reducible exact Up.refl _ | with_reducible refine Up.alloc ?_ _ | with_reducible refine Up.drew ?_ | with_reducible refine Up.drewN ?_ _ | (with_reducible refine Up.setCell ?_ (by first | omega | (simp; done) | (simp; omega)) _) | with_reducible assumption | (with_reducible refine Up.trans ?_ (by with_reducible assumption))))⟩, by simp only [intOf]; omega⟩
      · have hkk : j = n := by omega
        subst hkk
        have hk2 : ¬ (j : Int) < (j : Int) := by omega
        go_wp2
        go_ret
        exact ⟨rfl, (by repeat (first | with_reducible exact Up.refl _ | with_reducible refine Up.alloc ?_ _ | with_reducible refine Up.drew ?_ | with_reducible refine Up.drewN ?_ _ | (with_reducible refine Up.setCell ?_ (by first | omega | (simp; done) | (simp; omega)) _) | with_reducible assumption | (with_reducible refine Up.trans ?_ (by with_reducible assumption))))⟩
set_option maxHeartbeats 2000000 in
set_option maxRecDepth 100000 in
theorem sMomentOf_any (u : Value) (n lo hi : Nat) (R : Nat → Nat → Int) (w : World) (hs : Sl w lo hi 2 u n (intF R)) (hn : n ≤ 1048576) : Calls Try.prog 73 #[.agg #[u]] w fun e w' => e = .returned (.int .i64 (arI 1 n R)) ∧ Up w w' := by
  have hP := fun W (hu : Up w W) => sStoneOk_any u n lo hi R W (hs.up hu) hn
  obtain ⟨h0, A, c, rfl, hc, hx⟩ := hs
  have H := Lib.hid hx
  clear hx
  cases hok : stOk n R with
  | false =>
    rw [arI_f hok]
    have HPo : ∀ W, Up w W → Calls Try.prog 65 #[.agg #[.slice A n c]] W fun e w' => e = .returned (.bool false) ∧ Up W w' := fun W hu => by have hh := hP W hu; rw [hok] at hh; exact hh
    clear hok hP
    by_cases hp : 0 < n
    · have hp2 : (0 : Int) < (n : Int) := by omega
      go_enter Try.func73, Try.ntmps73
      go_wp2
      refine wp_loop_rounds 1 ?_
      rw [rounds_succ]
      go_wp2_with (first | (go_at_call 65; (with_reducible refine (HPo _ (by repeat (first | with_reducible exact Up.refl _ | with_reducible refine Up.alloc ?_ _ | with_reducible refine Up.drew ?_ | with_reducible refine Up.drewN ?_ _ | (with_reducible refine Up.setCell ?_ (by first | omega | (simp; done) | (simp; omega)) _) | with_reducible assumption | (with_reducible refine Up.trans ?_ (by with_reducible assumption))))).mono ?_); rintro e w1 ⟨rfl, hb1⟩))
      exact bodyPost_ret (v := .int .i64 0) (by simp only [results]; go_simp; try simp) rfl ⟨rfl, (by repeat (first | with_reducible exact Up.refl _ | with_reducible refine Up.alloc ?_ _ | with_reducible refine Up.drew ?_ | with_reducible refine Up.drewN ?_ _ | (with_reducible refine Up.setCell ?_ (by first | omega | (simp; done) | (simp; omega)) _) | with_reducible assumption | (with_reducible refine Up.trans ?_ (by with_reducible assumption))))⟩
    · have hp2 : ¬ (0 : Int) < (n : Int) := by omega
      go_enter Try.func73, Try.ntmps73
      go_wp2
      refine wp_loop_rounds 1 ?_
      rw [rounds_succ]
      go_wp2
      exact bodyPost_ret (v := .int .i64 0) (by simp only [results]; go_simp; try simp) rfl ⟨rfl, (by repeat (first | with_reducible exact Up.refl _ | with_reducible refine Up.alloc ?_ _ | with_reducible refine Up.drew ?_ | with_reducible refine Up.drewN ?_ _ | (with_reducible refine Up.setCell ?_ (by first | omega | (simp; done) | (simp; omega)) _) | with_reducible assumption | (with_reducible refine Up.trans ?_ (by with_reducible assumption))))⟩
  | true =>
    have HPo : ∀ W, Up w W → Calls Try.prog 65 #[.agg #[.slice A n c]] W fun e w' => e = .returned (.bool true) ∧ Up W w' := fun W hu => by have hh := hP W hu; rw [hok] at hh; exact hh
    obtain ⟨hn3, hn6, hgp⟩ := st_inv hok
    rw [arI_t hok]
    have hbd := fun j hj => arS_bd (k := 1) (R := R) (n := n) (by omega) hgp j hj
    have HBD := Lib.hid hbd
    have HG := Lib.hid hgp
    clear hok hP hgp hbd
    go_enter Try.func73, Try.ntmps73
    go_wp2
    go_loopw [3, 4] (fun s i wr => ∃ j : Nat, i = .int .i64 (j : Int) ∧ j ≤ n ∧ s = .int .i64 (arS 1 n R j) ∧ Up (w.alloc (.cells #[.slice A n c] 80)) wr) (fun _ i _ => n - (intOf i).toNat)
    case atStart => exact ⟨0, rfl, Nat.zero_le _, rfl, (by repeat (first | with_reducible exact Up.refl _ | with_reducible refine Up.alloc ?_ _ | with_reducible refine Up.drew ?_ | with_reducible refine Up.drewN ?_ _ | (with_reducible refine Up.setCell ?_ (by first | omega | (simp; done) | (simp; omega)) _) | with_reducible assumption | (with_reducible refine Up.trans ?_ (by with_reducible assumption))))⟩
    case round =>
      obtain ⟨j, rfl, hj, rfl, hup⟩ := hrel
      have hupw : Up w wr := Up.trans (Up.alloc (Up.refl w) _) hup
      have hbx : wr.cell? ⟨w.heap.size, 0, none⟩ = some (.slice A n c) := (hup.cells.1 _ _ (by simp)).trans (by simp [World.cell?_alloc_mark])
      have hbxr : w.heap.size < wr.heap.size := Nat.lt_of_lt_of_le (by simp) hup.size
      by_cases hk1 : j < n
      · obtain ⟨b, o, rfl, hb1, hb2, hcs⟩ := H.out (by omega)
        obtain ⟨m1, t1⟩ := mod_facts j 1 n hk1 hn6 (by omega)
        have hst : arS 1 n R (j + 1) = arS 1 n R j + fkQ 1 R j ((j + 1) % n) * crQ R j ((j + 1) % n) := rfl
        generalize hq1 : (j + 1) % n = q at m1 t1 hst
        obtain ⟨a0, a1⟩ := Sl.pt hcs hk1
        obtain ⟨b0, b1⟩ := Sl.pt hcs m1
        have hbw : b < w.heap.size := by omega
        have g0 := (hupw.cells.1 _ (o + j * 2) hbw).trans a0
        have g1 := (hupw.cells.1 _ (o + j * 2 + 1) hbw).trans a1
        have g2 := (hupw.cells.1 _ (o + q * 2) hbw).trans b0
        have g3 := (hupw.cells.1 _ (o + q * 2 + 1) hbw).trans b1
        have hbr : b < wr.heap.size := Nat.lt_of_lt_of_le hbw hupw.size
        have hk2 : (j : Int) < (n : Int) := by omega
        have m1i : (q : Int) < (n : Int) := by omega
        have hw1a : IntKind.i64.wrap ((j : Int) + 1) = (j : Int) + 1 := by rw [IntKind.wrap_i64]; omega
        have hwq1 : IntKind.i64.wrap (q : Int) = (q : Int) := by rw [IntKind.wrap_i64]; omega
        have hn0 : ¬ (n : Int) = 0 := by omega
        have hnn : ¬ n = 0 := by omega
        have T1 : ((j : Int) + 1).tmod (n : Int) = (q : Int) := t1
        have HST := Lib.hid hst
        obtain ⟨x1, x2, x3, x4, y1, y2, y3, y4, y5, y6⟩ := ar_bd (k := 1) (HG.out j hk1) (HG.out q m1)
        obtain ⟨z1, z2⟩ := HBD.out j (by omega)
        have z3 := HBD.out (j + 1) (by omega)
        rw [HST.out] at z3
        have HF : ∀ W : World, Calls Try.prog 107 #[.agg #[.int .i64 (R j 0), .int .i64 (R j 1)], .agg #[.int .i64 (R q 0), .int .i64 (R q 1)]] W fun e w' => e = .returned (.int .i64 (crQ R j q)) ∧ Up W w' := fun W => crs_any R j q W (HG.out j hk1) (HG.out q m1)
        have HFK : Hid (fkQ 1 R j q = R j 0 + R q 0) := rfl
        have HCR : Hid (crQ R j q = R j 0 * R q 1 - R j 1 * R q 0) := rfl
        generalize fkQ 1 R j q = f at *
        generalize crQ R j q = cr at *
        generalize arS 1 n R j = s at *
        have v1 : IntKind.i64.wrap (R j 0 * R q 1) = R j 0 * R q 1 := by rw [IntKind.wrap_i64]; omega
        have v2 : IntKind.i64.wrap (R j 1 * R q 0) = R j 1 * R q 0 := by rw [IntKind.wrap_i64]; omega
        have v3 : IntKind.i64.wrap (R j 0 * R q 1 - R j 1 * R q 0) = cr := by rw [IntKind.wrap_i64, HCR.out]; omega
        have v6 : IntKind.i64.wrap (R j 0 + R q 0) = f := by rw [IntKind.wrap_i64, HFK.out]; have := HFK.out; omega
        have v4 : IntKind.i64.wrap (f * cr) = f * cr := by rw [IntKind.wrap_i64]; omega
        have v5 : IntKind.i64.wrap (s + f * cr) = s + f * cr := by rw [IntKind.wrap_i64]; omega
        clear a0 a1 b0 b1 hcs t1 hq1 hst z3
        go_wp2_with fail
        (go_at_call 65; (with_reducible refine (HPo _ (by repeat (first | with_reducible exact Up.refl _ | with_reducible refine Up.alloc ?_ _ | with_reducible refine Up.drew ?_ | with_reducible refine Up.drewN ?_ _ | (with_reducible refine Up.setCell ?_ (by first | omega | (simp; done) | (simp; omega)) _) | with_reducible assumption | (with_reducible refine Up.trans ?_ (by with_reducible assumption))))).mono ?_); rintro e w1 ⟨rfl, hb1'⟩)
        have hc0 := (hb1'.cells.1 _ 0 hbxr).trans hbx
        have hcl : w.heap.size < w1.heap.size := Nat.lt_of_lt_of_le hbxr hb1'.size
        have k0 := (hb1'.cells.1 _ _ hbr).trans g0
        have k1 := (hb1'.cells.1 _ _ hbr).trans g1
        have k2 := (hb1'.cells.1 _ _ hbr).trans g2
        have k3 := (hb1'.cells.1 _ _ hbr).trans g3
        have hbl : b < w1.heap.size := Nat.lt_of_lt_of_le hbr hb1'.size
        have hu1 : Up w w1 := hupw.trans hb1'
        have huz : Up (w.alloc (.cells #[.slice (some ⟨b, o, none⟩) n c] 80)) w1 := hup.trans hb1'
        obtain ⟨wy, rfl⟩ : ∃ wy : World, wy = w1 := ⟨_, rfl⟩
        clear hb1' g0 g1 g2 g3 hbx hbxr hup hupw hbr
        go_wp2_with fail
        obtain ⟨wk, hW⟩ : ∃ wk : World, wk = wy.alloc (.cells #[.int .i64 (R j 0), .int .i64 (R j 1)] 111) := ⟨_, rfl⟩
        rw [← hW]
        have q70 : wk.cell? ⟨wy.heap.size, 0, none⟩ = some (.int .i64 (R j 0)) := by rw [hW]; go_simp
        have q71 : wk.cell? ⟨wy.heap.size, 1, none⟩ = some (.int .i64 (R j 1)) := by rw [hW]; go_simp
        have hu7 : Up wy wk := by rw [hW]; exact (by repeat (first | with_reducible exact Up.refl _ | with_reducible refine Up.alloc ?_ _ | with_reducible refine Up.drew ?_ | with_reducible refine Up.drewN ?_ _ | (with_reducible refine Up.setCell ?_ (by first | omega | (simp; done) | (simp; omega)) _) | with_reducible assumption | (with_reducible refine Up.trans ?_ (by with_reducible assumption))))
        have hl7 : wy.heap.size < wk.heap.size := by rw [hW]; simp
        have d0 := (hu7.cells.1 _ 0 hcl).trans hc0
        have dl : w.heap.size < wk.heap.size := Nat.lt_of_lt_of_le hcl hu7.size
        have l2 := (hu7.cells.1 _ _ hbl).trans k2
        have l3 := (hu7.cells.1 _ _ hbl).trans k3
        have hbk : b < wk.heap.size := Nat.lt_of_lt_of_le hbl hu7.size
        clear hW k0 k1 k2 k3 hc0 hcl
        go_region_held3 (fun w' => (∀ b o, b < wk.heap.size → w'.cell? ⟨b, o, none⟩ = wk.cell? ⟨b, o, none⟩) ∧ wk.heap.size ≤ w'.heap.size) (repeat (first | with_reducible refine kp_drew ?_ | with_reducible refine kp_set ?_ (by first | omega | (simp; done) | (simp; omega)) | with_reducible refine kp_alloc ?_ _ | with_reducible assumption | with_reducible exact kp_start _)) (first | fail)
        obtain ⟨wm, hM⟩ : ∃ wm : World, wm = (wk.alloc (.cells #[.int .i64 (R q 0), .int .i64 (R q 1)] 111)).drew := ⟨_, rfl⟩
        rw [← hM]
        have q80 : wm.cell? ⟨wk.heap.size, 0, none⟩ = some (.int .i64 (R q 0)) := by rw [hM]; go_simp
        have q81 : wm.cell? ⟨wk.heap.size, 1, none⟩ = some (.int .i64 (R q 1)) := by rw [hM]; go_simp
        have hum : Up wk wm := by rw [hM]; exact (by repeat (first | with_reducible exact Up.refl _ | with_reducible refine Up.alloc ?_ _ | with_reducible refine Up.drew ?_ | with_reducible refine Up.drewN ?_ _ | (with_reducible refine Up.setCell ?_ (by first | omega | (simp; done) | (simp; omega)) _) | with_reducible assumption | (with_reducible refine Up.trans ?_ (by with_reducible assumption))))
        have e70 := (hum.cells.1 _ 0 hl7).trans q70
        have e71 := (hum.cells.1 _ 1 hl7).trans q71
        have hm7 : wy.heap.size < wm.heap.size := Nat.lt_of_lt_of_le hl7 hum.size
        have hm8 : wk.heap.size < wm.heap.size := by rw [hM]; simp
        clear hM q70 q71 d0 dl l2 l3
        go_wp2_with fail
        (refine wp_region_up (by kernel_rfl) (by kernel_rfl) ?_; (repeat (refine wpQuiet_step (fun K hK => ?_); go_simp; first | (refine hK _ ?_; clear hK K) | (apply Exists.intro; refine ⟨fun wq hwq => ?_, hK _ ?_⟩; (obtain ⟨hcq, hfq⟩ := hwq.cells; (try go_simp); first | done | rfl | exact ⟨rfl, rfl⟩ | (go_at_call 107; exact up_of hwq (HF _))); clear hK K))); refine wpQuiet_nil ?_; intro w1 hb1; obtain ⟨hc1, hf1⟩ := hb1.cells; have hl1 := hb1.lt; have hle1 := hb1.le; have hs1 := hb1.size; (try simp at hs1); (try have hs1a : wm.heap.size < w1.heap.size := by omega); (try have hs1aa : wm.heap.size ≤ w1.heap.size := by omega); (try have hs1b : wm.heap.size + 1 < w1.heap.size := by omega); (try have hs1bb : wm.heap.size + 1 ≤ w1.heap.size := by omega); (try have hs1c : wm.heap.size + 1 + 1 < w1.heap.size := by omega); (try have hs1cc : wm.heap.size + 1 + 1 ≤ w1.heap.size := by omega); (try have hs1d : wm.heap.size + 1 + 1 + 1 < w1.heap.size := by omega); (try have hs1dd : wm.heap.size + 1 + 1 + 1 ≤ w1.heap.size := by omega); (try have hs1L := Nat.lt_of_succ_le hs1); (try have hs1M := Nat.lt_of_succ_lt hs1L); (try have hs1N := Nat.lt_of_succ_lt hs1M); (try have hs1LE := Nat.le_of_lt hs1L); (try have hs1ME := Nat.le_of_lt hs1M))
        go_wp2
        exact ⟨⟨j + 1, by rfl, by omega, by rw [HST.out], (by repeat (first | with_reducible exact Up.refl _ | with_reducible refine Up.alloc ?_ _ | with_reducible refine Up.drew ?_ | with_reducible refine Up.drewN ?_ _ | (with_reducible refine Up.setCell ?_ (by first | omega | (simp; done) | (simp; omega)) _) | with_reducible assumption | (with_reducible refine Up.trans ?_ (by with_reducible assumption))))⟩, by simp only [intOf]; omega⟩
      · have hkk : j = n := by omega
        subst hkk
        have hk2 : ¬ (j : Int) < (j : Int) := by omega
        go_wp2
        go_ret
        exact ⟨rfl, (by repeat (first | with_reducible exact Up.refl _ | with_reducible refine Up.alloc ?_ _ | with_reducible refine Up.drew ?_ | with_reducible refine Up.drewN ?_ _ | (with_reducible refine Up.setCell ?_ (by first | omega | (simp; done) | (simp; omega)) _) | with_reducible assumption | (with_reducible refine Up.trans ?_ (by with_reducible assumption))))⟩
set_option maxHeartbeats 2000000 in
set_option maxRecDepth 100000 in
theorem sHeightMoment_any (u : Value) (n lo hi : Nat) (R : Nat → Nat → Int) (w : World) (hs : Sl w lo hi 2 u n (intF R)) (hn : n ≤ 1048576) : Calls Try.prog 71 #[.agg #[u]] w fun e w' => e = .returned (.int .i64 (arI 2 n R)) ∧ Up w w' := by
  have hP := fun W (hu : Up w W) => sStoneOk_any u n lo hi R W (hs.up hu) hn
  obtain ⟨h0, A, c, rfl, hc, hx⟩ := hs
  have H := Lib.hid hx
  clear hx
  cases hok : stOk n R with
  | false =>
    rw [arI_f hok]
    have HPo : ∀ W, Up w W → Calls Try.prog 65 #[.agg #[.slice A n c]] W fun e w' => e = .returned (.bool false) ∧ Up W w' := fun W hu => by have hh := hP W hu; rw [hok] at hh; exact hh
    clear hok hP
    by_cases hp : 0 < n
    · have hp2 : (0 : Int) < (n : Int) := by omega
      go_enter Try.func71, Try.ntmps71
      go_wp2
      refine wp_loop_rounds 1 ?_
      rw [rounds_succ]
      go_wp2_with (first | (go_at_call 65; (with_reducible refine (HPo _ (by repeat (first | with_reducible exact Up.refl _ | with_reducible refine Up.alloc ?_ _ | with_reducible refine Up.drew ?_ | with_reducible refine Up.drewN ?_ _ | (with_reducible refine Up.setCell ?_ (by first | omega | (simp; done) | (simp; omega)) _) | with_reducible assumption | (with_reducible refine Up.trans ?_ (by with_reducible assumption))))).mono ?_); rintro e w1 ⟨rfl, hb1⟩))
      exact bodyPost_ret (v := .int .i64 0) (by simp only [results]; go_simp; try simp) rfl ⟨rfl, (by repeat (first | with_reducible exact Up.refl _ | with_reducible refine Up.alloc ?_ _ | with_reducible refine Up.drew ?_ | with_reducible refine Up.drewN ?_ _ | (with_reducible refine Up.setCell ?_ (by first | omega | (simp; done) | (simp; omega)) _) | with_reducible assumption | (with_reducible refine Up.trans ?_ (by with_reducible assumption))))⟩
    · have hp2 : ¬ (0 : Int) < (n : Int) := by omega
      go_enter Try.func71, Try.ntmps71
      go_wp2
      refine wp_loop_rounds 1 ?_
      rw [rounds_succ]
      go_wp2
      exact bodyPost_ret (v := .int .i64 0) (by simp only [results]; go_simp; try simp) rfl ⟨rfl, (by repeat (first | with_reducible exact Up.refl _ | with_reducible refine Up.alloc ?_ _ | with_reducible refine Up.drew ?_ | with_reducible refine Up.drewN ?_ _ | (with_reducible refine Up.setCell ?_ (by first | omega | (simp; done) | (simp; omega)) _) | with_reducible assumption | (with_reducible refine Up.trans ?_ (by with_reducible assumption))))⟩
  | true =>
    have HPo : ∀ W, Up w W → Calls Try.prog 65 #[.agg #[.slice A n c]] W fun e w' => e = .returned (.bool true) ∧ Up W w' := fun W hu => by have hh := hP W hu; rw [hok] at hh; exact hh
    obtain ⟨hn3, hn6, hgp⟩ := st_inv hok
    rw [arI_t hok]
    have hbd := fun j hj => arS_bd (k := 2) (R := R) (n := n) (by omega) hgp j hj
    have HBD := Lib.hid hbd
    have HG := Lib.hid hgp
    clear hok hP hgp hbd
    go_enter Try.func71, Try.ntmps71
    go_wp2
    go_loopw [3, 4] (fun s i wr => ∃ j : Nat, i = .int .i64 (j : Int) ∧ j ≤ n ∧ s = .int .i64 (arS 2 n R j) ∧ Up (w.alloc (.cells #[.slice A n c] 80)) wr) (fun _ i _ => n - (intOf i).toNat)
    case atStart => exact ⟨0, rfl, Nat.zero_le _, rfl, (by repeat (first | with_reducible exact Up.refl _ | with_reducible refine Up.alloc ?_ _ | with_reducible refine Up.drew ?_ | with_reducible refine Up.drewN ?_ _ | (with_reducible refine Up.setCell ?_ (by first | omega | (simp; done) | (simp; omega)) _) | with_reducible assumption | (with_reducible refine Up.trans ?_ (by with_reducible assumption))))⟩
    case round =>
      obtain ⟨j, rfl, hj, rfl, hup⟩ := hrel
      have hupw : Up w wr := Up.trans (Up.alloc (Up.refl w) _) hup
      have hbx : wr.cell? ⟨w.heap.size, 0, none⟩ = some (.slice A n c) := (hup.cells.1 _ _ (by simp)).trans (by simp [World.cell?_alloc_mark])
      have hbxr : w.heap.size < wr.heap.size := Nat.lt_of_lt_of_le (by simp) hup.size
      by_cases hk1 : j < n
      · obtain ⟨b, o, rfl, hb1, hb2, hcs⟩ := H.out (by omega)
        obtain ⟨m1, t1⟩ := mod_facts j 1 n hk1 hn6 (by omega)
        have hst : arS 2 n R (j + 1) = arS 2 n R j + fkQ 2 R j ((j + 1) % n) * crQ R j ((j + 1) % n) := rfl
        generalize hq1 : (j + 1) % n = q at m1 t1 hst
        obtain ⟨a0, a1⟩ := Sl.pt hcs hk1
        obtain ⟨b0, b1⟩ := Sl.pt hcs m1
        have hbw : b < w.heap.size := by omega
        have g0 := (hupw.cells.1 _ (o + j * 2) hbw).trans a0
        have g1 := (hupw.cells.1 _ (o + j * 2 + 1) hbw).trans a1
        have g2 := (hupw.cells.1 _ (o + q * 2) hbw).trans b0
        have g3 := (hupw.cells.1 _ (o + q * 2 + 1) hbw).trans b1
        have hbr : b < wr.heap.size := Nat.lt_of_lt_of_le hbw hupw.size
        have hk2 : (j : Int) < (n : Int) := by omega
        have m1i : (q : Int) < (n : Int) := by omega
        have hw1a : IntKind.i64.wrap ((j : Int) + 1) = (j : Int) + 1 := by rw [IntKind.wrap_i64]; omega
        have hwq1 : IntKind.i64.wrap (q : Int) = (q : Int) := by rw [IntKind.wrap_i64]; omega
        have hn0 : ¬ (n : Int) = 0 := by omega
        have hnn : ¬ n = 0 := by omega
        have T1 : ((j : Int) + 1).tmod (n : Int) = (q : Int) := t1
        have HST := Lib.hid hst
        obtain ⟨x1, x2, x3, x4, y1, y2, y3, y4, y5, y6⟩ := ar_bd (k := 2) (HG.out j hk1) (HG.out q m1)
        obtain ⟨z1, z2⟩ := HBD.out j (by omega)
        have z3 := HBD.out (j + 1) (by omega)
        rw [HST.out] at z3
        have HF : ∀ W : World, Calls Try.prog 107 #[.agg #[.int .i64 (R j 0), .int .i64 (R j 1)], .agg #[.int .i64 (R q 0), .int .i64 (R q 1)]] W fun e w' => e = .returned (.int .i64 (crQ R j q)) ∧ Up W w' := fun W => crs_any R j q W (HG.out j hk1) (HG.out q m1)
        have HFK : Hid (fkQ 2 R j q = R j 1 + R q 1) := rfl
        have HCR : Hid (crQ R j q = R j 0 * R q 1 - R j 1 * R q 0) := rfl
        generalize fkQ 2 R j q = f at *
        generalize crQ R j q = cr at *
        generalize arS 2 n R j = s at *
        have v1 : IntKind.i64.wrap (R j 0 * R q 1) = R j 0 * R q 1 := by rw [IntKind.wrap_i64]; omega
        have v2 : IntKind.i64.wrap (R j 1 * R q 0) = R j 1 * R q 0 := by rw [IntKind.wrap_i64]; omega
        have v3 : IntKind.i64.wrap (R j 0 * R q 1 - R j 1 * R q 0) = cr := by rw [IntKind.wrap_i64, HCR.out]; omega
        have v6 : IntKind.i64.wrap (R j 1 + R q 1) = f := by rw [IntKind.wrap_i64, HFK.out]; have := HFK.out; omega
        have v4 : IntKind.i64.wrap (f * cr) = f * cr := by rw [IntKind.wrap_i64]; omega
        have v5 : IntKind.i64.wrap (s + f * cr) = s + f * cr := by rw [IntKind.wrap_i64]; omega
        clear a0 a1 b0 b1 hcs t1 hq1 hst z3
        go_wp2_with fail
        (go_at_call 65; (with_reducible refine (HPo _ (by repeat (first | with_reducible exact Up.refl _ | with_reducible refine Up.alloc ?_ _ | with_reducible refine Up.drew ?_ | with_reducible refine Up.drewN ?_ _ | (with_reducible refine Up.setCell ?_ (by first | omega | (simp; done) | (simp; omega)) _) | with_reducible assumption | (with_reducible refine Up.trans ?_ (by with_reducible assumption))))).mono ?_); rintro e w1 ⟨rfl, hb1'⟩)
        have hc0 := (hb1'.cells.1 _ 0 hbxr).trans hbx
        have hcl : w.heap.size < w1.heap.size := Nat.lt_of_lt_of_le hbxr hb1'.size
        have k0 := (hb1'.cells.1 _ _ hbr).trans g0
        have k1 := (hb1'.cells.1 _ _ hbr).trans g1
        have k2 := (hb1'.cells.1 _ _ hbr).trans g2
        have k3 := (hb1'.cells.1 _ _ hbr).trans g3
        have hbl : b < w1.heap.size := Nat.lt_of_lt_of_le hbr hb1'.size
        have hu1 : Up w w1 := hupw.trans hb1'
        have huz : Up (w.alloc (.cells #[.slice (some ⟨b, o, none⟩) n c] 80)) w1 := hup.trans hb1'
        obtain ⟨wy, rfl⟩ : ∃ wy : World, wy = w1 := ⟨_, rfl⟩
        clear hb1' g0 g1 g2 g3 hbx hbxr hup hupw hbr
        go_wp2_with fail
        obtain ⟨wk, hW⟩ : ∃ wk : World, wk = wy.alloc (.cells #[.int .i64 (R j 0), .int .i64 (R j 1)] 111) := ⟨_, rfl⟩
        rw [← hW]
        have q70 : wk.cell? ⟨wy.heap.size, 0, none⟩ = some (.int .i64 (R j 0)) := by rw [hW]; go_simp
        have q71 : wk.cell? ⟨wy.heap.size, 1, none⟩ = some (.int .i64 (R j 1)) := by rw [hW]; go_simp
        have hu7 : Up wy wk := by rw [hW]; exact (by repeat (first | with_reducible exact Up.refl _ | with_reducible refine Up.alloc ?_ _ | with_reducible refine Up.drew ?_ | with_reducible refine Up.drewN ?_ _ | (with_reducible refine Up.setCell ?_ (by first | omega | (simp; done) | (simp; omega)) _) | with_reducible assumption | (with_reducible refine Up.trans ?_ (by with_reducible assumption))))
        have hl7 : wy.heap.size < wk.heap.size := by rw [hW]; simp
        have d0 := (hu7.cells.1 _ 0 hcl).trans hc0
        have dl : w.heap.size < wk.heap.size := Nat.lt_of_lt_of_le hcl hu7.size
        have l2 := (hu7.cells.1 _ _ hbl).trans k2
        have l3 := (hu7.cells.1 _ _ hbl).trans k3
        have hbk : b < wk.heap.size := Nat.lt_of_lt_of_le hbl hu7.size
        clear hW k0 k1 k2 k3 hc0 hcl
        go_region_held3 (fun w' => (∀ b o, b < wk.heap.size → w'.cell? ⟨b, o, none⟩ = wk.cell? ⟨b, o, none⟩) ∧ wk.heap.size ≤ w'.heap.size) (repeat (first | with_reducible refine kp_drew ?_ | with_reducible refine kp_set ?_ (by first | omega | (simp; done) | (simp; omega)) | with_reducible refine kp_alloc ?_ _ | with_reducible assumption | with_reducible exact kp_start _)) (first | fail)
        obtain ⟨wm, hM⟩ : ∃ wm : World, wm = (wk.alloc (.cells #[.int .i64 (R q 0), .int .i64 (R q 1)] 111)).drew := ⟨_, rfl⟩
        rw [← hM]
        have q80 : wm.cell? ⟨wk.heap.size, 0, none⟩ = some (.int .i64 (R q 0)) := by rw [hM]; go_simp
        have q81 : wm.cell? ⟨wk.heap.size, 1, none⟩ = some (.int .i64 (R q 1)) := by rw [hM]; go_simp
        have hum : Up wk wm := by rw [hM]; exact (by repeat (first | with_reducible exact Up.refl _ | with_reducible refine Up.alloc ?_ _ | with_reducible refine Up.drew ?_ | with_reducible refine Up.drewN ?_ _ | (with_reducible refine Up.setCell ?_ (by first | omega | (simp; done) | (simp; omega)) _) | with_reducible assumption | (with_reducible refine Up.trans ?_ (by with_reducible assumption))))
        have e70 := (hum.cells.1 _ 0 hl7).trans q70
        have e71 := (hum.cells.1 _ 1 hl7).trans q71
        have hm7 : wy.heap.size < wm.heap.size := Nat.lt_of_lt_of_le hl7 hum.size
        have hm8 : wk.heap.size < wm.heap.size := by rw [hM]; simp
        clear hM q70 q71 d0 dl l2 l3
        go_wp2_with fail
        (refine wp_region_up (by kernel_rfl) (by kernel_rfl) ?_; (repeat (refine wpQuiet_step (fun K hK => ?_); go_simp; first | (refine hK _ ?_; clear hK K) | (apply Exists.intro; refine ⟨fun wq hwq => ?_, hK _ ?_⟩; (obtain ⟨hcq, hfq⟩ := hwq.cells; (try go_simp); first | done | rfl | exact ⟨rfl, rfl⟩ | (go_at_call 107; exact up_of hwq (HF _))); clear hK K))); refine wpQuiet_nil ?_; intro w1 hb1; obtain ⟨hc1, hf1⟩ := hb1.cells; have hl1 := hb1.lt; have hle1 := hb1.le; have hs1 := hb1.size; (try simp at hs1); (try have hs1a : wm.heap.size < w1.heap.size := by omega); (try have hs1aa : wm.heap.size ≤ w1.heap.size := by omega); (try have hs1b : wm.heap.size + 1 < w1.heap.size := by omega); (try have hs1bb : wm.heap.size + 1 ≤ w1.heap.size := by omega); (try have hs1c : wm.heap.size + 1 + 1 < w1.heap.size := by omega); (try have hs1cc : wm.heap.size + 1 + 1 ≤ w1.heap.size := by omega); (try have hs1d : wm.heap.size + 1 + 1 + 1 < w1.heap.size := by omega); (try have hs1dd : wm.heap.size + 1 + 1 + 1 ≤ w1.heap.size := by omega); (try have hs1L := Nat.lt_of_succ_le hs1); (try have hs1M := Nat.lt_of_succ_lt hs1L); (try have hs1N := Nat.lt_of_succ_lt hs1M); (try have hs1LE := Nat.le_of_lt hs1L); (try have hs1ME := Nat.le_of_lt hs1M))
        go_wp2
        exact ⟨⟨j + 1, by rfl, by omega, by rw [HST.out], (by repeat (first | with_reducible exact Up.refl _ | with_reducible refine Up.alloc ?_ _ | with_reducible refine Up.drew ?_ | with_reducible refine Up.drewN ?_ _ | (with_reducible refine Up.setCell ?_ (by first | omega | (simp; done) | (simp; omega)) _) | with_reducible assumption | (with_reducible refine Up.trans ?_ (by with_reducible assumption))))⟩, by simp only [intOf]; omega⟩
      · have hkk : j = n := by omega
        subst hkk
        have hk2 : ¬ (j : Int) < (j : Int) := by omega
        go_wp2
        go_ret
        exact ⟨rfl, (by repeat (first | with_reducible exact Up.refl _ | with_reducible refine Up.alloc ?_ _ | with_reducible refine Up.drew ?_ | with_reducible refine Up.drewN ?_ _ | (with_reducible refine Up.setCell ?_ (by first | omega | (simp; done) | (simp; omega)) _) | with_reducible assumption | (with_reducible refine Up.trans ?_ (by with_reducible assumption))))⟩
end Go.Proofs.Ytigcmhdjafglbaa
