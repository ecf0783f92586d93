/- The walk of the reference's StoneOk. No condition. -/
import Derived.Test.YtigcmhdjafglbaaSt2
namespace Go.Proofs.Ytigcmhdjafglbaa
open Go.RowKit
set_option linter.unusedVariables false
set_option maxHeartbeats 2000000 in
set_option maxRecDepth 100000 in
theorem sStoneOk_any (u : Value) (n lo hi : Nat) (R : Nat → Nat → Int) (w : World) (hs : Sl w lo hi 2 u n (intF R)) (hn : n ≤ 1048576) : Calls Try.prog 65 #[.agg #[u]] w fun e w' => e = .returned (.bool (stOk n R)) ∧ Up w w' := by
  obtain ⟨h0, A, c, rfl, hc, hx⟩ := hs
  have H := Lib.hid hx
  clear hx
  cases hin : inB 3 (n : Int) 6 with
  | false =>
    rw [st_1 hin]
    go_enter Try.func65, Try.ntmps65
    go_wp2_with (first | (go_at_call 80; (with_reducible refine (l01In_any _ _ _ _).mono ?_); rintro e w1 ⟨rfl, rfl⟩))
    go_ret
    exact ⟨rfl, (by repeat (first | with_reducible exact Up.refl _ | with_reducible refine Up.alloc ?_ _ | with_reducible refine Up.drew ?_ | with_reducible refine Up.drewN ?_ _ | (with_reducible refine Up.setCell ?_ (by first | omega | (simp; done) | (simp; omega)) _) | with_reducible assumption | (with_reducible refine Up.trans ?_ (by with_reducible assumption))))⟩
  | true =>
    have hn3 : 3 ≤ n ∧ n ≤ 6 := by have := inB_true.1 hin; omega
    obtain ⟨hn3, hn6⟩ := hn3
    obtain ⟨pB, hpB⟩ : ∃ pB, stOk n R = pB := ⟨_, rfl⟩
    rw [hpB]
    have HB := Lib.hid hpB
    clear hpB
    go_enter Try.func65, Try.ntmps65
    go_wp2_with (first | (go_at_call 80; (with_reducible refine (l01In_any _ _ _ _).mono ?_); rintro e w1 ⟨rfl, rfl⟩))
    go_loopw [4] (fun i wr => ∃ j : Nat, i = .int .i64 (j : Int) ∧ j ≤ n ∧ Hid (allN (ptR R) j = true) ∧ Up (w.alloc (.cells #[.slice A n c] 80)) wr) (fun i _ => n - (intOf i).toNat)
    case atStart => exact ⟨0, rfl, Nat.zero_le _, rfl, (by repeat (first | with_reducible exact Up.refl _ | with_reducible refine Up.alloc ?_ _ | with_reducible refine Up.drew ?_ | with_reducible refine Up.drewN ?_ _ | (with_reducible refine Up.setCell ?_ (by first | omega | (simp; done) | (simp; omega)) _) | with_reducible assumption | (with_reducible refine Up.trans ?_ (by with_reducible assumption))))⟩
    case round =>
      obtain ⟨j, rfl, hj, ha, hup⟩ := hrel
      have hupw : Up w wr := Up.trans (Up.alloc (Up.refl w) _) hup
      have hbx0 : wr.cell? ⟨w.heap.size, 0, none⟩ = some (.slice A n c) := (hup.cells.1 _ _ (by simp)).trans (by simp [World.cell?_alloc_mark])
      have hbxl : w.heap.size < wr.heap.size := Nat.lt_of_lt_of_le (by simp) hup.size
      by_cases hk1 : j < n
      · obtain ⟨b, o, rfl, hb1, hb2, hcs⟩ := H.out (by omega)
        obtain ⟨p0, p1⟩ := Sl.pt hcs hk1
        have hg0 := (hupw.cells.1 _ (o + j * 2) (by omega)).trans p0
        have hg1 := (hupw.cells.1 _ (o + j * 2 + 1) (by omega)).trans p1
        have hk2 : (j : Int) < (n : Int) := by omega
        clear hcs p0 p1
        cases hf : ptB (R j 0) (R j 1) with
        | true =>
          have HA := Lib.hid (allN_step (p := ptR R) ha.out hf)
          have HT : ∀ W : World, Calls Try.prog 99 #[.agg #[.int .i64 (R j 0), .int .i64 (R j 1)]] W fun e w' => e = .returned (.bool true) ∧ Up W w' := fun W => by have hh := sPointOk_any (R j 0) (R j 1) W; rw [hf] at hh; exact hh
          clear hf
          go_wp2_with (first | (go_at_call 99; (with_reducible refine (HT _).mono ?_); rintro e w1 ⟨rfl, hb1⟩))
          exact ⟨⟨j + 1, by rfl, by omega, HA, (by repeat (first | with_reducible exact Up.refl _ | with_reducible refine Up.alloc ?_ _ | with_reducible refine Up.drew ?_ | with_reducible refine Up.drewN ?_ _ | (with_reducible refine Up.setCell ?_ (by first | omega | (simp; done) | (simp; omega)) _) | with_reducible assumption | (with_reducible refine Up.trans ?_ (by with_reducible assumption))))⟩, by simp only [intOf]; omega⟩
        | false =>
          have e1 := st_2 (allN_false (p := ptR R) hk1 hf)
          rw [HB.out] at e1
          subst e1
          have HT : ∀ W : World, Calls Try.prog 99 #[.agg #[.int .i64 (R j 0), .int .i64 (R j 1)]] W fun e w' => e = .returned (.bool false) ∧ Up W w' := fun W => by have hh := sPointOk_any (R j 0) (R j 1) W; rw [hf] at hh; exact hh
          clear hf
          go_wp2_with (first | (go_at_call 99; (with_reducible refine (HT _).mono ?_); rintro e w1 ⟨rfl, hb1⟩))
          go_ret
          exact ⟨rfl, (by repeat (first | with_reducible exact Up.refl _ | with_reducible refine Up.alloc ?_ _ | with_reducible refine Up.drew ?_ | with_reducible refine Up.drewN ?_ _ | (with_reducible refine Up.setCell ?_ (by first | omega | (simp; done) | (simp; omega)) _) | with_reducible assumption | (with_reducible refine Up.trans ?_ (by with_reducible assumption))))⟩
      · have hkk : j = n := by omega
        subst hkk
        have hk2 : ¬ (j : Int) < (j : Int) := by omega
        have hgp : ∀ i, i < j → ptB (R i 0) (R i 1) = true := fun i hi => allN_get ha.out hi
        have HG := Lib.hid hgp
        have HT := ha
        clear hgp
        obtain ⟨wz, rfl⟩ : ∃ wz : World, wz = wr := ⟨_, rfl⟩
        have hw1 := hupw
        obtain ⟨n, rfl⟩ : ∃ n : Nat, n = j := ⟨_, rfl⟩
        clear ha hup hupw hj
        go_wp2
        go_loopw [5] (fun i wr => ∃ j : Nat, i = .int .i64 (j : Int) ∧ j ≤ n ∧ Hid (allN (trB n R) j = true) ∧ Up wz wr) (fun i _ => n - (intOf i).toNat)
        case atStart => exact ⟨0, rfl, Nat.zero_le _, rfl, (by repeat (first | with_reducible exact Up.refl _ | with_reducible refine Up.alloc ?_ _ | with_reducible refine Up.drew ?_ | with_reducible refine Up.drewN ?_ _ | (with_reducible refine Up.setCell ?_ (by first | omega | (simp; done) | (simp; omega)) _) | with_reducible assumption | (with_reducible refine Up.trans ?_ (by with_reducible assumption))))⟩
        case round =>
          obtain ⟨j, rfl, hj, ha, hup⟩ := hrel
          have hupw : Up w wr := hw1.trans hup
          by_cases hk1 : j < n
          · obtain ⟨b, o, rfl, hb1, hb2, hcs⟩ := H.out (by omega)
            obtain ⟨m1, t1⟩ := mod_facts j 1 n hk1 hn6 (by omega)
            obtain ⟨m2, t2⟩ := mod_facts j 2 n hk1 hn6 (by omega)
            have htr : trB n R j = (decide (0 < sdR R j ((j + 1) % n) ((j + 2) % n)) && !(decide (0 < j) && decide (j + 1 < n) && decide (sdR R 0 j (j + 1) < 0))) := rfl
            generalize hq1 : (j + 1) % n = q1 at m1 t1 htr
            generalize hq2 : (j + 2) % n = q2 at m2 t2 htr
            obtain ⟨X, hX⟩ : ∃ X, sdR R j q1 q2 = X := ⟨_, rfl⟩
            rw [hX] at htr
            have HS1 : ∀ W : World, Calls Try.prog 100 #[.agg #[.int .i64 (R j 0), .int .i64 (R j 1)], .agg #[.int .i64 (R q1 0), .int .i64 (R q1 1)], .agg #[.int .i64 (R q2 0), .int .i64 (R q2 1)]] W fun e w' => e = .returned (.int .i64 X) ∧ Up W w' := fun W => by have hh := l02Side_any (R j 0) (R j 1) (R q1 0) (R q1 1) (R q2 0) (R q2 1) W (HG.out j hk1) (HG.out q1 m1) (HG.out q2 m2); rw [← hX]; exact hh
            obtain ⟨a0, a1⟩ := Sl.pt hcs hk1
            obtain ⟨b0, b1⟩ := Sl.pt hcs m1
            obtain ⟨c0, c1⟩ := Sl.pt hcs m2
            have hbw : b < w.heap.size := by omega
            have g0 := (hupw.cells.1 _ (o + j * 2) hbw).trans a0
            have g1 := (hupw.cells.1 _ (o + j * 2 + 1) hbw).trans a1
            have g2 := (hupw.cells.1 _ (o + q1 * 2) hbw).trans b0
            have g3 := (hupw.cells.1 _ (o + q1 * 2 + 1) hbw).trans b1
            have g4 := (hupw.cells.1 _ (o + q2 * 2) hbw).trans c0
            have g5 := (hupw.cells.1 _ (o + q2 * 2 + 1) hbw).trans c1
            have hbr : b < wr.heap.size := Nat.lt_of_lt_of_le hbw hupw.size
            have hk2 : (j : Int) < (n : Int) := by omega
            have m1i : (q1 : Int) < (n : Int) := by omega
            have m2i : (q2 : Int) < (n : Int) := by omega
            have hw1a : IntKind.i64.wrap ((j : Int) + 1) = (j : Int) + 1 := by rw [IntKind.wrap_i64]; omega
            have hw2a : IntKind.i64.wrap ((j : Int) + 2) = (j : Int) + 2 := by rw [IntKind.wrap_i64]; omega
            have hwq1 : IntKind.i64.wrap (q1 : Int) = (q1 : Int) := by rw [IntKind.wrap_i64]; omega
            have hwq2 : IntKind.i64.wrap (q2 : Int) = (q2 : Int) := by rw [IntKind.wrap_i64]; omega
            have hn0 : ¬ (n : Int) = 0 := by omega
            have hnn : ¬ n = 0 := by omega
            have hn0b : ((n : Int) == 0) = false := by simpa using hn0
            have T1 : ((j : Int) + 1).tmod (n : Int) = (q1 : Int) := t1
            have T2 : ((j : Int) + 2).tmod (n : Int) = (q2 : Int) := t2
            have HX := Lib.hid hX
            have HQ1 := Lib.hid hq1
            have HQ2 := Lib.hid hq2
            have HTR := Lib.hid htr
            have HCS := Lib.hid hcs
            clear hX hq1 hq2 htr hcs a0 a1 b0 b1 c0 c1 t1 t2
            have hbx := (hup.cells.1 _ 0 hbxl).trans hbx0
            have hbxr : w.heap.size < wr.heap.size := Nat.lt_of_lt_of_le hbxl hup.size
            go_wp2_with fail
            (refine wp_region_up (by kernel_rfl) (by kernel_rfl) ?_; (repeat (refine wpQuiet_step (fun K hK => ?_); go_simp; first | (refine hK _ ?_; clear hK K) | (apply Exists.intro; refine ⟨fun wq hwq => ?_, hK _ ?_⟩; (obtain ⟨hcq, hfq⟩ := hwq.cells; (try go_simp); first | done | rfl | exact ⟨rfl, rfl⟩ | (go_at_call 100; exact up_of hwq (HS1 _))); clear hK K))); refine wpQuiet_nil ?_; intro w1 hb1; obtain ⟨hc1, hf1⟩ := hb1.cells; have hl1 := hb1.lt; have hle1 := hb1.le; have hs1 := hb1.size; (try simp at hs1); (try have hs1a : wr.heap.size < w1.heap.size := by omega); (try have hs1aa : wr.heap.size ≤ w1.heap.size := by omega); (try have hs1b : wr.heap.size + 1 < w1.heap.size := by omega); (try have hs1bb : wr.heap.size + 1 ≤ w1.heap.size := by omega); (try have hs1c : wr.heap.size + 1 + 1 < w1.heap.size := by omega); (try have hs1cc : wr.heap.size + 1 + 1 ≤ w1.heap.size := by omega); (try have hs1d : wr.heap.size + 1 + 1 + 1 < w1.heap.size := by omega); (try have hs1dd : wr.heap.size + 1 + 1 + 1 ≤ w1.heap.size := by omega); (try have hs1L := Nat.lt_of_succ_le hs1); (try have hs1M := Nat.lt_of_succ_lt hs1L); (try have hs1N := Nat.lt_of_succ_lt hs1M); (try have hs1LE := Nat.le_of_lt hs1L); (try have hs1ME := Nat.le_of_lt hs1M))
            have hu1 : Up w w1 := hupw.trans hb1
            have hu2 : Up wz w1 := hup.trans hb1
            obtain ⟨wy, rfl⟩ : ∃ wy : World, wy = w1 := ⟨_, rfl⟩
            have hby1 := (hb1.cells.1 _ 0 hbxr).trans hbx
            have hbyl : w.heap.size < wy.heap.size := Nat.lt_of_lt_of_le hbxr hb1.size
            clear hb1 hup hupw hbx g0 g1 g2 g3 g4 g5 hc1 hf1 hl1 hle1
            by_cases hX0 : X ≤ 0
            · have e0 : trB n R j = false := by rw [HTR.out, decide_eq_false (by omega)]; rfl
              have e1 := st_3 (allN_false hk1 e0)
              rw [HB.out] at e1
              subst e1
              clear e0
              go_wp2
              go_ret
              exact ⟨rfl, (by repeat (first | with_reducible exact Up.refl _ | with_reducible refine Up.alloc ?_ _ | with_reducible refine Up.drew ?_ | with_reducible refine Up.drewN ?_ _ | (with_reducible refine Up.setCell ?_ (by first | omega | (simp; done) | (simp; omega)) _) | with_reducible assumption | (with_reducible refine Up.trans ?_ (by with_reducible assumption))))⟩
            have hX1 : decide (0 < X) = true := decide_eq_true (by omega)
            by_cases hjn : j + 1 < n
            rotate_left
            · have e0 : trB n R j = true := by rw [HTR.out, hX1, decide_eq_false hjn]; simp
              have HA := Lib.hid (allN_step ha.out e0)
              have hd : decide ((j : Int) + 1 < (n : Int)) = false := decide_eq_false (by omega)
              clear e0
              go_wp2_with fail
              go_quiet (fail)
              go_wp2
              exact ⟨⟨j + 1, by rfl, by omega, HA, (by repeat (first | with_reducible exact Up.refl _ | with_reducible refine Up.alloc ?_ _ | with_reducible refine Up.drew ?_ | with_reducible refine Up.drewN ?_ _ | (with_reducible refine Up.setCell ?_ (by first | omega | (simp; done) | (simp; omega)) _) | with_reducible assumption | (with_reducible refine Up.trans ?_ (by with_reducible assumption))))⟩, by simp only [intOf]; omega⟩
            · have hd : (j : Int) + 1 < (n : Int) := by omega
              have hdd : decide (j + 1 < n) = true := decide_eq_true hjn
              obtain ⟨Y, hY⟩ : ∃ Y, sdR R 0 j (j + 1) = Y := ⟨_, rfl⟩
              have HS2 : ∀ W : World, Calls Try.prog 100 #[.agg #[.int .i64 (R 0 0), .int .i64 (R 0 1)], .agg #[.int .i64 (R j 0), .int .i64 (R j 1)], .agg #[.int .i64 (R (j + 1) 0), .int .i64 (R (j + 1) 1)]] W fun e w' => e = .returned (.int .i64 Y) ∧ Up W w' := fun W => by have hh := l02Side_any (R 0 0) (R 0 1) (R j 0) (R j 1) (R (j + 1) 0) (R (j + 1) 1) W (HG.out 0 (by omega)) (HG.out j hk1) (HG.out (j + 1) hjn); rw [← hY]; exact hh
              obtain ⟨a0, a1⟩ := Sl.pt HCS.out hk1
              obtain ⟨b0, b1⟩ := Sl.pt HCS.out (k := 0) (by omega)
              obtain ⟨c0, c1⟩ := Sl.pt HCS.out hjn
              have g0 := (hu1.cells.1 _ (o + j * 2) hbw).trans a0
              have g1 := (hu1.cells.1 _ (o + j * 2 + 1) hbw).trans a1
              have g2 := (hu1.cells.1 _ (o + 0 * 2) hbw).trans b0
              have g3 := (hu1.cells.1 _ (o + 0 * 2 + 1) hbw).trans b1
              simp only [Nat.zero_mul, Nat.add_zero] at g2 g3
              have g4 := (hu1.cells.1 _ (o + (j + 1) * 2) hbw).trans c0
              have g5 := (hu1.cells.1 _ (o + (j + 1) * 2 + 1) hbw).trans c1
              have hby : b < wy.heap.size := Nat.lt_of_lt_of_le hbw hu1.size
              have hn1 : (0 : Int) < (n : Int) := by omega
              have hnN : 0 < n := by omega
              have e0 : trB n R j = !(decide (Y < 0)) := by
                rw [HTR.out, hX1, hdd, hY]
                by_cases hj0 : j = 0
                · subst hj0
                  have : Y = 0 := by rw [← hY]; simp [sdR, sideI]
                  simp [this]
                · simp [show 0 < j by omega]
              clear a0 a1 b0 b1 c0 c1 hY
              by_cases hY0 : Y < 0
              · have e2 : trB n R j = false := by rw [e0, decide_eq_true hY0]; rfl
                have e1 := st_3 (allN_false hk1 e2)
                rw [HB.out] at e1
                subst e1
                clear e0 e2
                go_wp2_with fail
                (refine wp_region_up (by kernel_rfl) (by kernel_rfl) ?_; (repeat (refine wpQuiet_step (fun K hK => ?_); go_simp; first | (refine hK _ ?_; clear hK K) | (apply Exists.intro; refine ⟨fun wq hwq => ?_, hK _ ?_⟩; (obtain ⟨hcq, hfq⟩ := hwq.cells; (try go_simp); first | done | rfl | exact ⟨rfl, rfl⟩ | (go_at_call 100; exact up_of hwq (HS2 _))); clear hK K))); refine wpQuiet_nil ?_; intro w1 hb1; obtain ⟨hc1, hf1⟩ := hb1.cells; have hl1 := hb1.lt; have hle1 := hb1.le; have hs1 := hb1.size; (try simp at hs1); (try have hs1a : wy.heap.size < w1.heap.size := by omega); (try have hs1aa : wy.heap.size ≤ w1.heap.size := by omega); (try have hs1b : wy.heap.size + 1 < w1.heap.size := by omega); (try have hs1bb : wy.heap.size + 1 ≤ w1.heap.size := by omega); (try have hs1c : wy.heap.size + 1 + 1 < w1.heap.size := by omega); (try have hs1cc : wy.heap.size + 1 + 1 ≤ w1.heap.size := by omega); (try have hs1d : wy.heap.size + 1 + 1 + 1 < w1.heap.size := by omega); (try have hs1dd : wy.heap.size + 1 + 1 + 1 ≤ w1.heap.size := by omega); (try have hs1L := Nat.lt_of_succ_le hs1); (try have hs1M := Nat.lt_of_succ_lt hs1L); (try have hs1N := Nat.lt_of_succ_lt hs1M); (try have hs1LE := Nat.le_of_lt hs1L); (try have hs1ME := Nat.le_of_lt hs1M))
                go_wp2
                go_ret
                exact ⟨rfl, (by repeat (first | with_reducible exact Up.refl _ | with_reducible refine Up.alloc ?_ _ | with_reducible refine Up.drew ?_ | with_reducible refine Up.drewN ?_ _ | (with_reducible refine Up.setCell ?_ (by first | omega | (simp; done) | (simp; omega)) _) | with_reducible assumption | (with_reducible refine Up.trans ?_ (by with_reducible assumption))))⟩
              · have e2 : trB n R j = true := by rw [e0, decide_eq_false hY0]; rfl
                have HA := Lib.hid (allN_step ha.out e2)
                clear e0 e2
                go_wp2_with fail
                (refine wp_region_up (by kernel_rfl) (by kernel_rfl) ?_; (repeat (refine wpQuiet_step (fun K hK => ?_); go_simp; first | (refine hK _ ?_; clear hK K) | (apply Exists.intro; refine ⟨fun wq hwq => ?_, hK _ ?_⟩; (obtain ⟨hcq, hfq⟩ := hwq.cells; (try go_simp); first | done | rfl | exact ⟨rfl, rfl⟩ | (go_at_call 100; exact up_of hwq (HS2 _))); clear hK K))); refine wpQuiet_nil ?_; intro w1 hb1; obtain ⟨hc1, hf1⟩ := hb1.cells; have hl1 := hb1.lt; have hle1 := hb1.le; have hs1 := hb1.size; (try simp at hs1); (try have hs1a : wy.heap.size < w1.heap.size := by omega); (try have hs1aa : wy.heap.size ≤ w1.heap.size := by omega); (try have hs1b : wy.heap.size + 1 < w1.heap.size := by omega); (try have hs1bb : wy.heap.size + 1 ≤ w1.heap.size := by omega); (try have hs1c : wy.heap.size + 1 + 1 < w1.heap.size := by omega); (try have hs1cc : wy.heap.size + 1 + 1 ≤ w1.heap.size := by omega); (try have hs1d : wy.heap.size + 1 + 1 + 1 < w1.heap.size := by omega); (try have hs1dd : wy.heap.size + 1 + 1 + 1 ≤ w1.heap.size := by omega); (try have hs1L := Nat.lt_of_succ_le hs1); (try have hs1M := Nat.lt_of_succ_lt hs1L); (try have hs1N := Nat.lt_of_succ_lt hs1M); (try have hs1LE := Nat.le_of_lt hs1L); (try have hs1ME := Nat.le_of_lt hs1M))
                go_wp2
                exact ⟨⟨j + 1, by rfl, by omega, HA, (by repeat (first | with_reducible exact Up.refl _ | with_reducible refine Up.alloc ?_ _ | with_reducible refine Up.drew ?_ | with_reducible refine Up.drewN ?_ _ | (with_reducible refine Up.setCell ?_ (by first | omega | (simp; done) | (simp; omega)) _) | with_reducible assumption | (with_reducible refine Up.trans ?_ (by with_reducible assumption))))⟩, by simp only [intOf]; omega⟩
          · have hkk : j = n := by omega
            subst hkk
            have hk2 : ¬ (j : Int) < (j : Int) := by omega
            have e1 := st_t hin HT.out ha.out
            rw [HB.out] at e1
            subst e1
            go_wp2
            go_ret
            exact ⟨rfl, (by repeat (first | with_reducible exact Up.refl _ | with_reducible refine Up.alloc ?_ _ | with_reducible refine Up.drew ?_ | with_reducible refine Up.drewN ?_ _ | (with_reducible refine Up.setCell ?_ (by first | omega | (simp; done) | (simp; omega)) _) | with_reducible assumption | (with_reducible refine Up.trans ?_ (by with_reducible assumption))))⟩
end Go.Proofs.Ytigcmhdjafglbaa
