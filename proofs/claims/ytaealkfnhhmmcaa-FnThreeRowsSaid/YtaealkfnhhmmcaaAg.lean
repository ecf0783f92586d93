/- The walks of stones and of their areas and moments. No condition. -/
import Derived.Test.YtaealkfnhhmmcaaRw
import Derived.Test.YtaealkfnhhmmcaaPts
import Derived.Deep.QuietTactic
import Derived.Deep.RegionHeld3
/- The walks of StoneOk, the program's. No condition. -/
namespace Go.Proofs.Ytaealkfnhhmmcaa
open Go.RowKit
set_option linter.unusedVariables false
def ptR (R : Nat → Nat → Int) (i : Nat) : Bool := ptB (R i 0) (R i 1)
/-- The side on which corner c lies of the way from corner a to corner b. -/
def sdR (R : Nat → Nat → Int) (a b c : Nat) : Int := sideI (R a 0) (R a 1) (R b 0) (R b 1) (R c 0) (R c 1)
/-- What StoneOk asks at corner i. -/
def trB (n : Nat) (R : Nat → Nat → Int) (i : Nat) : Bool := decide (0 < sdR R i ((i + 1) % n) ((i + 2) % n)) && !(decide (0 < i) && decide (i + 1 < n) && decide (sdR R 0 i (i + 1) < 0))
def stOk (n : Nat) (R : Nat → Nat → Int) : Bool := inB 3 (n : Int) 6 && allN (ptR R) n && allN (trB n R) n
theorem st_1 {n : Nat} {R : Nat → Nat → Int} (h : inB 3 (n : Int) 6 = false) : stOk n R = false := by simp [stOk, h]
theorem st_2 {n : Nat} {R : Nat → Nat → Int} (h : allN (ptR R) n = false) : stOk n R = false := by simp [stOk, h]
theorem st_3 {n : Nat} {R : Nat → Nat → Int} (h : allN (trB n R) n = false) : stOk n R = false := by simp [stOk, h]
theorem st_t {n : Nat} {R : Nat → Nat → Int} (h1 : inB 3 (n : Int) 6 = true) (h2 : allN (ptR R) n = true) (h3 : allN (trB n R) n = true) : stOk n R = true := by simp [stOk, h1, h2, h3]
theorem Sl.pt {w : World} {b o k n : Nat} {R : Nat → Nat → Int} (h : ∀ i j, i < n → j < 2 → w.cell? ⟨b, o + (i * 2 + j), none⟩ = some (intF R i j)) (hk : k < n) : w.cell? ⟨b, o + k * 2, none⟩ = some (.int .i64 (R k 0)) ∧ w.cell? ⟨b, o + k * 2 + 1, none⟩ = some (.int .i64 (R k 1)) :=
  ⟨by simpa [intF, Nat.add_assoc] using h k 0 hk (by omega), by simpa [intF, Nat.add_assoc] using h k 1 hk (by omega)⟩
theorem sd_bd {x y z t u v : Int} (h1 : ptB x y = true) (h2 : ptB z t = true) (h3 : ptB u v = true) : -28800 ≤ sideI x y z t u v ∧ sideI x y z t u v ≤ 28800 := by
  obtain ⟨a1, a2, a3, a4⟩ := ptB_bd h1
  obtain ⟨b1, b2, b3, b4⟩ := ptB_bd h2
  obtain ⟨c1, c2, c3, c4⟩ := ptB_bd h3
  have e1 := mul_bd (a := z - x) (b := v - y) 120 120 (by omega) (by omega) (by omega) (by omega)
  have e2 := mul_bd (a := t - y) (b := u - x) 120 120 (by omega) (by omega) (by omega) (by omega)
  unfold sideI
  omega
/-- Whether the search of the first bad corner has found one. -/
def FiP (b : Bool) (w : World) (e : Ending) (w' : World) : Prop := ∃ r : Int, e = .returned (.int .i64 r) ∧ decide (0 ≤ r) = b ∧ Up w w'
theorem mod_facts (i k n : Nat) (hi : i < n) (hn : n ≤ 6) (hk : k ≤ 2) : (i + k) % n < n ∧ ((i : Int) + (k : Int)).tmod (n : Int) = (((i + k) % n : Nat) : Int) :=
  ⟨Nat.mod_lt _ (by omega), by rw [Int.tmod_eq_emod_of_nonneg (by omega), ← Int.natCast_add]; rfl⟩
end Go.Proofs.Ytaealkfnhhmmcaa
/- The walk of the program's StoneOk. No condition. -/
namespace Go.Proofs.Ytaealkfnhhmmcaa
open Go.RowKit
set_option linter.unusedVariables false
end Go.Proofs.Ytaealkfnhhmmcaa
/- The walk of the reference's StoneOk. No condition. -/
namespace Go.Proofs.Ytaealkfnhhmmcaa
open Go.RowKit
set_option linter.unusedVariables false
set_option maxHeartbeats 2000000 in
set_option maxRecDepth 100000 in
theorem sStoneOk_any (u : Value) (n lo hi : Nat) (R : Nat → Nat → Int) (w : World) (hs : Sl w lo hi 2 u n (intF R)) (hn : n ≤ 1048576) : Calls Try.prog 78 #[.agg #[u]] w fun e w' => e = .returned (.bool (stOk n R)) ∧ Up w w' := by
  obtain ⟨h0, A, c, rfl, hc, hx⟩ := hs
  have H := Lib.hid hx
  clear hx
  cases hin : inB 3 (n : Int) 6 with
  | false =>
    rw [st_1 hin]
    go_enter Try.func78, Try.ntmps78
    go_wp2_with (first | (go_at_call 36; (with_reducible refine (l01In_any _ _ _ _).mono ?_); rintro e w1 ⟨rfl, rfl⟩))
    go_ret
    exact ⟨rfl, (by repeat (first | with_reducible exact Up.refl _ | with_reducible refine Up.alloc ?_ _ | with_reducible refine Up.drew ?_ | with_reducible refine Up.drewN ?_ _ | (with_reducible refine Up.setCell ?_ (by first | omega | (simp; done) | (simp; omega)) _) | with_reducible assumption | (with_reducible refine Up.trans ?_ (by with_reducible assumption))))⟩
  | true =>
    have hn3 : 3 ≤ n ∧ n ≤ 6 := by have := inB_true.1 hin; omega
    obtain ⟨hn3, hn6⟩ := hn3
    obtain ⟨pB, hpB⟩ : ∃ pB, stOk n R = pB := ⟨_, rfl⟩
    rw [hpB]
    have HB := Lib.hid hpB
    clear hpB
    go_enter Try.func78, Try.ntmps78
    go_wp2_with (first | (go_at_call 36; (with_reducible refine (l01In_any _ _ _ _).mono ?_); rintro e w1 ⟨rfl, rfl⟩))
    go_loopw [4] (fun i wr => ∃ j : Nat, i = .int .i64 (j : Int) ∧ j ≤ n ∧ Hid (allN (ptR R) j = true) ∧ Up (w.alloc (.cells #[.slice A n c] 96)) wr) (fun i _ => n - (intOf i).toNat)
    case atStart => exact ⟨0, rfl, Nat.zero_le _, rfl, (by repeat (first | with_reducible exact Up.refl _ | with_reducible refine Up.alloc ?_ _ | with_reducible refine Up.drew ?_ | with_reducible refine Up.drewN ?_ _ | (with_reducible refine Up.setCell ?_ (by first | omega | (simp; done) | (simp; omega)) _) | with_reducible assumption | (with_reducible refine Up.trans ?_ (by with_reducible assumption))))⟩
    case round =>
      obtain ⟨j, rfl, hj, ha, hup⟩ := hrel
      have hupw : Up w wr := Up.trans (Up.alloc (Up.refl w) _) hup
      have hbx0 : wr.cell? ⟨w.heap.size, 0, none⟩ = some (.slice A n c) := (hup.cells.1 _ _ (by simp)).trans (by simp [World.cell?_alloc_mark])
      have hbxl : w.heap.size < wr.heap.size := Nat.lt_of_lt_of_le (by simp) hup.size
      by_cases hk1 : j < n
      · obtain ⟨b, o, rfl, hb1, hb2, hcs⟩ := H.out (by omega)
        obtain ⟨p0, p1⟩ := Sl.pt hcs hk1
        have hg0 := (hupw.cells.1 _ (o + j * 2) (by omega)).trans p0
        have hg1 := (hupw.cells.1 _ (o + j * 2 + 1) (by omega)).trans p1
        have hk2 : (j : Int) < (n : Int) := by omega
        clear hcs p0 p1
        cases hf : ptB (R j 0) (R j 1) with
        | true =>
          have HA := Lib.hid (allN_step (p := ptR R) ha.out hf)
          have HT : ∀ W : World, Calls Try.prog 89 #[.agg #[.int .i64 (R j 0), .int .i64 (R j 1)]] W fun e w' => e = .returned (.bool true) ∧ Up W w' := fun W => by have hh := sPointOk_any (R j 0) (R j 1) W; rw [hf] at hh; exact hh
          clear hf
          go_wp2_with (first | (go_at_call 89; (with_reducible refine (HT _).mono ?_); rintro e w1 ⟨rfl, hb1⟩))
          exact ⟨⟨j + 1, by rfl, by omega, HA, (by repeat (first | with_reducible exact Up.refl _ | with_reducible refine Up.alloc ?_ _ | with_reducible refine Up.drew ?_ | with_reducible refine Up.drewN ?_ _ | (with_reducible refine Up.setCell ?_ (by first | omega | (simp; done) | (simp; omega)) _) | with_reducible assumption | (with_reducible refine Up.trans ?_ (by with_reducible assumption))))⟩, by simp only [intOf]; omega⟩
        | false =>
          have e1 := st_2 (allN_false (p := ptR R) hk1 hf)
          rw [HB.out] at e1
          subst e1
          have HT : ∀ W : World, Calls Try.prog 89 #[.agg #[.int .i64 (R j 0), .int .i64 (R j 1)]] W fun e w' => e = .returned (.bool false) ∧ Up W w' := fun W => by have hh := sPointOk_any (R j 0) (R j 1) W; rw [hf] at hh; exact hh
          clear hf
          go_wp2_with (first | (go_at_call 89; (with_reducible refine (HT _).mono ?_); rintro e w1 ⟨rfl, hb1⟩))
          go_ret
          exact ⟨rfl, (by repeat (first | with_reducible exact Up.refl _ | with_reducible refine Up.alloc ?_ _ | with_reducible refine Up.drew ?_ | with_reducible refine Up.drewN ?_ _ | (with_reducible refine Up.setCell ?_ (by first | omega | (simp; done) | (simp; omega)) _) | with_reducible assumption | (with_reducible refine Up.trans ?_ (by with_reducible assumption))))⟩
      · have hkk : j = n := by omega
        subst hkk
        have hk2 : ¬ (j : Int) < (j : Int) := by omega
        have hgp : ∀ i, i < j → ptB (R i 0) (R i 1) = true := fun i hi => allN_get ha.out hi
        have HG := Lib.hid hgp
        have HT := ha
        clear hgp
        obtain ⟨wz, rfl⟩ : ∃ wz : World, wz = wr := ⟨_, rfl⟩
        have hw1 := hupw
        obtain ⟨n, rfl⟩ : ∃ n : Nat, n = j := ⟨_, rfl⟩
        clear ha hup hupw hj
        go_wp2
        go_loopw [5] (fun i wr => ∃ j : Nat, i = .int .i64 (j : Int) ∧ j ≤ n ∧ Hid (allN (trB n R) j = true) ∧ Up wz wr) (fun i _ => n - (intOf i).toNat)
        case atStart => exact ⟨0, rfl, Nat.zero_le _, rfl, (by repeat (first | with_reducible exact Up.refl _ | with_reducible refine Up.alloc ?_ _ | with_reducible refine Up.drew ?_ | with_reducible refine Up.drewN ?_ _ | (with_reducible refine Up.setCell ?_ (by first | omega | (simp; done) | (simp; omega)) _) | with_reducible assumption | (with_reducible refine Up.trans ?_ (by with_reducible assumption))))⟩
        case round =>
          obtain ⟨j, rfl, hj, ha, hup⟩ := hrel
          have hupw : Up w wr := hw1.trans hup
          by_cases hk1 : j < n
          · obtain ⟨b, o, rfl, hb1, hb2, hcs⟩ := H.out (by omega)
            obtain ⟨m1, t1⟩ := mod_facts j 1 n hk1 hn6 (by omega)
            obtain ⟨m2, t2⟩ := mod_facts j 2 n hk1 hn6 (by omega)
            have htr : trB n R j = (decide (0 < sdR R j ((j + 1) % n) ((j + 2) % n)) && !(decide (0 < j) && decide (j + 1 < n) && decide (sdR R 0 j (j + 1) < 0))) := rfl
            generalize hq1 : (j + 1) % n = q1 at m1 t1 htr
            generalize hq2 : (j + 2) % n = q2 at m2 t2 htr
            obtain ⟨X, hX⟩ : ∃ X, sdR R j q1 q2 = X := ⟨_, rfl⟩
            rw [hX] at htr
            have HS1 : ∀ W : World, Calls Try.prog 90 #[.agg #[.int .i64 (R j 0), .int .i64 (R j 1)], .agg #[.int .i64 (R q1 0), .int .i64 (R q1 1)], .agg #[.int .i64 (R q2 0), .int .i64 (R q2 1)]] W fun e w' => e = .returned (.int .i64 X) ∧ Up W w' := fun W => by have hh := l02Side_any (R j 0) (R j 1) (R q1 0) (R q1 1) (R q2 0) (R q2 1) W (HG.out j hk1) (HG.out q1 m1) (HG.out q2 m2); rw [← hX]; exact hh
            obtain ⟨a0, a1⟩ := Sl.pt hcs hk1
            obtain ⟨b0, b1⟩ := Sl.pt hcs m1
            obtain ⟨c0, c1⟩ := Sl.pt hcs m2
            have hbw : b < w.heap.size := by omega
            have g0 := (hupw.cells.1 _ (o + j * 2) hbw).trans a0
            have g1 := (hupw.cells.1 _ (o + j * 2 + 1) hbw).trans a1
            have g2 := (hupw.cells.1 _ (o + q1 * 2) hbw).trans b0
            have g3 := (hupw.cells.1 _ (o + q1 * 2 + 1) hbw).trans b1
            have g4 := (hupw.cells.1 _ (o + q2 * 2) hbw).trans c0
            have g5 := (hupw.cells.1 _ (o + q2 * 2 + 1) hbw).trans c1
            have hbr : b < wr.heap.size := Nat.lt_of_lt_of_le hbw hupw.size
            have hk2 : (j : Int) < (n : Int) := by omega
            have m1i : (q1 : Int) < (n : Int) := by omega
            have m2i : (q2 : Int) < (n : Int) := by omega
            have hw1a : IntKind.i64.wrap ((j : Int) + 1) = (j : Int) + 1 := by rw [IntKind.wrap_i64]; omega
            have hw2a : IntKind.i64.wrap ((j : Int) + 2) = (j : Int) + 2 := by rw [IntKind.wrap_i64]; omega
            have hwq1 : IntKind.i64.wrap (q1 : Int) = (q1 : Int) := by rw [IntKind.wrap_i64]; omega
            have hwq2 : IntKind.i64.wrap (q2 : Int) = (q2 : Int) := by rw [IntKind.wrap_i64]; omega
            have hn0 : ¬ (n : Int) = 0 := by omega
            have hnn : ¬ n = 0 := by omega
            have hn0b : ((n : Int) == 0) = false := by simpa using hn0
            have T1 : ((j : Int) + 1).tmod (n : Int) = (q1 : Int) := t1
            have T2 : ((j : Int) + 2).tmod (n : Int) = (q2 : Int) := t2
            have HX := Lib.hid hX
            have HQ1 := Lib.hid hq1
            have HQ2 := Lib.hid hq2
            have HTR := Lib.hid htr
            have HCS := Lib.hid hcs
            clear hX hq1 hq2 htr hcs a0 a1 b0 b1 c0 c1 t1 t2
            have hbx := (hup.cells.1 _ 0 hbxl).trans hbx0
            have hbxr : w.heap.size < wr.heap.size := Nat.lt_of_lt_of_le hbxl hup.size
            go_wp2_with fail
            (refine wp_region_up (by kernel_rfl) (by kernel_rfl) ?_; (repeat (refine wpQuiet_step (fun K hK => ?_); go_simp; first | (refine hK _ ?_; clear hK K) | (apply Exists.intro; refine ⟨fun wq hwq => ?_, hK _ ?_⟩; (obtain ⟨hcq, hfq⟩ := hwq.cells; (try go_simp); first | done | rfl | exact ⟨rfl, rfl⟩ | (go_at_call 90; exact up_of hwq (HS1 _))); clear hK K))); refine wpQuiet_nil ?_; intro w1 hb1; obtain ⟨hc1, hf1⟩ := hb1.cells; have hl1 := hb1.lt; have hle1 := hb1.le; have hs1 := hb1.size; (try simp at hs1); (try have hs1a : wr.heap.size < w1.heap.size := by omega); (try have hs1aa : wr.heap.size ≤ w1.heap.size := by omega); (try have hs1b : wr.heap.size + 1 < w1.heap.size := by omega); (try have hs1bb : wr.heap.size + 1 ≤ w1.heap.size := by omega); (try have hs1c : wr.heap.size + 1 + 1 < w1.heap.size := by omega); (try have hs1cc : wr.heap.size + 1 + 1 ≤ w1.heap.size := by omega); (try have hs1d : wr.heap.size + 1 + 1 + 1 < w1.heap.size := by omega); (try have hs1dd : wr.heap.size + 1 + 1 + 1 ≤ w1.heap.size := by omega); (try have hs1L := Nat.lt_of_succ_le hs1); (try have hs1M := Nat.lt_of_succ_lt hs1L); (try have hs1N := Nat.lt_of_succ_lt hs1M); (try have hs1LE := Nat.le_of_lt hs1L); (try have hs1ME := Nat.le_of_lt hs1M))
            have hu1 : Up w w1 := hupw.trans hb1
            have hu2 : Up wz w1 := hup.trans hb1
            obtain ⟨wy, rfl⟩ : ∃ wy : World, wy = w1 := ⟨_, rfl⟩
            have hby1 := (hb1.cells.1 _ 0 hbxr).trans hbx
            have hbyl : w.heap.size < wy.heap.size := Nat.lt_of_lt_of_le hbxr hb1.size
            clear hb1 hup hupw hbx g0 g1 g2 g3 g4 g5 hc1 hf1 hl1 hle1
            by_cases hX0 : X ≤ 0
            · have e0 : trB n R j = false := by rw [HTR.out, decide_eq_false (by omega)]; rfl
              have e1 := st_3 (allN_false hk1 e0)
              rw [HB.out] at e1
              subst e1
              clear e0
              go_wp2
              go_ret
              exact ⟨rfl, (by repeat (first | with_reducible exact Up.refl _ | with_reducible refine Up.alloc ?_ _ | with_reducible refine Up.drew ?_ | with_reducible refine Up.drewN ?_ _ | (with_reducible refine Up.setCell ?_ (by first | omega | (simp; done) | (simp; omega)) _) | with_reducible assumption | (with_reducible refine Up.trans ?_ (by with_reducible assumption))))⟩
            have hX1 : decide (0 < X) = true := decide_eq_true (by omega)
            by_cases hjn : j + 1 < n
            rotate_left
            · have e0 : trB n R j = true := by rw [HTR.out, hX1, decide_eq_false hjn]; simp
              have HA := Lib.hid (allN_step ha.out e0)
              have hd : decide ((j : Int) + 1 < (n : Int)) = false := decide_eq_false (by omega)
              clear e0
              go_wp2_with fail
              go_quiet (fail)
              go_wp2
              exact ⟨⟨j + 1, by rfl, by omega, HA, (by repeat (first | with_reducible exact Up.refl _ | with_reducible refine Up.alloc ?_ _ | with_reducible refine Up.drew ?_ | with_reducible refine Up.drewN ?_ _ | (with_reducible refine Up.setCell ?_ (by first | omega | (simp; done) | (simp; omega)) _) | with_reducible assumption | (with_reducible refine Up.trans ?_ (by with_reducible assumption))))⟩, by simp only [intOf]; omega⟩
            · have hd : (j : Int) + 1 < (n : Int) := by omega
              have hdd : decide (j + 1 < n) = true := decide_eq_true hjn
              obtain ⟨Y, hY⟩ : ∃ Y, sdR R 0 j (j + 1) = Y := ⟨_, rfl⟩
              have HS2 : ∀ W : World, Calls Try.prog 90 #[.agg #[.int .i64 (R 0 0), .int .i64 (R 0 1)], .agg #[.int .i64 (R j 0), .int .i64 (R j 1)], .agg #[.int .i64 (R (j + 1) 0), .int .i64 (R (j + 1) 1)]] W fun e w' => e = .returned (.int .i64 Y) ∧ Up W w' := fun W => by have hh := l02Side_any (R 0 0) (R 0 1) (R j 0) (R j 1) (R (j + 1) 0) (R (j + 1) 1) W (HG.out 0 (by omega)) (HG.out j hk1) (HG.out (j + 1) hjn); rw [← hY]; exact hh
              obtain ⟨a0, a1⟩ := Sl.pt HCS.out hk1
              obtain ⟨b0, b1⟩ := Sl.pt HCS.out (k := 0) (by omega)
              obtain ⟨c0, c1⟩ := Sl.pt HCS.out hjn
              have g0 := (hu1.cells.1 _ (o + j * 2) hbw).trans a0
              have g1 := (hu1.cells.1 _ (o + j * 2 + 1) hbw).trans a1
              have g2 := (hu1.cells.1 _ (o + 0 * 2) hbw).trans b0
              have g3 := (hu1.cells.1 _ (o + 0 * 2 + 1) hbw).trans b1
              simp only [Nat.zero_mul, Nat.add_zero] at g2 g3
              have g4 := (hu1.cells.1 _ (o + (j + 1) * 2) hbw).trans c0
              have g5 := (hu1.cells.1 _ (o + (j + 1) * 2 + 1) hbw).trans c1
              have hby : b < wy.heap.size := Nat.lt_of_lt_of_le hbw hu1.size
              have hn1 : (0 : Int) < (n : Int) := by omega
              have hnN : 0 < n := by omega
              have e0 : trB n R j = !(decide (Y < 0)) := by
                rw [HTR.out, hX1, hdd, hY]
                by_cases hj0 : j = 0
                · subst hj0
                  have : Y = 0 := by rw [← hY]; simp [sdR, sideI]
                  simp [this]
                · simp [show 0 < j by omega]
              clear a0 a1 b0 b1 c0 c1 hY
              by_cases hY0 : Y < 0
              · have e2 : trB n R j = false := by rw [e0, decide_eq_true hY0]; rfl
                have e1 := st_3 (allN_false hk1 e2)
                rw [HB.out] at e1
                subst e1
                clear e0 e2
                go_wp2_with fail
                (refine wp_region_up (by kernel_rfl) (by kernel_rfl) ?_; (repeat (refine wpQuiet_step (fun K hK => ?_); go_simp; first | (refine hK _ ?_; clear hK K) | (apply Exists.intro; refine ⟨fun wq hwq => ?_, hK _ ?_⟩; (obtain ⟨hcq, hfq⟩ := hwq.cells; (try go_simp); first | done | rfl | exact ⟨rfl, rfl⟩ | (go_at_call 90; exact up_of hwq (HS2 _))); clear hK K))); refine wpQuiet_nil ?_; intro w1 hb1; obtain ⟨hc1, hf1⟩ := hb1.cells; have hl1 := hb1.lt; have hle1 := hb1.le; have hs1 := hb1.size; (try simp at hs1); (try have hs1a : wy.heap.size < w1.heap.size := by omega); (try have hs1aa : wy.heap.size ≤ w1.heap.size := by omega); (try have hs1b : wy.heap.size + 1 < w1.heap.size := by omega); (try have hs1bb : wy.heap.size + 1 ≤ w1.heap.size := by omega); (try have hs1c : wy.heap.size + 1 + 1 < w1.heap.size := by omega); (try have hs1cc : wy.heap.size + 1 + 1 ≤ w1.heap.size := by omega); (try have hs1d : wy.heap.size + 1 + 1 + 1 < w1.heap.size := by omega); (try have hs1dd : wy.heap.size + 1 + 1 + 1 ≤ w1.heap.size := by omega); (try have hs1L := Nat.lt_of_succ_le hs1); (try have hs1M := Nat.lt_of_succ_lt hs1L); (try have hs1N := Nat.lt_of_succ_lt hs1M); (try have hs1LE := Nat.le_of_lt hs1L); (try have hs1ME := Nat.le_of_lt hs1M))
                go_wp2
                go_ret
                exact ⟨rfl, (by repeat (first | with_reducible exact Up.refl _ | with_reducible refine Up.alloc ?_ _ | with_reducible refine Up.drew ?_ | with_reducible refine Up.drewN ?_ _ | (with_reducible refine Up.setCell ?_ (by first | omega | (simp; done) | (simp; omega)) _) | with_reducible assumption | (with_reducible refine Up.trans ?_ (by with_reducible assumption))))⟩
              · have e2 : trB n R j = true := by rw [e0, decide_eq_false hY0]; rfl
                have HA := Lib.hid (allN_step ha.out e2)
                clear e0 e2
                go_wp2_with fail
                (refine wp_region_up (by kernel_rfl) (by kernel_rfl) ?_; (repeat (refine wpQuiet_step (fun K hK => ?_); go_simp; first | (refine hK _ ?_; clear hK K) | (apply Exists.intro; refine ⟨fun wq hwq => ?_, hK _ ?_⟩; (obtain ⟨hcq, hfq⟩ := hwq.cells; (try go_simp); first | done | rfl | exact ⟨rfl, rfl⟩ | (go_at_call 90; exact up_of hwq (HS2 _))); clear hK K))); refine wpQuiet_nil ?_; intro w1 hb1; obtain ⟨hc1, hf1⟩ := hb1.cells; have hl1 := hb1.lt; have hle1 := hb1.le; have hs1 := hb1.size; (try simp at hs1); (try have hs1a : wy.heap.size < w1.heap.size := by omega); (try have hs1aa : wy.heap.size ≤ w1.heap.size := by omega); (try have hs1b : wy.heap.size + 1 < w1.heap.size := by omega); (try have hs1bb : wy.heap.size + 1 ≤ w1.heap.size := by omega); (try have hs1c : wy.heap.size + 1 + 1 < w1.heap.size := by omega); (try have hs1cc : wy.heap.size + 1 + 1 ≤ w1.heap.size := by omega); (try have hs1d : wy.heap.size + 1 + 1 + 1 < w1.heap.size := by omega); (try have hs1dd : wy.heap.size + 1 + 1 + 1 ≤ w1.heap.size := by omega); (try have hs1L := Nat.lt_of_succ_le hs1); (try have hs1M := Nat.lt_of_succ_lt hs1L); (try have hs1N := Nat.lt_of_succ_lt hs1M); (try have hs1LE := Nat.le_of_lt hs1L); (try have hs1ME := Nat.le_of_lt hs1M))
                go_wp2
                exact ⟨⟨j + 1, by rfl, by omega, HA, (by repeat (first | with_reducible exact Up.refl _ | with_reducible refine Up.alloc ?_ _ | with_reducible refine Up.drew ?_ | with_reducible refine Up.drewN ?_ _ | (with_reducible refine Up.setCell ?_ (by first | omega | (simp; done) | (simp; omega)) _) | with_reducible assumption | (with_reducible refine Up.trans ?_ (by with_reducible assumption))))⟩, by simp only [intOf]; omega⟩
          · have hkk : j = n := by omega
            subst hkk
            have hk2 : ¬ (j : Int) < (j : Int) := by omega
            have e1 := st_t hin HT.out ha.out
            rw [HB.out] at e1
            subst e1
            go_wp2
            go_ret
            exact ⟨rfl, (by repeat (first | with_reducible exact Up.refl _ | with_reducible refine Up.alloc ?_ _ | with_reducible refine Up.drew ?_ | with_reducible refine Up.drewN ?_ _ | (with_reducible refine Up.setCell ?_ (by first | omega | (simp; done) | (simp; omega)) _) | with_reducible assumption | (with_reducible refine Up.trans ?_ (by with_reducible assumption))))⟩
end Go.Proofs.Ytaealkfnhhmmcaa
/- Sums over the corners of a stone: plain lemmas. No condition. -/
namespace Go.Proofs.Ytaealkfnhhmmcaa
open Go.RowKit
set_option linter.unusedVariables false
/-- Twice the area that corner i and the next one make with 0, 0. -/
def crQ (R : Nat → Nat → Int) (i q : Nat) : Int := R i 0 * R q 1 - R i 1 * R q 0
/-- The factor: 1, the sum of X, the sum of Y. -/
def fkQ (k : Nat) (R : Nat → Nat → Int) (i q : Nat) : Int := if k = 0 then 1 else if k = 1 then R i 0 + R q 0 else R i 1 + R q 1
def arS (k n : Nat) (R : Nat → Nat → Int) : Nat → Int
  | 0 => 0
  | j + 1 => arS k n R j + fkQ k R j ((j + 1) % n) * crQ R j ((j + 1) % n)
def arI (k n : Nat) (R : Nat → Nat → Int) : Int := if stOk n R then arS k n R n else 0
theorem arI_t {k n : Nat} {R : Nat → Nat → Int} (h : stOk n R = true) : arI k n R = arS k n R n := by rw [arI, h]; rfl
theorem arI_f {k n : Nat} {R : Nat → Nat → Int} (h : stOk n R = false) : arI k n R = 0 := by rw [arI, h]; rfl
theorem st_inv {n : Nat} {R : Nat → Nat → Int} (h : stOk n R = true) : 3 ≤ n ∧ n ≤ 6 ∧ ∀ i, i < n → ptB (R i 0) (R i 1) = true := by
  simp only [stOk, Bool.and_eq_true] at h
  obtain ⟨⟨h1, h2⟩, h3⟩ := h
  have := inB_true.1 h1
  exact ⟨by omega, by omega, fun i hi => allN_get h2 hi⟩
/-- One corner's numbers are small. -/
theorem ar_bd {k : Nat} {R : Nat → Nat → Int} {i q : Nat} (h1 : ptB (R i 0) (R i 1) = true) (h2 : ptB (R q 0) (R q 1) = true) :
    -3600 ≤ R i 0 * R q 1 ∧ R i 0 * R q 1 ≤ 3600 ∧ -3600 ≤ R i 1 * R q 0 ∧ R i 1 * R q 0 ≤ 3600 ∧ -7200 ≤ crQ R i q ∧ crQ R i q ≤ 7200 ∧ -120 ≤ fkQ k R i q ∧ fkQ k R i q ≤ 120 ∧ -864000 ≤ fkQ k R i q * crQ R i q ∧ fkQ k R i q * crQ R i q ≤ 864000 := by
  obtain ⟨a1, a2, a3, a4⟩ := ptB_bd h1
  obtain ⟨b1, b2, b3, b4⟩ := ptB_bd h2
  have e1 := mul_bd (a := R i 0) (b := R q 1) 60 60 (by omega) (by omega) (by omega) (by omega)
  have e2 := mul_bd (a := R i 1) (b := R q 0) 60 60 (by omega) (by omega) (by omega) (by omega)
  have e3 : -7200 ≤ crQ R i q ∧ crQ R i q ≤ 7200 := by unfold crQ; omega
  have e4 : -120 ≤ fkQ k R i q ∧ fkQ k R i q ≤ 120 := by
    unfold fkQ
    split
    · omega
    · split <;> omega
  have e5 := mul_bd (a := fkQ k R i q) (b := crQ R i q) 120 7200 (by omega) (by omega) (by omega) (by omega)
  omega
theorem arS_bd {k n : Nat} {R : Nat → Nat → Int} (hn : 0 < n) (h : ∀ i, i < n → ptB (R i 0) (R i 1) = true) : ∀ j, j ≤ n → -864000 * (j : Int) ≤ arS k n R j ∧ arS k n R j ≤ 864000 * (j : Int)
  | 0, _ => by simp [arS]
  | j + 1, hj => by
    have ih := arS_bd (k := k) hn h j (by omega)
    have hb := ar_bd (k := k) (h j (by omega)) (h ((j + 1) % n) (Nat.mod_lt _ hn))
    rw [arS]
    generalize arS k n R j = x at ih ⊢
    generalize fkQ k R j ((j + 1) % n) * crQ R j ((j + 1) % n) = y at hb ⊢
    omega
end Go.Proofs.Ytaealkfnhhmmcaa
/- The walks of AreaTwice, MomentOf, HeightMoment, the program's. No condition. -/
namespace Go.Proofs.Ytaealkfnhhmmcaa
open Go.RowKit
set_option linter.unusedVariables false
end Go.Proofs.Ytaealkfnhhmmcaa
/- The walks of AreaTwice, MomentOf, HeightMoment, the reference's. No condition. -/
namespace Go.Proofs.Ytaealkfnhhmmcaa
open Go.RowKit
set_option linter.unusedVariables false
set_option maxRecDepth 100000 in
theorem crs_any (R : Nat → Nat → Int) (i q : Nat) (w : World) (h1 : ptB (R i 0) (R i 1) = true) (h2 : ptB (R q 0) (R q 1) = true) : Calls Try.prog 80 #[.agg #[.int .i64 (R i 0), .int .i64 (R i 1)], .agg #[.int .i64 (R q 0), .int .i64 (R q 1)]] w fun e w' => e = .returned (.int .i64 (crQ R i q)) ∧ Up w w' := by
  obtain ⟨x1, x2, x3, x4, y1, y2, _⟩ := ar_bd (k := 0) h1 h2
  have HC : Hid (crQ R i q = R i 0 * R q 1 - R i 1 * R q 0) := rfl
  rw [HC.out] at y1 y2 ⊢
  clear h1 h2
  go_enter Try.func80, Try.ntmps80
  go_wp2
  go_ret
  exact ⟨by rfl, (by repeat (first | with_reducible exact Up.refl _ | with_reducible refine Up.alloc ?_ _ | with_reducible refine Up.drew ?_ | with_reducible refine Up.drewN ?_ _ | (with_reducible refine Up.setCell ?_ (by first | omega | (simp; done) | (simp; omega)) _) | with_reducible assumption | (with_reducible refine Up.trans ?_ (by with_reducible assumption))))⟩
set_option maxHeartbeats 2000000 in
set_option maxRecDepth 100000 in
theorem sAreaTwice_any (u : Value) (n lo hi : Nat) (R : Nat → Nat → Int) (w : World) (hs : Sl w lo hi 2 u n (intF R)) (hn : n ≤ 1048576) : Calls Try.prog 79 #[.agg #[u]] w fun e w' => e = .returned (.int .i64 (arI 0 n R)) ∧ Up w w' := by
  have hP := fun W (hu : Up w W) => sStoneOk_any u n lo hi R W (hs.up hu) hn
  obtain ⟨h0, A, c, rfl, hc, hx⟩ := hs
  have H := Lib.hid hx
  clear hx
  cases hok : stOk n R with
  | false =>
    rw [arI_f hok]
    have HPo : ∀ W, Up w W → Calls Try.prog 78 #[.agg #[.slice A n c]] W fun e w' => e = .returned (.bool false) ∧ Up W w' := fun W hu => by have hh := hP W hu; rw [hok] at hh; exact hh
    clear hok hP
    by_cases hp : 0 < n
    · have hp2 : (0 : Int) < (n : Int) := by omega
      go_enter Try.func79, Try.ntmps79
      go_wp2
      refine wp_loop_rounds 1 ?_
      rw [rounds_succ]
      go_wp2_with (first | (go_at_call 78; (with_reducible refine (HPo _ (by repeat (first | with_reducible exact Up.refl _ | with_reducible refine Up.alloc ?_ _ | with_reducible refine Up.drew ?_ | with_reducible refine Up.drewN ?_ _ | (with_reducible refine Up.setCell ?_ (by first | omega | (simp; done) | (simp; omega)) _) | with_reducible assumption | (with_reducible refine Up.trans ?_ (by with_reducible assumption))))).mono ?_); rintro e w1 ⟨rfl, hb1⟩))
      exact bodyPost_ret (v := .int .i64 0) (by simp only [results]; go_simp; try simp) rfl ⟨rfl, (by repeat (first | with_reducible exact Up.refl _ | with_reducible refine Up.alloc ?_ _ | with_reducible refine Up.drew ?_ | with_reducible refine Up.drewN ?_ _ | (with_reducible refine Up.setCell ?_ (by first | omega | (simp; done) | (simp; omega)) _) | with_reducible assumption | (with_reducible refine Up.trans ?_ (by with_reducible assumption))))⟩
    · have hp2 : ¬ (0 : Int) < (n : Int) := by omega
      go_enter Try.func79, Try.ntmps79
      go_wp2
      refine wp_loop_rounds 1 ?_
      rw [rounds_succ]
      go_wp2
      exact bodyPost_ret (v := .int .i64 0) (by simp only [results]; go_simp; try simp) rfl ⟨rfl, (by repeat (first | with_reducible exact Up.refl _ | with_reducible refine Up.alloc ?_ _ | with_reducible refine Up.drew ?_ | with_reducible refine Up.drewN ?_ _ | (with_reducible refine Up.setCell ?_ (by first | omega | (simp; done) | (simp; omega)) _) | with_reducible assumption | (with_reducible refine Up.trans ?_ (by with_reducible assumption))))⟩
  | true =>
    have HPo : ∀ W, Up w W → Calls Try.prog 78 #[.agg #[.slice A n c]] W fun e w' => e = .returned (.bool true) ∧ Up W w' := fun W hu => by have hh := hP W hu; rw [hok] at hh; exact hh
    obtain ⟨hn3, hn6, hgp⟩ := st_inv hok
    rw [arI_t hok]
    have hbd := fun j hj => arS_bd (k := 0) (R := R) (n := n) (by omega) hgp j hj
    have HBD := Lib.hid hbd
    have HG := Lib.hid hgp
    clear hok hP hgp hbd
    go_enter Try.func79, Try.ntmps79
    go_wp2
    go_loopw [3, 4] (fun s i wr => ∃ j : Nat, i = .int .i64 (j : Int) ∧ j ≤ n ∧ s = .int .i64 (arS 0 n R j) ∧ Up (w.alloc (.cells #[.slice A n c] 96)) wr) (fun _ i _ => n - (intOf i).toNat)
    case atStart => exact ⟨0, rfl, Nat.zero_le _, rfl, (by repeat (first | with_reducible exact Up.refl _ | with_reducible refine Up.alloc ?_ _ | with_reducible refine Up.drew ?_ | with_reducible refine Up.drewN ?_ _ | (with_reducible refine Up.setCell ?_ (by first | omega | (simp; done) | (simp; omega)) _) | with_reducible assumption | (with_reducible refine Up.trans ?_ (by with_reducible assumption))))⟩
    case round =>
      obtain ⟨j, rfl, hj, rfl, hup⟩ := hrel
      have hupw : Up w wr := Up.trans (Up.alloc (Up.refl w) _) hup
      have hbx : wr.cell? ⟨w.heap.size, 0, none⟩ = some (.slice A n c) := (hup.cells.1 _ _ (by simp)).trans (by simp [World.cell?_alloc_mark])
      have hbxr : w.heap.size < wr.heap.size := Nat.lt_of_lt_of_le (by simp) hup.size
      by_cases hk1 : j < n
      · obtain ⟨b, o, rfl, hb1, hb2, hcs⟩ := H.out (by omega)
        obtain ⟨m1, t1⟩ := mod_facts j 1 n hk1 hn6 (by omega)
        have hst : arS 0 n R (j + 1) = arS 0 n R j + fkQ 0 R j ((j + 1) % n) * crQ R j ((j + 1) % n) := rfl
        generalize hq1 : (j + 1) % n = q at m1 t1 hst
        obtain ⟨a0, a1⟩ := Sl.pt hcs hk1
        obtain ⟨b0, b1⟩ := Sl.pt hcs m1
        have hbw : b < w.heap.size := by omega
        have g0 := (hupw.cells.1 _ (o + j * 2) hbw).trans a0
        have g1 := (hupw.cells.1 _ (o + j * 2 + 1) hbw).trans a1
        have g2 := (hupw.cells.1 _ (o + q * 2) hbw).trans b0
        have g3 := (hupw.cells.1 _ (o + q * 2 + 1) hbw).trans b1
        have hbr : b < wr.heap.size := Nat.lt_of_lt_of_le hbw hupw.size
        have hk2 : (j : Int) < (n : Int) := by omega
        have m1i : (q : Int) < (n : Int) := by omega
        have hw1a : IntKind.i64.wrap ((j : Int) + 1) = (j : Int) + 1 := by rw [IntKind.wrap_i64]; omega
        have hwq1 : IntKind.i64.wrap (q : Int) = (q : Int) := by rw [IntKind.wrap_i64]; omega
        have hn0 : ¬ (n : Int) = 0 := by omega
        have hnn : ¬ n = 0 := by omega
        have T1 : ((j : Int) + 1).tmod (n : Int) = (q : Int) := t1
        have HST := Lib.hid hst
        obtain ⟨x1, x2, x3, x4, y1, y2, y3, y4, y5, y6⟩ := ar_bd (k := 0) (HG.out j hk1) (HG.out q m1)
        obtain ⟨z1, z2⟩ := HBD.out j (by omega)
        have z3 := HBD.out (j + 1) (by omega)
        rw [HST.out, show fkQ 0 R j q = 1 from rfl, Int.one_mul] at z3
        have HF : ∀ W : World, Calls Try.prog 80 #[.agg #[.int .i64 (R j 0), .int .i64 (R j 1)], .agg #[.int .i64 (R q 0), .int .i64 (R q 1)]] W fun e w' => e = .returned (.int .i64 (crQ R j q)) ∧ Up W w' := fun W => crs_any R j q W (HG.out j hk1) (HG.out q m1)
        have HFK : Hid (fkQ 0 R j q = 1) := rfl
        have HCR : Hid (crQ R j q = R j 0 * R q 1 - R j 1 * R q 0) := rfl
        generalize fkQ 0 R j q = f at *
        generalize crQ R j q = cr at *
        generalize arS 0 n R j = s at *
        have v1 : IntKind.i64.wrap (R j 0 * R q 1) = R j 0 * R q 1 := by rw [IntKind.wrap_i64]; omega
        have v2 : IntKind.i64.wrap (R j 1 * R q 0) = R j 1 * R q 0 := by rw [IntKind.wrap_i64]; omega
        have v3 : IntKind.i64.wrap (R j 0 * R q 1 - R j 1 * R q 0) = cr := by rw [IntKind.wrap_i64, HCR.out]; omega
        rw [HFK.out, Int.one_mul] at y5 y6
        have hst2 := HST.out
        rw [HFK.out, Int.one_mul] at hst2
        have HST2 := Lib.hid hst2
        have v5 : IntKind.i64.wrap (s + cr) = s + cr := by rw [IntKind.wrap_i64]; omega
        clear hst2 a0 a1 b0 b1 hcs t1 hq1 hst z3
        go_wp2_with fail
        (go_at_call 78; (with_reducible refine (HPo _ (by repeat (first | with_reducible exact Up.refl _ | with_reducible refine Up.alloc ?_ _ | with_reducible refine Up.drew ?_ | with_reducible refine Up.drewN ?_ _ | (with_reducible refine Up.setCell ?_ (by first | omega | (simp; done) | (simp; omega)) _) | with_reducible assumption | (with_reducible refine Up.trans ?_ (by with_reducible assumption))))).mono ?_); rintro e w1 ⟨rfl, hb1'⟩)
        have hc0 := (hb1'.cells.1 _ 0 hbxr).trans hbx
        have hcl : w.heap.size < w1.heap.size := Nat.lt_of_lt_of_le hbxr hb1'.size
        have k0 := (hb1'.cells.1 _ _ hbr).trans g0
        have k1 := (hb1'.cells.1 _ _ hbr).trans g1
        have k2 := (hb1'.cells.1 _ _ hbr).trans g2
        have k3 := (hb1'.cells.1 _ _ hbr).trans g3
        have hbl : b < w1.heap.size := Nat.lt_of_lt_of_le hbr hb1'.size
        have hu1 : Up w w1 := hupw.trans hb1'
        have huz : Up (w.alloc (.cells #[.slice (some ⟨b, o, none⟩) n c] 96)) w1 := hup.trans hb1'
        obtain ⟨wy, rfl⟩ : ∃ wy : World, wy = w1 := ⟨_, rfl⟩
        clear hb1' g0 g1 g2 g3 hbx hbxr hup hupw hbr
        go_wp2_with fail
        (refine wp_region_up (by kernel_rfl) (by kernel_rfl) ?_; (repeat (refine wpQuiet_step (fun K hK => ?_); go_simp; first | (refine hK _ ?_; clear hK K) | (apply Exists.intro; refine ⟨fun wq hwq => ?_, hK _ ?_⟩; (obtain ⟨hcq, hfq⟩ := hwq.cells; (try go_simp); first | done | rfl | exact ⟨rfl, rfl⟩ | (go_at_call 80; exact up_of hwq (HF _))); clear hK K))); refine wpQuiet_nil ?_; intro w1 hb1; obtain ⟨hc1, hf1⟩ := hb1.cells; have hl1 := hb1.lt; have hle1 := hb1.le; have hs1 := hb1.size; (try simp at hs1); (try have hs1a : wy.heap.size < w1.heap.size := by omega); (try have hs1aa : wy.heap.size ≤ w1.heap.size := by omega); (try have hs1b : wy.heap.size + 1 < w1.heap.size := by omega); (try have hs1bb : wy.heap.size + 1 ≤ w1.heap.size := by omega); (try have hs1c : wy.heap.size + 1 + 1 < w1.heap.size := by omega); (try have hs1cc : wy.heap.size + 1 + 1 ≤ w1.heap.size := by omega); (try have hs1d : wy.heap.size + 1 + 1 + 1 < w1.heap.size := by omega); (try have hs1dd : wy.heap.size + 1 + 1 + 1 ≤ w1.heap.size := by omega); (try have hs1L := Nat.lt_of_succ_le hs1); (try have hs1M := Nat.lt_of_succ_lt hs1L); (try have hs1N := Nat.lt_of_succ_lt hs1M); (try have hs1LE := Nat.le_of_lt hs1L); (try have hs1ME := Nat.le_of_lt hs1M))
        go_wp2
        exact ⟨⟨j + 1, by rfl, by omega, by rw [HST2.out], (by repeat (first | with_reducible exact Up.refl _ | with_reducible refine Up.alloc ?_ _ | with_reducible refine Up.drew ?_ | with_reducible refine Up.drewN ?_ _ | (with_reducible refine Up.setCell ?_ (by first | omega | (simp; done) | (simp; omega)) _) | with_reducible assumption | (with_reducible refine Up.trans ?_ (by with_reducible assumption))))⟩, by simp only [intOf]; omega⟩
      · have hkk : j = n := by omega
        subst hkk
        have hk2 : ¬ (j : Int) < (j : Int) := by omega
        go_wp2
        go_ret
        exact ⟨rfl, (by repeat (first | with_reducible exact Up.refl _ | with_reducible refine Up.alloc ?_ _ | with_reducible refine Up.drew ?_ | with_reducible refine Up.drewN ?_ _ | (with_reducible refine Up.setCell ?_ (by first | omega | (simp; done) | (simp; omega)) _) | with_reducible assumption | (with_reducible refine Up.trans ?_ (by with_reducible assumption))))⟩
set_option maxHeartbeats 2000000 in
set_option maxRecDepth 100000 in
theorem sMomentOf_any (u : Value) (n lo hi : Nat) (R : Nat → Nat → Int) (w : World) (hs : Sl w lo hi 2 u n (intF R)) (hn : n ≤ 1048576) : Calls Try.prog 49 #[.agg #[u]] w fun e w' => e = .returned (.int .i64 (arI 1 n R)) ∧ Up w w' := by
  have hP := fun W (hu : Up w W) => sStoneOk_any u n lo hi R W (hs.up hu) hn
  obtain ⟨h0, A, c, rfl, hc, hx⟩ := hs
  have H := Lib.hid hx
  clear hx
  cases hok : stOk n R with
  | false =>
    rw [arI_f hok]
    have HPo : ∀ W, Up w W → Calls Try.prog 78 #[.agg #[.slice A n c]] W fun e w' => e = .returned (.bool false) ∧ Up W w' := fun W hu => by have hh := hP W hu; rw [hok] at hh; exact hh
    clear hok hP
    by_cases hp : 0 < n
    · have hp2 : (0 : Int) < (n : Int) := by omega
      go_enter Try.func49, Try.ntmps49
      go_wp2
      refine wp_loop_rounds 1 ?_
      rw [rounds_succ]
      go_wp2_with (first | (go_at_call 78; (with_reducible refine (HPo _ (by repeat (first | with_reducible exact Up.refl _ | with_reducible refine Up.alloc ?_ _ | with_reducible refine Up.drew ?_ | with_reducible refine Up.drewN ?_ _ | (with_reducible refine Up.setCell ?_ (by first | omega | (simp; done) | (simp; omega)) _) | with_reducible assumption | (with_reducible refine Up.trans ?_ (by with_reducible assumption))))).mono ?_); rintro e w1 ⟨rfl, hb1⟩))
      exact bodyPost_ret (v := .int .i64 0) (by simp only [results]; go_simp; try simp) rfl ⟨rfl, (by repeat (first | with_reducible exact Up.refl _ | with_reducible refine Up.alloc ?_ _ | with_reducible refine Up.drew ?_ | with_reducible refine Up.drewN ?_ _ | (with_reducible refine Up.setCell ?_ (by first | omega | (simp; done) | (simp; omega)) _) | with_reducible assumption | (with_reducible refine Up.trans ?_ (by with_reducible assumption))))⟩
    · have hp2 : ¬ (0 : Int) < (n : Int) := by omega
      go_enter Try.func49, Try.ntmps49
      go_wp2
      refine wp_loop_rounds 1 ?_
      rw [rounds_succ]
      go_wp2
      exact bodyPost_ret (v := .int .i64 0) (by simp only [results]; go_simp; try simp) rfl ⟨rfl, (by repeat (first | with_reducible exact Up.refl _ | with_reducible refine Up.alloc ?_ _ | with_reducible refine Up.drew ?_ | with_reducible refine Up.drewN ?_ _ | (with_reducible refine Up.setCell ?_ (by first | omega | (simp; done) | (simp; omega)) _) | with_reducible assumption | (with_reducible refine Up.trans ?_ (by with_reducible assumption))))⟩
  | true =>
    have HPo : ∀ W, Up w W → Calls Try.prog 78 #[.agg #[.slice A n c]] W fun e w' => e = .returned (.bool true) ∧ Up W w' := fun W hu => by have hh := hP W hu; rw [hok] at hh; exact hh
    obtain ⟨hn3, hn6, hgp⟩ := st_inv hok
    rw [arI_t hok]
    have hbd := fun j hj => arS_bd (k := 1) (R := R) (n := n) (by omega) hgp j hj
    have HBD := Lib.hid hbd
    have HG := Lib.hid hgp
    clear hok hP hgp hbd
    go_enter Try.func49, Try.ntmps49
    go_wp2
    go_loopw [3, 4] (fun s i wr => ∃ j : Nat, i = .int .i64 (j : Int) ∧ j ≤ n ∧ s = .int .i64 (arS 1 n R j) ∧ Up (w.alloc (.cells #[.slice A n c] 96)) wr) (fun _ i _ => n - (intOf i).toNat)
    case atStart => exact ⟨0, rfl, Nat.zero_le _, rfl, (by repeat (first | with_reducible exact Up.refl _ | with_reducible refine Up.alloc ?_ _ | with_reducible refine Up.drew ?_ | with_reducible refine Up.drewN ?_ _ | (with_reducible refine Up.setCell ?_ (by first | omega | (simp; done) | (simp; omega)) _) | with_reducible assumption | (with_reducible refine Up.trans ?_ (by with_reducible assumption))))⟩
    case round =>
      obtain ⟨j, rfl, hj, rfl, hup⟩ := hrel
      have hupw : Up w wr := Up.trans (Up.alloc (Up.refl w) _) hup
      have hbx : wr.cell? ⟨w.heap.size, 0, none⟩ = some (.slice A n c) := (hup.cells.1 _ _ (by simp)).trans (by simp [World.cell?_alloc_mark])
      have hbxr : w.heap.size < wr.heap.size := Nat.lt_of_lt_of_le (by simp) hup.size
      by_cases hk1 : j < n
      · obtain ⟨b, o, rfl, hb1, hb2, hcs⟩ := H.out (by omega)
        obtain ⟨m1, t1⟩ := mod_facts j 1 n hk1 hn6 (by omega)
        have hst : arS 1 n R (j + 1) = arS 1 n R j + fkQ 1 R j ((j + 1) % n) * crQ R j ((j + 1) % n) := rfl
        generalize hq1 : (j + 1) % n = q at m1 t1 hst
        obtain ⟨a0, a1⟩ := Sl.pt hcs hk1
        obtain ⟨b0, b1⟩ := Sl.pt hcs m1
        have hbw : b < w.heap.size := by omega
        have g0 := (hupw.cells.1 _ (o + j * 2) hbw).trans a0
        have g1 := (hupw.cells.1 _ (o + j * 2 + 1) hbw).trans a1
        have g2 := (hupw.cells.1 _ (o + q * 2) hbw).trans b0
        have g3 := (hupw.cells.1 _ (o + q * 2 + 1) hbw).trans b1
        have hbr : b < wr.heap.size := Nat.lt_of_lt_of_le hbw hupw.size
        have hk2 : (j : Int) < (n : Int) := by omega
        have m1i : (q : Int) < (n : Int) := by omega
        have hw1a : IntKind.i64.wrap ((j : Int) + 1) = (j : Int) + 1 := by rw [IntKind.wrap_i64]; omega
        have hwq1 : IntKind.i64.wrap (q : Int) = (q : Int) := by rw [IntKind.wrap_i64]; omega
        have hn0 : ¬ (n : Int) = 0 := by omega
        have hnn : ¬ n = 0 := by omega
        have T1 : ((j : Int) + 1).tmod (n : Int) = (q : Int) := t1
        have HST := Lib.hid hst
        obtain ⟨x1, x2, x3, x4, y1, y2, y3, y4, y5, y6⟩ := ar_bd (k := 1) (HG.out j hk1) (HG.out q m1)
        obtain ⟨z1, z2⟩ := HBD.out j (by omega)
        have z3 := HBD.out (j + 1) (by omega)
        rw [HST.out] at z3
        have HF : ∀ W : World, Calls Try.prog 80 #[.agg #[.int .i64 (R j 0), .int .i64 (R j 1)], .agg #[.int .i64 (R q 0), .int .i64 (R q 1)]] W fun e w' => e = .returned (.int .i64 (crQ R j q)) ∧ Up W w' := fun W => crs_any R j q W (HG.out j hk1) (HG.out q m1)
        have HFK : Hid (fkQ 1 R j q = R j 0 + R q 0) := rfl
        have HCR : Hid (crQ R j q = R j 0 * R q 1 - R j 1 * R q 0) := rfl
        generalize fkQ 1 R j q = f at *
        generalize crQ R j q = cr at *
        generalize arS 1 n R j = s at *
        have v1 : IntKind.i64.wrap (R j 0 * R q 1) = R j 0 * R q 1 := by rw [IntKind.wrap_i64]; omega
        have v2 : IntKind.i64.wrap (R j 1 * R q 0) = R j 1 * R q 0 := by rw [IntKind.wrap_i64]; omega
        have v3 : IntKind.i64.wrap (R j 0 * R q 1 - R j 1 * R q 0) = cr := by rw [IntKind.wrap_i64, HCR.out]; omega
        have v6 : IntKind.i64.wrap (R j 0 + R q 0) = f := by rw [IntKind.wrap_i64, HFK.out]; have := HFK.out; omega
        have v4 : IntKind.i64.wrap (f * cr) = f * cr := by rw [IntKind.wrap_i64]; omega
        have v5 : IntKind.i64.wrap (s + f * cr) = s + f * cr := by rw [IntKind.wrap_i64]; omega
        clear a0 a1 b0 b1 hcs t1 hq1 hst z3
        go_wp2_with fail
        (go_at_call 78; (with_reducible refine (HPo _ (by repeat (first | with_reducible exact Up.refl _ | with_reducible refine Up.alloc ?_ _ | with_reducible refine Up.drew ?_ | with_reducible refine Up.drewN ?_ _ | (with_reducible refine Up.setCell ?_ (by first | omega | (simp; done) | (simp; omega)) _) | with_reducible assumption | (with_reducible refine Up.trans ?_ (by with_reducible assumption))))).mono ?_); rintro e w1 ⟨rfl, hb1'⟩)
        have hc0 := (hb1'.cells.1 _ 0 hbxr).trans hbx
        have hcl : w.heap.size < w1.heap.size := Nat.lt_of_lt_of_le hbxr hb1'.size
        have k0 := (hb1'.cells.1 _ _ hbr).trans g0
        have k1 := (hb1'.cells.1 _ _ hbr).trans g1
        have k2 := (hb1'.cells.1 _ _ hbr).trans g2
        have k3 := (hb1'.cells.1 _ _ hbr).trans g3
        have hbl : b < w1.heap.size := Nat.lt_of_lt_of_le hbr hb1'.size
        have hu1 : Up w w1 := hupw.trans hb1'
        have huz : Up (w.alloc (.cells #[.slice (some ⟨b, o, none⟩) n c] 96)) w1 := hup.trans hb1'
        obtain ⟨wy, rfl⟩ : ∃ wy : World, wy = w1 := ⟨_, rfl⟩
        clear hb1' g0 g1 g2 g3 hbx hbxr hup hupw hbr
        go_wp2_with fail
        obtain ⟨wk, hW⟩ : ∃ wk : World, wk = wy.alloc (.cells #[.int .i64 (R j 0), .int .i64 (R j 1)] 67) := ⟨_, rfl⟩
        rw [← hW]
        have q70 : wk.cell? ⟨wy.heap.size, 0, none⟩ = some (.int .i64 (R j 0)) := by rw [hW]; go_simp
        have q71 : wk.cell? ⟨wy.heap.size, 1, none⟩ = some (.int .i64 (R j 1)) := by rw [hW]; go_simp
        have hu7 : Up wy wk := by rw [hW]; exact (by repeat (first | with_reducible exact Up.refl _ | with_reducible refine Up.alloc ?_ _ | with_reducible refine Up.drew ?_ | with_reducible refine Up.drewN ?_ _ | (with_reducible refine Up.setCell ?_ (by first | omega | (simp; done) | (simp; omega)) _) | with_reducible assumption | (with_reducible refine Up.trans ?_ (by with_reducible assumption))))
        have hl7 : wy.heap.size < wk.heap.size := by rw [hW]; simp
        have d0 := (hu7.cells.1 _ 0 hcl).trans hc0
        have dl : w.heap.size < wk.heap.size := Nat.lt_of_lt_of_le hcl hu7.size
        have l2 := (hu7.cells.1 _ _ hbl).trans k2
        have l3 := (hu7.cells.1 _ _ hbl).trans k3
        have hbk : b < wk.heap.size := Nat.lt_of_lt_of_le hbl hu7.size
        clear hW k0 k1 k2 k3 hc0 hcl
        go_region_held3 (fun w' => (∀ b o, b < wk.heap.size → w'.cell? ⟨b, o, none⟩ = wk.cell? ⟨b, o, none⟩) ∧ wk.heap.size ≤ w'.heap.size) (repeat (first | with_reducible refine kp_drew ?_ | with_reducible refine kp_set ?_ (by first | omega | (simp; done) | (simp; omega)) | with_reducible refine kp_alloc ?_ _ | with_reducible assumption | with_reducible exact kp_start _)) (first | fail)
        obtain ⟨wm, hM⟩ : ∃ wm : World, wm = (wk.alloc (.cells #[.int .i64 (R q 0), .int .i64 (R q 1)] 67)).drew := ⟨_, rfl⟩
        rw [← hM]
        have q80 : wm.cell? ⟨wk.heap.size, 0, none⟩ = some (.int .i64 (R q 0)) := by rw [hM]; go_simp
        have q81 : wm.cell? ⟨wk.heap.size, 1, none⟩ = some (.int .i64 (R q 1)) := by rw [hM]; go_simp
        have hum : Up wk wm := by rw [hM]; exact (by repeat (first | with_reducible exact Up.refl _ | with_reducible refine Up.alloc ?_ _ | with_reducible refine Up.drew ?_ | with_reducible refine Up.drewN ?_ _ | (with_reducible refine Up.setCell ?_ (by first | omega | (simp; done) | (simp; omega)) _) | with_reducible assumption | (with_reducible refine Up.trans ?_ (by with_reducible assumption))))
        have e70 := (hum.cells.1 _ 0 hl7).trans q70
        have e71 := (hum.cells.1 _ 1 hl7).trans q71
        have hm7 : wy.heap.size < wm.heap.size := Nat.lt_of_lt_of_le hl7 hum.size
        have hm8 : wk.heap.size < wm.heap.size := by rw [hM]; simp
        clear hM q70 q71 d0 dl l2 l3
        go_wp2_with fail
        (refine wp_region_up (by kernel_rfl) (by kernel_rfl) ?_; (repeat (refine wpQuiet_step (fun K hK => ?_); go_simp; first | (refine hK _ ?_; clear hK K) | (apply Exists.intro; refine ⟨fun wq hwq => ?_, hK _ ?_⟩; (obtain ⟨hcq, hfq⟩ := hwq.cells; (try go_simp); first | done | rfl | exact ⟨rfl, rfl⟩ | (go_at_call 80; exact up_of hwq (HF _))); clear hK K))); refine wpQuiet_nil ?_; intro w1 hb1; obtain ⟨hc1, hf1⟩ := hb1.cells; have hl1 := hb1.lt; have hle1 := hb1.le; have hs1 := hb1.size; (try simp at hs1); (try have hs1a : wm.heap.size < w1.heap.size := by omega); (try have hs1aa : wm.heap.size ≤ w1.heap.size := by omega); (try have hs1b : wm.heap.size + 1 < w1.heap.size := by omega); (try have hs1bb : wm.heap.size + 1 ≤ w1.heap.size := by omega); (try have hs1c : wm.heap.size + 1 + 1 < w1.heap.size := by omega); (try have hs1cc : wm.heap.size + 1 + 1 ≤ w1.heap.size := by omega); (try have hs1d : wm.heap.size + 1 + 1 + 1 < w1.heap.size := by omega); (try have hs1dd : wm.heap.size + 1 + 1 + 1 ≤ w1.heap.size := by omega); (try have hs1L := Nat.lt_of_succ_le hs1); (try have hs1M := Nat.lt_of_succ_lt hs1L); (try have hs1N := Nat.lt_of_succ_lt hs1M); (try have hs1LE := Nat.le_of_lt hs1L); (try have hs1ME := Nat.le_of_lt hs1M))
        go_wp2
        exact ⟨⟨j + 1, by rfl, by omega, by rw [HST.out], (by repeat (first | with_reducible exact Up.refl _ | with_reducible refine Up.alloc ?_ _ | with_reducible refine Up.drew ?_ | with_reducible refine Up.drewN ?_ _ | (with_reducible refine Up.setCell ?_ (by first | omega | (simp; done) | (simp; omega)) _) | with_reducible assumption | (with_reducible refine Up.trans ?_ (by with_reducible assumption))))⟩, by simp only [intOf]; omega⟩
      · have hkk : j = n := by omega
        subst hkk
        have hk2 : ¬ (j : Int) < (j : Int) := by omega
        go_wp2
        go_ret
        exact ⟨rfl, (by repeat (first | with_reducible exact Up.refl _ | with_reducible refine Up.alloc ?_ _ | with_reducible refine Up.drew ?_ | with_reducible refine Up.drewN ?_ _ | (with_reducible refine Up.setCell ?_ (by first | omega | (simp; done) | (simp; omega)) _) | with_reducible assumption | (with_reducible refine Up.trans ?_ (by with_reducible assumption))))⟩
end Go.Proofs.Ytaealkfnhhmmcaa
