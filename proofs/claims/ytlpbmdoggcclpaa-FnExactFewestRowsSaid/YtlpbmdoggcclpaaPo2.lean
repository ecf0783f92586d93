/- The walk of the reference's ProofOfFour. No condition. -/
import Derived.Test.YtlpbmdoggcclpaaPo
import Derived.Deep.QuietTactic
namespace Go.Proofs.Ytlpbmdoggcclpaa
open Go.RowKit
set_option linter.unusedVariables false
set_option maxHeartbeats 8000000 in
set_option maxRecDepth 100000 in
theorem sProofOfFour_any (u a : Value) (k l lo hi lo' hi' : Nat) (R L : Nat → Nat → Int) (w : World) (hs : Sl w lo hi 4 u k (intF R)) (hs' : Sl w lo' hi' 1 a l (intF L)) (hn : k ≤ 1048576) (hn' : l ≤ 1048576) :
    Calls Try.prog 66 #[u, a] w (PrG w (poM k l R L) (poM k l R L) (intF (poP R L)) (intF (poQ R L)) (poB k l R L)) := by
  obtain ⟨i0, hi0, hz0, hz1, hz2⟩ := info_parts int_info
  have HS := hs
  have hIs := fun W v v' l1 h1 l2 h2 c P F (hu : Up w W) (k1 : Sl W l1 h1 1 v c (intF P)) (k2 : Sl W l2 h2 1 v' c (intF F)) (hc : c ≤ 1048576) => sIsProof_any u v v' k c c lo hi l1 h1 l2 h2 R P F W (hs.up hu) k1 k2 hn hc hc
  obtain ⟨hzz1, A1, c1, rfl, hc1, hx1⟩ := hs
  obtain ⟨hzz2, A2, c2, rfl, hc2, hx2⟩ := hs'
  have H1 := Lib.hid hx1
  have H2 := Lib.hid hx2
  clear hx1 hx2
  by_cases h4 : l = 4
  rotate_left
  · have e0 := po_1 (k := k) (R := R) (L := L) h4
    rw [po_m0 e0, e0]
    have h5 : ((l : Int) != 4) = true := by simp; omega
    clear e0
    go_enter Try.func66, Try.ntmps66
    go_wp2
    exact bodyPost_ret (v := .tuple #[.agg #[.slice none 0 0, .slice none 0 0], .bool false]) (by simp only [results]; go_simp; try simp) rfl (PrG.zero _ _ (by repeat (first | with_reducible exact Up.refl _ | with_reducible refine Up.alloc ?_ _ | with_reducible refine Up.drew ?_ | with_reducible refine Up.drewN ?_ _ | (with_reducible refine Up.setCell ?_ (by first | omega | (simp; done) | (simp; omega)) _) | with_reducible assumption | (with_reducible refine Up.trans ?_ (by with_reducible assumption)))))
  subst h4
  obtain ⟨b', o', rfl, hbl', hbh', hcs'⟩ := H2.out (by omega)
  have hbw' : b' < w.heap.size := by omega
  have HL := Lib.hid (fun i (hi : i < 4) => Sl.int hcs' (k := i) hi)
  obtain ⟨pB, hpB⟩ : ∃ pB, poB k 4 R L = pB := ⟨_, rfl⟩
  obtain ⟨pM, hpM⟩ : ∃ pM, poM k 4 R L = pM := ⟨_, rfl⟩
  rw [hpB, hpM]
  have HB := Lib.hid hpB
  have HM := Lib.hid hpM
  clear hpB hpM hcs'
  have HIs := Lib.hid hIs
  clear hIs
  go_enter Try.func66, Try.ntmps66
  go_wp2
  go_loopw [6] (fun i wr => ∃ q : Nat, i = .int .i64 (q : Int) ∧ q ≤ 4 ∧ Hid (allN (ascI 0 ((k : Int) - 1) L) q = true) ∧ Up (w.alloc (.cells #[.slice none 0 0, .slice none 0 0] 26)) wr) (fun i _ => 4 - (intOf i).toNat)
  case atStart => exact ⟨0, rfl, Nat.zero_le _, rfl, (by repeat (first | with_reducible exact Up.refl _ | with_reducible refine Up.alloc ?_ _ | with_reducible refine Up.drew ?_ | with_reducible refine Up.drewN ?_ _ | (with_reducible refine Up.setCell ?_ (by first | omega | (simp; done) | (simp; omega)) _) | with_reducible assumption | (with_reducible refine Up.trans ?_ (by with_reducible assumption))))⟩
  case round =>
    obtain ⟨q, rfl, hq, ha1, hup⟩ := hrel
    have hupw : Up w wr := Up.trans (Up.alloc (Up.refl w) _) hup
    have z0 : wr.cell? ⟨w.heap.size, 0, none⟩ = some (.slice none 0 0) := (hup.cells.1 _ _ (by simp)).trans (by simp [World.cell?_alloc_mark])
    have z1 : wr.cell? ⟨w.heap.size, 1, none⟩ = some (.slice none 0 0) := (hup.cells.1 _ _ (by simp)).trans (by simp [World.cell?_alloc_mark])
    have zf : ∀ o, wr.frozen? ⟨w.heap.size, o, none⟩ = false := fun o => (hup.cells.2 _ _ (by simp)).trans (by go_simp)
    have zl : w.heap.size < wr.heap.size := Nat.lt_of_lt_of_le (by simp) hup.size
    have hbr' : b' < wr.heap.size := by omega
    by_cases hk1 : q < 4
    · have hk2 : (q : Int) < 4 := by omega
      have hg0 : wr.cell? ⟨b', o' + q, none⟩ = some (.int .i64 (L q 0)) := (hupw.cells.1 _ _ hbw').trans (HL.out q hk1)
      have hwj : IntKind.i64.wrap ((k : Int) - 1) = (k : Int) - 1 := by rw [IntKind.wrap_i64]; omega
      have FAIL : True := trivial
      cases hi2 : inB 0 (L q 0) ((k : Int) - 1) with
      | false =>
        have e1 := po_2 (k := k) (l := 4) (R := R) (L := L) (allN_false (p := ascI 0 ((k : Int) - 1) L) hk1 (by rw [ascI, hi2]; rfl))
        have e2 := po_m0 e1
        rw [HM.out] at e2
        rw [HB.out] at e1
        subst e1 e2
        have HT1 : ∀ W : World, Calls Try.prog 75 #[.int .i64 (L q 0), .int .i64 0, .int .i64 ((k : Int) - 1)] W (fun e w' => e = .returned (.bool false) ∧ W = w') := fun W => by have hh := l01In_any (L q 0) 0 ((k : Int) - 1) W; rw [hi2] at hh; exact hh
        clear hi2
        go_wp2_with fail
        go_quiet ((go_at_call 75; (with_reducible refine (HT1 _).mono ?_); exact fun _ _ hh => ⟨hh.1, _, hh.2.symm⟩))
        go_wp2
        exact bodyPost_ret (v := .tuple #[.agg #[.slice none 0 0, .slice none 0 0], .bool false]) (by simp only [results]; go_simp; try simp) rfl (PrG.zero _ _ (by repeat (first | with_reducible exact Up.refl _ | with_reducible refine Up.alloc ?_ _ | with_reducible refine Up.drew ?_ | with_reducible refine Up.drewN ?_ _ | (with_reducible refine Up.setCell ?_ (by first | omega | (simp; done) | (simp; omega)) _) | with_reducible assumption | (with_reducible refine Up.trans ?_ (by with_reducible assumption)))))
      | true =>
        have HT1 : ∀ W : World, Calls Try.prog 75 #[.int .i64 (L q 0), .int .i64 0, .int .i64 ((k : Int) - 1)] W (fun e w' => e = .returned (.bool true) ∧ W = w') := fun W => by have hh := l01In_any (L q 0) 0 ((k : Int) - 1) W; rw [hi2] at hh; exact hh
        rcases Nat.eq_zero_or_pos q with hj0 | hj0
        · subst hj0
          have hg00 : wr.cell? ⟨b', o', none⟩ = some (.int .i64 (L 0 0)) := by simpa using hg0
          have HA1 := Lib.hid (allN_step (p := ascI 0 ((k : Int) - 1) L) ha1.out (by rw [ascI, hi2]; rfl))
          clear hi2
          go_wp2_with fail
          go_quiet ((go_at_call 75; (with_reducible refine (HT1 _).mono ?_); exact fun _ _ hh => ⟨hh.1, _, hh.2.symm⟩))
          go_wp2
          exact ⟨⟨1, by rfl, by omega, HA1, (by repeat (first | with_reducible exact Up.refl _ | with_reducible refine Up.alloc ?_ _ | with_reducible refine Up.drew ?_ | with_reducible refine Up.drewN ?_ _ | (with_reducible refine Up.setCell ?_ (by first | omega | (simp; done) | (simp; omega)) _) | with_reducible assumption | (with_reducible refine Up.trans ?_ (by with_reducible assumption))))⟩, by simp only [intOf]; omega⟩
        · obtain ⟨p, rfl⟩ : ∃ p, q = p + 1 := ⟨q - 1, by omega⟩
          have hg1 : wr.cell? ⟨b', o' + p, none⟩ = some (.int .i64 (L p 0)) := (hupw.cells.1 _ _ hbw').trans (HL.out p (by omega))
          have hp1 : (p : Int) < 4 := by omega
          have hp1n : p < 4 := by omega
          have hp3 : (p : Int) + 1 < 4 := by omega
          have hp2 : (0 : Int) < (p : Int) + 1 := by omega
          have hwp : IntKind.i64.wrap (p : Int) = (p : Int) := by rw [IntKind.wrap_i64]; omega
          by_cases hle : L (p + 1) 0 ≤ L p 0
          · have e1 := po_2 (k := k) (l := 4) (R := R) (L := L) (allN_false (p := ascI 0 ((k : Int) - 1) L) hk1 (by rw [ascI, hi2]; simp [hle]))
            have e2 := po_m0 e1
            rw [HM.out] at e2
            rw [HB.out] at e1
            subst e1 e2
            have hd := decide_eq_true hle
            clear hi2
            go_wp2_with fail
            go_quiet ((go_at_call 75; (with_reducible refine (HT1 _).mono ?_); exact fun _ _ hh => ⟨hh.1, _, hh.2.symm⟩))
            go_wp2
            exact bodyPost_ret (v := .tuple #[.agg #[.slice none 0 0, .slice none 0 0], .bool false]) (by simp only [results]; go_simp; try simp) rfl (PrG.zero _ _ (by repeat (first | with_reducible exact Up.refl _ | with_reducible refine Up.alloc ?_ _ | with_reducible refine Up.drew ?_ | with_reducible refine Up.drewN ?_ _ | (with_reducible refine Up.setCell ?_ (by first | omega | (simp; done) | (simp; omega)) _) | with_reducible assumption | (with_reducible refine Up.trans ?_ (by with_reducible assumption)))))
          · have HA1 := Lib.hid (allN_step (p := ascI 0 ((k : Int) - 1) L) ha1.out (by rw [ascI, hi2]; simp; omega))
            have hd := decide_eq_false hle
            clear hi2
            go_wp2_with fail
            go_quiet ((go_at_call 75; (with_reducible refine (HT1 _).mono ?_); exact fun _ _ hh => ⟨hh.1, _, hh.2.symm⟩))
            go_wp2
            exact ⟨⟨p + 1 + 1, by rfl, by omega, HA1, (by repeat (first | with_reducible exact Up.refl _ | with_reducible refine Up.alloc ?_ _ | with_reducible refine Up.drew ?_ | with_reducible refine Up.drewN ?_ _ | (with_reducible refine Up.setCell ?_ (by first | omega | (simp; done) | (simp; omega)) _) | with_reducible assumption | (with_reducible refine Up.trans ?_ (by with_reducible assumption))))⟩, by simp only [intOf]; omega⟩
    · have hkk : q = 4 := by omega
      subst hkk
      have has := ha1.out
      have hin : ∀ i, i < 4 → 0 ≤ L i 0 ∧ L i 0 < (k : Int) := fun i hi => by
        have := allN_get has hi
        rw [ascI, Bool.and_eq_true] at this
        have := inB_true.1 this.1
        omega
      have HAS := Lib.hid has
      have q0 := hin 0 (by omega)
      have q1 := hin 1 (by omega)
      have q2 := hin 2 (by omega)
      have q3 := hin 3 (by omega)
      have hFa := fun W => sFactorsOf_any (rwR R L 0) (rwR R L 1) (rwR R L 2) (rwR R L 3) W
      have hrw : ∀ i, rwR R L i = ⟨R (L i 0).toNat 0, R (L i 0).toNat 1, R (L i 0).toNat 2, R (L i 0).toNat 3⟩ := fun i => rfl
      obtain ⟨b, o, rfl, hbl, hbh, hcs⟩ := H1.out (by omega)
      have hbw : b < w.heap.size := by omega
      have l0 := HL.out 0 (by omega)
      have l1 := HL.out 1 (by omega)
      have l2 := HL.out 2 (by omega)
      have l3 := HL.out 3 (by omega)
      obtain ⟨n0, hn0⟩ : ∃ n : Nat, L 0 0 = (n : Int) := ⟨(L 0 0).toNat, by omega⟩
      have hk0 : n0 < k := by omega
      have hk0i : (n0 : Int) < (k : Int) := by omega
      have hp0 : (0 : Int) ≤ (n0 : Int) := by omega
      have r00 : w.cell? ⟨b, o + n0 * 4, none⟩ = some (.int .i64 (R n0 0)) := by simpa [intF, Nat.add_assoc] using hcs n0 0 hk0 (by omega)
      have r01 : w.cell? ⟨b, o + n0 * 4 + 1, none⟩ = some (.int .i64 (R n0 1)) := by simpa [intF, Nat.add_assoc] using hcs n0 1 hk0 (by omega)
      have r02 : w.cell? ⟨b, o + n0 * 4 + 2, none⟩ = some (.int .i64 (R n0 2)) := by simpa [intF, Nat.add_assoc] using hcs n0 2 hk0 (by omega)
      have r03 : w.cell? ⟨b, o + n0 * 4 + 3, none⟩ = some (.int .i64 (R n0 3)) := by simpa [intF, Nat.add_assoc] using hcs n0 3 hk0 (by omega)
      obtain ⟨n1, hn1⟩ : ∃ n : Nat, L 1 0 = (n : Int) := ⟨(L 1 0).toNat, by omega⟩
      have hk1 : n1 < k := by omega
      have hk1i : (n1 : Int) < (k : Int) := by omega
      have hp1 : (0 : Int) ≤ (n1 : Int) := by omega
      have r10 : w.cell? ⟨b, o + n1 * 4, none⟩ = some (.int .i64 (R n1 0)) := by simpa [intF, Nat.add_assoc] using hcs n1 0 hk1 (by omega)
      have r11 : w.cell? ⟨b, o + n1 * 4 + 1, none⟩ = some (.int .i64 (R n1 1)) := by simpa [intF, Nat.add_assoc] using hcs n1 1 hk1 (by omega)
      have r12 : w.cell? ⟨b, o + n1 * 4 + 2, none⟩ = some (.int .i64 (R n1 2)) := by simpa [intF, Nat.add_assoc] using hcs n1 2 hk1 (by omega)
      have r13 : w.cell? ⟨b, o + n1 * 4 + 3, none⟩ = some (.int .i64 (R n1 3)) := by simpa [intF, Nat.add_assoc] using hcs n1 3 hk1 (by omega)
      obtain ⟨n2, hn2⟩ : ∃ n : Nat, L 2 0 = (n : Int) := ⟨(L 2 0).toNat, by omega⟩
      have hk2 : n2 < k := by omega
      have hk2i : (n2 : Int) < (k : Int) := by omega
      have hp2 : (0 : Int) ≤ (n2 : Int) := by omega
      have r20 : w.cell? ⟨b, o + n2 * 4, none⟩ = some (.int .i64 (R n2 0)) := by simpa [intF, Nat.add_assoc] using hcs n2 0 hk2 (by omega)
      have r21 : w.cell? ⟨b, o + n2 * 4 + 1, none⟩ = some (.int .i64 (R n2 1)) := by simpa [intF, Nat.add_assoc] using hcs n2 1 hk2 (by omega)
      have r22 : w.cell? ⟨b, o + n2 * 4 + 2, none⟩ = some (.int .i64 (R n2 2)) := by simpa [intF, Nat.add_assoc] using hcs n2 2 hk2 (by omega)
      have r23 : w.cell? ⟨b, o + n2 * 4 + 3, none⟩ = some (.int .i64 (R n2 3)) := by simpa [intF, Nat.add_assoc] using hcs n2 3 hk2 (by omega)
      obtain ⟨n3, hn3⟩ : ∃ n : Nat, L 3 0 = (n : Int) := ⟨(L 3 0).toNat, by omega⟩
      have hk3 : n3 < k := by omega
      have hk3i : (n3 : Int) < (k : Int) := by omega
      have hp3 : (0 : Int) ≤ (n3 : Int) := by omega
      have r30 : w.cell? ⟨b, o + n3 * 4, none⟩ = some (.int .i64 (R n3 0)) := by simpa [intF, Nat.add_assoc] using hcs n3 0 hk3 (by omega)
      have r31 : w.cell? ⟨b, o + n3 * 4 + 1, none⟩ = some (.int .i64 (R n3 1)) := by simpa [intF, Nat.add_assoc] using hcs n3 1 hk3 (by omega)
      have r32 : w.cell? ⟨b, o + n3 * 4 + 2, none⟩ = some (.int .i64 (R n3 2)) := by simpa [intF, Nat.add_assoc] using hcs n3 2 hk3 (by omega)
      have r33 : w.cell? ⟨b, o + n3 * 4 + 3, none⟩ = some (.int .i64 (R n3 3)) := by simpa [intF, Nat.add_assoc] using hcs n3 3 hk3 (by omega)
      have e0' : rwR R L 0 = ⟨R n0 0, R n0 1, R n0 2, R n0 3⟩ := by rw [hrw, hn0]; rfl
      have e1' : rwR R L 1 = ⟨R n1 0, R n1 1, R n1 2, R n1 3⟩ := by rw [hrw, hn1]; rfl
      have e2' : rwR R L 2 = ⟨R n2 0, R n2 1, R n2 2, R n2 3⟩ := by rw [hrw, hn2]; rfl
      have e3' : rwR R L 3 = ⟨R n3 0, R n3 1, R n3 2, R n3 3⟩ := by rw [hrw, hn3]; rfl
      have hFb : ∀ W, Calls Try.prog 81 #[.agg #[.int .i64 (R n0 0), .int .i64 (R n0 1), .int .i64 (R n0 2), .int .i64 (R n0 3)], .agg #[.int .i64 (R n1 0), .int .i64 (R n1 1), .int .i64 (R n1 2), .int .i64 (R n1 3)], .agg #[.int .i64 (R n2 0), .int .i64 (R n2 1), .int .i64 (R n2 2), .int .i64 (R n2 3)], .agg #[.int .i64 (R n3 0), .int .i64 (R n3 1), .int .i64 (R n3 2), .int .i64 (R n3 3)]] W (SlP W (poN R L) (intF (fun i _ => poF R L i))) := fun W => by
        have hh := hFa W
        have e5 : ∀ e w', SlP W (faN (rwR R L 0) (rwR R L 1) (rwR R L 2) (rwR R L 3)) (intF (faR (rwR R L 0) (rwR R L 1) (rwR R L 2) (rwR R L 3))) e w' → SlP W (poN R L) (intF (fun i _ => poF R L i)) e w' := fun e w' hh => by
          obtain ⟨v, h1, h2, h3⟩ := hh
          exact ⟨v, h1, h2.congr fun i j hi hj => by
            obtain rfl : j = 0 := by omega
            rfl, h3⟩
        rw [e0', e1', e2', e3'] at hh
        rw [e0', e1', e2', e3'] at e5
        exact hh.mono e5
      rw [hn0] at l0
      rw [hn1] at l1
      rw [hn2] at l2
      rw [hn3] at l3
      have hN4 := poN_le R L
      have hFB := poF_bd R L
      have hC : poC R L = pkN (poF R L) (poN R L) := rfl
      have hPP : poP R L = pkW (poF R L) (poL L) (poN R L) := rfl
      have hQQ : poQ R L = pkW (poF R L) (poF R L) (poN R L) := rfl
      have HC := Lib.hid hC
      have HPP := Lib.hid hPP
      have HQQ := Lib.hid hQQ
      have hp3 := @po_3 k 4 R L
      have hpt := @po_t k 4 R L
      have HP3 := Lib.hid hp3
      have HPT := Lib.hid hpt
      clear has hin hFa hrw hcs hn0 hn1 hn2 hn3 e0' e1' e2' e3' hC hPP hQQ hp3 hpt
      generalize poN R L = N at *
      generalize poF R L = f at *
      have hlen : (4 : Nat) ≤ c2 := hc2
      have hu0 : Up w wr := hupw
      obtain ⟨w0, rfl⟩ : ∃ w0 : World, w0 = wr := ⟨_, rfl⟩
      have s00 := (hu0.cells.1 _ _ hbw).trans r00
      have s01 := (hu0.cells.1 _ _ hbw).trans r01
      have s02 := (hu0.cells.1 _ _ hbw).trans r02
      have s03 := (hu0.cells.1 _ _ hbw).trans r03
      have k0 := (hu0.cells.1 _ _ hbw').trans l0
      have s10 := (hu0.cells.1 _ _ hbw).trans r10
      have s11 := (hu0.cells.1 _ _ hbw).trans r11
      have s12 := (hu0.cells.1 _ _ hbw).trans r12
      have s13 := (hu0.cells.1 _ _ hbw).trans r13
      have k1 := (hu0.cells.1 _ _ hbw').trans l1
      have s20 := (hu0.cells.1 _ _ hbw).trans r20
      have s21 := (hu0.cells.1 _ _ hbw).trans r21
      have s22 := (hu0.cells.1 _ _ hbw).trans r22
      have s23 := (hu0.cells.1 _ _ hbw).trans r23
      have k2 := (hu0.cells.1 _ _ hbw').trans l2
      have s30 := (hu0.cells.1 _ _ hbw).trans r30
      have s31 := (hu0.cells.1 _ _ hbw).trans r31
      have s32 := (hu0.cells.1 _ _ hbw).trans r32
      have s33 := (hu0.cells.1 _ _ hbw).trans r33
      have k3 := (hu0.cells.1 _ _ hbw').trans l3
      simp only [Nat.add_zero] at k0
      have hb0 : b < w0.heap.size := by have := hu0.size; omega
      have hb0' : b' < w0.heap.size := hbr'
      have i04 : (0 : Nat) < 4 := by omega
      clear r00 r01 r02 r03 r10 r11 r12 r13 r20 r21 r22 r23 r30 r31 r32 r33 l0 l1 l2 l3
      go_wp2_with fail
      go_region_held3 (fun w' => w'.cell? ⟨b', o', none⟩ = some (.int .i64 (n0 : Int)) ∧ w'.cell? ⟨b, o + n0 * 4, none⟩ = some (.int .i64 (R n0 0)) ∧ w'.cell? ⟨b, o + n0 * 4 + 1, none⟩ = some (.int .i64 (R n0 1)) ∧ w'.cell? ⟨b, o + n0 * 4 + 2, none⟩ = some (.int .i64 (R n0 2)) ∧ w'.cell? ⟨b, o + n0 * 4 + 3, none⟩ = some (.int .i64 (R n0 3)) ∧ w'.cell? ⟨b', o' + 1, none⟩ = some (.int .i64 (n1 : Int)) ∧ w'.cell? ⟨b, o + n1 * 4, none⟩ = some (.int .i64 (R n1 0)) ∧ w'.cell? ⟨b, o + n1 * 4 + 1, none⟩ = some (.int .i64 (R n1 1)) ∧ w'.cell? ⟨b, o + n1 * 4 + 2, none⟩ = some (.int .i64 (R n1 2)) ∧ w'.cell? ⟨b, o + n1 * 4 + 3, none⟩ = some (.int .i64 (R n1 3)) ∧ w'.cell? ⟨b', o' + 2, none⟩ = some (.int .i64 (n2 : Int)) ∧ w'.cell? ⟨b, o + n2 * 4, none⟩ = some (.int .i64 (R n2 0)) ∧ w'.cell? ⟨b, o + n2 * 4 + 1, none⟩ = some (.int .i64 (R n2 1)) ∧ w'.cell? ⟨b, o + n2 * 4 + 2, none⟩ = some (.int .i64 (R n2 2)) ∧ w'.cell? ⟨b, o + n2 * 4 + 3, none⟩ = some (.int .i64 (R n2 3)) ∧ w'.cell? ⟨b', o' + 3, none⟩ = some (.int .i64 (n3 : Int)) ∧ w'.cell? ⟨b, o + n3 * 4, none⟩ = some (.int .i64 (R n3 0)) ∧ w'.cell? ⟨b, o + n3 * 4 + 1, none⟩ = some (.int .i64 (R n3 1)) ∧ w'.cell? ⟨b, o + n3 * 4 + 2, none⟩ = some (.int .i64 (R n3 2)) ∧ w'.cell? ⟨b, o + n3 * 4 + 3, none⟩ = some (.int .i64 (R n3 3))) (first | exact ⟨k0, s00, s01, s02, s03, k1, s10, s11, s12, s13, k2, s20, s21, s22, s23, k3, s30, s31, s32, s33⟩ | exact ⟨(hb1.cells.1 _ _ hb0').trans k0, (hb1.cells.1 _ _ hb0).trans s00, (hb1.cells.1 _ _ hb0).trans s01, (hb1.cells.1 _ _ hb0).trans s02, (hb1.cells.1 _ _ hb0).trans s03, (hb1.cells.1 _ _ hb0').trans k1, (hb1.cells.1 _ _ hb0).trans s10, (hb1.cells.1 _ _ hb0).trans s11, (hb1.cells.1 _ _ hb0).trans s12, (hb1.cells.1 _ _ hb0).trans s13, (hb1.cells.1 _ _ hb0').trans k2, (hb1.cells.1 _ _ hb0).trans s20, (hb1.cells.1 _ _ hb0).trans s21, (hb1.cells.1 _ _ hb0).trans s22, (hb1.cells.1 _ _ hb0).trans s23, (hb1.cells.1 _ _ hb0').trans k3, (hb1.cells.1 _ _ hb0).trans s30, (hb1.cells.1 _ _ hb0).trans s31, (hb1.cells.1 _ _ hb0).trans s32, (hb1.cells.1 _ _ hb0).trans s33⟩) (first | (go_at_call 81; (with_reducible refine (hFb _).mono ?_); rintro e w1 ⟨v1, rfl, hv1, hb1⟩; obtain ⟨Af, cf, rfl⟩ := hv1.form; have HV1 := Lib.hid hv1; clear hv1))
      have hu01 : Up w0 w1 := by first | exact hb1 | exact Up.trans (Up.drew (Up.refl w0)) hb1
      have hw1 : Up w w1 := hu0.trans hu01
      have hs01 := hu01.size
      have x0 := (hu01.cells.1 _ 0 zl).trans z0
      have x1 := (hu01.cells.1 _ 1 zl).trans z1
      have xf : ∀ o, w1.frozen? ⟨w.heap.size, o, none⟩ = false := fun o => (hu01.cells.2 _ o zl).trans (zf o)
      have hcell : ∀ j, j < N → ∃ g, Af = some ⟨g, 0, none⟩ ∧ w0.heap.size ≤ g ∧ g < w1.heap.size ∧ ∀ j, j < N → w1.cell? ⟨g, j, none⟩ = some (.int .i64 (f j)) := fun j hj => by
        obtain ⟨_, A9, c9, hv9, hc9, hx9⟩ := HV1.out
        cases hv9
        obtain ⟨g, hA9, hg1, hg2, hg3, _⟩ := hx9 (by omega)
        exact ⟨g, hA9, by first | exact hg1 | simpa using hg1, hg2, fun j hj => by simpa [intF] using hg3 j 0 hj (by omega)⟩
      have HCE := Lib.hid hcell
      have hNl : N ≤ cf := by obtain ⟨_, A9, c9, hv9, hc9, hx9⟩ := HV1.out; cases hv9; exact hc9
      have HX := Lib.hid xf
      have zl1 : w.heap.size < w1.heap.size := by omega
      clear hb1 hcell hFB xf s00 s01 s02 s03 s10 s11 s12 s13 s20 s21 s22 s23 s30 s31 s32 s33 k0 k1 k2 k3 z0 z1 zf hu01 hFb q0 q1 q2 q3 hk0 hk0i hp0 hk1 hk1i hp1 hk2 hk2i hp2 hk3 hk3i hp3 hup ha1 zl hb0 hb0' hbr'
      go_wp2_with fail
      have b0 : (w1.alloc (.cells #[.slice none 0 0, .slice none 0 0] 26)).cell? ⟨w1.heap.size, 0, none⟩ = some (.slice none 0 0) := by rw [World.cell?_alloc_mark]; rfl
      have b1 : (w1.alloc (.cells #[.slice none 0 0, .slice none 0 0] 26)).cell? ⟨w1.heap.size, 1, none⟩ = some (.slice none 0 0) := by rw [World.cell?_alloc_mark]; rfl
      go_loopw [9] (fun i wr => ∃ (j : Nat) (Ax : Option Addr) (cx : Nat) (Ay : Option Addr) (cy : Nat), i = .int .i64 (j : Int) ∧ j ≤ N ∧ Hid (allN (fun i => decide (0 ≤ f i)) j = true) ∧ wr.cell? ⟨w1.heap.size, 0, none⟩ = some (.slice Ax (pkN f j) cx) ∧ wr.cell? ⟨w1.heap.size, 1, none⟩ = some (.slice Ay (pkN f j) cy) ∧ (∀ o, wr.frozen? ⟨w1.heap.size, o, none⟩ = false) ∧ Hid (wr.ownsRow (w1.heap.size + 1) 3 1 (.slice Ax (pkN f j) cx) (pkN f j) (flat 1 (intF (pkW f (poL L) j)) (pkN f j))) ∧ Hid (wr.ownsRow (w1.heap.size + 1) 3 1 (.slice Ay (pkN f j) cy) (pkN f j) (flat 1 (intF (pkW f f j)) (pkN f j))) ∧ Apart (.slice Ax (pkN f j) cx) (.slice Ay (pkN f j) cy) ∧ Up w1 wr ∧ w1.heap.size < wr.heap.size) (fun i _ => N - (intOf i).toNat)
      case atStart => exact ⟨0, none, 0, none, 0, rfl, Nat.zero_le _, rfl, b0, b1, fun o => by go_simp, World.ownsRow_nil _ _ _ _, World.ownsRow_nil _ _ _ _, .inl rfl, (by repeat (first | with_reducible exact Up.refl _ | with_reducible refine Up.alloc ?_ _ | with_reducible refine Up.drew ?_ | with_reducible refine Up.drewN ?_ _ | (with_reducible refine Up.setCell ?_ (by first | omega | (simp; done) | (simp; omega)) _) | with_reducible assumption | (with_reducible refine Up.trans ?_ (by with_reducible assumption)))), by simp⟩
      case round =>
        obtain ⟨j, Ax, cx, Ay, cy, rfl, hj, ha, p0, p1, pf, hox, hoy, hap, hup, hl1⟩ := hrel
        have hupw : Up w wr := hw1.trans hup
        have hzl : w.heap.size < wr.heap.size := by omega
        have t0 := (hup.cells.1 w.heap.size 0 zl1).trans x0
        have t1 := (hup.cells.1 w.heap.size 1 zl1).trans x1
        have tf : ∀ o, wr.frozen? ⟨w.heap.size, o, none⟩ = false := fun o => (hup.cells.2 w.heap.size o zl1).trans (HX.out o)
        have hpk := pkN_le f j
        by_cases hk1 : j < N
        · obtain ⟨g, rfl, hg1, hg2, hgc⟩ := HCE.out j hk1
          have hgj := (hup.cells.1 g j hg2).trans (hgc j hk1)
          have hgl : g < wr.heap.size := by omega
          have hk2 : (j : Int) < (N : Int) := by omega
          have HGC := Lib.hid (hgc j hk1)
          clear hgc
          by_cases hneg : f j < 0
          · have e1 := HP3.out (allN_false (p := fun i => decide (0 ≤ f i)) hk1 (by simp; omega))
            have e2 := po_m0 e1
            rw [HM.out] at e2
            rw [HB.out] at e1
            subst e1 e2
            go_wp2
            exact bodyPost_ret (v := .tuple #[.agg #[.slice none 0 0, .slice none 0 0], .bool false]) (by simp only [results]; go_simp; try simp) rfl (PrG.zero _ _ (by repeat (first | with_reducible exact Up.refl _ | with_reducible refine Up.alloc ?_ _ | with_reducible refine Up.drew ?_ | with_reducible refine Up.drewN ?_ _ | (with_reducible refine Up.setCell ?_ (by first | omega | (simp; done) | (simp; omega)) _) | with_reducible assumption | (with_reducible refine Up.trans ?_ (by with_reducible assumption)))))
          have hA := Lib.hid (allN_step (p := fun i => decide (0 ≤ f i)) ha.out (by simp; omega))
          by_cases hpos : 0 < f j
          rotate_left
          · have hz9 : f j = 0 := by omega
            have hN9 := Lib.hid (pkN_z hpos)
            have hF1 := Lib.hid (pk_flat_z (V := poL L) (n := pkN f j) hpos)
            have hF2 := Lib.hid (pk_flat_z (V := f) (n := pkN f j) hpos)
            rw [hz9] at hgj
            have HZ9 := Lib.hid hz9
            clear hneg hpos hz9
            go_wp2
            exact ⟨⟨j + 1, Ax, cx, Ay, cy, by rfl, by omega, hA, by rw [hN9.out]; exact p0, by rw [hN9.out]; exact p1, pf, by rw [hN9.out, hF1.out]; exact hox, by rw [hN9.out, hF2.out]; exact hoy, by rw [hN9.out]; exact hap, hup, hl1⟩, by simp only [intOf]; omega⟩
          · have hN9 := Lib.hid (pkN_p hpos)
            have hF1 := Lib.hid (pk_flat_p (V := poL L) hpos)
            have hF2 := Lib.hid (pk_flat_p (V := f) hpos)
            have hlj := (hupw.cells.1 _ _ hbw').trans (HL.out j (by omega))
            have hbr' : b' < wr.heap.size := by omega
            have hj4 : (j : Int) < 4 := by omega
            have hj4n : j < 4 := by omega
            obtain ⟨X, hX⟩ : ∃ X, f j = X := ⟨_, rfl⟩
            obtain ⟨Y, hY⟩ : ∃ Y, L j 0 = Y := ⟨_, rfl⟩
            obtain ⟨C, hCC⟩ : ∃ C, pkN f j = C := ⟨_, rfl⟩
            rw [hX] at hgj hneg hpos HGC
            rw [hY] at hlj
            rw [hCC] at p0 p1 hox hoy hap hpk hN9
            have HXX := Lib.hid hX
            have HYY := Lib.hid hY
            have HCC := Lib.hid hCC
            have hnn : ∀ j' u, ([.int .i64 Y] : List Value)[j']? = some u → (wr.drew.alloc (.cells #[.int .i64 Y] 3)).cell? ((⟨wr.heap.size, 0, none⟩ : Addr).add j') = some u := World.news_of_block (heap_alloc_new wr.drew (.cells #[.int .i64 Y] 3))
            have HNN := Lib.hid hnn
            have HTF := Lib.hid tf
            clear hX hY hCC hnn t0 t1 tf x0 x1 b0 b1 hs01
            go_wp2_with fail
            go_region_law (refine step_append_lies _ (by rfl) (.tmp 88) (.tmp 93) 24 (by rfl) (w1.heap.size + 1) 3 i0 (.int .i64 0) 1 8 Try.underlying24 hi0 hz0 hz1 hz2 rfl (by omega) _ C _ (by rfl) (hox.out.drew.alloc _) ⟨wr.heap.size, 0, none⟩ 1 1 [.int .i64 Y] (by rfl) rfl HNN.out (by simp [Value.oneCell']) (by omega) (by unfold maxLen; omega) (by omega) (by simp; omega) (wr.heap.size + 1) (by simp) ?_; intro g2 cap w3 hown hgrow hat hlt; have hne : some w1.heap.size ≠ (Value.slice Ax C cx).ownBlock := (fun e => (by have := (hox.out.lt _ e.symm).1; omega)); have d0 := hgrow.cell ((World.cell?_alloc_lt _ (.cells #[.int .i64 Y] 3) _ (by simpa using hl1)).trans p0) hne; have d1 := hgrow.cell ((World.cell?_alloc_lt _ (.cells #[.int .i64 Y] 3) _ (by simpa using hl1)).trans p1) hne; have df : ∀ o, w3.frozen? ⟨w1.heap.size, o, none⟩ = false := (fun o => (World.frozen?_of_block (hgrow.block _ (by simp; omega) hne)).trans ((World.frozen?_of_block (heap_alloc_old _ _ hl1)).trans (pf o))); have hu3 : Up w1 w3 := up_own (Up.alloc (Up.drew hup) _) (Nat.le_succ _) (hox.out.drew.alloc _) hgrow; have hl3 : w1.heap.size < w3.heap.size := (Nat.lt_of_lt_of_le (by simp; omega) hgrow.size); have HOY := Lib.hid ((hoy.out.drew.alloc (.cells #[.int .i64 Y] 3)).kept hgrow hap.turn); have hap3 := Apart.grow (n := C + 1) (cap := cap) hap hoy.out hat (Nat.le_succ _); have HOX := Lib.hid hown; have hlw3 : wr.heap.size ≤ w3.heap.size := (Nat.le_trans (by simp) hgrow.size); clear hown hgrow hat hlt hne)
            all_goals
              obtain ⟨w4, hw4⟩ : ∃ w4 : World, w4 = w3.setCell ⟨w1.heap.size, 0, none⟩ (.slice (some ⟨g2, 0, none⟩) (C + 1) cap) := ⟨_, rfl⟩
              rw [← hw4]
              have e0 : w4.cell? ⟨w1.heap.size, 0, none⟩ = some (.slice (some ⟨g2, 0, none⟩) (C + 1) cap) := by rw [hw4]; exact World.cell?_setCell_same' _ _ _ (by rw [d0]; rfl)
              have e1 : w4.cell? ⟨w1.heap.size, 1, none⟩ = some (.slice Ay C cy) := by rw [hw4]; exact (World.cell?_setCell_other _ _ _ _ (by simp)).trans d1
              have ef : ∀ o, w4.frozen? ⟨w1.heap.size, o, none⟩ = false := fun o => by rw [hw4, World.frozen?_setCell]; exact df o
              have eu : Up w1 w4 := by rw [hw4]; exact hu3.setCell (by simp) _
              have HOX4 : Hid (w4.ownsRow (w1.heap.size + 1) 3 1 (.slice (some ⟨g2, 0, none⟩) (C + 1) cap) (C + 1) (flat 1 (intF (pkW f (poL L) j)) C ++ [.int .i64 Y])) := by rw [hw4]; exact ownsRow_setCell_below HOX.out (by simp) _
              have HOY4 : Hid (w4.ownsRow (w1.heap.size + 1) 3 1 (.slice Ay C cy) C (flat 1 (intF (pkW f f j)) C)) := by rw [hw4]; exact ownsRow_setCell_below HOY.out (by simp) _
              have el : w1.heap.size < w4.heap.size := by rw [hw4]; simpa [World.setCell] using hl3
              have eg := (eu.cells.1 g j hg2).trans HGC.out
              have egl : g < w4.heap.size := by omega
              have hnx : ∀ j' u, ([.int .i64 X] : List Value)[j']? = some u → (w4.drew.alloc (.cells #[.int .i64 X] 3)).cell? ((⟨w4.heap.size, 0, none⟩ : Addr).add j') = some u := World.news_of_block (heap_alloc_new w4.drew (.cells #[.int .i64 X] 3))
              have HNX := Lib.hid hnx
              clear hw4 d0 d1 df hu3 hl3 HOX HOY hlw3 hnx p0 p1 pf hgj hlj
              go_wp2_with fail
              go_region_law (refine step_append_lies _ (by rfl) (.tmp 97) (.tmp 102) 24 (by rfl) (w1.heap.size + 1) 3 i0 (.int .i64 0) 1 8 Try.underlying24 hi0 hz0 hz1 hz2 rfl (by omega) _ C _ (by rfl) (HOY4.out.drew.alloc _) ⟨w4.heap.size, 0, none⟩ 1 1 [.int .i64 X] (by rfl) rfl HNX.out (by simp [Value.oneCell']) (by omega) (by unfold maxLen; omega) (by omega) (by simp; omega) (w4.heap.size + 1) (by simp) ?_; intro g5 cap5 w5 hown hgrow hat hlt; have hne : some w1.heap.size ≠ (Value.slice Ay C cy).ownBlock := (fun e => (by have := (HOY4.out.lt _ e.symm).1; omega)); have d0 := hgrow.cell ((World.cell?_alloc_lt _ (.cells #[.int .i64 X] 3) _ (by simpa using el)).trans e0) hne; have d1 := hgrow.cell ((World.cell?_alloc_lt _ (.cells #[.int .i64 X] 3) _ (by simpa using el)).trans e1) hne; have df : ∀ o, w5.frozen? ⟨w1.heap.size, o, none⟩ = false := (fun o => (World.frozen?_of_block (hgrow.block _ (by simp; omega) hne)).trans ((World.frozen?_of_block (heap_alloc_old _ _ el)).trans (ef o))); have hu5 : Up w1 w5 := up_own (Up.alloc (Up.drew eu) _) (Nat.le_succ _) (HOY4.out.drew.alloc _) hgrow; have hl5 : w1.heap.size < w5.heap.size := (Nat.lt_of_lt_of_le (by simp; omega) hgrow.size); have hap5 := Apart.grow (n := C + 1) (cap := cap5) hap3.symm HOX4.out hat (Nat.le_succ _); have HOX5 := Lib.hid ((HOX4.out.drew.alloc (.cells #[.int .i64 X] 3)).kept hgrow hap3); have HOY5 := Lib.hid hown; clear hown hgrow hat hlt hne)
              all_goals
                have HAP := Lib.hid hap5.symm
                go_wp2
                refine ⟨⟨j + 1, some ⟨g2, 0, none⟩, cap, some ⟨g5, 0, none⟩, cap5, by rfl, by omega, hA, ?_, ?_, fun o => by rw [World.frozen?_setCell]; exact df o, ?_, ?_, ?_, hu5.setCell (by simp) _, by simpa [World.setCell] using hl5⟩, by simp only [intOf]; omega⟩
                · rw [hN9.out]; exact (World.cell?_setCell_other _ _ _ _ (by simp)).trans d0
                · rw [hN9.out]; exact World.cell?_setCell_same' _ _ _ (by rw [d1]; rfl)
                · have := ownsRow_setCell_below HOX5.out (a := ⟨w1.heap.size, 1, none⟩) (by simp) (.slice (some ⟨g5, 0, none⟩) (C + 1) cap5)
                  rw [hN9.out]
                  rw [HCC.out] at hF1
                  rw [hF1.out, show poL L j = Y from HYY.out]
                  exact this
                · have := ownsRow_setCell_below HOY5.out (a := ⟨w1.heap.size, 1, none⟩) (by simp) (.slice (some ⟨g5, 0, none⟩) (C + 1) cap5)
                  rw [hN9.out]
                  rw [HCC.out] at hF2
                  rw [hF2.out, HXX.out]
                  exact this
                · rw [hN9.out]; exact HAP.out
        · have hkk : j = N := by omega
          subst hkk
          have hk2 : ¬ (j : Int) < (j : Int) := by omega
          obtain ⟨lo1, hi1, lo2, hi2, W1, W2, hb1, hb2, hd12⟩ := two_wr hox.out hoy.out hl1 hap
          have hq := HIs.out wr _ _ _ _ _ _ _ _ _ hupw W1.sl W2.sl (by omega)
          have hpt := HPT.out (by first | trivial | rfl) HAS.out ha.out
          rw [HC.out, HPP.out, HQQ.out, HB.out] at hpt
          have hq2 : Calls Try.prog 82 #[.slice (some ⟨b, o, none⟩) k c1, .agg #[.slice Ax (pkN f j) cx, .slice Ay (pkN f j) cy]] wr fun e w' => e = .returned (.bool pB) ∧ Up wr w' := by rw [hpt]; exact hq
          have HW1 := Lib.hid W1
          have HW2 := Lib.hid W2
          clear hq hpt W1 W2 HCE
          cases pB with
          | false =>
            have e2 := po_m0 HB.out
            rw [HM.out] at e2
            subst e2
            go_wp2_with (go_at_call 82; (with_reducible refine hq2.mono ?_); rintro e w4 ⟨rfl, hb4⟩; have v0 := (hb4.cells.1 _ 0 hzl).trans t0; have v1 := (hb4.cells.1 _ 1 hzl).trans t1; have vf := (fun o => (hb4.cells.2 _ o hzl).trans (tf o)); have hu4 : Up w w4 := hupw.trans hb4; clear hb4)
            exact bodyPost_ret (v := .tuple #[.agg #[.slice none 0 0, .slice none 0 0], .bool false]) (by simp only [results]; go_simp; try simp) rfl (PrG.zero _ _ (by repeat (first | with_reducible exact Up.refl _ | with_reducible refine Up.alloc ?_ _ | with_reducible refine Up.drew ?_ | with_reducible refine Up.drewN ?_ _ | (with_reducible refine Up.setCell ?_ (by first | omega | (simp; done) | (simp; omega)) _) | with_reducible assumption | (with_reducible refine Up.trans ?_ (by with_reducible assumption)))))
          | true =>
            have e2 := po_m1 HB.out
            rw [HM.out, HC.out] at e2
            subst e2
            go_wp2_with (go_at_call 82; (with_reducible refine hq2.mono ?_); rintro e w4 ⟨rfl, hb4⟩; have v0 := (hb4.cells.1 _ 0 hzl).trans t0; have v1 := (hb4.cells.1 _ 1 hzl).trans t1; have vf := (fun o => (hb4.cells.2 _ o hzl).trans (tf o)); have m0 := (hb4.cells.1 _ 0 hl1).trans p0; have m1 := (hb4.cells.1 _ 1 hl1).trans p1; have hu4 : Up w w4 := hupw.trans hb4; have G1 := Lib.hid (HW1.out.up hb4); have G2 := Lib.hid (HW2.out.up hb4); clear hb4)
            have C4 : Chg w.heap.size (w.heap.size + 1) w4 ((w4.setCell ⟨w.heap.size, 0, none⟩ (.slice Ax (pkN f j) cx)).setCell ⟨w.heap.size, 1, none⟩ (.slice Ay (pkN f j) cy)) := ((Chg.refl _ _ w4).setCell (by simp) (by simp) _).setCell (by simp) (by simp) _
            have E1 := G1.out.off C4 (Or.inr (by omega))
            have E2 := G2.out.off C4 (Or.inr (by omega))
            rw [← HPP.out] at E1
            rw [← HQQ.out] at E2
            exact bodyPost_ret (v := .tuple #[.agg #[.slice Ax (pkN f j) cx, .slice Ay (pkN f j) cy], .bool true]) (by simp only [results]; go_simp; try simp) rfl ⟨_, _, _, _, lo1, hi1, lo2, hi2, rfl, E1, E2, by omega, by omega, hd12, (by repeat (first | with_reducible exact Up.refl _ | with_reducible refine Up.alloc ?_ _ | with_reducible refine Up.drew ?_ | with_reducible refine Up.drewN ?_ _ | (with_reducible refine Up.setCell ?_ (by first | omega | (simp; done) | (simp; omega)) _) | with_reducible assumption | (with_reducible refine Up.trans ?_ (by with_reducible assumption))))⟩
end Go.Proofs.Ytlpbmdoggcclpaa
