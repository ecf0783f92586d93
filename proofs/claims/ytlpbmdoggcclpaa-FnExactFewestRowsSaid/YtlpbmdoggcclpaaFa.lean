/- The walk of the program's FactorsOf. No condition. -/
import Derived.Test.YtlpbmdoggcclpaaFa0
namespace Go.Proofs.Ytlpbmdoggcclpaa
open Go.RowKit
set_option linter.unusedVariables false
theorem detR_any (p q r : R4) (w : World) : Calls Try.prog 90 #[.agg #[.int .i64 p.a, .int .i64 p.b, .int .i64 p.c, .int .i64 p.d], .agg #[.int .i64 q.a, .int .i64 q.b, .int .i64 q.c, .int .i64 q.d], .agg #[.int .i64 r.a, .int .i64 r.b, .int .i64 r.c, .int .i64 r.d]] w fun en w' => en = .returned (.int .i64 (drR p q r)) ∧ Up w w' := DetOfRows_any _ _ _ _ _ _ _ _ _ _ _ _ w
theorem rowsOk_four (p q r s : R4) (x cap : Nat) (w : World) (hr : RowsAt w x [p, q, r, s]) (hb : x < w.heap.size) :
    Calls Try.prog 52 #[.slice (some ⟨x, 0, none⟩) 4 cap] w fun e' w' => e' = .returned (.bool (p.ok && q.ok && r.ok && s.ok)) ∧ Up w w' := by
  have := rowsOk_any _ x cap w hr hb (by simp)
  rw [rowsB_four] at this
  exact this
/-- What ends in a slice of the own. -/
def SlP (w : World) (n : Nat) (f : Nat → Nat → Value) (e : Ending) (w' : World) : Prop := ∃ v, e = .returned v ∧ Wr w' w.heap.size w'.heap.size 1 v n f ∧ Up w w'
set_option maxHeartbeats 2000000 in
set_option maxRecDepth 100000 in
theorem FactorsOf_any (p q r s : R4) (w : World) : Calls Try.prog 83 #[.agg #[.int .i64 p.a, .int .i64 p.b, .int .i64 p.c, .int .i64 p.d], .agg #[.int .i64 q.a, .int .i64 q.b, .int .i64 q.c, .int .i64 q.d], .agg #[.int .i64 r.a, .int .i64 r.b, .int .i64 r.c, .int .i64 r.d], .agg #[.int .i64 s.a, .int .i64 s.b, .int .i64 s.c, .int .i64 s.d]] w (SlP w (faN p q r s) (intF (faR p q r s))) := by
  cases hok : (p.ok && q.ok && r.ok && s.ok) with
  | false =>
    rw [fa_f hok]
    go_enter Try.func83, Try.ntmps83
    go_wp2_with (first | (go_at_call 52; (with_reducible refine (rowsOk_four p q r s _ _ _ (rowsAt_four _ _ _ _ _ _ (by go_simp) (by go_simp) (by go_simp) (by go_simp) (by go_simp) (by go_simp) (by go_simp) (by go_simp) (by go_simp) (by go_simp) (by go_simp) (by go_simp) (by go_simp) (by go_simp) (by go_simp) (by go_simp)) (by simp)).mono ?_); rintro e w1 ⟨rfl, hb1⟩; obtain ⟨hc1, hf1⟩ := hb1.cells; have hl1 := hb1.lt; have hle1 := hb1.le; have hs1 := hb1.size; (try simp at hs1); (try have hs1a : w.heap.size < w1.heap.size := by omega); (try have hs1aa : w.heap.size ≤ w1.heap.size := by omega); (try have hs1b : w.heap.size + 1 < w1.heap.size := by omega); (try have hs1bb : w.heap.size + 1 ≤ w1.heap.size := by omega); (try have hs1c : w.heap.size + 1 + 1 < w1.heap.size := by omega); (try have hs1cc : w.heap.size + 1 + 1 ≤ w1.heap.size := by omega); (try have hs1d : w.heap.size + 1 + 1 + 1 < w1.heap.size := by omega); (try have hs1dd : w.heap.size + 1 + 1 + 1 ≤ w1.heap.size := by omega); (try have hs1L := Nat.lt_of_succ_le hs1); (try have hs1M := Nat.lt_of_succ_lt hs1L); (try have hs1N := Nat.lt_of_succ_lt hs1M); (try have hs1LE := Nat.le_of_lt hs1L); (try have hs1ME := Nat.le_of_lt hs1M)))
    go_ret
    exact ⟨_, rfl, Wr.nil _ _ _ _ _ (Nat.le_refl _), (by repeat (first | with_reducible exact Up.refl _ | with_reducible refine Up.alloc ?_ _ | with_reducible refine Up.drew ?_ | with_reducible refine Up.drewN ?_ _ | (with_reducible refine Up.setCell ?_ (by first | omega | (simp; done) | (simp; omega)) _) | with_reducible assumption | (with_reducible refine Up.trans ?_ (by with_reducible assumption))))⟩
  | true =>
    have hF : ∀ i, i < 4 → -60000 ≤ faV p q r s i ∧ faV p q r s i ≤ 60000 := fun i _ => faV_bd p q r s i
    have hgle := faG_le p q r s
    have hN0 := fun h => fa_g (p := p) (q := q) (r := r) (s := s) h
    have hN4 := fun h => fa_t (p := p) (q := q) (r := r) (s := s) hok h
    have hGG : faG p q r s = g4 (faV p q r s 0) (faV p q r s 1) (faV p q r s 2) (faV p q r s 3) := rfl
    have hSS : faS p q r s = sg4 (faV p q r s 0) (faV p q r s 1) (faV p q r s 2) (faV p q r s 3) := rfl
    have hRR : ∀ i j, faR p q r s i j = (faV p q r s i).tdiv (faS p q r s * (faG p q r s : Int)) := fun _ _ => rfl
    have hv0 : faV p q r s 0 = drR q r s := rfl
    have hv1 : faV p q r s 1 = -drR p r s := rfl
    have hv2 : faV p q r s 2 = drR p q s := rfl
    have hv3 : faV p q r s 3 = -drR p q r := rfl
    have b1 := drR_bd p r s
    have b3 := drR_bd p q r
    have hw1 : IntKind.i64.wrap (-drR p r s) = faV p q r s 1 := by rw [IntKind.wrap_i64, hv1]; omega
    have hw3 : IntKind.i64.wrap (-drR p q r) = faV p q r s 3 := by rw [IntKind.wrap_i64, hv3]; omega
    have hD0 : ∀ W, Calls Try.prog 90 #[.agg #[.int .i64 q.a, .int .i64 q.b, .int .i64 q.c, .int .i64 q.d], .agg #[.int .i64 r.a, .int .i64 r.b, .int .i64 r.c, .int .i64 r.d], .agg #[.int .i64 s.a, .int .i64 s.b, .int .i64 s.c, .int .i64 s.d]] W fun en w' => en = .returned (.int .i64 (faV p q r s 0)) ∧ Up W w' := fun W => detR_any q r s W
    have hD2 : ∀ W, Calls Try.prog 90 #[.agg #[.int .i64 p.a, .int .i64 p.b, .int .i64 p.c, .int .i64 p.d], .agg #[.int .i64 q.a, .int .i64 q.b, .int .i64 q.c, .int .i64 q.d], .agg #[.int .i64 s.a, .int .i64 s.b, .int .i64 s.c, .int .i64 s.d]] W fun en w' => en = .returned (.int .i64 (faV p q r s 2)) ∧ Up W w' := fun W => detR_any p q s W
    generalize faS p q r s = sg at *
    generalize faG p q r s = g at *
    generalize faV p q r s = F at *
    have HF := Lib.hid hF
    have HN0 := Lib.hid hN0
    have HN4 := Lib.hid hN4
    have HGG := Lib.hid hGG
    have HSS := Lib.hid hSS
    have HRR := Lib.hid hRR
    have n0 := hF 0 (by omega)
    have n1 := hF 1 (by omega)
    have n2 := hF 2 (by omega)
    have n3 := hF 3 (by omega)
    clear hF hN0 hN4 hGG hSS hRR hv0 hv1 hv2 hv3
    go_enter Try.func83, Try.ntmps83
    go_wp2_with (first | (go_at_call 52; (with_reducible refine (rowsOk_four p q r s _ _ _ (rowsAt_four _ _ _ _ _ _ (by go_simp) (by go_simp) (by go_simp) (by go_simp) (by go_simp) (by go_simp) (by go_simp) (by go_simp) (by go_simp) (by go_simp) (by go_simp) (by go_simp) (by go_simp) (by go_simp) (by go_simp) (by go_simp)) (by simp)).mono ?_); rintro e w1 ⟨rfl, hb1⟩; obtain ⟨hc1, hf1⟩ := hb1.cells; have hl1 := hb1.lt; have hle1 := hb1.le; have hs1 := hb1.size; (try simp at hs1); (try have hs1a : w.heap.size < w1.heap.size := by omega); (try have hs1aa : w.heap.size ≤ w1.heap.size := by omega); (try have hs1b : w.heap.size + 1 < w1.heap.size := by omega); (try have hs1bb : w.heap.size + 1 ≤ w1.heap.size := by omega); (try have hs1c : w.heap.size + 1 + 1 < w1.heap.size := by omega); (try have hs1cc : w.heap.size + 1 + 1 ≤ w1.heap.size := by omega); (try have hs1d : w.heap.size + 1 + 1 + 1 < w1.heap.size := by omega); (try have hs1dd : w.heap.size + 1 + 1 + 1 ≤ w1.heap.size := by omega); (try have hs1L := Nat.lt_of_succ_le hs1); (try have hs1M := Nat.lt_of_succ_lt hs1L); (try have hs1N := Nat.lt_of_succ_lt hs1M); (try have hs1LE := Nat.le_of_lt hs1L); (try have hs1ME := Nat.le_of_lt hs1M)))
    have hww : Up w w1 := (by repeat (first | with_reducible exact Up.refl _ | with_reducible refine Up.alloc ?_ _ | with_reducible refine Up.drew ?_ | with_reducible refine Up.drewN ?_ _ | (with_reducible refine Up.setCell ?_ (by first | omega | (simp; done) | (simp; omega)) _) | with_reducible assumption | (with_reducible refine Up.trans ?_ (by with_reducible assumption))))
    obtain ⟨w0, rfl⟩ : ∃ w0 : World, w0 = w1 := ⟨_, rfl⟩
    have tok1 : True := trivial
    have tok2 : True := trivial
    have tok3 : True := trivial
    have tok4 : True := trivial
    go_region_held3 (fun w' => (∀ b o, b < w0.heap.size → w'.cell? ⟨b, o, none⟩ = w0.cell? ⟨b, o, none⟩) ∧ w0.heap.size ≤ w'.heap.size) (repeat (first | with_reducible refine kp_drew ?_ | with_reducible refine kp_set ?_ (by first | omega | (simp; done) | (simp; omega)) | with_reducible refine kp_alloc ?_ _ | with_reducible assumption | with_reducible exact kp_start _ | with_reducible refine kp_up ?_ (by assumption))) (first | (go_at_call 90; clear tok1; (with_reducible refine (hD0 _).mono ?_); rintro e w1 ⟨rfl, hb1⟩; obtain ⟨hc1, hf1⟩ := hb1.cells; have hs1 := hb1.size; (try simp at hs1); (try have hs1_0a : w0.heap.size < w1.heap.size := by omega); (try have hs1_0a' : w0.heap.size ≤ w1.heap.size := by omega)) | (go_at_call 90; clear tok2; (with_reducible refine (detR_any p r s _).mono ?_); rintro e w2 ⟨rfl, hb2⟩; obtain ⟨hc2, hf2⟩ := hb2.cells; have hs2 := hb2.size; (try simp at hs2); (try have hs2_0a : w0.heap.size < w2.heap.size := by omega); (try have hs2_0a' : w0.heap.size ≤ w2.heap.size := by omega); (try have hs2_1a : w1.heap.size < w2.heap.size := by omega); (try have hs2_1a' : w1.heap.size ≤ w2.heap.size := by omega)) | (go_at_call 90; clear tok3; (with_reducible refine (hD2 _).mono ?_); rintro e w3 ⟨rfl, hb3⟩; obtain ⟨hc3, hf3⟩ := hb3.cells; have hs3 := hb3.size; (try simp at hs3); (try have hs3_0a : w0.heap.size < w3.heap.size := by omega); (try have hs3_0a' : w0.heap.size ≤ w3.heap.size := by omega); (try have hs3_1a : w1.heap.size < w3.heap.size := by omega); (try have hs3_1a' : w1.heap.size ≤ w3.heap.size := by omega); (try have hs3_2a : w2.heap.size < w3.heap.size := by omega); (try have hs3_2a' : w2.heap.size ≤ w3.heap.size := by omega)) | (go_at_call 90; clear tok4; (with_reducible refine (detR_any p q r _).mono ?_); rintro e w4 ⟨rfl, hb4⟩; obtain ⟨hc4, hf4⟩ := hb4.cells; have hs4 := hb4.size; (try simp at hs4); (try have hs4_0a : w0.heap.size < w4.heap.size := by omega); (try have hs4_0a' : w0.heap.size ≤ w4.heap.size := by omega); (try have hs4_1a : w1.heap.size < w4.heap.size := by omega); (try have hs4_1a' : w1.heap.size ≤ w4.heap.size := by omega); (try have hs4_2a : w2.heap.size < w4.heap.size := by omega); (try have hs4_2a' : w2.heap.size ≤ w4.heap.size := by omega); (try have hs4_3a : w3.heap.size < w4.heap.size := by omega); (try have hs4_3a' : w3.heap.size ≤ w4.heap.size := by omega)))
    have hu4 : Up w w4 := hww.trans (Up.trans (Up.trans (Up.trans (Up.drew (Up.refl w0)) hb1) hb2) (hb3.trans hb4))
    have hle4 : w.heap.size ≤ w4.heap.size := hu4.size
    clear hc1 hf1 hc2 hf2 hc3 hf3 hc4 hf4 hw1 hw3 hD0 hD2
    obtain ⟨wg, hWG⟩ : ∃ wg : World, wg = w4.alloc (.cells #[.int .i64 (F 0), .int .i64 (F 1), .int .i64 (F 2), .int .i64 (F 3)] 3) := ⟨_, rfl⟩
    rw [← hWG]
    have c0 : wg.cell? ⟨w4.heap.size, 0, none⟩ = some (.int .i64 (F 0)) := by rw [hWG]; go_simp
    have c1 : wg.cell? ⟨w4.heap.size, 1, none⟩ = some (.int .i64 (F 1)) := by rw [hWG]; go_simp
    have c2 : wg.cell? ⟨w4.heap.size, 2, none⟩ = some (.int .i64 (F 2)) := by rw [hWG]; go_simp
    have c3 : wg.cell? ⟨w4.heap.size, 3, none⟩ = some (.int .i64 (F 3)) := by rw [hWG]; go_simp
    have cf : ∀ o, wg.frozen? ⟨w4.heap.size, o, none⟩ = false := fun o => by rw [hWG]; go_simp
    have hug : Up w wg := by rw [hWG]; exact (by repeat (first | with_reducible exact Up.refl _ | with_reducible refine Up.alloc ?_ _ | with_reducible refine Up.drew ?_ | with_reducible refine Up.drewN ?_ _ | (with_reducible refine Up.setCell ?_ (by first | omega | (simp; done) | (simp; omega)) _) | with_reducible assumption | (with_reducible refine Up.trans ?_ (by with_reducible assumption))))
    have hgl : w4.heap.size < wg.heap.size := by rw [hWG]; simp
    clear hWG
    generalize w4.heap.size = h at *
    go_wp2_with fail
    (go_at_call 64; (with_reducible refine (commonDivisor_four _ _ _ _ _ _ _ c0 c1 c2 c3 (by omega) (by omega) (by omega) (by omega) hgl).mono ?_); rintro e w5 ⟨rfl, hb5⟩)
    have d0 := (hb5.cells.1 _ 0 hgl).trans c0
    have d1 := (hb5.cells.1 _ 1 hgl).trans c1
    have d2 := (hb5.cells.1 _ 2 hgl).trans c2
    have d3 := (hb5.cells.1 _ 3 hgl).trans c3
    have df : ∀ o, w5.frozen? ⟨h, o, none⟩ = false := fun o => (hb5.cells.2 _ o hgl).trans (cf o)
    have hu5 : Up w w5 := hug.trans hb5
    have hl5 : h < w5.heap.size := Nat.lt_of_lt_of_le hgl hb5.size
    have hcell : ∀ j, j < 4 → w5.cell? ⟨h, j, none⟩ = some (.int .i64 (F j)) := fun j hj => by
      match j, hj with
      | 0, _ => exact d0
      | 1, _ => exact d1
      | 2, _ => exact d2
      | 3, _ => exact d3
    rw [← HGG.out]
    have HC := Lib.hid hcell
    have HDF := Lib.hid df
    clear c0 c1 c2 c3 cf hug hgl hb5 d0 d1 d2 d3 df hcell
    by_cases hg0 : g = 0
    · have e0 := HN0.out hg0
      have E0 := Lib.hid e0
      clear e0
      subst hg0
      go_wp2
      go_ret
      exact ⟨.slice none 0 0, rfl, by rw [E0.out]; exact Wr.nil _ _ _ _ _ (Nat.le_refl _), hu5⟩
    have e4 := HN4.out hg0
    have E4 := Lib.hid e4
    have hgi : ¬ (g : Int) = 0 := by omega
    have hgb : ((g : Int) == 0) = false := by simpa using hgi
    clear e4
    go_wp2_with fail
    go_loop [10, 46] (fun d i => ∃ j : Nat, i = .int .i64 (j : Int) ∧ j ≤ 4 ∧ d = .int .i64 (g : Int) ∧ Hid (∀ k, k < j → F k = 0)) (fun _ i => 4 - (intOf i).toNat)
    case atStart => exact ⟨0, rfl, Nat.zero_le _, rfl, fun k hk => absurd hk (Nat.not_lt_zero _)⟩
    case round =>
      obtain ⟨j, rfl, hj, rfl, hz⟩ := hrel
      by_cases hj4 : j < 4
      rotate_left
      · exfalso
        have hj4' : j = 4 := by omega
        subst hj4'
        have z0 := hz.out 0 (by omega)
        have z1 := hz.out 1 (by omega)
        have z2 := hz.out 2 (by omega)
        have z3 := hz.out 3 (by omega)
        have hGG := HGG.out
        rw [z0, z1, z2, z3] at hGG
        exact hg0 (hGG.trans (by decide))
      have hcj := HC.out j hj4
      have hj5 : (j : Int) < 4 := by omega
      by_cases hFj : F j = 0
      · have hz2 : Hid (∀ k, k < j + 1 → F k = 0) := fun k hk => by
          by_cases hkj : k = j
          · rw [hkj]; exact hFj
          · exact hz.out k (by omega)
        rw [hFj] at hcj
        clear hFj
        go_wp2
        exact ⟨⟨j + 1, by rfl, by omega, rfl, hz2⟩, by simp only [intOf]; omega⟩
      · have hsg : sg = if F j < 0 then -1 else 1 := by
          rw [HSS.out]
          unfold sg4
          have hz' := hz.out
          match j, hj4 with
          | 0, _ => rw [if_pos hFj]
          | 1, _ => rw [if_neg (by simp [hz' 0 (by omega)]), if_pos hFj]
          | 2, _ => rw [if_neg (by simp [hz' 0 (by omega)]), if_neg (by simp [hz' 1 (by omega)]), if_pos hFj]
          | 3, _ => rw [if_neg (by simp [hz' 0 (by omega)]), if_neg (by simp [hz' 1 (by omega)]), if_neg (by simp [hz' 2 (by omega)]), if_pos hFj]
        obtain ⟨X, hX⟩ : ∃ X, F j = X := ⟨_, rfl⟩
        rw [hX] at hFj hsg hcj
        have hFb : (X != 0) = true := by simpa using hFj
        have hRV : Hid (∀ i, i < 4 → ∀ jj, jj < 1 → .int .i64 ((F i).tdiv (sg * (g : Int))) = intF (faR p q r s) i jj) := fun i hi jj hjj => by
          simp only [intF]; rw [HRR.out]
        have hne : ¬ sg * (g : Int) = 0 := by rw [hsg]; split <;> omega
        have hEb : -60000 ≤ sg * (g : Int) ∧ sg * (g : Int) ≤ 60000 := by rw [hsg]; split <;> omega
        have HSG := Lib.hid hsg
        clear hX hsg hz
        by_cases hX0 : X < 0
        · have hE : -(g : Int) = sg * (g : Int) := by rw [HSG.out, if_pos hX0]; omega
          have HE := Lib.hid hE
          clear hE
          generalize sg * (g : Int) = e at hRV hne hEb HE
          go_wp2_with fail
          go_loopw [59] (fun i wr => ∃ j : Nat, i = .int .i64 (j : Int) ∧ j ≤ 4 ∧ Hid (∀ k, k < 4 → wr.cell? ⟨h, k, none⟩ = some (.int .i64 (if k < j then (F k).tdiv (-(g : Int)) else F k))) ∧ Hid (∀ o, wr.frozen? ⟨h, o, none⟩ = false) ∧ h < wr.heap.size ∧ Up w wr) (fun i _ => 4 - (intOf i).toNat)
          case atStart => exact ⟨0, rfl, Nat.zero_le _, fun k hk => by rw [if_neg (by omega)]; exact HC.out k hk, HDF, hl5, hu5⟩
          case round =>
            obtain ⟨j, rfl, hj, hcs, hfs, hlr, hur⟩ := hrel
            by_cases hj4 : j < 4
            · have hcj2 := hcs.out j hj4
              rw [if_neg (by omega)] at hcj2
              have hfj := hfs.out j
              have hj5 : (j : Int) < 4 := by omega
              have hbd := HF.out j hj4
              have htd := tdiv_le (d := (-(g : Int))) hbd.1 hbd.2
              have hwt : IntKind.i64.wrap ((F j).tdiv (-(g : Int))) = (F j).tdiv (-(g : Int)) := by rw [IntKind.wrap_i64]; omega
              generalize hQ : (F j).tdiv (-(g : Int)) = Q at htd hwt
              have HQ := Lib.hid hQ
              have hQQ : (F j).tdiv (-(g : Int)) = Q := hQ
              clear hQ hbd
              go_wp2
              refine ⟨⟨j + 1, by rfl, by omega, fun k hk => ?_, fun o => by rw [World.frozen?_setCell]; exact hfs.out o, by simpa [World.setCell] using hlr, hur.setCell hle4 _⟩, by simp only [intOf]; omega⟩
              by_cases hkj : k = j
              · subst hkj
                rw [if_pos (by omega), HQ.out]
                exact World.cell?_setCell_same' _ _ _ (by rw [hcj2]; rfl)
              · rw [World.cell?_setCell_other _ _ _ _ (by simp <;> omega), hcs.out k hk]
                by_cases hkl : k < j
                · rw [if_pos hkl, if_pos (by omega)]
                · rw [if_neg hkl, if_neg (by omega)]
            · have hj4' : j = 4 := by omega
              subst hj4'
              go_wp2
              go_ret
              refine ⟨.slice (some ⟨h, 0, none⟩) 4 4, rfl, ?_, hur⟩
              rw [E4.out]
              refine ⟨Nat.le_refl _, _, 4, rfl, Nat.le_refl _, fun _ => ⟨h, rfl, hle4, hlr, fun i jj hi hjj => ?_, hfs.out⟩⟩
              rw [← hRV.out i hi jj hjj]
              have := hcs.out i hi
              rw [if_pos hi] at this
              have hz0 : jj = 0 := by omega
              subst hz0
              simpa [HE.out] using this
        · have hE : (g : Int) = sg * (g : Int) := by rw [HSG.out, if_neg hX0]; omega
          have HE := Lib.hid hE
          clear hE
          generalize sg * (g : Int) = e at hRV hne hEb HE
          go_wp2_with fail
          go_loopw [59] (fun i wr => ∃ j : Nat, i = .int .i64 (j : Int) ∧ j ≤ 4 ∧ Hid (∀ k, k < 4 → wr.cell? ⟨h, k, none⟩ = some (.int .i64 (if k < j then (F k).tdiv (g : Int) else F k))) ∧ Hid (∀ o, wr.frozen? ⟨h, o, none⟩ = false) ∧ h < wr.heap.size ∧ Up w wr) (fun i _ => 4 - (intOf i).toNat)
          case atStart => exact ⟨0, rfl, Nat.zero_le _, fun k hk => by rw [if_neg (by omega)]; exact HC.out k hk, HDF, hl5, hu5⟩
          case round =>
            obtain ⟨j, rfl, hj, hcs, hfs, hlr, hur⟩ := hrel
            by_cases hj4 : j < 4
            · have hcj2 := hcs.out j hj4
              rw [if_neg (by omega)] at hcj2
              have hfj := hfs.out j
              have hj5 : (j : Int) < 4 := by omega
              have hbd := HF.out j hj4
              have htd := tdiv_le (d := (g : Int)) hbd.1 hbd.2
              have hwt : IntKind.i64.wrap ((F j).tdiv (g : Int)) = (F j).tdiv (g : Int) := by rw [IntKind.wrap_i64]; omega
              generalize hQ : (F j).tdiv (g : Int) = Q at htd hwt
              have HQ := Lib.hid hQ
              have hQQ : (F j).tdiv (g : Int) = Q := hQ
              clear hQ hbd
              go_wp2
              refine ⟨⟨j + 1, by rfl, by omega, fun k hk => ?_, fun o => by rw [World.frozen?_setCell]; exact hfs.out o, by simpa [World.setCell] using hlr, hur.setCell hle4 _⟩, by simp only [intOf]; omega⟩
              by_cases hkj : k = j
              · subst hkj
                rw [if_pos (by omega), HQ.out]
                exact World.cell?_setCell_same' _ _ _ (by rw [hcj2]; rfl)
              · rw [World.cell?_setCell_other _ _ _ _ (by simp <;> omega), hcs.out k hk]
                by_cases hkl : k < j
                · rw [if_pos hkl, if_pos (by omega)]
                · rw [if_neg hkl, if_neg (by omega)]
            · have hj4' : j = 4 := by omega
              subst hj4'
              go_wp2
              go_ret
              refine ⟨.slice (some ⟨h, 0, none⟩) 4 4, rfl, ?_, hur⟩
              rw [E4.out]
              refine ⟨Nat.le_refl _, _, 4, rfl, Nat.le_refl _, fun _ => ⟨h, rfl, hle4, hlr, fun i jj hi hjj => ?_, hfs.out⟩⟩
              rw [← hRV.out i hi jj hjj]
              have := hcs.out i hi
              rw [if_pos hi] at this
              have hz0 : jj = 0 := by omega
              subst hz0
              simpa [HE.out] using this
end Go.Proofs.Ytlpbmdoggcclpaa
