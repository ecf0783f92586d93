/- The walk of cornersFrom. No condition. -/
import Derived.Test.YtaealkfnhhmmcaaCf0
import Derived.Test.YtaealkfnhhmmcaaSlT
import Derived.Test.YtaealkfnhhmmcaaJm
namespace Go.Proofs.Ytaealkfnhhmmcaa
open Go.RowKit
set_option linter.unusedVariables false
theorem Thr_info : (Try.prog.info? 29).map (fun i => (i.zero, i.size, i.bytes)) = some (some (.agg #[.int .i64 0, .int .i64 0, .int .i64 0, .int .i64 0]), 4, 32) := by kernel_rfl
set_option maxHeartbeats 2000000 in
set_option maxRecDepth 100000 in
theorem cornersFrom_any (u : Value) (n i lo hi : Nat) (R : Nat → Nat → Int) (w : World) (hs : Sl w lo hi 4 u n (intF R)) (hn : n ≤ 20) (hin : i < n) : Calls Try.prog 33 #[u, .int .i64 (i : Int)] w (ToP w 4 (cf R n i).length (thF (cf R n i))) := by
  have HS := Lib.hid hs
  obtain ⟨h0, A, c, rfl, hc, hx⟩ := hs
  obtain ⟨i0, hi0, hz0, hz1, hz2⟩ := info_parts Thr_info
  have H := Lib.hid hx
  clear hx
  go_enter Try.func33, Try.ntmps33
  go_wp2
  go_loopw [5, 6] (fun t kk wr => ∃ kN : Nat, kk = .int .i64 (kN : Int) ∧ i + 1 ≤ kN ∧ kN ≤ n ∧ Hid (wr.ownsRow w.heap.size 29 4 t (ck R n i kN).length (flat 4 (thF (ck R n i kN)) (ck R n i kN).length)) ∧ Up w wr) (fun _ kk _ => n - (intOf kk).toNat)
  case atStart => exact ⟨i + 1, by rfl, by omega, by omega, by rw [ck_low R n (Nat.le_refl _)]; exact World.ownsRow_nil _ _ _ _, (by repeat (first | with_reducible exact Up.refl _ | with_reducible refine Up.alloc ?_ _ | with_reducible refine Up.drew ?_ | with_reducible refine Up.drewN ?_ _ | (with_reducible refine Up.setCell ?_ (by first | omega | (simp; done) | (simp; omega)) _) | with_reducible assumption | (with_reducible refine Up.trans ?_ (by with_reducible assumption))))⟩
  case round =>
    obtain ⟨kN, rfl, hk0, hkn, hok, hupk⟩ := hrel
    by_cases hk1 : kN < n
    · have hk2 : (kN : Int) < (n : Int) := by omega
      go_wp2
      go_loopw [5, 7] (fun t mm wr => ∃ mN : Nat, mm = .int .i64 (mN : Int) ∧ kN + 1 ≤ mN ∧ mN ≤ n ∧ Hid (wr.ownsRow w.heap.size 29 4 t (ck R n i kN ++ cm R n i kN mN).length (flat 4 (thF (ck R n i kN ++ cm R n i kN mN)) (ck R n i kN ++ cm R n i kN mN).length)) ∧ Up w wr) (fun _ mm _ => n - (intOf mm).toNat)
      case atStart => exact ⟨kN + 1, by rfl, by omega, by omega, by rw [cm_low R n (Nat.le_refl _), List.append_nil]; exact hok, hupk⟩
      case round =>
        clear hok hupk
        obtain ⟨mN, rfl, hm0, hmn, ho, hup⟩ := hrel
        by_cases hm1 : mN < n
        · obtain ⟨b, o, rfl, hb1, hb2, hcs⟩ := H.out (by omega)
          have hz := hup.size
          have hcell : ∀ x j, x < n → j < 4 → wr.cell? ⟨b, o + x * 4 + j, none⟩ = some (.int .i64 (R x j)) := fun x j hx hj => (hup.cells.1 _ _ (by omega)).trans (by rw [Nat.add_assoc]; exact hcs x j hx hj)
          have a0 : wr.cell? ⟨b, o + i * 4, none⟩ = some (.int .i64 (R i 0)) := hcell i 0 hin (by omega)
          have a1 := hcell i 1 hin (by omega)
          have a2 := hcell i 2 hin (by omega)
          have a3 := hcell i 3 hin (by omega)
          have b0 : wr.cell? ⟨b, o + kN * 4, none⟩ = some (.int .i64 (R kN 0)) := hcell kN 0 hk1 (by omega)
          have b1 := hcell kN 1 hk1 (by omega)
          have b2 := hcell kN 2 hk1 (by omega)
          have b3 := hcell kN 3 hk1 (by omega)
          have c0 : wr.cell? ⟨b, o + mN * 4, none⟩ = some (.int .i64 (R mN 0)) := hcell mN 0 hm1 (by omega)
          have c1 := hcell mN 1 hm1 (by omega)
          have c2 := hcell mN 2 hm1 (by omega)
          have c3 := hcell mN 3 hm1 (by omega)
          have hbs : b < wr.heap.size := by omega
          have hm2 : (mN : Int) < (n : Int) := by omega
          have hi2 : (i : Int) < (n : Int) := by omega
          clear hcell hcs
          have HSS := HS.out.up hup
          have HW := Lib.hid HSS
          clear HSS
          have hC : ∀ W, Calls Try.prog 6 #[.agg #[.int .i64 (R i 0), .int .i64 (R i 1), .int .i64 (R i 2), .int .i64 (R i 3)], .agg #[.int .i64 (R kN 0), .int .i64 (R kN 1), .int .i64 (R kN 2), .int .i64 (R kN 3)], .agg #[.int .i64 (R mN 0), .int .i64 (R mN 1), .int .i64 (R mN 2), .int .i64 (R mN 3)]] W fun en w' => en = .returned (.tuple #[.agg #[.int .i64 (sol R i kN mN).1, .int .i64 (sol R i kN mN).2.1, .int .i64 (sol R i kN mN).2.2.1, .int .i64 (sol R i kN mN).2.2.2], .bool (sok R i kN mN)]) ∧ Up W w' := fun W => SolveRows_any _ _ _ _ _ _ _ _ _ _ _ _ W
          have hlen := ck_len R n i kN
          have hlen2 := cm_len R n i kN mN
          have hle3 : kN * n ≤ 20 * 20 := Nat.mul_le_mul (by omega) hn
          have hlen4 : (ck R n i kN ++ cm R n i kN mN).length ≤ 420 := by rw [List.length_append]; omega
          clear hlen hlen2 hle3
          obtain ⟨w0, rfl⟩ : ∃ w0 : World, w0 = wr := ⟨_, rfl⟩
          have HT : hit R n i kN mN = true → ck R n i kN ++ cm R n i kN (mN + 1) = (ck R n i kN ++ cm R n i kN mN) ++ [sol R i kN mN] := fun h => by rw [cm_t R n (by omega) h, List.append_assoc]
          have HF : hit R n i kN mN = false → ck R n i kN ++ cm R n i kN (mN + 1) = ck R n i kN ++ cm R n i kN mN := fun h => by rw [cm_f R n h]
          have HB : hit R n i kN mN = (sok R i kN mN && fal R n (sol R i kN mN)) := rfl
          obtain ⟨⟨s0, s1, s2, s3⟩, hS⟩ : ∃ s, s = sol R i kN mN := ⟨_, rfl⟩
          rw [← hS] at HB HT
          simp only [← hS] at hC
          clear hS
          generalize ck R n i kN ++ cm R n i kN mN = L at *
          generalize hL' : ck R n i kN ++ cm R n i kN (mN + 1) = L' at HT HF
          generalize sok R i kN mN = sb at *
          have tok1 : True := trivial
          go_wp2_with fail
          go_region_held3 (fun w' => (∀ b o, b < w0.heap.size → w'.cell? ⟨b, o, none⟩ = w0.cell? ⟨b, o, none⟩) ∧ w0.heap.size ≤ w'.heap.size) (repeat (first | with_reducible refine kp_drew ?_ | with_reducible refine kp_set ?_ (by first | omega | (simp; done) | (simp; omega)) | with_reducible refine kp_alloc ?_ _ | with_reducible assumption | with_reducible exact kp_start _ | with_reducible refine kp_up ?_ (by assumption))) (first | (go_at_call 6; clear tok1; (with_reducible refine (hC _).mono ?_); rintro e w1 ⟨rfl, hb1⟩; obtain ⟨hc1, hf1⟩ := hb1.cells; have hs1 := hb1.size; (try simp at hs1); (try have hs1_0a : w0.heap.size < w1.heap.size := by omega); (try have hs1_0a' : w0.heap.size ≤ w1.heap.size := by omega)))

          all_goals
            (first
              | (obtain ⟨W, hW⟩ : ∃ W : World, W = w1.alloc (.cells #[.int .i64 s0, .int .i64 s1, .int .i64 s2, .int .i64 s3] 29) := ⟨_, rfl⟩
                 obtain ⟨bx, hbx⟩ : ∃ bx : Nat, bx = w1.heap.size := ⟨_, rfl⟩
                 have p0 : W.cell? ⟨bx, 0, none⟩ = some (.int .i64 s0) := by rw [hW, hbx, World.cell?_alloc_mark]; rfl
                 have p1 : W.cell? ⟨bx, 1, none⟩ = some (.int .i64 s1) := by rw [hW, hbx, World.cell?_alloc_mark]; rfl
                 have p2 : W.cell? ⟨bx, 2, none⟩ = some (.int .i64 s2) := by rw [hW, hbx, World.cell?_alloc_mark]; rfl
                 have p3 : W.cell? ⟨bx, 3, none⟩ = some (.int .i64 s3) := by rw [hW, hbx, World.cell?_alloc_mark]; rfl
                 have hxl : bx < W.heap.size := by rw [hW, hbx]; simp
                 have hx0 : w0.heap.size ≤ bx := by rw [hbx]; omega
                 have hu0 : Up w0 W := by rw [hW]; exact (by repeat (first | with_reducible exact Up.refl _ | with_reducible refine Up.alloc ?_ _ | with_reducible refine Up.drew ?_ | with_reducible refine Up.drewN ?_ _ | (with_reducible refine Up.setCell ?_ (by first | omega | (simp; done) | (simp; omega)) _) | with_reducible assumption | (with_reducible refine Up.trans ?_ (by with_reducible assumption))))
                 rw [← hW, ← hbx]
                 clear hW hbx)
              | (obtain ⟨W, hW⟩ : ∃ W : World, W = (((w1.setCell ⟨w0.heap.size, 0, none⟩ (.int .i64 s0)).setCell ⟨w0.heap.size, 1, none⟩ (.int .i64 s1)).setCell ⟨w0.heap.size, 2, none⟩ (.int .i64 s2)).setCell ⟨w0.heap.size, 3, none⟩ (.int .i64 s3) := ⟨_, rfl⟩
                 have hz0 : w1.cell? ⟨w0.heap.size, 0, none⟩ = some (.int .i64 0) := (hb1.cells.1 _ _ (by simp)).trans (by simp [World.cell?_alloc_mark])
                 have hz1 : w1.cell? ⟨w0.heap.size, 1, none⟩ = some (.int .i64 0) := (hb1.cells.1 _ _ (by simp)).trans (by simp [World.cell?_alloc_mark])
                 have hz2 : w1.cell? ⟨w0.heap.size, 2, none⟩ = some (.int .i64 0) := (hb1.cells.1 _ _ (by simp)).trans (by simp [World.cell?_alloc_mark])
                 have hz3 : w1.cell? ⟨w0.heap.size, 3, none⟩ = some (.int .i64 0) := (hb1.cells.1 _ _ (by simp)).trans (by simp [World.cell?_alloc_mark])
                 have p0 : W.cell? ⟨w0.heap.size, 0, none⟩ = some (.int .i64 s0) := by rw [hW]; go_simp
                 have p1 : W.cell? ⟨w0.heap.size, 1, none⟩ = some (.int .i64 s1) := by rw [hW]; go_simp
                 have p2 : W.cell? ⟨w0.heap.size, 2, none⟩ = some (.int .i64 s2) := by rw [hW]; go_simp
                 have p3 : W.cell? ⟨w0.heap.size, 3, none⟩ = some (.int .i64 s3) := by rw [hW]; go_simp
                 have hxl : w0.heap.size < W.heap.size := by rw [hW]; simp; omega
                 have hx0 : w0.heap.size ≤ w0.heap.size := Nat.le_refl _
                 have hu0 : Up w0 W := by rw [hW]; exact (by repeat (first | with_reducible exact Up.refl _ | with_reducible refine Up.alloc ?_ _ | with_reducible refine Up.drew ?_ | with_reducible refine Up.drewN ?_ _ | (with_reducible refine Up.setCell ?_ (by first | omega | (simp; done) | (simp; omega)) _) | with_reducible assumption | (with_reducible refine Up.trans ?_ (by with_reducible assumption))))
                 rw [← hW]
                 obtain ⟨bx, hbx⟩ : ∃ bx : Nat, bx = w0.heap.size := ⟨_, rfl⟩
                 rw [← hbx] at p0 p1 p2 p3 hxl hx0
                 rw [← hbx]
                 clear hW hbx hz0 hz1 hz2 hz3))
          all_goals
            (clear hb1 hs1 hc1 hf1 hC
             have hup1 : Up w W := hup.trans hu0
             have ho1 := Lib.hid (own_up (w := w) ho.out hu0)
             have HW1 := HW.out.up hu0
             have HW := Lib.hid HW1
             clear HW1 ho
             cases sb with
             | false =>
               have hL := HF (by rw [HB]; rfl)
               clear HT HF HB
               subst hL
               go_wp2
               exact ⟨⟨mN + 1, by rfl, by omega, by omega, by rw [hL']; exact ho1, hup1⟩, by simp only [intOf]; omega⟩
             | true =>
               have hFA : ∀ W' l h U, Sl W' l h 4 U n (intF R) → Calls Try.prog 15 #[.agg #[.int .i64 s0, .int .i64 s1, .int .i64 s2, .int .i64 s3], U] W' fun e w' => e = .returned (.bool (fal R n (s0, s1, s2, s3))) ∧ Up W' w' := fun W' l h U hSl => FulfillsAll_any s0 s1 s2 s3 U n l h R W' hSl (by omega)
               cases hfa : fal R n (s0, s1, s2, s3) with
               | false =>
                 rw [hfa] at HB hFA
                 have hL := HF (by rw [HB]; rfl)
                 clear HT HF HB hfa
                 subst hL
                 go_wp2_with fail
                 (go_at_call 15; (with_reducible refine (hFA _ _ _ _ HW.out).mono ?_); rintro e w1 ⟨rfl, hb1⟩)
                 have ho2 := Lib.hid (own_up (w := w) ho1.out hb1)
                 go_wp2
                 exact ⟨⟨mN + 1, by rfl, by omega, by omega, by rw [hL']; exact ho2, hup1.trans hb1⟩, by simp only [intOf]; omega⟩
               | true =>
                 rw [hfa] at HB hFA
                 have hL := HT (by rw [HB]; rfl)
                 clear HT HF HB hfa
                 subst hL
                 go_wp2_with fail
                 (go_at_call 15; (with_reducible refine (hFA _ _ _ _ HW.out).mono ?_); rintro e w1 ⟨rfl, hb1⟩)
                 have ho2 := Lib.hid (own_up (w := w) ho1.out hb1)
                 have hup2 : Up w w1 := hup1.trans hb1
                 have q0 := (hb1.cells.1 _ 0 hxl).trans p0
                 have q1 := (hb1.cells.1 _ 1 hxl).trans p1
                 have q2 := (hb1.cells.1 _ 2 hxl).trans p2
                 have q3 := (hb1.cells.1 _ 3 hxl).trans p3
                 go_wp2_with (at_builtin; refine wpList_append_lies _ rfl (.tmp 48) (.tmp 50) 45 rfl w.heap.size 29 i0 _ 4 32 Try.underlying45 hi0 hz0 hz1 hz2 rfl (by omega) _ _ _ rfl (ho2.out.alloc _) ⟨w1.heap.size, 0, none⟩ 1 1 [.int .i64 s0, .int .i64 s1, .int .i64 s2, .int .i64 s3] rfl rfl (World.news_of_block (heap_alloc_new w1 _)) (by simp [Value.oneCell']) (by omega) (by simp only [maxLen]; omega) (by omega) (by have := hup2.size; simp; omega) (w1.heap.size + 1) (by simp) ?_; intro g cap w2 hown hgrow hat hlt)
                 have hu4 : Up w w2 := up_own (hup2.alloc _) (Nat.le_refl _) (ho2.out.alloc _) hgrow
                 have ho3 : w2.ownsRow w.heap.size 29 4 (.slice (some ⟨g, 0, none⟩) (L.length + 1) cap) (L ++ [(s0, s1, s2, s3)]).length (flat 4 (thF (L ++ [(s0, s1, s2, s3)])) (L ++ [(s0, s1, s2, s3)]).length) := by
                   rw [List.length_append, List.length_singleton, flat_th]; exact hown
                 have HO := Lib.hid ho3
                 clear hown hgrow hat hlt ho3
                 go_wp2
                 exact ⟨⟨mN + 1, by rfl, by omega, by omega, by rw [hL']; exact HO, hu4⟩, by simp only [intOf]; omega⟩)
        · have hkk : mN = n := by omega
          subst hkk
          have HRX := ho
          rw [← ck_s R mN (by omega)] at HRX
          clear ho
          go_wp2
          exact ⟨⟨kN + 1, by rfl, by omega, by omega, HRX, hup⟩, by simp only [intOf]; omega⟩
    · have hkk : kN = n := by omega
      subst hkk
      go_wp2
      go_ret
      exact ⟨_, rfl, Wr.of_own hok.out, hupk⟩
end Go.Proofs.Ytaealkfnhhmmcaa
