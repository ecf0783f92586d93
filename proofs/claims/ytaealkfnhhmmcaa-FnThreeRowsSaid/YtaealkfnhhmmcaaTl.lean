/- What CornersOf does behind the join, in a lone run. No condition. Printed by wip/gentl.py. -/
import Derived.Test.YtaealkfnhhmmcaaHas
import Derived.Test.YtaealkfnhhmmcaaSpw
namespace Go.Proofs.Ytaealkfnhhmmcaa
open Go.RowKit
set_option linter.unusedVariables false
/-- The lists, one behind the other. -/
def catL (Ls : Nat → List T4) : Nat → List T4
  | 0 => []
  | i + 1 => catL Ls i ++ Ls i
theorem ca_cat (R : Nat → Nat → Int) (n : Nat) : ∀ i, ca R n i = catL (cf R n) i
  | 0 => rfl
  | i + 1 => by rw [ca, catL, ca_cat R n i]
theorem catL_len {Ls : Nat → List T4} {n : Nat} (h : ∀ i, i < n → (Ls i).length ≤ 400) : ∀ i, i ≤ n → (catL Ls i).length ≤ i * 400
  | 0, _ => by simp [catL]
  | i + 1, hi => by
    have h1 := catL_len h i (by omega)
    have h2 := h i (by omega)
    rw [catL, List.length_append]
    omega
/-- The slots behind the join. -/
def tmpT (F : Nat) : Array Value := #[undef, undef, .slice none 0 0, .pointer (some ⟨F, 0, none⟩), undef, undef, undef, undef, undef, undef, undef, undef, undef, undef, undef, undef, undef, undef, undef, undef, undef, undef, undef, undef, undef, undef, undef, undef, undef, undef, undef, undef, undef, undef, undef, undef, undef, undef, undef, undef, undef, undef, undef, undef, undef, undef, undef, undef, undef, undef, undef, undef, undef, undef, undef]
/-- The list behind i rows and m thrusts. -/
def acT (Ls : Nat → List T4) (i m : Nat) : List T4 := ddp [] (catL Ls i ++ (Ls i).take m)
theorem acT_len {Ls : Nat → List T4} {n : Nat} (hn : n ≤ 20) (h : ∀ i, i < n → (Ls i).length ≤ 400) {i m : Nat} (hi : i < n) : (acT Ls i m).length ≤ 9000 := by
  have h1 := ddp_len (catL Ls i ++ (Ls i).take m) []
  have h2 := catL_len h i (by omega)
  have h3 := h i hi
  have h4 : ((Ls i).take m).length ≤ (Ls i).length := by rw [List.length_take]; exact Nat.min_le_right _ _
  rw [acT]
  simp only [List.length_append, List.length_nil] at h1
  omega
theorem acT_0 (Ls : Nat → List T4) (i : Nat) : acT Ls i 0 = ddp [] (catL Ls i) := by rw [acT, List.take_zero, List.append_nil]
theorem acT_s (Ls : Nat → List T4) {i m : Nat} (h : m < (Ls i).length) : acT Ls i (m + 1) = addN (acT Ls i m) ((Ls i).getD m (0, 0, 0, 0)) := by
  rw [acT, acT, List.take_add_one, List.getElem?_eq_getElem h, ← List.append_assoc, ddp_app, List.getD_eq_getElem?_getD, List.getElem?_eq_getElem h]
  rfl
theorem acT_e (Ls : Nat → List T4) (i : Nat) : acT Ls i (Ls i).length = ddp [] (catL Ls (i + 1)) := by rw [acT, List.take_length, catL]
set_option maxHeartbeats 4000000 in
set_option maxRecDepth 100000 in
theorem tail_any (n F C : Nat) (Ls : Nat → List T4) (v : Nat → Value) (w : World) (hF : w.cell? ⟨F, 0, none⟩ = some (.slice (some ⟨C, 0, none⟩) n n)) (hC : ∀ i, i < n → w.cell? ⟨C, i, none⟩ = some (v i))
    (hv : ∀ i, i < n → Sl w 0 w.heap.size 4 (v i) (Ls i).length (thF (Ls i))) (hlen : ∀ i, i < n → (Ls i).length ≤ 400) (hn : n ≤ 20) (hFl : F < w.heap.size) (hCl : C < w.heap.size) {Q : Ending → World → Prop} (hQ : ∀ v wr, Wr wr w.heap.size wr.heap.size 4 v (ddp [] (catL Ls n)).length (thF (ddp [] (catL Ls n))) → Up w wr → Q (.returned v) wr) :
    R12.wp Try.prog (bodyPost Try.prog Try.f14 Q) ⟨tmpT F, []⟩ w := by
  obtain ⟨i0, hi0, hz0, hz1, hz2⟩ := info_parts Thr_info
  have HC := Lib.hid hC
  have HV := Lib.hid hv
  have HLN := Lib.hid hlen
  clear hC hv hlen
  have HQ := Lib.hid hQ
  clear hQ
  generalize hfn : Try.f14 = fn
  simp only [R12, R11, body7, Try.f14, Option.getD_some]
  subst hfn
  unfold tmpT
  go_wp2
  go_loopw [6, 34] (fun t ii wr => ∃ iN : Nat, ii = .int .i64 (iN : Int) ∧ iN ≤ n ∧ Hid (wr.ownsRow w.heap.size 29 4 t (ddp [] (catL Ls iN)).length (flat 4 (thF (ddp [] (catL Ls iN))) (ddp [] (catL Ls iN)).length)) ∧ Up w wr) (fun _ ii _ => n - (intOf ii).toNat)
  case atStart => exact ⟨0, by rfl, by omega, World.ownsRow_nil _ _ _ _, (by repeat (first | with_reducible exact Up.refl _ | with_reducible refine Up.alloc ?_ _ | with_reducible refine Up.drew ?_ | with_reducible refine Up.drewN ?_ _ | (with_reducible refine Up.setCell ?_ (by first | omega | (simp; done) | (simp; omega)) _) | with_reducible assumption | (with_reducible refine Up.trans ?_ (by with_reducible assumption))))⟩
  case round =>
    obtain ⟨iN, rfl, hin, hoi, hupi⟩ := hrel
    by_cases hi1 : iN < n
    · have hi2 : (iN : Int) < (n : Int) := by omega
      obtain ⟨_, A, c, hve, hc, hx⟩ := HV.out iN hi1
      have H := Lib.hid hx
      clear hx
      have hci : wr.cell? ⟨C, iN, none⟩ = some (.slice A (Ls iN).length c) := by rw [← hve]; exact (hupi.cells.1 _ _ hCl).trans (HC.out iN hi1)
      clear hve
      have hl4 := HLN.out iN hi1
      obtain ⟨N, hN⟩ : ∃ N, N = (Ls iN).length := ⟨_, rfl⟩
      rw [← hN] at hci hc hl4
      have hCw : C < wr.heap.size := Nat.lt_of_lt_of_le hCl hupi.size
      have HN := Lib.hid hN
      clear hN
      go_wp2
      go_loopw [6, 40] (fun t mm wr => ∃ mN : Nat, mm = .int .i64 (mN : Int) ∧ mN ≤ N ∧ Hid (wr.ownsRow w.heap.size 29 4 t (acT Ls iN mN).length (flat 4 (thF (acT Ls iN mN)) (acT Ls iN mN).length)) ∧ Up w wr) (fun _ mm _ => N - (intOf mm).toNat)
      case atStart => exact ⟨0, by rfl, by omega, by rw [acT_0]; exact hoi, hupi⟩
      case round =>
        clear hoi hupi hci hCw
        obtain ⟨mN, rfl, hmn, ho, hup⟩ := hrel
        by_cases hm1 : mN < N
        · have hm2 : (mN : Int) < (N : Int) := by omega
          obtain ⟨b, o, rfl, hb1, hb2, hcs⟩ := H.out (by rw [← HN.out]; omega)
          have hbs2 : b < wr.heap.size := Nat.lt_of_lt_of_le hb2 hup.size
          have hml : mN < (Ls iN).length := by rw [← HN.out]; exact hm1
          have hg0 : wr.cell? ⟨b, o + mN * 4, none⟩ = some (.int .i64 (t4 ((Ls iN).getD mN (0, 0, 0, 0)) 0)) := (hup.cells.1 _ _ hb2).trans (hcs mN 0 hml (by omega))
          have hg1 : wr.cell? ⟨b, o + mN * 4 + 1, none⟩ = some (.int .i64 (t4 ((Ls iN).getD mN (0, 0, 0, 0)) 1)) := (hup.cells.1 _ _ hb2).trans (hcs mN 1 hml (by omega))
          have hg2 : wr.cell? ⟨b, o + mN * 4 + 2, none⟩ = some (.int .i64 (t4 ((Ls iN).getD mN (0, 0, 0, 0)) 2)) := (hup.cells.1 _ _ hb2).trans (hcs mN 2 hml (by omega))
          have hg3 : wr.cell? ⟨b, o + mN * 4 + 3, none⟩ = some (.int .i64 (t4 ((Ls iN).getD mN (0, 0, 0, 0)) 3)) := (hup.cells.1 _ _ hb2).trans (hcs mN 3 hml (by omega))
          have HS := Lib.hid (acT_s Ls hml)
          have hL9 := acT_len hn HLN.out hi1 (m := mN)
          clear hcs hml
          generalize hL' : acT Ls iN (mN + 1) = L' at HS
          generalize acT Ls iN mN = L at *
          generalize (Ls iN).getD mN (0, 0, 0, 0) = x at *
          obtain ⟨s0, s1, s2, s3⟩ := x
          simp only [t4] at hg0 hg1 hg2 hg3
          have hHas : ∀ W, Sl W w.heap.size wr.heap.size 4 u6 L.length (thF L) → Calls Try.prog 35 #[u6, .agg #[.int .i64 s0, .int .i64 s1, .int .i64 s2, .int .i64 s3]] W fun e w' => e = .returned (.bool (L.contains (s0, s1, s2, s3))) ∧ Up W w' := fun W h => Contains_any L (s0, s1, s2, s3) _ _ _ _ W rfl h (by omega)
          have hSl := (Wr.of_own ho.out).sl
          have HSL := Lib.hid hSl
          clear hSl
          cases hct : L.contains (s0, s1, s2, s3) with
          | true =>
            rw [hct] at hHas
            have hL := HS.out.trans (addN_t hct)
            clear hct HS
            subst hL
            go_wp2_with fail
            (go_at_call 35; (with_reducible refine (hHas _ (HSL.out.up (by repeat (first | with_reducible exact Up.refl _ | with_reducible refine Up.alloc ?_ _ | with_reducible refine Up.drew ?_ | with_reducible refine Up.drewN ?_ _ | (with_reducible refine Up.setCell ?_ (by first | omega | (simp; done) | (simp; omega)) _) | with_reducible assumption | (with_reducible refine Up.trans ?_ (by with_reducible assumption)))))).mono ?_); rintro e w1 ⟨rfl, hb1⟩)
            have hu1 : Up wr w1 := (by repeat (first | with_reducible exact Up.refl _ | with_reducible refine Up.alloc ?_ _ | with_reducible refine Up.drew ?_ | with_reducible refine Up.drewN ?_ _ | (with_reducible refine Up.setCell ?_ (by first | omega | (simp; done) | (simp; omega)) _) | with_reducible assumption | (with_reducible refine Up.trans ?_ (by with_reducible assumption))))
            have ho2 := Lib.hid (own_up (w := w) ho.out hu1)
            go_wp2
            exact ⟨⟨mN + 1, by rfl, by omega, by rw [hL']; exact ho2, hup.trans hu1⟩, by simp only [intOf]; omega⟩
          | false =>
            rw [hct] at hHas
            have hL := HS.out.trans (addN_f hct)
            clear hct HS
            go_wp2_with fail
            (go_at_call 35; (with_reducible refine (hHas _ (HSL.out.up (by repeat (first | with_reducible exact Up.refl _ | with_reducible refine Up.alloc ?_ _ | with_reducible refine Up.drew ?_ | with_reducible refine Up.drewN ?_ _ | (with_reducible refine Up.setCell ?_ (by first | omega | (simp; done) | (simp; omega)) _) | with_reducible assumption | (with_reducible refine Up.trans ?_ (by with_reducible assumption)))))).mono ?_); rintro e w1 ⟨rfl, hb1⟩)
            have hu1 : Up wr w1 := (by repeat (first | with_reducible exact Up.refl _ | with_reducible refine Up.alloc ?_ _ | with_reducible refine Up.drew ?_ | with_reducible refine Up.drewN ?_ _ | (with_reducible refine Up.setCell ?_ (by first | omega | (simp; done) | (simp; omega)) _) | with_reducible assumption | (with_reducible refine Up.trans ?_ (by with_reducible assumption))))
            have hupw : Up w w1 := hup.trans hu1
            have ho3 := Lib.hid (own_up (w := w) ho.out hu1)
            have q0 : w1.cell? ⟨wr.heap.size, 0, none⟩ = some (.int .i64 s0) := (hb1.cells.1 _ _ (by simp)).trans (by simp [World.cell?_alloc_mark])
            have q1 : w1.cell? ⟨wr.heap.size, 1, none⟩ = some (.int .i64 s1) := (hb1.cells.1 _ _ (by simp)).trans (by simp [World.cell?_alloc_mark])
            have q2 : w1.cell? ⟨wr.heap.size, 2, none⟩ = some (.int .i64 s2) := (hb1.cells.1 _ _ (by simp)).trans (by simp [World.cell?_alloc_mark])
            have q3 : w1.cell? ⟨wr.heap.size, 3, none⟩ = some (.int .i64 s3) := (hb1.cells.1 _ _ (by simp)).trans (by simp [World.cell?_alloc_mark])
            go_wp2_with (at_builtin; refine wpList_append_lies _ rfl (.tmp 48) (.tmp 50) 45 rfl w.heap.size 29 i0 _ 4 32 Try.underlying45 hi0 hz0 hz1 hz2 rfl (by omega) _ _ _ rfl (ho3.out.alloc _) ⟨w1.heap.size, 0, none⟩ 1 1 [.int .i64 s0, .int .i64 s1, .int .i64 s2, .int .i64 s3] rfl rfl (World.news_of_block (heap_alloc_new w1 _)) (by simp [Value.oneCell']) (by omega) (by simp only [maxLen]; omega) (by omega) (by have := hupw.size; simp; omega) (w1.heap.size + 1) (by simp) ?_; intro g cap w2 hown hgrow hat hlt)
            have hu4 : Up w w2 := up_own (hupw.alloc _) (Nat.le_refl _) (ho3.out.alloc _) hgrow
            have ho4 : w2.ownsRow w.heap.size 29 4 (.slice (some ⟨g, 0, none⟩) (L.length + 1) cap) L'.length (flat 4 (thF L') L'.length) := by
              rw [hL, List.length_append, List.length_singleton, flat_th]; exact hown
            have HO := Lib.hid ho4
            clear hown hgrow hat hlt ho4
            go_wp2
            exact ⟨⟨mN + 1, by rfl, by omega, by rw [hL']; exact HO, hu4⟩, by simp only [intOf]; omega⟩
        · have hkk : mN = N := by omega
          subst hkk
          have HRX := ho
          rw [show acT Ls iN mN = ddp [] (catL Ls (iN + 1)) from by rw [HN.out]; exact acT_e Ls iN] at HRX
          clear ho
          go_wp2
          exact ⟨⟨iN + 1, by rfl, by omega, HRX, hup⟩, by simp only [intOf]; omega⟩
    · have hkk : iN = n := by omega
      subst hkk
      go_wp2
      exact HQ.out _ _ (Wr.of_own hoi.out) hupi
end Go.Proofs.Ytaealkfnhhmmcaa
