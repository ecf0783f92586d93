/- The walks of the reference's FindProof and FewestRows. No condition. -/
import Derived.Test.YtlpbmdoggcclpaaQd
namespace Go.Proofs.Ytlpbmdoggcclpaa
open Go.RowKit
set_option linter.unusedVariables false
theorem fold_snoc (L : List Nat) (j : Nat) (h : j < L.length) : (L.take (j + 1)).foldl frF 0 = frF ((L.take j).foldl frF 0) (L.getD j 0) := by
  rw [List.take_add_one, List.getElem?_eq_getElem h, List.foldl_append, List.getD_eq_getElem?_getD, List.getElem?_eq_getElem h]
  rfl
theorem frV_eq (k : Nat) (R : Nat → Nat → Int) : frV k R = (frQ k R).foldl frF 0 := by unfold frV frQ; split <;> rfl
theorem frQ_len (k : Nat) (R : Nat → Nat → Int) : (frQ k R).length ≤ 4845 := by
  unfold frQ
  split
  · rename_i h
    exact Nat.le_trans (frL_len k R _) (quads_len k h)
  · simp
theorem frQ_le (k : Nat) (R : Nat → Nat → Int) (j : Nat) : (frQ k R).getD j 0 ≤ 4 := by
  by_cases hj : j < (frQ k R).length
  · have : (frQ k R).getD j 0 ∈ frQ k R := by rw [List.getD_eq_getElem?_getD, List.getElem?_eq_getElem hj]; exact List.getElem_mem hj
    unfold frQ at this
    split at this
    · rename_i hk
      have e : frQ k R = frL k R (quads k) := by unfold frQ; rw [if_pos hk]
      rw [e]
      simp only [frL, List.mem_map] at this
      obtain ⟨q, _, hq⟩ := this
      have h2 := mq_le k R q
      unfold frL; rw [← hq]; exact h2
    · simp at this
  · rw [List.getD_eq_getElem?_getD, List.getElem?_eq_none (by omega)]; simp
theorem fold_le4 (L : List Nat) (h : ∀ j, L.getD j 0 ≤ 4) (j : Nat) : (L.take j).foldl frF 0 ≤ 4 := by
  have H : ∀ l : List Nat, (∀ x ∈ l, x ≤ 4) → ∀ n, n ≤ 4 → l.foldl frF n ≤ 4 := by
    intro l
    induction l with
    | nil => intro _ n hn; exact hn
    | cons a l ih =>
      intro hl n hn
      rw [List.foldl_cons]
      refine ih (fun x hx => hl x (by simp [hx])) _ ?_
      have := hl a (by simp)
      unfold frF; split <;> omega
  refine H _ (fun x hx => ?_) 0 (by omega)
  have hx2 := List.mem_of_mem_take hx
  obtain ⟨i, hi, rfl⟩ := List.getElem_of_mem hx2
  have := h i
  rw [List.getD_eq_getElem?_getD, List.getElem?_eq_getElem hi] at this
  exact this
set_option maxHeartbeats 2000000 in
set_option maxRecDepth 100000 in
theorem sFindProof_any (u : Value) (k lo hi : Nat) (R : Nat → Nat → Int) (w : World) (hs : Sl w lo hi 4 u k (intF R)) (hkk1 : k ≤ 1048576) :
    Calls Try.prog 9 #[u] w (PrG w (fpM k R) (fpM k R) (intF (fpP k R)) (intF (fpF k R)) (fpB k R)) := by
  go_enter Try.func9, Try.ntmps9
  go_wp2_with fail
  (go_at_call 41; (with_reducible refine (l16All_one _ _ _ _ _ _ (hs.up (by repeat (first | with_reducible exact Up.refl _ | with_reducible refine Up.alloc ?_ _ | with_reducible refine Up.drew ?_ | with_reducible refine Up.drewN ?_ _ | (with_reducible refine Up.setCell ?_ (by first | omega | (simp; done) | (simp; omega)) _) | with_reducible assumption | (with_reducible refine Up.trans ?_ (by with_reducible assumption))))) hkk1).mono ?_); rintro e w1 ⟨A1, n1, c1, rfl, hb1, hR⟩)
  have hq0 := (hb1.cells.1 w.heap.size 0 (by simp)).trans (show (w.alloc (.cells #[.slice none 0 0, .slice none 0 0] 26)).cell? ⟨w.heap.size, 0, none⟩ = some (.slice none 0 0) by rw [World.cell?_alloc_mark]; rfl)
  have hq1 := (hb1.cells.1 w.heap.size 1 (by simp)).trans (show (w.alloc (.cells #[.slice none 0 0, .slice none 0 0] 26)).cell? ⟨w.heap.size, 1, none⟩ = some (.slice none 0 0) by rw [World.cell?_alloc_mark]; rfl)
  have hf0 : ∀ x, w1.frozen? ⟨w.heap.size, x, none⟩ = false := fun x => (hb1.cells.2 w.heap.size x (by simp)).trans (by have hbk := heap_alloc_new w (.cells #[.slice none 0 0, .slice none 0 0] 26); simp only [World.frozen?, hbk]; simp)
  have hz := hb1.size
  simp only [World.size_alloc] at hz
  have hlt : w.heap.size < w1.heap.size := by omega
  have hu1 : Up w w1 := Up.trans (by repeat (first | with_reducible exact Up.refl _ | with_reducible refine Up.alloc ?_ _ | with_reducible refine Up.drew ?_ | with_reducible refine Up.drewN ?_ _ | (with_reducible refine Up.setCell ?_ (by first | omega | (simp; done) | (simp; omega)) _) | with_reducible assumption | (with_reducible refine Up.trans ?_ (by with_reducible assumption)))) hb1
  rcases hR with ⟨rfl, hO⟩ | ⟨rfl, q, g, B1, d1, B2, d2, L, H, hO, rfl, g0, g1, gl, hT, hL⟩
  · obtain ⟨e1, e2, e3, e4⟩ := fp_none hO
    have HE := Lib.hid (And.intro e1 (And.intro e2 (And.intro e3 e4)))
    clear e1 e2 e3 e4 hO
    go_wp2
    refine bodyPost_ret (v := .tuple #[.agg #[.slice none 0 0, .slice none 0 0], .bool false]) (by simp only [results]; go_simp; try simp) rfl ?_
    rw [HE.out.1, HE.out.2.1, HE.out.2.2.1, HE.out.2.2.2]
    exact PrG.zero _ _ (by repeat (first | with_reducible exact Up.refl _ | with_reducible refine Up.alloc ?_ _ | with_reducible refine Up.drew ?_ | with_reducible refine Up.drewN ?_ _ | (with_reducible refine Up.setCell ?_ (by first | omega | (simp; done) | (simp; omega)) _) | with_reducible assumption | (with_reducible refine Up.trans ?_ (by with_reducible assumption))))
  · obtain ⟨e1, e2, e3, e4⟩ := fp_some hO
    have HE := Lib.hid (And.intro e1 (And.intro e2 (And.intro e3 e4)))
    have HT := Lib.hid hT
    clear e1 e2 e3 e4 hO hT
    generalize mq k R q = M at *
    have hC : Chg w.heap.size (w.heap.size + 1) w1 ((w1.setCell ⟨w.heap.size, 0, none⟩ (.slice B1 M d1)).setCell ⟨w.heap.size, 1, none⟩ (.slice B2 M d2)) := ((Chg.refl _ _ w1).setCell (p := ⟨w.heap.size, 0, none⟩) (Nat.le_refl _) (by simp) _).setCell (p := ⟨w.heap.size, 1, none⟩) (Nat.le_refl _) (by simp) _
    have hT2 := Lib.hid (HT.out.off hC (.inr (by simp at hL; omega)))
    have hu2 : Up w ((w1.setCell ⟨w.heap.size, 0, none⟩ (.slice B1 M d1)).setCell ⟨w.heap.size, 1, none⟩ (.slice B2 M d2)) := (hu1.setCell (p := ⟨w.heap.size, 0, none⟩) (Nat.le_refl _) _).setCell (p := ⟨w.heap.size, 1, none⟩) (Nat.le_refl _) _
    go_wp2
    refine bodyPost_ret (v := .tuple #[.agg #[.slice B1 M d1, .slice B2 M d2], .bool true]) (by simp only [results]; go_simp; try simp) rfl ?_
    rw [HE.out.1, HE.out.2.1, HE.out.2.2.1, HE.out.2.2.2]
    exact PrG.of_two hT2.out (by simp at hL; omega) hu2
set_option maxHeartbeats 2000000 in
set_option maxRecDepth 100000 in
theorem sFewestRows_any (u : Value) (k lo hi : Nat) (R : Nat → Nat → Int) (w : World) (hs : Sl w lo hi 4 u k (intF R)) (hkk1 : k ≤ 1048576) :
    Calls Try.prog 17 #[u] w fun e w' => e = .returned (.int .i64 (frV k R : Int)) ∧ Up w w' := by
  go_enter Try.func17, Try.ntmps17
  go_wp2_with fail
  (go_at_call 41; (with_reducible refine (l16All_all _ _ _ _ _ _ hs hkk1).mono ?_); rintro e w1 ⟨A1, c1, g, rfl, hb1, hS, hg⟩)
  have hlen := frQ_len k R
  have hle := frQ_le k R
  have hV := Lib.hid (frV_eq k R)
  generalize frQ k R = Q at *
  obtain ⟨_, A', c', hv, hc', hx⟩ := hS
  cases hv
  have HX := Lib.hid hx
  have HG := Lib.hid hg
  clear hx hg hs
  go_wp2
  go_loopw [4, 5] (fun n i wr => ∃ j : Nat, i = .int .i64 (j : Int) ∧ j ≤ Q.length ∧ n = .int .i64 (((Q.take j).foldl frF 0 : Nat) : Int) ∧ Up w1 wr) (fun _ i _ => Q.length - (intOf i).toNat)
  case atStart => exact ⟨0, rfl, Nat.zero_le _, rfl, (by repeat (first | with_reducible exact Up.refl _ | with_reducible refine Up.alloc ?_ _ | with_reducible refine Up.drew ?_ | with_reducible refine Up.drewN ?_ _ | (with_reducible refine Up.setCell ?_ (by first | omega | (simp; done) | (simp; omega)) _) | with_reducible assumption | (with_reducible refine Up.trans ?_ (by with_reducible assumption))))⟩
  case round =>
    obtain ⟨j, rfl, hj, rfl, hup⟩ := hrel
    by_cases hj1 : j < Q.length
    · have hj2 : (j : Int) < (Q.length : Int) := by omega
      obtain ⟨b, o, rfl, hb1', hb2', hcs⟩ := HX.out (by omega)
      obtain ⟨A2, c2, hg2⟩ := HG.out j hj1
      have hcell : wr.cell? ⟨b, o + j * 2, none⟩ = some (.slice A2 (Q.getD j 0) c2) := (hup.cells.1 _ _ (by omega)).trans (by have := hcs j 0 hj1 (by omega); rw [hg2] at this; simpa using this)
      have hq4 := hle j
      have hn4 := fold_le4 Q hle j
      have HS2 := Lib.hid (fold_snoc Q j hj1)
      generalize (Q.take j).foldl frF 0 = N at *
      generalize Q.getD j 0 = M at *
      clear hcs
      by_cases h0 : N = 0
      · subst h0
        go_wp2
        exact ⟨⟨j + 1, by rfl, by omega, by rw [HS2.out, frF, if_pos (.inl rfl)], hup⟩, by simp only [intOf]; omega⟩
      · have hz : ((N : Int) == 0) = false := by rw [beq_eq_false_iff_ne]; omega
        by_cases hm : M < N
        · have hm2 : (M : Int) < (N : Int) := by omega
          go_wp2
          exact ⟨⟨j + 1, by rfl, by omega, by rw [HS2.out, frF, if_pos (.inr hm)], hup⟩, by simp only [intOf]; omega⟩
        · have hm2 : ¬ (M : Int) < (N : Int) := by omega
          go_wp2
          exact ⟨⟨j + 1, by rfl, by omega, by rw [HS2.out, frF, if_neg (by omega)], hup⟩, by simp only [intOf]; omega⟩
    · have hjj : j = Q.length := by omega
      subst hjj
      go_wp2
      go_ret
      exact ⟨by rw [hV.out, List.take_of_length_le (Nat.le_refl _)]; rfl, hb1.trans hup⟩
end Go.Proofs.Ytlpbmdoggcclpaa
