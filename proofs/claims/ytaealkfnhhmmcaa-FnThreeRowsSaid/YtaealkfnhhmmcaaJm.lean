/- The walks of JustMetBy: the indices of the rows that are just met. No condition. -/
import Derived.Test.YtaealkfnhhmmcaaRw
import Derived.Test.YtaealkfnhhmmcaaInt
namespace Go.Proofs.Ytaealkfnhhmmcaa
open Go.RowKit
set_option linter.unusedVariables false
theorem own_up {w a b : World} {base size n : Nat} {e : TypeId} {v : Value} {xs : List Value} (h : a.ownsRow base e size v n xs) (hu : Up a b) : b.ownsRow base e size v n xs := by
  refine ⟨h.1, ?_⟩
  rcases h.2 with h1 | ⟨g, cap, cur, h1, h2, h3, h4⟩
  · exact .inl h1
  · have hlt : g < a.heap.size := by
      rcases Nat.lt_or_ge g a.heap.size with hlt | hge
      · exact hlt
      · rw [Array.getElem?_eq_none hge] at h3; cases h3
    exact .inr ⟨g, cap, cur, h1, h2, (Below.block hu g hlt).trans h3, h4⟩
/-- Behind an append onto a row of the call's own. -/
theorem up_own {w a b : World} {base size n : Nat} {e : TypeId} {v : Value} {xs : List Value} (h : Up w a) (hb : w.heap.size ≤ base) (ho : a.ownsRow base e size v n xs) (hg : a.grownBy b v.ownBlock) : Up w b :=
  Below.grown h hg h.size (fun k hk => Nat.le_trans hb (ho.lt k hk).1)
/-- The indices below k of which p holds. -/
def jmL (p : Nat → Bool) : Nat → List Nat
  | 0 => []
  | k + 1 => jmL p k ++ if p k then [k] else []
theorem jmL_le (p : Nat → Bool) (k : Nat) : (jmL p k).length ≤ k := by
  induction k with
  | zero => simp [jmL]
  | succ k ih => simp only [jmL, List.length_append]; split <;> simp <;> omega
theorem jmL_t {p : Nat → Bool} {k : Nat} (h : p k = true) : (jmL p (k + 1)).length = (jmL p k).length + 1 := by simp [jmL, h]
theorem jmL_f {p : Nat → Bool} {k : Nat} (h : p k = false) : (jmL p (k + 1)).length = (jmL p k).length := by simp [jmL, h]
theorem jmL_get {p : Nat → Bool} {n k : Nat} (hk : k < n) (h : p k = true) : (jmL p n).getD (jmL p k).length 0 = k := by
  induction n with
  | zero => omega
  | succ n ih =>
    rw [jmL]
    by_cases hkn : k < n
    · have hlt : (jmL p k).length < (jmL p n).length := by
        have h1 : ∀ m, k + 1 ≤ m → (jmL p (k + 1)).length ≤ (jmL p m).length := by
          intro m hm
          induction m with
          | zero => omega
          | succ m ihm =>
            by_cases he : k + 1 ≤ m
            · have := ihm he
              refine Nat.le_trans this ?_
              show _ ≤ (jmL p m ++ _).length
              rw [List.length_append]; omega
            · rw [show m = k from by omega]; exact Nat.le_refl _
        have := h1 n (by omega)
        rw [jmL_t h] at this
        omega
      rw [List.getD_eq_getElem?_getD, List.getElem?_append_left hlt, ← List.getD_eq_getElem?_getD]
      exact ih hkn
    · have : k = n := by omega
      subst this
      rw [if_pos h, List.getD_eq_getElem?_getD, List.getElem?_append_right (Nat.le_refl _)]
      simp
/-- The cells of indices. -/
abbrev idxF (L : List Nat) : Nat → Nat → Value := intF (fun i _ => ((L.getD i 0 : Nat) : Int))
theorem flat1 (f : Nat → Nat → Value) (n : Nat) : flat 1 f (n + 1) = flat 1 f n ++ [f n 0] := by simp [flat]
def jmR (h v m n : Int) (R : Nat → Nat → Int) (i : Nat) : Bool := jmB h v m n (R i 0) (R i 1) (R i 2) (R i 3)
set_option maxRecDepth 100000 in
theorem JustMetBy_any (th tv tm tn : Int) (u : Value) (k lo hi : Nat) (R : Nat → Nat → Int) (w : World) (hs : Sl w lo hi 4 u k (intF R)) (hn : k ≤ 1048576) : Calls Try.prog 10 #[.agg #[.int .i64 th, .int .i64 tv, .int .i64 tm, .int .i64 tn], u] w (ToP w 1 (jmL (jmR th tv tm tn R) k).length (idxF (jmL (jmR th tv tm tn R) k))) := by
  obtain ⟨h0, A, c, rfl, hc, hx⟩ := hs
  obtain ⟨i0, hi0, hz0, hz1, hz2⟩ := info_parts int_info
  have H := Lib.hid hx
  clear hx
  obtain ⟨L, hL⟩ : ∃ L, L = jmL (jmR th tv tm tn R) k := ⟨_, rfl⟩
  rw [← hL]
  have HL := Lib.hid hL
  clear hL
  go_enter Try.func10, Try.ntmps10
  go_wp2
  go_loopw [5, 10] (fun t i wr => ∃ j : Nat, i = .int .i64 (j : Int) ∧ j ≤ k ∧ Hid (wr.ownsRow (w.heap.size + 1) 3 1 t (jmL (jmR th tv tm tn R) j).length (flat 1 (idxF L) (jmL (jmR th tv tm tn R) j).length)) ∧ Up (w.alloc (.cells #[.int .i64 th, .int .i64 tv, .int .i64 tm, .int .i64 tn] 29)) wr) (fun _ i _ => k - (intOf i).toNat)
  case atStart => exact ⟨0, rfl, Nat.zero_le _, World.ownsRow_nil _ _ _ _, (by repeat (first | with_reducible exact Up.refl _ | with_reducible refine Up.alloc ?_ _ | with_reducible refine Up.drew ?_ | with_reducible refine Up.drewN ?_ _ | (with_reducible refine Up.setCell ?_ (by first | omega | (simp; done) | (simp; omega)) _) | with_reducible assumption | (with_reducible refine Up.trans ?_ (by with_reducible assumption))))⟩
  case round =>
    obtain ⟨j, rfl, hj, ho, hup⟩ := hrel
    have hupw : Up w wr := Up.trans (Up.alloc (Up.refl w) _) hup
    by_cases hk1 : j < k
    · obtain ⟨b, o, rfl, hb1, hb2, hcs⟩ := H.out (by omega)
      have hbs2 : b < wr.heap.size := Nat.lt_of_lt_of_le (by omega) hupw.size
      have hg0 : wr.cell? ⟨b, o + j * 4, none⟩ = some (.int .i64 (R j 0)) := (hupw.cells.1 _ _ (by omega)).trans (by simpa [intF, Nat.add_assoc] using hcs j 0 hk1 (by omega))
      have hg1 : wr.cell? ⟨b, o + j * 4 + 1, none⟩ = some (.int .i64 (R j 1)) := (hupw.cells.1 _ _ (by omega)).trans (by simpa [intF, Nat.add_assoc] using hcs j 1 hk1 (by omega))
      have hg2 : wr.cell? ⟨b, o + j * 4 + 2, none⟩ = some (.int .i64 (R j 2)) := (hupw.cells.1 _ _ (by omega)).trans (by simpa [intF, Nat.add_assoc] using hcs j 2 hk1 (by omega))
      have hg3 : wr.cell? ⟨b, o + j * 4 + 3, none⟩ = some (.int .i64 (R j 3)) := (hupw.cells.1 _ _ (by omega)).trans (by simpa [intF, Nat.add_assoc] using hcs j 3 hk1 (by omega))
      have hws : w.heap.size < wr.heap.size := Nat.lt_of_lt_of_le (by simp) hup.size
      have ht0 : wr.cell? ⟨w.heap.size, 0, none⟩ = some (.int .i64 th) := (hup.cells.1 _ _ (by simp)).trans (by simp [World.cell?_alloc_mark])
      have ht1 : wr.cell? ⟨w.heap.size, 1, none⟩ = some (.int .i64 tv) := (hup.cells.1 _ _ (by simp)).trans (by simp [World.cell?_alloc_mark])
      have ht2 : wr.cell? ⟨w.heap.size, 2, none⟩ = some (.int .i64 tm) := (hup.cells.1 _ _ (by simp)).trans (by simp [World.cell?_alloc_mark])
      have ht3 : wr.cell? ⟨w.heap.size, 3, none⟩ = some (.int .i64 tn) := (hup.cells.1 _ _ (by simp)).trans (by simp [World.cell?_alloc_mark])
      clear hcs
      have hk2 : (j : Int) < (k : Int) := by omega
      cases hf : jmB th tv tm tn (R j 0) (R j 1) (R j 2) (R j 3) with
      | false =>
        have HA := Lib.hid (jmL_f (p := jmR th tv tm tn R) (k := j) hf)
        go_wp2_with fail
        (go_at_call 9; (with_reducible refine (IsJustMet_any _ _ _ _ _ _ _ _ _).mono ?_); rintro e w1 ⟨rfl, hb1⟩)
        have hu1 : Up wr w1 := (by repeat (first | with_reducible exact Up.refl _ | with_reducible refine Up.alloc ?_ _ | with_reducible refine Up.drew ?_ | with_reducible refine Up.drewN ?_ _ | (with_reducible refine Up.setCell ?_ (by first | omega | (simp; done) | (simp; omega)) _) | with_reducible assumption | (with_reducible refine Up.trans ?_ (by with_reducible assumption))))
        have ho1 := Lib.hid (own_up (w := w) ho.out hu1)
        go_wp2
        exact ⟨⟨j + 1, by rfl, by omega, (by rw [HA.out]; exact ho1.out), (by repeat (first | with_reducible exact Up.refl _ | with_reducible refine Up.alloc ?_ _ | with_reducible refine Up.drew ?_ | with_reducible refine Up.drewN ?_ _ | (with_reducible refine Up.setCell ?_ (by first | omega | (simp; done) | (simp; omega)) _) | with_reducible assumption | (with_reducible refine Up.trans ?_ (by with_reducible assumption))))⟩, by simp only [intOf]; omega⟩
      | true =>
        have HA := Lib.hid (jmL_t (p := jmR th tv tm tn R) (k := j) hf)
        have HG := Lib.hid (jmL_get (p := jmR th tv tm tn R) hk1 hf)
        have hle := jmL_le (jmR th tv tm tn R) j
        go_wp2_with fail
        (go_at_call 9; (with_reducible refine (IsJustMet_any _ _ _ _ _ _ _ _ _).mono ?_); rintro e w1 ⟨rfl, hb1⟩)
        have hu1 : Up wr w1 := (by repeat (first | with_reducible exact Up.refl _ | with_reducible refine Up.alloc ?_ _ | with_reducible refine Up.drew ?_ | with_reducible refine Up.drewN ?_ _ | (with_reducible refine Up.setCell ?_ (by first | omega | (simp; done) | (simp; omega)) _) | with_reducible assumption | (with_reducible refine Up.trans ?_ (by with_reducible assumption))))
        have hup1 : Up (w.alloc (.cells #[.int .i64 th, .int .i64 tv, .int .i64 tm, .int .i64 tn] 29)) w1 := hup.trans hu1
        have ho1 := Lib.hid (own_up (w := w) ho.out hu1)
        go_wp2_with (at_builtin; refine wpList_append_lies _ rfl (.tmp 18) (.tmp 20) 35 rfl (w.heap.size + 1) 3 i0 (.int .i64 0) 1 8 Try.underlying35 hi0 hz0 hz1 hz2 rfl (by omega) _ _ _ rfl (ho1.out.alloc _) ⟨w1.heap.size, 0, none⟩ 1 1 [.int .i64 (j : Int)] rfl rfl (World.news_of_block (heap_alloc_new w1 _)) (by simp [Value.oneCell']) (by omega) (by simp only [maxLen]; omega) (by omega) (by have := hup1.size; simp at this; simp; omega) (w1.heap.size + 1) (by simp) ?_; intro g cap w2 hown hgrow hat hlt)
        have hu4 : Up (w.alloc (.cells #[.int .i64 th, .int .i64 tv, .int .i64 tm, .int .i64 tn] 29)) w2 := up_own (hup1.alloc _) (by simp) (ho1.out.alloc _) hgrow
        have hE : idxF L (jmL (jmR th tv tm tn R) j).length 0 = .int .i64 (j : Int) := by show Value.int .i64 (((L.getD _ 0 : Nat)) : Int) = _; rw [HL.out, HG.out]
        have ho2 : w2.ownsRow (w.heap.size + 1) 3 1 (.slice (some ⟨g, 0, none⟩) ((jmL (jmR th tv tm tn R) j).length + 1) cap) (jmL (jmR th tv tm tn R) (j + 1)).length (flat 1 (idxF L) (jmL (jmR th tv tm tn R) (j + 1)).length) := by
          rw [HA.out, flat1, hE]; exact hown
        have HO := Lib.hid ho2
        clear hown hgrow hat hlt ho2 hE
        go_wp2
        exact ⟨⟨j + 1, by rfl, by omega, HO, hu4⟩, by simp only [intOf]; omega⟩
    · have hkk : j = k := by omega
      subst hkk
      go_wp2
      go_ret
      have hW := (Wr.of_own ho.out).wide (l2 := w.heap.size) (by omega) (Nat.le_refl _) (Nat.le_refl _)
      exact ⟨_, rfl, by rw [HL.out] at hW ⊢; exact hW, hupw⟩
end Go.Proofs.Ytaealkfnhhmmcaa
