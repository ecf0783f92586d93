/- The walks of SplitFields. No condition. -/
import Derived.Test.YtmekjkhkbdkdoaaSf0
import Derived.Test.YtmekjkhkbdkdoaaHex
namespace Go.Proofs.Ytmekjkhkbdkdoaa
open Go.RowKit
set_option linter.unusedVariables false
/-- What SplitFields ends in. -/
def SpP (w : World) (L : List (List UInt8)) (b : Bool) (e : Ending) (w' : World) : Prop := ∃ v, e = .returned (.tuple #[v, .bool b]) ∧ Wr w' w.heap.size w'.heap.size 1 v L.length (txtF L) ∧ Up w w'
theorem SpP.mk {w w' : World} {v : Value} {L : List (List UInt8)} {b : Bool} {t : TypeId} (h : w'.ownsRow w.heap.size t 1 v L.length (flat 1 (txtF L) L.length)) (hu : Up w w') : SpP w L b (.returned (.tuple #[v, .bool b])) w' := ⟨v, rfl, Wr.of_own h, hu⟩
theorem SpP.none {w w' : World} {b : Bool} (hu : Up w w') : SpP w [] b (.returned (.tuple #[.slice none 0 0, .bool b])) w' := ⟨_, rfl, Wr.nil _ _ _ _ _ (Nat.le_refl _), hu⟩
theorem own_form {w : World} {base size n : Nat} {e : TypeId} {v : Value} {xs : List Value} (h : w.ownsRow base e size v n xs) : ∃ A c, v = .slice A n c := by
  rcases h.2 with ⟨rfl, rfl⟩ | ⟨g, cap, cur, rfl, _⟩
  · exact ⟨none, 0, rfl⟩
  · exact ⟨_, cap, rfl⟩
theorem sf_info : (Try.prog.info? 9).map (fun i => (i.zero, i.size, i.bytes)) = some (some (.string ⟨#[]⟩), 1, 16) := by kernel_rfl
theorem fldG_f1 {s : ByteArray} {k : Nat} (h : bat s k < 32) : fldG s k = false := by simp [fldG]; omega
theorem fldG_f2 {s : ByteArray} {k : Nat} (h : 126 < bat s k) : fldG s k = false := by simp [fldG]; omega
theorem fldG_t {s : ByteArray} {k : Nat} (h : ¬ bat s k < 32) (h2 : ¬ 126 < bat s k) : fldG s k = true := by simp [fldG]; omega
theorem fldN_t {s : ByteArray} {k : Nat} (h : k < s.size) (h2 : ¬ bat s k = 32) : fldN s k = true := by simp [fldN, h, h2]
theorem fldN_f {s : ByteArray} {k : Nat} (h2 : bat s k = 32) : fldN s k = false := by simp [fldN, h2]
theorem fldN_e {s : ByteArray} {k : Nat} (h2 : ¬ k < s.size) : fldN s k = false := by simp [fldN, h2]
/-- The first bytes are good, as far as there are any. -/
def fldQ (s : ByteArray) (k : Nat) : Prop := ∀ j, j < k → j < s.size → fldG s j = true
theorem fldQ_in {s : ByteArray} {k : Nat} (h : fldQ s k) (h1 : k < s.size → fldG s k = true) : fldQ s (k + 1) := fun j hj hs => by
  by_cases e : j = k
  · subst e; exact h1 hs
  · exact h j (by omega) hs
theorem fldQ_all {s : ByteArray} (h : fldQ s (s.size + 1)) : fldA s s.size = true := by
  have H : ∀ n, n ≤ s.size → fldA s n = true := by
    intro n
    induction n with
    | zero => intro _; rfl
    | succ n ih => intro hn; exact fldA_in (ih (by omega)) (h n (by omega) (by omega))
  exact H _ (Nat.le_refl _)
set_option maxHeartbeats 2000000 in
set_option maxRecDepth 100000 in
theorem sSplitFields_any (s : ByteArray) (w : World) : Calls Try.prog 12 #[.string s] w (SpP w (fldR s) (fldO s)) := by
  obtain ⟨i0, hi, hz0, hz1, hz2⟩ := info_parts sf_info
  by_cases hs : s.size ≤ 600
  rotate_left
  · obtain ⟨b1, b2⟩ := fld_f1 hs
    have HB := Lib.hid (And.intro b1 b2)
    clear b1 b2
    have hs1 : 600 < s.size := by omega
    go_enter Try.func12, Try.ntmps12
    go_wp2
    go_ret2
    rw [HB.out.1, HB.out.2]
    exact SpP.mk (t := 9) (World.ownsRow_made w #[] 0 (Nat.le_refl _) (Nat.zero_le _) rfl) (by repeat (first | with_reducible exact Up.refl _ | with_reducible refine Up.alloc ?_ _ | with_reducible refine Up.drew ?_ | with_reducible refine Up.drewN ?_ _ | (with_reducible refine Up.setCell ?_ (by first | omega | (simp; done) | (simp; omega)) _) | with_reducible assumption | (with_reducible refine Up.trans ?_ (by with_reducible assumption))))
  have hs1 : ¬ 600 < s.size := by omega
  go_enter Try.func12, Try.ntmps12
  go_wp2
  go_loopw [4, 5, 6] (fun v b i wr => ∃ (k n : Nat), i = .int .i64 (k : Int) ∧ k ≤ s.size + 1 ∧ b = .int .i64 ((fldB s k : Nat) : Int) ∧ Hid (n = (fldL s k).length) ∧ Hid (wr.ownsRow w.heap.size 9 1 v n (flat 1 (txtF (fldL s k)) n)) ∧ Hid (fldQ s k) ∧ Up w wr) (fun _ _ i _ => s.size + 1 - (intOf i).toNat)
  case atStart => exact ⟨0, 0, rfl, Nat.zero_le _, rfl, rfl, World.ownsRow_made w #[] 0 (Nat.le_refl _) (Nat.zero_le _) rfl, (fun j hj => by omega), (by repeat (first | with_reducible exact Up.refl _ | with_reducible refine Up.alloc ?_ _ | with_reducible refine Up.drew ?_ | with_reducible refine Up.drewN ?_ _ | (with_reducible refine Up.setCell ?_ (by first | omega | (simp; done) | (simp; omega)) _) | with_reducible assumption | (with_reducible refine Up.trans ?_ (by with_reducible assumption))))⟩
  case round =>
    obtain ⟨k, n, rfl, hk, rfl, hn, ho, hQ, hup⟩ := hrel
    have hbl := fldB_le s k
    have hnk : n ≤ k := by rw [hn.out]; exact fldL_len s k
    obtain ⟨A4, c4, rfl⟩ := own_form ho.out
    by_cases hend : k = s.size + 1
    · subst hend
      have hlt : ¬ (s.size : Int) + 1 ≤ (s.size : Int) := by omega
      by_cases hc : n ≤ 24
      · obtain ⟨b1, b2⟩ := fld_t hs (fldQ_all hQ.out) (by rw [← hn.out]; exact hc)
        have HB := Lib.hid (And.intro b1 b2)
        clear b1 b2
        have hc1 : ¬ 24 < n := by omega
        go_wp2
        go_ret2
        rw [HB.out.1, HB.out.2]
        exact SpP.mk (t := 9) (by rw [← hn.out]; exact ho.out) (by repeat (first | with_reducible exact Up.refl _ | with_reducible refine Up.alloc ?_ _ | with_reducible refine Up.drew ?_ | with_reducible refine Up.drewN ?_ _ | (with_reducible refine Up.setCell ?_ (by first | omega | (simp; done) | (simp; omega)) _) | with_reducible assumption | (with_reducible refine Up.trans ?_ (by with_reducible assumption))))
      · obtain ⟨b1, b2⟩ := fld_f3 (s := s) (by rw [← hn.out]; exact hc)
        have HB := Lib.hid (And.intro b1 b2)
        clear b1 b2
        have hc1 : 24 < n := by omega
        go_wp2
        go_ret2
        rw [HB.out.1, HB.out.2]
        exact SpP.mk (t := 9) (World.ownsRow_made wr #[] 0 hup.size (Nat.zero_le _) rfl) (by repeat (first | with_reducible exact Up.refl _ | with_reducible refine Up.alloc ?_ _ | with_reducible refine Up.drew ?_ | with_reducible refine Up.drewN ?_ _ | (with_reducible refine Up.setCell ?_ (by first | omega | (simp; done) | (simp; omega)) _) | with_reducible assumption | (with_reducible refine Up.trans ?_ (by with_reducible assumption))))
    have hle : k ≤ s.size := by omega
    have hle2 : (k : Int) ≤ (s.size : Int) := by omega
    by_cases hin : k < s.size
    · have hB := bat_at hin
      have hB2 := bat_le s k
      generalize hBB : bat s k = B at *
      have HBB := Lib.hid hBB
      clear hBB
      by_cases h1 : B < 32
      · obtain ⟨b1, b2⟩ := fld_f2 hin (fldG_f1 (by rw [HBB.out]; exact h1))
        have HB := Lib.hid (And.intro b1 b2)
        clear b1 b2
        go_wp2
        go_ret2
        rw [HB.out.1, HB.out.2]
        exact SpP.mk (t := 9) (World.ownsRow_made wr #[] 0 hup.size (Nat.zero_le _) rfl) (by repeat (first | with_reducible exact Up.refl _ | with_reducible refine Up.alloc ?_ _ | with_reducible refine Up.drew ?_ | with_reducible refine Up.drewN ?_ _ | (with_reducible refine Up.setCell ?_ (by first | omega | (simp; done) | (simp; omega)) _) | with_reducible assumption | (with_reducible refine Up.trans ?_ (by with_reducible assumption))))
      by_cases h2 : 126 < B
      · obtain ⟨b1, b2⟩ := fld_f2 hin (fldG_f2 (by rw [HBB.out]; exact h2))
        have HB := Lib.hid (And.intro b1 b2)
        clear b1 b2
        go_wp2
        go_ret2
        rw [HB.out.1, HB.out.2]
        exact SpP.mk (t := 9) (World.ownsRow_made wr #[] 0 hup.size (Nat.zero_le _) rfl) (by repeat (first | with_reducible exact Up.refl _ | with_reducible refine Up.alloc ?_ _ | with_reducible refine Up.drew ?_ | with_reducible refine Up.drewN ?_ _ | (with_reducible refine Up.setCell ?_ (by first | omega | (simp; done) | (simp; omega)) _) | with_reducible assumption | (with_reducible refine Up.trans ?_ (by with_reducible assumption))))
      have hQ1 := Lib.hid (fldQ_in hQ.out (fun _ => fldG_t (by rw [HBB.out]; exact h1) (by rw [HBB.out]; exact h2)))
      by_cases h3 : B = 32
      rotate_left
      · obtain ⟨e1, e2⟩ := fldB_n (fldN_t hin (by rw [HBB.out]; exact h3))
        have HE := Lib.hid (And.intro e1 e2)
        clear e1 e2
        go_wp2
        exact ⟨⟨k + 1, n, by rfl, by omega, by rw [HE.out.1], Lib.hid (by rw [HE.out.2]; exact hn.out), Lib.hid (by rw [HE.out.2]; exact ho.out), hQ1, hup⟩, by simp only [intOf]; omega⟩
      · subst h3
        have hN := fldN_f HBB.out
        by_cases h4 : fldB s k < k
        · have HE1 := Lib.hid (fldB_s hN)
          have HE2 := Lib.hid (fldL_a hN h4)
          have hx := ext_list s (fldB s k) k
          generalize (s.data.toList.drop (fldB s k)).take (k - fldB s k) = X at *
          generalize hbb : fldB s k = b at *
          clear hN
          go_wp2_with (at_builtin; refine wpList_append_lies _ rfl (.tmp 48) (.tmp 53) 25 rfl w.heap.size 9 i0 _ 1 16 Try.underlying25 hi hz0 hz1 hz2 rfl (by omega) _ _ _ rfl (ho.out.alloc _) ⟨wr.heap.size, 0, none⟩ 1 1 [.string ⟨X.toArray⟩] rfl rfl (World.news_of_block (heap_alloc_new wr _)) (by simp [Value.oneCell']) (by omega) (by simp only [maxLen]; omega) (by omega) (by have := hup.size; simp; omega) (wr.heap.size + 1) (by simp) ?_; intro g cap w2 hown hgrow hat hlt)
          have hu2 : Up w w2 := Up.own (Up.alloc hup _) (ho.out.alloc _) hgrow
          have hn2 : n + 1 = (fldL s (k + 1)).length := by rw [HE2.out, List.length_append, ← hn.out]; rfl
          have ho2 : w2.ownsRow w.heap.size 9 1 (.slice (some ⟨g, 0, none⟩) (n + 1) cap) (n + 1) (flat 1 (txtF (fldL s (k + 1))) (n + 1)) := by
            rw [HE2.out]
            have := hn.out
            subst this
            rw [txt_flat1]
            exact hown
          have HO := Lib.hid ho2
          have HN2 := Lib.hid hn2
          clear hown hgrow hat hlt ho2 hn2
          go_wp2
          exact ⟨⟨k + 1, n + 1, by rfl, by omega, by rw [HE1.out]; rfl, HN2, HO, hQ1, hu2⟩, by simp only [intOf]; omega⟩
        · have HE1 := Lib.hid (fldB_s hN)
          have HE2 := Lib.hid (fldL_z hN h4)
          clear hN
          go_wp2
          exact ⟨⟨k + 1, n, by rfl, by omega, by rw [HE1.out]; rfl, Lib.hid (by rw [HE2.out]; exact hn.out), Lib.hid (by rw [HE2.out]; exact ho.out), hQ1, hup⟩, by simp only [intOf]; omega⟩
    · have hN := fldN_e hin
      have hQ1 := Lib.hid (fldQ_in hQ.out (fun h => absurd h hin))
      have hks : k = s.size := by omega
      subst hks
      by_cases h4 : fldB s s.size < s.size
      · have HE1 := Lib.hid (fldB_s hN)
        have HE2 := Lib.hid (fldL_a hN h4)
        have hx := ext_list s (fldB s s.size) s.size
        generalize (s.data.toList.drop (fldB s s.size)).take (s.size - fldB s s.size) = X at *
        generalize hbb : fldB s s.size = b at *
        clear hN
        go_wp2_with (at_builtin; refine wpList_append_lies _ rfl (.tmp 48) (.tmp 53) 25 rfl w.heap.size 9 i0 _ 1 16 Try.underlying25 hi hz0 hz1 hz2 rfl (by omega) _ _ _ rfl (ho.out.alloc _) ⟨wr.heap.size, 0, none⟩ 1 1 [.string ⟨X.toArray⟩] rfl rfl (World.news_of_block (heap_alloc_new wr _)) (by simp [Value.oneCell']) (by omega) (by simp only [maxLen]; omega) (by omega) (by have := hup.size; simp; omega) (wr.heap.size + 1) (by simp) ?_; intro g cap w2 hown hgrow hat hlt)
        have hu2 : Up w w2 := Up.own (Up.alloc hup _) (ho.out.alloc _) hgrow
        have hn2 : n + 1 = (fldL s (s.size + 1)).length := by rw [HE2.out, List.length_append, ← hn.out]; rfl
        have ho2 : w2.ownsRow w.heap.size 9 1 (.slice (some ⟨g, 0, none⟩) (n + 1) cap) (n + 1) (flat 1 (txtF (fldL s (s.size + 1))) (n + 1)) := by
          rw [HE2.out]
          have := hn.out
          subst this
          rw [txt_flat1]
          exact hown
        have HO := Lib.hid ho2
        have HN2 := Lib.hid hn2
        clear hown hgrow hat hlt ho2 hn2
        go_wp2
        exact ⟨⟨s.size + 1, n + 1, by rfl, by omega, by rw [HE1.out]; rfl, HN2, HO, hQ1, hu2⟩, by simp only [intOf]; omega⟩
      · have HE1 := Lib.hid (fldB_s hN)
        have HE2 := Lib.hid (fldL_z hN h4)
        clear hN
        go_wp2
        exact ⟨⟨s.size + 1, n, by rfl, by omega, by rw [HE1.out]; rfl, Lib.hid (by rw [HE2.out]; exact hn.out), Lib.hid (by rw [HE2.out]; exact ho.out), hQ1, hup⟩, by simp only [intOf]; omega⟩
end Go.Proofs.Ytmekjkhkbdkdoaa
