/- The walk of SplitFields, the program's; the law. No condition. -/
import Derived.Test.YtmekjkhkbdkdoaaSf
import Derived.Test.YtmekjkhkbdkdoaaSlT
import Derived.WalkMore
namespace Go.Proofs.Ytmekjkhkbdkdoaa
open Go.RowKit
set_option linter.unusedVariables false
/-- Where the open field begins; -1 where none is open. -/
def stI (s : ByteArray) (k : Nat) : Int := if fldB s k < k then (fldB s k : Int) else -1
theorem stI_p {s : ByteArray} {k : Nat} (h : fldB s k < k) : stI s k = (fldB s k : Int) := by rw [stI, if_pos h]
theorem stI_n {s : ByteArray} {k : Nat} (h : ¬ fldB s k < k) : stI s k = -1 := by rw [stI, if_neg h]
set_option maxHeartbeats 4000000 in
set_option maxRecDepth 100000 in
theorem SplitFields_any (s : ByteArray) (w : World) : Calls Try.prog 13 #[.string s] w (SpP w (fldR s) (fldO s)) := by
  obtain ⟨i0, hi, hz0, hz1, hz2⟩ := info_parts sf_info
  by_cases hs : s.size ≤ 600
  rotate_left
  · obtain ⟨b1, b2⟩ := fld_f1 hs
    have HB := Lib.hid (And.intro b1 b2)
    clear b1 b2
    have hs1 : ¬ (s.size : Int) ≤ 600 := by omega
    go_enter Try.func13, Try.ntmps13
    go_wp2
    go_step3
    go_wp2
    go_step3
    go_wp2
    go_loopw [4, 5, 7] (fun ok v i wr => ok = .bool false ∧ v = .slice none 0 0 ∧ i = .int .i64 0 ∧ Up w wr) (fun _ _ _ _ => 0)
    case atStart => exact ⟨by simp [hs1], rfl, rfl, (by repeat (first | with_reducible exact Up.refl _ | with_reducible refine Up.alloc ?_ _ | with_reducible refine Up.drew ?_ | with_reducible refine Up.drewN ?_ _ | (with_reducible refine Up.setCell ?_ (by first | omega | (simp; done) | (simp; omega)) _) | with_reducible assumption | (with_reducible refine Up.trans ?_ (by with_reducible assumption))))⟩
    case round =>
      obtain ⟨rfl, rfl, rfl, hup⟩ := hrel
      go_wp2
      (try rw [Exit.noGoto_ret])
      go_ret2
      rw [HB.out.1, HB.out.2]
      exact SpP.none hup
  have hs1 : (s.size : Int) ≤ 600 := by omega
  go_enter Try.func13, Try.ntmps13
  go_wp2
  go_step3
  go_wp2
  go_step3
  go_wp2
  go_loopw [4, 5, 6, 7] (fun ok v b i wr => ∃ (k n : Nat), ok = .bool true ∧ i = .int .i64 (k : Int) ∧ k ≤ s.size + 1 ∧ b = .int .i64 (stI s k) ∧ Hid (n = (fldL s k).length) ∧ Hid (wr.ownsRow w.heap.size 9 1 v n (flat 1 (txtF (fldL s k)) n)) ∧ Hid (fldQ s k) ∧ Up w wr) (fun _ _ _ i _ => s.size + 1 - (intOf i).toNat)
  case atStart => exact ⟨0, 0, by simp, rfl, Nat.zero_le _, rfl, rfl, World.ownsRow_nil _ _ _ _, (fun j hj => by omega), (by repeat (first | with_reducible exact Up.refl _ | with_reducible refine Up.alloc ?_ _ | with_reducible refine Up.drew ?_ | with_reducible refine Up.drewN ?_ _ | (with_reducible refine Up.setCell ?_ (by first | omega | (simp; done) | (simp; omega)) _) | with_reducible assumption | (with_reducible refine Up.trans ?_ (by with_reducible assumption))))⟩
  case round =>
    obtain ⟨k, n, rfl, rfl, hk, rfl, hn, ho, hQ, hup⟩ := hrel
    have hbl := fldB_le s k
    have hnk : n ≤ k := by rw [hn.out]; exact fldL_len s k
    obtain ⟨A4, c4, rfl⟩ := own_form ho.out
    by_cases hend : k = s.size + 1
    · subst hend
      have hlt : ¬ (s.size : Int) + 1 ≤ (s.size : Int) := by omega
      by_cases hc : n ≤ 24
      · obtain ⟨b1, b2⟩ := fld_t hs (fldQ_all hQ.out) (by rw [← hn.out]; exact hc)
        have HB := Lib.hid (And.intro b1 b2)
        clear b1 b2
        have hc1 : ¬ 24 < n := by omega
        go_wp2
        (try rw [Exit.noGoto_ret])
        go_ret2
        rw [HB.out.1, HB.out.2]
        exact SpP.mk (t := 9) (by rw [← hn.out]; exact ho.out) (by repeat (first | with_reducible exact Up.refl _ | with_reducible refine Up.alloc ?_ _ | with_reducible refine Up.drew ?_ | with_reducible refine Up.drewN ?_ _ | (with_reducible refine Up.setCell ?_ (by first | omega | (simp; done) | (simp; omega)) _) | with_reducible assumption | (with_reducible refine Up.trans ?_ (by with_reducible assumption))))
      · obtain ⟨b1, b2⟩ := fld_f3 (s := s) (by rw [← hn.out]; exact hc)
        have HB := Lib.hid (And.intro b1 b2)
        clear b1 b2
        have hc1 : 24 < n := by omega
        go_wp2
        (try rw [Exit.noGoto_ret])
        go_ret2
        rw [HB.out.1, HB.out.2]
        exact SpP.none hup
    have hle : k ≤ s.size := by omega
    have hle2 : (k : Int) ≤ (s.size : Int) := by omega
    by_cases hin : k < s.size
    · have hne : ((k : Int) == (s.size : Int)) = false := by rw [beq_eq_false_iff_ne]; omega
      have hB := bat_at hin
      have hB2 := bat_le s k
      generalize hBB : bat s k = B at *
      have HBB := Lib.hid hBB
      clear hBB
      by_cases h1 : B < 32
      · obtain ⟨b1, b2⟩ := fld_f2 hin (fldG_f1 (by rw [HBB.out]; exact h1))
        have HB := Lib.hid (And.intro b1 b2)
        clear b1 b2
        have h3 : ((B : Int) == 32) = false := by rw [beq_eq_false_iff_ne]; omega
        go_wp2
        (try rw [Exit.noGoto_ret])
        go_ret2
        rw [HB.out.1, HB.out.2]
        exact SpP.none hup
      by_cases h2 : 126 < B
      · obtain ⟨b1, b2⟩ := fld_f2 hin (fldG_f2 (by rw [HBB.out]; exact h2))
        have HB := Lib.hid (And.intro b1 b2)
        clear b1 b2
        have h3 : ((B : Int) == 32) = false := by rw [beq_eq_false_iff_ne]; omega
        go_wp2
        (try rw [Exit.noGoto_ret])
        go_ret2
        rw [HB.out.1, HB.out.2]
        exact SpP.none hup
      have hQ1 := Lib.hid (fldQ_in hQ.out (fun _ => fldG_t (by rw [HBB.out]; exact h1) (by rw [HBB.out]; exact h2)))
      by_cases h3 : B = 32
      rotate_left
      · obtain ⟨e1, e2⟩ := fldB_n (fldN_t hin (by rw [HBB.out]; exact h3))
        have HE := Lib.hid (And.intro e1 e2)
        have h5 : ((B : Int) == 32) = false := by rw [beq_eq_false_iff_ne]; omega
        clear e1 e2
        have hnew : stI s (k + 1) = (fldB s k : Int) := by rw [stI_p (by rw [HE.out.1]; omega), HE.out.1]
        have HW := Lib.hid hnew
        clear hnew
        by_cases h4 : fldB s k < k
        · have hst := stI_p h4
          generalize stI s k = st at *
          subst hst
          generalize hbb : fldB s k = b at *
          have hs0 : ¬ (b : Int) < 0 := by omega
          go_wp2
          exact ⟨⟨k + 1, n, by rfl, by rfl, by omega, by rw [HW.out], Lib.hid (by rw [HE.out.2]; exact hn.out), Lib.hid (by rw [HE.out.2]; exact ho.out), hQ1, hup⟩, by simp only [intOf]; omega⟩
        · have hst := stI_n h4
          have hkb : fldB s k = k := by omega
          rw [hkb] at HW
          generalize stI s k = st at *
          subst hst
          go_wp2
          exact ⟨⟨k + 1, n, by rfl, by rfl, by omega, by rw [HW.out], Lib.hid (by rw [HE.out.2]; exact hn.out), Lib.hid (by rw [HE.out.2]; exact ho.out), hQ1, hup⟩, by simp only [intOf]; omega⟩
      · subst h3
        have hN := fldN_f HBB.out
        by_cases h4 : fldB s k < k
        · have HE1 := Lib.hid (fldB_s hN)
          have HE2 := Lib.hid (fldL_a hN h4)
          have hx := ext_list s (fldB s k) k
          have hst := stI_p h4
          generalize (s.data.toList.drop (fldB s k)).take (k - fldB s k) = X at *
          generalize stI s k = st at *
          subst hst
          generalize hbb : fldB s k = b at *
          have hs0 : ¬ (b : Int) < 0 := by omega
          have hs1 : (0 : Int) ≤ (b : Int) := by omega
          have hs2 : (b : Int) ≤ (k : Int) := by omega
          clear hN
          go_wp2_with (at_builtin; refine wpList_append_lies _ rfl (.tmp 52) (.tmp 57) 25 rfl w.heap.size 9 i0 _ 1 16 Try.underlying25 hi hz0 hz1 hz2 rfl (by omega) _ _ _ rfl (ho.out.alloc _) ⟨wr.heap.size, 0, none⟩ 1 1 [.string ⟨X.toArray⟩] rfl rfl (World.news_of_block (heap_alloc_new wr _)) (by simp [Value.oneCell']) (by omega) (by simp only [maxLen]; omega) (by omega) (by have := hup.size; simp; omega) (wr.heap.size + 1) (by simp) ?_; intro g cap w2 hown hgrow hat hlt)
          have hu2 : Up w w2 := Up.own (Up.alloc hup _) (ho.out.alloc _) hgrow
          have hn2 : n + 1 = (fldL s (k + 1)).length := by rw [HE2.out, List.length_append, ← hn.out]; rfl
          have ho2 : w2.ownsRow w.heap.size 9 1 (.slice (some ⟨g, 0, none⟩) (n + 1) cap) (n + 1) (flat 1 (txtF (fldL s (k + 1))) (n + 1)) := by
            rw [HE2.out]
            have := hn.out
            subst this
            rw [txt_flat1]
            exact hown
          have HO := Lib.hid ho2
          have HN2 := Lib.hid hn2
          clear hown hgrow hat hlt ho2 hn2
          go_wp2
          exact ⟨⟨k + 1, n + 1, by rfl, by rfl, by omega, by rw [stI_n (by rw [HE1.out]; omega)], HN2, HO, hQ1, hu2⟩, by simp only [intOf]; omega⟩
        · have HE1 := Lib.hid (fldB_s hN)
          have HE2 := Lib.hid (fldL_z hN h4)
          have hst := stI_n h4
          generalize stI s k = st at *
          subst hst
          clear hN
          go_wp2
          exact ⟨⟨k + 1, n, by rfl, by rfl, by omega, by rw [stI_n (by rw [HE1.out]; omega)], Lib.hid (by rw [HE2.out]; exact hn.out), Lib.hid (by rw [HE2.out]; exact ho.out), hQ1, hup⟩, by simp only [intOf]; omega⟩
    · have hN := fldN_e hin
      have hQ1 := Lib.hid (fldQ_in hQ.out (fun h => absurd h hin))
      have hks : k = s.size := by omega
      subst hks
      by_cases h4 : fldB s s.size < s.size
      · have HE1 := Lib.hid (fldB_s hN)
        have HE2 := Lib.hid (fldL_a hN h4)
        have hx := ext_list s (fldB s s.size) s.size
        have hst := stI_p h4
        generalize (s.data.toList.drop (fldB s s.size)).take (s.size - fldB s s.size) = X at *
        generalize stI s s.size = st at *
        subst hst
        generalize hbb : fldB s s.size = b at *
        have hs0 : ¬ (b : Int) < 0 := by omega
        have hs1 : (0 : Int) ≤ (b : Int) := by omega
        have hs2 : (b : Int) ≤ (s.size : Int) := by omega
        clear hN
        go_wp2_with (at_builtin; refine wpList_append_lies _ rfl (.tmp 52) (.tmp 57) 25 rfl w.heap.size 9 i0 _ 1 16 Try.underlying25 hi hz0 hz1 hz2 rfl (by omega) _ _ _ rfl (ho.out.alloc _) ⟨wr.heap.size, 0, none⟩ 1 1 [.string ⟨X.toArray⟩] rfl rfl (World.news_of_block (heap_alloc_new wr _)) (by simp [Value.oneCell']) (by omega) (by simp only [maxLen]; omega) (by omega) (by have := hup.size; simp; omega) (wr.heap.size + 1) (by simp) ?_; intro g cap w2 hown hgrow hat hlt)
        have hu2 : Up w w2 := Up.own (Up.alloc hup _) (ho.out.alloc _) hgrow
        have hn2 : n + 1 = (fldL s (s.size + 1)).length := by rw [HE2.out, List.length_append, ← hn.out]; rfl
        have ho2 : w2.ownsRow w.heap.size 9 1 (.slice (some ⟨g, 0, none⟩) (n + 1) cap) (n + 1) (flat 1 (txtF (fldL s (s.size + 1))) (n + 1)) := by
          rw [HE2.out]
          have := hn.out
          subst this
          rw [txt_flat1]
          exact hown
        have HO := Lib.hid ho2
        have HN2 := Lib.hid hn2
        clear hown hgrow hat hlt ho2 hn2
        go_wp2
        exact ⟨⟨s.size + 1, n + 1, by rfl, by rfl, by omega, by rw [stI_n (by rw [HE1.out]; omega)], HN2, HO, hQ1, hu2⟩, by simp only [intOf]; omega⟩
      · have HE1 := Lib.hid (fldB_s hN)
        have HE2 := Lib.hid (fldL_z hN h4)
        have hst := stI_n h4
        generalize stI s s.size = st at *
        subst hst
        clear hN
        go_wp2
        exact ⟨⟨s.size + 1, n, by rfl, by rfl, by omega, by rw [stI_n (by rw [HE1.out]; omega)], Lib.hid (by rw [HE2.out]; exact hn.out), Lib.hid (by rw [HE2.out]; exact ho.out), hQ1, hup⟩, by simp only [intOf]; omega⟩
end Go.Proofs.Ytmekjkhkbdkdoaa
