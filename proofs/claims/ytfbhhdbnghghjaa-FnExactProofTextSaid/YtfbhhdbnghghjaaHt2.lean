/- The walks of HingeText, the program's and the reference's. No condition. -/
import Derived.Test.YtfbhhdbnghghjaaHt
namespace Go.Proofs.Ytfbhhdbnghghjaa
open Go.RowKit
set_option linter.unusedVariables false
/-- The text of k hinges. -/
def htT (J : Nat → Int) (O : Nat → Bool) (k : Nat) : List UInt8 := jtx (hgW J O) k
set_option maxHeartbeats 1000000 in
set_option maxRecDepth 100000 in
theorem HingeText_any (u : Value) (n lo hi : Nat) (J : Nat → Int) (O : Nat → Bool) (w : World) (hs : Sl w lo hi 2 u n (hgF J O)) (hn : n ≤ 1048576) (hI : ∀ i, i < n → I64 (J i)) : Calls Try.prog 46 #[u] w fun e w' => e = .returned (.string ⟨(htT J O n).toArray⟩) ∧ Up w w' := by
  obtain ⟨h0, A, c, rfl, hc, hx⟩ := hs
  obtain ⟨i0, hi0, hz0, hz1, hz2⟩ := info_parts str_info
  have H := Lib.hid hx
  have HI := Lib.hid hI
  clear hx hI
  go_enter Try.func46, Try.ntmps46
  go_wp2
  go_loopw [3, 9] (fun t i wr => ∃ j : Nat, i = .int .i64 (j : Int) ∧ j ≤ n ∧ Hid (wr.ownsRow w.heap.size 9 1 t j (flat 1 (strF (hgW J O)) j)) ∧ Up w wr) (fun _ i _ => n - (intOf i).toNat)
  case atStart => exact ⟨0, rfl, Nat.zero_le _, World.ownsRow_nil _ _ _ _, (by repeat (first | with_reducible exact Up.refl _ | with_reducible refine Up.alloc ?_ _ | with_reducible refine Up.drew ?_ | with_reducible refine Up.drewN ?_ _ | (with_reducible refine Up.setCell ?_ (by first | omega | (simp; done) | (simp; omega)) _) | with_reducible assumption | (with_reducible refine Up.trans ?_ (by with_reducible assumption))))⟩
  case round =>
    obtain ⟨j, rfl, hj, ho, hup⟩ := hrel
    by_cases hk1 : j < n
    · obtain ⟨b, o, rfl, hb1, hb2, hcs⟩ := H.out (by omega)
      have hbs2 : b < wr.heap.size := Nat.lt_of_lt_of_le (by omega) hup.size
      have hg0 : wr.cell? ⟨b, o + j * 2, none⟩ = some (.int .i64 (J j)) := (hup.cells.1 _ _ (by omega)).trans (by simpa [hgF, Nat.add_assoc] using hcs j 0 hk1 (by omega))
      have hg1 : wr.cell? ⟨b, o + j * 2 + 1, none⟩ = some (.bool (O j)) := (hup.cells.1 _ _ (by omega)).trans (by simpa [hgF, Nat.add_assoc] using hcs j 1 hk1 (by omega))
      clear hcs
      have hk2 : (j : Int) < (n : Int) := by omega
      have hIj := HI.out j hk1
      have hle := fmtI_length_le _ hIj
      cases hO : O j with
      | false =>
        have hap := hgW_f (J := J) hO
        have hcap : ¬ 9223372036854775807 < 1 + (fmtI (J j)).length := by omega
        have hcap2 : ¬ 9223372036854775807 < (fmtI (J j)).length + 1 := by omega
        rw [hO] at hg1
        clear hO
        go_wp2_with fail
        (go_at_call 17; (with_reducible refine (FormatInt_any _ _ hIj).mono ?_); rintro e w1 ⟨rfl, hb1⟩)
        have hu1 : Up wr w1 := (by repeat (first | with_reducible exact Up.refl _ | with_reducible refine Up.alloc ?_ _ | with_reducible refine Up.drew ?_ | with_reducible refine Up.drewN ?_ _ | (with_reducible refine Up.setCell ?_ (by first | omega | (simp; done) | (simp; omega)) _) | with_reducible assumption | (with_reducible refine Up.trans ?_ (by with_reducible assumption))))
        have hu2 : Up w w1 := hup.trans hu1
        have ho1 := Lib.hid (own_up2 (w := w) ho.out hu1)
        go_wp2_with (at_builtin; refine wpList_append_lies _ rfl (.tmp 15) (.tmp 21) 35 rfl w.heap.size 9 i0 _ 1 16 Try.underlying35 hi0 hz0 hz1 hz2 rfl (by omega) _ _ _ rfl (ho1.out.alloc _) ⟨w1.heap.size, 0, none⟩ 1 1 [.string ⟨(hgW J O j).toArray⟩] rfl rfl (World.news_of_block (heap_alloc_new w1 _)) (by simp [Value.oneCell']) (by omega) (by simp only [maxLen]; omega) (by omega) (by have := hu2.size; simp; omega) (w1.heap.size + 1) (by simp) ?_; intro g cap w2 hown hgrow hat hlt)
        have ho2 : w2.ownsRow w.heap.size 9 1 (.slice (some ⟨g, 0, none⟩) (j + 1) cap) (j + 1) (flat 1 (strF (hgW J O)) (j + 1)) := by rw [flat1s]; exact hown
        have hu3 : Up w w2 := up_own2 (hu2.alloc _) (Nat.le_refl _) (ho1.out.alloc _) hgrow
        have HO := Lib.hid ho2
        clear hown hgrow hat hlt ho2
        go_wp2
        exact ⟨⟨j + 1, by rfl, by omega, HO, hu3⟩, by simp only [intOf]; omega⟩
      | true =>
        have hap := hgW_t (J := J) hO
        have hcap : ¬ 9223372036854775807 < 1 + (fmtI (J j)).length := by omega
        have hcap2 : ¬ 9223372036854775807 < (fmtI (J j)).length + 1 := by omega
        rw [hO] at hg1
        clear hO
        go_wp2_with fail
        (go_at_call 17; (with_reducible refine (FormatInt_any _ _ hIj).mono ?_); rintro e w1 ⟨rfl, hb1⟩)
        have hu1 : Up wr w1 := (by repeat (first | with_reducible exact Up.refl _ | with_reducible refine Up.alloc ?_ _ | with_reducible refine Up.drew ?_ | with_reducible refine Up.drewN ?_ _ | (with_reducible refine Up.setCell ?_ (by first | omega | (simp; done) | (simp; omega)) _) | with_reducible assumption | (with_reducible refine Up.trans ?_ (by with_reducible assumption))))
        have hu2 : Up w w1 := hup.trans hu1
        have ho1 := Lib.hid (own_up2 (w := w) ho.out hu1)
        go_wp2_with (at_builtin; refine wpList_append_lies _ rfl (.tmp 15) (.tmp 21) 35 rfl w.heap.size 9 i0 _ 1 16 Try.underlying35 hi0 hz0 hz1 hz2 rfl (by omega) _ _ _ rfl (ho1.out.alloc _) ⟨w1.heap.size, 0, none⟩ 1 1 [.string ⟨(hgW J O j).toArray⟩] rfl rfl (World.news_of_block (heap_alloc_new w1 _)) (by simp [Value.oneCell']) (by omega) (by simp only [maxLen]; omega) (by omega) (by have := hu2.size; simp; omega) (w1.heap.size + 1) (by simp) ?_; intro g cap w2 hown hgrow hat hlt)
        have ho2 : w2.ownsRow w.heap.size 9 1 (.slice (some ⟨g, 0, none⟩) (j + 1) cap) (j + 1) (flat 1 (strF (hgW J O)) (j + 1)) := by rw [flat1s]; exact hown
        have hu3 : Up w w2 := up_own2 (hu2.alloc _) (Nat.le_refl _) (ho1.out.alloc _) hgrow
        have HO := Lib.hid ho2
        clear hown hgrow hat hlt ho2
        go_wp2
        exact ⟨⟨j + 1, by rfl, by omega, HO, hu3⟩, by simp only [intOf]; omega⟩
    · have hkk : j = n := by omega
      subst hkk
      have hjo := join_own ho.out hn (fun i hi => Nat.le_trans (hgW_le (HI.out i hi)) (by omega))
      go_wp2_with fail
      (go_at_call 74; (with_reducible refine hjo.mono ?_); rintro e w1 ⟨rfl, hb1⟩)
      go_wp2
      go_ret
      exact ⟨rfl, hup.trans hb1⟩
def pT1 (J : Nat → Int) (O : Nat → Bool) (j : Nat) : List UInt8 := htT J O j ++ [32]
def pT2 (J : Nat → Int) (O : Nat → Bool) (j : Nat) : List UInt8 := (if j = 0 then [] else pT1 J O j) ++ [if O j then 111 else 105]
theorem pT2_htT (J : Nat → Int) (O : Nat → Bool) (j : Nat) : htT J O (j + 1) = pT2 J O j ++ fmtI (J j) := by
  rw [htT, jtx, pT2, hgW]
  by_cases h : j = 0
  · simp [h]
  · simp [h, pT1, htT]
theorem ht_lens {J : Nat → Int} {O : Nat → Bool} {n j : Nat} (hn : n ≤ 1048576) (hI : ∀ i, i < n → I64 (J i)) (hj : j < n) : (htT J O j).length ≤ 23068672 ∧ (pT1 J O j).length ≤ 23068673 ∧ (pT2 J O j).length ≤ 23068674 := by
  have h1 := jtx_le (hgW J O) n 21 (fun i hi => hgW_le (hI i hi)) j (by omega)
  have h2 : (21 + 1) * j ≤ 22 * 1048576 := Nat.mul_le_mul_left _ (by omega)
  have h3 : (htT J O j).length ≤ 23068672 := by unfold htT; omega
  refine ⟨h3, by simp [pT1]; omega, ?_⟩
  rw [pT2]
  split <;> simp [pT1] <;> omega
set_option maxHeartbeats 1000000 in
set_option maxRecDepth 100000 in
theorem sHingeText_any (u : Value) (n lo hi : Nat) (J : Nat → Int) (O : Nat → Bool) (w : World) (hs : Sl w lo hi 2 u n (hgF J O)) (hn : n ≤ 1048576) (hI : ∀ i, i < n → I64 (J i)) : Calls Try.prog 44 #[u] w fun e w' => e = .returned (.string ⟨(htT J O n).toArray⟩) ∧ Up w w' := by
  obtain ⟨h0, A, c, rfl, hc, hx⟩ := hs
  have H := Lib.hid hx
  have HI := Lib.hid hI
  clear hx hI
  go_enter Try.func44, Try.ntmps44
  go_wp2
  go_loopw [3, 4] (fun t i wr => ∃ j : Nat, i = .int .i64 (j : Int) ∧ j ≤ n ∧ t = .string ⟨(htT J O j).toArray⟩ ∧ Up w wr) (fun _ i _ => n - (intOf i).toNat)
  case atStart => exact ⟨0, rfl, Nat.zero_le _, by rfl, (by repeat (first | with_reducible exact Up.refl _ | with_reducible refine Up.alloc ?_ _ | with_reducible refine Up.drew ?_ | with_reducible refine Up.drewN ?_ _ | (with_reducible refine Up.setCell ?_ (by first | omega | (simp; done) | (simp; omega)) _) | with_reducible assumption | (with_reducible refine Up.trans ?_ (by with_reducible assumption))))⟩
  case round =>
    obtain ⟨j, rfl, hj, rfl, hup⟩ := hrel
    by_cases hk1 : j < n
    · obtain ⟨b, o, rfl, hb1, hb2, hcs⟩ := H.out (by omega)
      have hbs2 : b < wr.heap.size := Nat.lt_of_lt_of_le (by omega) hup.size
      have hg0 : wr.cell? ⟨b, o + j * 2, none⟩ = some (.int .i64 (J j)) := (hup.cells.1 _ _ (by omega)).trans (by simpa [hgF, Nat.add_assoc] using hcs j 0 hk1 (by omega))
      have hg1 : wr.cell? ⟨b, o + j * 2 + 1, none⟩ = some (.bool (O j)) := (hup.cells.1 _ _ (by omega)).trans (by simpa [hgF, Nat.add_assoc] using hcs j 1 hk1 (by omega))
      clear hcs
      have hk2 : (j : Int) < (n : Int) := by omega
      have hIj := HI.out j hk1
      have hle := fmtI_length_le _ hIj
      obtain ⟨hl1, hl2, hl3⟩ := ht_lens (O := O) hn HI.out hk1
      have hcap1 : ¬ 9223372036854775807 < (htT J O j).length + 1 := by omega
      have hcap2 : ¬ 9223372036854775807 < (pT1 J O j).length + 1 := by omega
      have hcap3 : ¬ 9223372036854775807 < (pT2 J O j).length + (fmtI (J j)).length := by omega
      rcases Nat.eq_zero_or_pos j with hj0 | hj0
      · subst hj0
        have hg00 : wr.cell? ⟨b, o, none⟩ = some (.int .i64 (J 0)) := by simpa using hg0
        replace hg1 : wr.cell? ⟨b, o + 1, none⟩ = some (.bool (O 0)) := by simpa using hg1
        cases hO : O 0 with
        | false =>
          have hap2 : ((⟨(htT J O 0).toArray⟩ : ByteArray) ++ (⟨#[105]⟩ : ByteArray)) = ⟨(pT2 J O 0).toArray⟩ := by rw [pT2, if_pos rfl, hO]; exact ba_app [] [105]
          have hap3 : ((⟨(pT2 J O 0).toArray⟩ : ByteArray) ++ (⟨(fmtI (J 0)).toArray⟩ : ByteArray)) = ⟨(htT J O (0 + 1)).toArray⟩ := by rw [pT2_htT]; exact ba_app _ _
          rw [hO] at hg1
          clear hO
          go_wp2_with fail
          (go_at_call 16; (with_reducible refine (sFormatInt_any _ _ hIj).mono ?_); rintro e w1 ⟨rfl, hb1⟩)
          go_wp2
          exact ⟨⟨0 + 1, by rfl, by omega, by rfl, (by repeat (first | with_reducible exact Up.refl _ | with_reducible refine Up.alloc ?_ _ | with_reducible refine Up.drew ?_ | with_reducible refine Up.drewN ?_ _ | (with_reducible refine Up.setCell ?_ (by first | omega | (simp; done) | (simp; omega)) _) | with_reducible assumption | (with_reducible refine Up.trans ?_ (by with_reducible assumption))))⟩, by simp only [intOf]; omega⟩
        | true =>
          have hap2 : ((⟨(htT J O 0).toArray⟩ : ByteArray) ++ (⟨#[111]⟩ : ByteArray)) = ⟨(pT2 J O 0).toArray⟩ := by rw [pT2, if_pos rfl, hO]; exact ba_app [] [111]
          have hap3 : ((⟨(pT2 J O 0).toArray⟩ : ByteArray) ++ (⟨(fmtI (J 0)).toArray⟩ : ByteArray)) = ⟨(htT J O (0 + 1)).toArray⟩ := by rw [pT2_htT]; exact ba_app _ _
          rw [hO] at hg1
          clear hO
          go_wp2_with fail
          (go_at_call 16; (with_reducible refine (sFormatInt_any _ _ hIj).mono ?_); rintro e w1 ⟨rfl, hb1⟩)
          go_wp2
          exact ⟨⟨0 + 1, by rfl, by omega, by rfl, (by repeat (first | with_reducible exact Up.refl _ | with_reducible refine Up.alloc ?_ _ | with_reducible refine Up.drew ?_ | with_reducible refine Up.drewN ?_ _ | (with_reducible refine Up.setCell ?_ (by first | omega | (simp; done) | (simp; omega)) _) | with_reducible assumption | (with_reducible refine Up.trans ?_ (by with_reducible assumption))))⟩, by simp only [intOf]; omega⟩
      · have hj2 : (0 : Int) < (j : Int) := by omega
        cases hO : O j with
        | false =>
          have hap1 : ((⟨(htT J O j).toArray⟩ : ByteArray) ++ (⟨#[32]⟩ : ByteArray)) = ⟨(pT1 J O j).toArray⟩ := ba_app _ [32]
          have hap2 : ((⟨(pT1 J O j).toArray⟩ : ByteArray) ++ (⟨#[105]⟩ : ByteArray)) = ⟨(pT2 J O j).toArray⟩ := by rw [pT2, if_neg (by omega), hO]; exact ba_app _ [105]
          have hap3 : ((⟨(pT2 J O j).toArray⟩ : ByteArray) ++ (⟨(fmtI (J j)).toArray⟩ : ByteArray)) = ⟨(htT J O (j + 1)).toArray⟩ := by rw [pT2_htT]; exact ba_app _ _
          rw [hO] at hg1
          clear hO
          go_wp2_with fail
          (go_at_call 16; (with_reducible refine (sFormatInt_any _ _ hIj).mono ?_); rintro e w1 ⟨rfl, hb1⟩)
          go_wp2
          exact ⟨⟨j + 1, by rfl, by omega, by rfl, (by repeat (first | with_reducible exact Up.refl _ | with_reducible refine Up.alloc ?_ _ | with_reducible refine Up.drew ?_ | with_reducible refine Up.drewN ?_ _ | (with_reducible refine Up.setCell ?_ (by first | omega | (simp; done) | (simp; omega)) _) | with_reducible assumption | (with_reducible refine Up.trans ?_ (by with_reducible assumption))))⟩, by simp only [intOf]; omega⟩
        | true =>
          have hap1 : ((⟨(htT J O j).toArray⟩ : ByteArray) ++ (⟨#[32]⟩ : ByteArray)) = ⟨(pT1 J O j).toArray⟩ := ba_app _ [32]
          have hap2 : ((⟨(pT1 J O j).toArray⟩ : ByteArray) ++ (⟨#[111]⟩ : ByteArray)) = ⟨(pT2 J O j).toArray⟩ := by rw [pT2, if_neg (by omega), hO]; exact ba_app _ [111]
          have hap3 : ((⟨(pT2 J O j).toArray⟩ : ByteArray) ++ (⟨(fmtI (J j)).toArray⟩ : ByteArray)) = ⟨(htT J O (j + 1)).toArray⟩ := by rw [pT2_htT]; exact ba_app _ _
          rw [hO] at hg1
          clear hO
          go_wp2_with fail
          (go_at_call 16; (with_reducible refine (sFormatInt_any _ _ hIj).mono ?_); rintro e w1 ⟨rfl, hb1⟩)
          go_wp2
          exact ⟨⟨j + 1, by rfl, by omega, by rfl, (by repeat (first | with_reducible exact Up.refl _ | with_reducible refine Up.alloc ?_ _ | with_reducible refine Up.drew ?_ | with_reducible refine Up.drewN ?_ _ | (with_reducible refine Up.setCell ?_ (by first | omega | (simp; done) | (simp; omega)) _) | with_reducible assumption | (with_reducible refine Up.trans ?_ (by with_reducible assumption))))⟩, by simp only [intOf]; omega⟩
    · have hkk : j = n := by omega
      subst hkk
      go_wp2
      go_ret
      exact ⟨by rfl, (by repeat (first | with_reducible exact Up.refl _ | with_reducible refine Up.alloc ?_ _ | with_reducible refine Up.drew ?_ | with_reducible refine Up.drewN ?_ _ | (with_reducible refine Up.setCell ?_ (by first | omega | (simp; done) | (simp; omega)) _) | with_reducible assumption | (with_reducible refine Up.trans ?_ (by with_reducible assumption))))⟩
end Go.Proofs.Ytfbhhdbnghghjaa
