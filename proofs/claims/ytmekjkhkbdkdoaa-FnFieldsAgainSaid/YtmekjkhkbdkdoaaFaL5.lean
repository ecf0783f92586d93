/- The walk of the law FnFieldsAgain: it returns true. No condition. -/
import Derived.Test.YtmekjkhkbdkdoaaDraw6
import Derived.Test.YtmekjkhkbdkdoaaFa5
namespace Go.Proofs.Ytmekjkhkbdkdoaa
open Go.RowKit
set_option linter.unusedVariables false
theorem fldR_len2 (s : ByteArray) : (fldR s).length ≤ 24 := by
  unfold fldR
  split
  · rename_i h
    simp only [fldO, Bool.and_eq_true, decide_eq_true_eq] at h
    exact h.2
  · simp
theorem Wr.form5 {w : World} {lo hi sz n : Nat} {v : Value} {f : Nat → Nat → Value} (h : Wr w lo hi sz v n f) : ∃ A c, v = .slice A n c := by
  obtain ⟨_, A, c, rfl, _⟩ := h
  exact ⟨A, c, rfl⟩
theorem fldL_el (s : ByteArray) : ∀ k, ∀ x ∈ fldL s k, x.length ≤ s.size
  | 0, x, hx => by simp [fldL] at hx
  | k + 1, x, hx => by
    have hlen : s.data.toList.length = s.size := by rw [Array.length_toList]; rfl
    rw [fldL] at hx
    split at hx
    · exact fldL_el s k x hx
    · split at hx
      · rw [List.mem_append] at hx
        rcases hx with hx | hx
        · exact fldL_el s k x hx
        · simp only [List.mem_singleton] at hx
          subst hx
          rw [List.length_take, List.length_drop, hlen]
          omega
      · exact fldL_el s k x hx
theorem fldR_el (s : ByteArray) (i : Nat) : ((fldR s).getD i []).length ≤ 600 := by
  by_cases hO : fldO s = true
  · have h := hO
    simp only [fldO, Bool.and_eq_true, decide_eq_true_eq] at h
    by_cases hi : i < (fldR s).length
    · have hm : (fldR s).getD i [] ∈ fldR s := by rw [List.getD_eq_getElem?_getD, List.getElem?_eq_getElem hi]; exact List.getElem_mem hi
      have hr : fldR s = fldL s (s.size + 1) := by rw [fldR, hO]; rfl
      have := fldL_el s (s.size + 1) _ (by rw [← hr]; exact hm)
      omega
    · rw [List.getD_eq_getElem?_getD, List.getElem?_eq_none (by omega)]; simp
  · have hr : fldR s = [] := by rw [fldR, if_neg hO]
    rw [hr]; simp
/-- The first k fields, each with a space behind it. -/
def jnK (p : List (List UInt8)) (k : Nat) : List UInt8 := jnF (p.take k)
theorem jnK_succ (p : List (List UInt8)) (k : Nat) (h : k < p.length) : jnK p (k + 1) = jnK p k ++ (p.getD k []) ++ [32] := by
  rw [jnK, List.take_add_one, List.getElem?_eq_getElem h, List.getD_eq_getElem?_getD, List.getElem?_eq_getElem h]
  show jnF (p.take k ++ [p[k]]) = _
  rw [jn_snoc]
  simp [jnK]
theorem jnK_all (p : List (List UInt8)) : jnK p p.length = jnF p := by rw [jnK, List.take_of_length_le (Nat.le_refl _)]
set_option maxHeartbeats 2000000 in
set_option maxRecDepth 100000 in
theorem law_FnFieldsAgain (u : Value) (n : Nat) (B : Nat → Int) (w : World) (hm : n ≤ maxLen) (hA : Sl w 0 w.heap.size 1 u n (bytF B)) (hB : ∀ i, i < n → 0 ≤ B i ∧ B i ≤ 255) :
    Calls Try.prog 7 #[u] w fun e w' => e = .returned (.bool true) ∧ Up w w' := by
  by_cases hn : n ≤ 1048576
  rotate_left
  · have hd : decide (1048576 < n) = true := decide_eq_true (by omega)
    go_enter Try.func7, Try.ntmps7
    go_wp2_with fail
    (go_at_call 17; (with_reducible refine (big_any _ _ _ _ _ _ hA hm).mono ?_); rintro e wx ⟨rfl, rfl⟩)
    go_wp2
    go_ret
    exact ⟨rfl, (by repeat (first | with_reducible exact Up.refl _ | with_reducible refine Up.alloc ?_ _ | with_reducible refine Up.drew ?_ | with_reducible refine Up.drewN ?_ _ | (with_reducible refine Up.setCell ?_ (by first | omega | (simp; done) | (simp; omega)) _) | with_reducible assumption | (with_reducible refine Up.trans ?_ (by with_reducible assumption))))⟩
  have hd : decide (1048576 < n) = false := decide_eq_false (by omega)
  go_enter Try.func7, Try.ntmps7
  go_wp2_with fail
  (go_at_call 17; (with_reducible refine (big_any _ _ _ _ _ _ hA hm).mono ?_); rintro e wx ⟨rfl, rfl⟩)
  go_wp2_with fail
  (go_at_call 20; (with_reducible refine (DrawSplitFields_any _ _ _ _ _ _ hA hn hB).mono ?_); rintro e w1 ⟨l, rfl, hl, hU1⟩)
  obtain ⟨s, hs⟩ : ∃ s : ByteArray, s = ⟨l.toArray⟩ := ⟨_, rfl⟩
  rw [← hs]
  clear hs hl l hA hB
  have hS := fun W => sSplitFields_any s W
  have hI := fun W => SplitFields_any s W
  by_cases hO : fldO s = true
  rotate_left
  · have hO' : fldO s = false := by simpa using hO
    have hr : fldR s = [] := by rw [fldR, if_neg hO]
    rw [hr, hO'] at hS hI
    have hF := FormatInt_any (-3)
    rw [fmt_m3] at hF
    go_wp2_with fail
    (go_at_call 13; (with_reducible refine (hI _).mono ?_); rintro e w2 ⟨v2, rfl, W2, hb2⟩)
    obtain ⟨A2, c2, rfl⟩ := W2.form5
    go_wp2_with fail
    (go_at_call 12; (with_reducible refine (hS _).mono ?_); rintro e w3 ⟨v3, rfl, W3, hb3⟩)
    obtain ⟨A3, c3, rfl⟩ := W3.form5
    go_wp2_with fail
    (go_at_call 19; (with_reducible refine (hF _ (i64_k (by omega) (by omega))).mono ?_); rintro e w4 ⟨rfl, hb4⟩)
    go_wp2
    go_ret
    exact ⟨rfl, ((hU1.trans hb2).trans hb3).trans hb4⟩
  obtain ⟨hok, hag⟩ := fields_again s hO
  have hlen := fldR_len2 s
  have hel := fldR_el s
  rw [hO] at hS hI
  generalize fldR s = p at *
  clear hO hok
  go_wp2_with fail
  (go_at_call 13; (with_reducible refine (hI _).mono ?_); rintro e w2 ⟨v2, rfl, W2, hb2⟩)
  obtain ⟨A2, c2, rfl⟩ := W2.form5
  go_wp2_with fail
  (go_at_call 12; (with_reducible refine (hS _).mono ?_); rintro e w3 ⟨v3, rfl, W3, hb3⟩)
  obtain ⟨A3, c3, rfl⟩ := W3.form5
  have hU3 := (hU1.trans hb2).trans hb3
  have S3 := W2.sl.up hb3
  have HS3 := Lib.hid S3
  clear W2 W3 S3 hb2 hb3 hU1 hS hI
  go_wp2
  go_loopw [8, 9] (fun t i wr => ∃ k : Nat, i = .int .i64 (k : Int) ∧ k ≤ p.length ∧ t = .string ⟨(jnK p k).toArray⟩ ∧ (jnK p k).length ≤ 601 * k ∧ Up w3 wr) (fun _ i _ => p.length - (intOf i).toNat)
  case atStart => exact ⟨0, rfl, Nat.zero_le _, rfl, by simp [jnK, jnF], Up.refl _⟩
  case round =>
    obtain ⟨k, rfl, hk, rfl, hj, hup⟩ := hrel
    by_cases hk1 : k < p.length
    · obtain ⟨_, A', c', hv, hcp, hx⟩ := HS3.out.up hup
      cases hv
      obtain ⟨b, o, rfl, hb1, hb2, hcs⟩ := hx (by omega)
      have hg := Sl.txt hcs hk1
      have hk2 : (k : Int) < (p.length : Int) := by omega
      have hsu := jnK_succ p k hk1
      have hxl := hel k
      generalize p.getD k [] = X at *
      have hap := ba_app (jnK p k) X
      have hap2 := ba_app (jnK p k ++ X) [32]
      have hcap : ¬ 9223372036854775807 < (jnK p k).length + X.length := by omega
      have hcap2 : ¬ 9223372036854775807 < (jnK p k).length + X.length + 1 := by omega
      have hj2 : (jnK p (k + 1)).length ≤ 601 * (k + 1) := by rw [hsu]; simp; omega
      have HSU := Lib.hid hsu
      clear hcs hx hsu
      go_wp2
      exact ⟨⟨k + 1, by rfl, by omega, by rw [HSU.out, List.append_assoc], hj2, hup⟩, by simp only [intOf]; omega⟩
    · have hkk : k = p.length := by omega
      subst hkk
      have hjl : (jnK p p.length).length ≤ 20000 := by omega
      rw [jnK_all] at hjl ⊢
      have hag := hag ⟨(jnF p).toArray⟩ rfl
      have hsz := ba_size (jnF p)
      obtain ⟨T, hT⟩ : ∃ T : ByteArray, T = ⟨(jnF p).toArray⟩ := ⟨_, rfl⟩
      rw [← hT] at hag hsz ⊢
      have hI := SplitFields_any T wr
      clear hT hj
      by_cases h600 : T.size ≤ 600
      · obtain ⟨e1, e2⟩ := hag h600
        rw [e1, e2] at hI
        have hl1 : ¬ (600 : Int) < (T.size : Int) := by omega
        clear hag e1 e2
        go_wp2_with fail
        (go_at_call 13; (with_reducible refine hI.mono ?_); rintro e w4 ⟨v4, rfl, W4, hb4⟩)
        obtain ⟨A4, c4, rfl⟩ := W4.form5
        have hU4 := (hU3.trans hup).trans hb4
        have S4 := HS3.out.up (hup.trans hb4)
        go_wp2_with fail
        (go_at_call 21; (with_reducible refine (sameTexts_same _ _ _ _ _ _ _ _ _ S4 W4.sl (by omega)).mono ?_); rintro e w5 ⟨rfl, hb5⟩)
        go_wp2
        go_ret
        exact ⟨rfl, hU4.trans hb5⟩
      · obtain ⟨e1, e2⟩ := fld_f1 h600
        rw [e1, e2] at hI
        have hl1 : (600 : Int) < (T.size : Int) := by omega
        clear hag e1 e2
        go_wp2_with fail
        (go_at_call 13; (with_reducible refine hI.mono ?_); rintro e w4 ⟨v4, rfl, W4, hb4⟩)
        obtain ⟨A4, c4, rfl⟩ := W4.form5
        have hU4 := (hU3.trans hup).trans hb4
        go_wp2
        go_ret
        exact ⟨rfl, hU4⟩
end Go.Proofs.Ytmekjkhkbdkdoaa
