/- The walk of the law FnNumbers: it returns true. No condition. -/
import Derived.Test.YtfbhhdbnghghjaaNu
import Derived.Test.YtfbhhdbnghghjaaDraw3
import Derived.Test.YtfbhhdbnghghjaaOpen4
namespace Go.Proofs.Ytfbhhdbnghghjaa
open Go.RowKit
set_option linter.unusedVariables false
def D1P (w : World) (e : Ending) (w' : World) : Prop := ∃ x : Int, e = .returned (.int .i64 x) ∧ I64 x ∧ Up w w'
set_option maxHeartbeats 1000000 in
set_option maxRecDepth 100000 in
theorem DrawFormatInt_any (u : Value) (n lo hi : Nat) (B : Nat → Int) (w : World) (hs : Sl w lo hi 1 u n (bytF B)) (hn : n ≤ 1048576) (hB : ∀ i, i < n → 0 ≤ B i ∧ B i ≤ 255) : Calls Try.prog 33 #[u] w (D1P w) := by
  go_enter Try.func33, Try.ntmps33
  go_wp2_with fail
  (go_at_call 62; (with_reducible refine (l01New_any _ _ _ _ _ _ hs hn hB).mono ?_); rintro e w1 ⟨c, rfl, h0, hC1, hU1⟩)
  go_wp2_with fail
  (go_at_call 63; (with_reducible refine (l01Once_any _ _ _ w (i64_k (by omega) (by omega)) hC1 h0 hU1).mono ?_); rintro e w2 ⟨_, rfl, ⟨b, rfl⟩, hC2, hD2, hU2⟩)
  cases b with
  | true =>
    go_wp2_with fail
    (go_at_call 64; (with_reducible refine (l01Below_any _ _ _ w (i64_k (by omega) (by omega)) hC2 h0 hU2).mono ?_); rintro e w3 ⟨_, rfl, ⟨x3, rfl, hx3, hy3⟩, hC3, hD3, hU3⟩)
    go_wp2_with fail
    (go_at_call 64; (with_reducible refine (l01Below_any _ _ _ w (i64_k (by omega) (by omega)) hC3 h0 hU3).mono ?_); rintro e w4 ⟨_, rfl, ⟨x4, rfl, hx4, hy4⟩, hC4, hD4, hU4⟩)
    have hm := mul_bd (a := x3) (b := x4 - 1000000) 1000000 1000000 (by omega) (by omega) (by omega) (by omega)
    obtain ⟨hm1, hm2⟩ := hm
    go_wp2
    go_ret
    exact ⟨_, rfl, i64_k (by omega) (by omega), hU4⟩
  | false =>
    go_wp2_with fail
    (go_at_call 65; (with_reducible refine (l01Number_any _ _ w hC2 h0 hU2).mono ?_); rintro e w3 ⟨_, rfl, ⟨x3, rfl, hI3⟩, hC3, hD3, hU3⟩)
    go_wp2
    go_ret
    exact ⟨_, rfl, hI3, hU3⟩
set_option maxHeartbeats 1000000 in
set_option maxRecDepth 100000 in
theorem law_FnNumbers (u : Value) (n : Nat) (B : Nat → Int) (w : World) (hm : n ≤ maxLen) (hA : Sl w 0 w.heap.size 1 u n (bytF B)) (hB : ∀ i, i < n → 0 ≤ B i ∧ B i ≤ 255) :
    Calls Try.prog 9 #[u] w fun e w' => e = .returned (.bool true) ∧ Up w w' := by
  by_cases hn : n ≤ 1048576
  rotate_left
  · have hd : decide (1048576 < n) = true := decide_eq_true (by omega)
    go_enter Try.func9, Try.ntmps9
    go_wp2_with fail
    (go_at_call 32; (with_reducible refine (big_any _ _ _ _ _ _ hA hm).mono ?_); rintro e wx ⟨rfl, rfl⟩)
    go_wp2
    go_ret
    exact ⟨rfl, (by repeat (first | with_reducible exact Up.refl _ | with_reducible refine Up.alloc ?_ _ | with_reducible refine Up.drew ?_ | with_reducible refine Up.drewN ?_ _ | (with_reducible refine Up.setCell ?_ (by first | omega | (simp; done) | (simp; omega)) _) | with_reducible assumption | (with_reducible refine Up.trans ?_ (by with_reducible assumption))))⟩
  · have hd : decide (1048576 < n) = false := decide_eq_false (by omega)
    go_enter Try.func9, Try.ntmps9
    go_wp2_with fail
    (go_at_call 32; (with_reducible refine (big_any _ _ _ _ _ _ hA hm).mono ?_); rintro e wx ⟨rfl, rfl⟩)
    go_wp2_with fail
    (go_at_call 33; (with_reducible refine (DrawFormatInt_any _ _ _ _ _ _ hA hn hB).mono ?_); rintro e w1 ⟨x, rfl, hx, hU1⟩)
    go_wp2_with fail
    (go_at_call 17; (with_reducible refine (FormatInt_any _ _ hx).mono ?_); rintro e w2 ⟨rfl, hb2⟩)
    have hne : (fmtI x).isEmpty = false := by
      have := fmtI_ne x
      cases hl : fmtI x with
      | nil => exact absurd hl this
      | cons a l => rfl
    have hne2 : (!(fmtI x).isEmpty) = true := by rw [hne]; rfl
    have hU2 : Up w w2 := hU1.trans hb2
    by_cases hin : 0 ≤ x ∧ x ≤ 1000000000
    · obtain ⟨p1, p2⟩ := pu_in hin.1 hin.2
      obtain ⟨hx1, hx2⟩ := hin
      have hP := ParseUint_any (S8 (fmtI x)) w2
      rw [p1, p2] at hP
      clear p1 p2
      go_wp2_with fail
      (go_at_call 26; (with_reducible refine (show Calls _ _ #[.string ⟨(fmtI x).toArray⟩] _ _ from hP).mono ?_); rintro e w3 ⟨rfl, hb3⟩)
      go_wp2
      go_ret
      exact ⟨rfl, hU2.trans hb3⟩
    · have p1 := pu_out hin
      have hP := ParseUint_any (S8 (fmtI x)) w2
      rw [p1, puV_false p1] at hP
      clear p1
      go_wp2_with fail
      (go_at_call 26; (with_reducible refine (show Calls _ _ #[.string ⟨(fmtI x).toArray⟩] _ _ from hP).mono ?_); rintro e w3 ⟨rfl, hb3⟩)
      by_cases hx1 : 0 ≤ x
      · have hx2 : 1000000000 < x := by omega
        clear hin
        go_wp2
        go_ret
        exact ⟨rfl, hU2.trans hb3⟩
      · have hx2 : x < 0 := by omega
        clear hin
        go_wp2
        go_ret
        exact ⟨rfl, hU2.trans hb3⟩
end Go.Proofs.Ytfbhhdbnghghjaa
