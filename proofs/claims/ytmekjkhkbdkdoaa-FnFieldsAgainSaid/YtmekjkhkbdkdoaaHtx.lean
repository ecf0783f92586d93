/- The walk of the law FnHexText: it returns true. No condition. -/
import Derived.Test.YtmekjkhkbdkdoaaDraw5
import Derived.Test.YtmekjkhkbdkdoaaHx2
import Derived.Test.YtmekjkhkbdkdoaaOpen4
namespace Go.Proofs.Ytmekjkhkbdkdoaa
open Go.RowKit
set_option linter.unusedVariables false
def DtP (n : Nat) (w : World) (e : Ending) (w' : World) : Prop := ∃ l : List UInt8, e = .returned (.string ⟨l.toArray⟩) ∧ l.length ≤ n ∧ Up w w'
theorem fmt_10 : fmtI 10 = [49, 48] := by
  rw [fmtI, if_neg (by omega), decN_ge (by decide), show Int.natAbs 10 / 10 = 1 from rfl, decN_lt (by decide)]
  rfl
theorem fmt_m3 : fmtI (-3) = [45, 51] := by
  rw [fmtI, if_pos (by omega), decN_lt (by decide)]
  rfl
theorem ba_size (l : List UInt8) : (⟨l.toArray⟩ : ByteArray).size = l.length := by simp [ByteArray.size]
set_option maxHeartbeats 1000000 in
set_option maxRecDepth 100000 in
theorem DrawEncodeHex_any (u : Value) (n lo hi : Nat) (B : Nat → Int) (w : World) (hs : Sl w lo hi 1 u n (bytF B)) (hn : n ≤ 1048576) (hB : ∀ i, i < n → 0 ≤ B i ∧ B i ≤ 255) : Calls Try.prog 18 #[u] w (DtP 20001 w) := by
  go_enter Try.func18, Try.ntmps18
  go_wp2_with fail
  (go_at_call 28; (with_reducible refine (l01New_any _ _ _ _ _ _ hs hn hB).mono ?_); rintro e w1 ⟨c, rfl, h0, hC1, hU1⟩)
  go_wp2_with fail
  (go_at_call 29; (with_reducible refine (l01Once_any _ _ _ w (i64_k (by omega) (by omega)) hC1 h0 hU1).mono ?_); rintro e w2 ⟨_, rfl, ⟨b, rfl⟩, hC2, hD2, hU2⟩)
  cases b with
  | true =>
    go_wp2_with fail
    (go_at_call 31; (with_reducible refine (l01Below_any _ _ _ w (i64_k (by omega) (by omega)) hC2 h0 hU2).mono ?_); rintro e w3 ⟨_, rfl, ⟨x3, rfl, hx3, hy3⟩, hC3, hD3, hU3⟩)
    have hx4 : x3 ≤ 1 := by omega
    clear hy3
    go_wp2_with fail
    (go_at_call 30; (with_reducible refine (l01Long_200 (20000 + x3) (20000 + x3.toNat) _ (by omega) (by omega)).mono ?_); rintro e w4 ⟨l, rfl, hl, hb4⟩)
    go_wp2
    go_ret
    exact ⟨l, rfl, by omega, hU3.trans hb4⟩
  | false =>
    go_wp2_with fail
    (go_at_call 31; (with_reducible refine (l01Below_any _ _ _ w (i64_k (by omega) (by omega)) hC2 h0 hU2).mono ?_); rintro e w3 ⟨_, rfl, ⟨x3, rfl, hx3, hy3⟩, hC3, hD3, hU3⟩)
    go_wp2_with fail
    (go_at_call 32; (with_reducible refine (l01Text_any _ _ _ w (i64_k (by omega) (by omega)) hC3 h0 hU3).mono ?_); rintro e w4 ⟨_, rfl, ⟨l, rfl, hl⟩, hC4, hD4, hU4⟩)
    go_wp2
    go_ret
    exact ⟨l, rfl, by omega, hU4⟩
set_option maxHeartbeats 1000000 in
set_option maxRecDepth 100000 in
theorem law_FnHexText (u : Value) (n : Nat) (B : Nat → Int) (w : World) (hm : n ≤ maxLen) (hA : Sl w 0 w.heap.size 1 u n (bytF B)) (hB : ∀ i, i < n → 0 ≤ B i ∧ B i ≤ 255) :
    Calls Try.prog 6 #[u] w fun e w' => e = .returned (.bool true) ∧ Up w w' := by
  by_cases hn : n ≤ 1048576
  rotate_left
  · have hd : decide (1048576 < n) = true := decide_eq_true (by omega)
    go_enter Try.func6, Try.ntmps6
    go_wp2_with fail
    (go_at_call 17; (with_reducible refine (big_any _ _ _ _ _ _ hA hm).mono ?_); rintro e wx ⟨rfl, rfl⟩)
    go_wp2
    go_ret
    exact ⟨rfl, (by repeat (first | with_reducible exact Up.refl _ | with_reducible refine Up.alloc ?_ _ | with_reducible refine Up.drew ?_ | with_reducible refine Up.drewN ?_ _ | (with_reducible refine Up.setCell ?_ (by first | omega | (simp; done) | (simp; omega)) _) | with_reducible assumption | (with_reducible refine Up.trans ?_ (by with_reducible assumption))))⟩
  have hd : decide (1048576 < n) = false := decide_eq_false (by omega)
  go_enter Try.func6, Try.ntmps6
  go_wp2_with fail
  (go_at_call 17; (with_reducible refine (big_any _ _ _ _ _ _ hA hm).mono ?_); rintro e wx ⟨rfl, rfl⟩)
  go_wp2_with fail
  (go_at_call 18; (with_reducible refine (DrawEncodeHex_any _ _ _ _ _ _ hA hn hB).mono ?_); rintro e w1 ⟨l, rfl, hl, hU1⟩)
  obtain ⟨s, hs⟩ : ∃ s : ByteArray, s = ⟨l.toArray⟩ := ⟨_, rfl⟩
  rw [← hs]
  have hsz : s.size = l.length := by rw [hs, ba_size]
  have hsl : s.data.toList = l := by rw [hs]
  have hE := EncodeHex_any s w1
  by_cases hlen : s.size ≤ 20000
  rotate_left
  · have hlen1 : (20000 : Int) < (s.size : Int) := by omega
    have e1 : ehL s = [] := by rw [ehL, if_neg hlen]
    have e2 : ehB s = false := by simp [ehB, hlen]
    rw [e1, e2] at hE
    have hF := FormatInt_any 10
    rw [fmt_10] at hF
    have hS := Lib.hid hs
    clear hs hsl
    go_wp2_with fail
    (go_at_call 9; (with_reducible refine hE.mono ?_); rintro e w2 ⟨rfl, hb2⟩)
    go_wp2_with fail
    (go_at_call 19; (with_reducible refine (hF _ (i64_k (by omega) (by omega))).mono ?_); rintro e w3 ⟨rfl, hb3⟩)
    go_wp2
    go_ret
    exact ⟨rfl, (hU1.trans hb2).trans hb3⟩
  · have hlen1 : ¬ (20000 : Int) < (s.size : Int) := by omega
    have e1 : ehL s = hxL s s.size := by rw [ehL, if_pos hlen]
    have e2 : ehB s = true := by simp [ehB, hlen]
    rw [e1, e2] at hE
    obtain ⟨r1, r2⟩ := hx_round s hlen
    have hz : (⟨(hxL s s.size).toArray⟩ : ByteArray).size = 2 * s.size := by rw [ba_size, hxL_length]
    obtain ⟨h, hh⟩ : ∃ h : ByteArray, h = ⟨(hxL s s.size).toArray⟩ := ⟨_, rfl⟩
    rw [← hh] at hE r1 r2 hz
    have hD := fun W => DecodeHex_any h W
    rw [r1, r2, hsl, ← hs] at hD
    have hz2 : (h.size : Int) = 2 * (s.size : Int) := by omega
    clear hh hs hsl r1 r2 e1 e2 hl
    go_wp2_with fail
    (go_at_call 9; (with_reducible refine hE.mono ?_); rintro e w2 ⟨rfl, hb2⟩)
    go_wp2_with fail
    (go_at_call 11; (with_reducible refine (hD _).mono ?_); rintro e w3 ⟨rfl, hb3⟩)
    go_wp2
    go_ret
    exact ⟨rfl, (hU1.trans hb2).trans hb3⟩
end Go.Proofs.Ytmekjkhkbdkdoaa
