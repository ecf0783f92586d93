/- The walk of the law SplitFields: it returns true. No condition. -/
import Derived.Test.YtmekjkhkbdkdoaaTs
namespace Go.Proofs.Ytmekjkhkbdkdoaa
open Go.RowKit
set_option linter.unusedVariables false
theorem fldR_len (s : ByteArray) : (fldR s).length ≤ 24 := by
  unfold fldR
  split
  · rename_i h
    simp only [fldO, Bool.and_eq_true, decide_eq_true_eq] at h
    exact h.2
  · simp
theorem Wr.form2 {w : World} {lo hi sz n : Nat} {v : Value} {f : Nat → Nat → Value} (h : Wr w lo hi sz v n f) : ∃ A c, v = .slice A n c := by
  obtain ⟨_, A, c, rfl, _⟩ := h
  exact ⟨A, c, rfl⟩
theorem markS1 (v : Value) (n lo hi : Nat) (f : Nat → Nat → Value) (w w0 : World) (hs : Wr w lo hi 1 v n f) (hn : n ≤ 1048576) (hu : Up w0 w) (hlo : w0.heap.size ≤ lo) :
    Calls Try.prog 15 #[v, .int .i64 1] w (MkT w w0 lo hi v n 1 (1 + (n : Int))) := markStringS_any v n lo hi f 1 w w0 hs hn (by omega) hu hlo
theorem heldS1 (v : Value) (n lo hi : Nat) (w : World) (hs : Sl w lo hi 1 v n (mkS 1)) (hn : n ≤ 1048576) :
    Calls Try.prog 16 #[v, .int .i64 1] w fun e w' => e = .returned (.int .i64 (1 + (n : Int))) ∧ Up w w' := heldStringS_any v n lo hi 1 w hs hn (by omega)
set_option maxHeartbeats 2000000 in
set_option maxRecDepth 100000 in
theorem law_SplitFields (s : ByteArray) (w : World) (h1 : s.size ≤ maxLen) : Calls Try.prog 5 #[.string s] w fun e w' => e = .returned (.bool true) ∧ Up w w' := by
  by_cases hbig : 1048576 < s.size
  · go_enter Try.func5, Try.ntmps5
    go_wp2
    go_ret
    exact ⟨rfl, (by repeat (first | with_reducible exact Up.refl _ | with_reducible refine Up.alloc ?_ _ | with_reducible refine Up.drew ?_ | with_reducible refine Up.drewN ?_ _ | (with_reducible refine Up.setCell ?_ (by first | omega | (simp; done) | (simp; omega)) _) | with_reducible assumption | (with_reducible refine Up.trans ?_ (by with_reducible assumption))))⟩
  have hlen := fldR_len s
  have hS := fun W => sSplitFields_any s W
  have hI := fun W => SplitFields_any s W
  generalize fldR s = L at *
  generalize fldO s = b at *
  have hn : L.length ≤ 1048576 := by omega
  go_enter Try.func5, Try.ntmps5
  go_wp2_with fail
  (go_at_call 12; (with_reducible refine (hS _).mono ?_); rintro e w1 ⟨v1, rfl, W1, hb1⟩)
  obtain ⟨A1, c1, rfl⟩ := W1.form2
  go_wp2_with fail
  (go_at_call 13; (with_reducible refine (hI _).mono ?_); rintro e w2 ⟨v2, rfl, W2, hb2⟩)
  obtain ⟨A2, c2, rfl⟩ := W2.form2
  have S1 := W1.sl.up hb2
  have hu2 := hb1.trans hb2
  have z1 := hb1.size
  have z2 := hb2.size
  go_wp2_with fail
  (go_at_call 14; (with_reducible refine (eqStringS_same _ _ _ _ _ _ _ _ _ W2.sl S1 hn).mono ?_); rintro e w3 ⟨rfl, hb3⟩)
  have S3 := S1.up hb3
  have W3 := W2.up hb3
  have hu3 := hu2.trans hb3
  clear W1 W2 S1
  go_wp2_with fail
  (go_at_call 15; (with_reducible refine (markS1 _ _ _ _ _ _ w W3 hn hu3 z1).mono ?_); rintro e w4 ⟨rfl, W4, hC4, hb4⟩)
  have S4 := S3.off hC4 (.inl (Nat.le_refl _))
  clear W3 S3
  go_wp2_with fail
  (go_at_call 16; (with_reducible refine (heldS1 _ _ _ _ _ W4.sl hn).mono ?_); rintro e w5 ⟨rfl, hb5⟩)
  have S5 := S4.up hb5
  have W5 := W4.up hb5
  have hu5 := hb4.trans hb5
  have hq0 : ¬ (1 + (L.length : Int) < 0) := by omega
  clear W4 S4
  go_wp2_with fail
  (go_at_call 13; (with_reducible refine (hI _).mono ?_); rintro e w6 ⟨v6, rfl, W6, hb6⟩)
  obtain ⟨A6, c6, rfl⟩ := W6.form2
  have S6 := S5.up hb6
  have W56 := W5.up hb6
  have hu6 := hu5.trans hb6
  clear W5 S5
  go_wp2_with fail
  (go_at_call 14; (with_reducible refine (eqStringS_same _ _ _ _ _ _ _ _ _ W6.sl S6 hn).mono ?_); rintro e w7 ⟨rfl, hb7⟩)
  have W7 := W56.up hb7
  have hu7 := hu6.trans hb7
  clear W56 S6 W6
  go_wp2_with fail
  (go_at_call 16; (with_reducible refine (heldS1 _ _ _ _ _ W7.sl hn).mono ?_); rintro e w8 ⟨rfl, hb8⟩)
  go_wp2
  go_ret
  exact ⟨rfl, hu7.trans hb8⟩
end Go.Proofs.Ytmekjkhkbdkdoaa
