/- The walks of ParseUint, the program's and the reference's, and of its law. No condition. -/
import Derived.Test.YtmekjkhkbdkdoaaFmt2
import Derived.Test.YtmekjkhkbdkdoaaOpen
namespace Go.Proofs.Ytmekjkhkbdkdoaa
open Go.RowKit
set_option linter.unusedVariables false
/-- The byte of a string at a place. -/
def bat (s : ByteArray) (k : Nat) : Nat := (s.data.getD k 0).toNat
theorem bat_le (s : ByteArray) (k : Nat) : bat s k ≤ 255 := by have := (s.data.getD k 0).toNat_lt; unfold bat; omega
theorem bat_at {s : ByteArray} {k : Nat} (h : k < s.size) : (s[k]'h).toNat = bat s k := by
  have h' : k < s.data.size := h
  unfold bat
  rw [Array.getD, dif_pos h']
  rfl
/-- The number of the first k figures. -/
def pv (s : ByteArray) : Nat → Nat
  | 0 => 0
  | k + 1 => 10 * pv s k + (bat s k - 48)
def digs (s : ByteArray) (k : Nat) : Prop := ∀ j, j < k → 48 ≤ bat s j ∧ bat s j ≤ 57
theorem digs_zero (s : ByteArray) : digs s 0 := fun j hj => by omega
theorem digs_succ {s : ByteArray} {k : Nat} (h : digs s k) (h1 : 48 ≤ bat s k) (h2 : bat s k ≤ 57) : digs s (k + 1) := fun j hj => by
  rcases Nat.lt_or_ge j k with hj' | hj'
  · exact h j hj'
  · rw [show j = k from by omega]; exact ⟨h1, h2⟩
theorem pv_lt {s : ByteArray} {k : Nat} (h : digs s k) : pv s k < 10 ^ k := by
  induction k with
  | zero => simp [pv]
  | succ k ih =>
    have h1 := ih (fun j hj => h j (by omega))
    have h2 := h k (by omega)
    rw [pv, Nat.pow_succ]; omega
theorem pv_big {s : ByteArray} {k : Nat} (h : digs s k) (hk : k ≤ 10) : pv s k < 10000000000 :=
  Nat.lt_of_lt_of_le (pv_lt h) (Nat.le_trans (Nat.pow_le_pow_right (by omega) hk) (by decide))
open Classical in
noncomputable def puB (s : ByteArray) : Bool := decide (s.size ≤ 10 ∧ digs s s.size ∧ pv s s.size ≤ 1000000000 ∧ fmtI (pv s s.size) = s.data.toList)
noncomputable def puV (s : ByteArray) : Int := if puB s = true then (pv s s.size : Int) else 0
theorem puB_false {s : ByteArray} (h : ¬ (s.size ≤ 10 ∧ digs s s.size ∧ pv s s.size ≤ 1000000000 ∧ fmtI (pv s s.size) = s.data.toList)) : puB s = false := by simp [puB]; intro a b c d; exact h ⟨a, b, c, d⟩
theorem puB_true {s : ByteArray} (h : s.size ≤ 10 ∧ digs s s.size ∧ pv s s.size ≤ 1000000000 ∧ fmtI (pv s s.size) = s.data.toList) : puB s = true := by simp only [puB, decide_eq_true_eq]; exact h
theorem puV_false {s : ByteArray} (h : puB s = false) : puV s = 0 := by simp [puV, h]
theorem puV_true {s : ByteArray} (h : puB s = true) : puV s = (pv s s.size : Int) := by simp [puV, h]
end Go.Proofs.Ytmekjkhkbdkdoaa
