/- SplitFields, plain: the fields of a line. No Go in sight; no condition. -/
import Derived.Test.YtmekjkhkbdkdoaaPu
import Derived.Test.YtmekjkhkbdkdoaaSl
namespace Go.Proofs.Ytmekjkhkbdkdoaa
open Go.RowKit
set_option linter.unusedVariables false
/-- The fields of a text, one having begun with cur. -/
def fldF : List UInt8 → List UInt8 → List (List UInt8)
  | [], cur => if cur = [] then [] else [cur]
  | c :: l, cur => if c = 32 then (if cur = [] then fldF l [] else cur :: fldF l []) else fldF l (cur ++ [c])
/-- Byte k is no space (behind the end lies a space). -/
def fldN (s : ByteArray) (k : Nat) : Bool := decide (k < s.size) && !decide (bat s k = 32)
/-- Byte k may stand in a line. -/
def fldG (s : ByteArray) (k : Nat) : Bool := decide (32 ≤ bat s k) && decide (bat s k ≤ 126)
/-- Where the field that is open ahead of byte k begins. -/
def fldB (s : ByteArray) : Nat → Nat
  | 0 => 0
  | k + 1 => if fldN s k then fldB s k else k + 1
/-- The fields that are closed ahead of byte k. -/
def fldL (s : ByteArray) : Nat → List (List UInt8)
  | 0 => []
  | k + 1 => if fldN s k then fldL s k else if fldB s k < k then fldL s k ++ [(s.data.toList.drop (fldB s k)).take (k - fldB s k)] else fldL s k
theorem fldB_le (s : ByteArray) : ∀ k, fldB s k ≤ k
  | 0 => Nat.le_refl _
  | k + 1 => by have := fldB_le s k; rw [fldB]; split <;> omega
theorem fldL_len (s : ByteArray) : ∀ k, (fldL s k).length ≤ k
  | 0 => Nat.le_refl _
  | k + 1 => by have := fldL_len s k; rw [fldL]; split; · omega
                split
                · simp; omega
                · omega
theorem fldB_n {s : ByteArray} {k : Nat} (h : fldN s k = true) : fldB s (k + 1) = fldB s k ∧ fldL s (k + 1) = fldL s k := by rw [fldB, fldL, if_pos h, if_pos h]; exact ⟨rfl, rfl⟩
theorem fldB_s {s : ByteArray} {k : Nat} (h : fldN s k = false) : fldB s (k + 1) = k + 1 := by rw [fldB, if_neg (by simp [h])]
theorem fldL_a {s : ByteArray} {k : Nat} (h : fldN s k = false) (h1 : fldB s k < k) : fldL s (k + 1) = fldL s k ++ [(s.data.toList.drop (fldB s k)).take (k - fldB s k)] := by rw [fldL, if_neg (by simp [h]), if_pos h1]
theorem fldL_z {s : ByteArray} {k : Nat} (h : fldN s k = false) (h1 : ¬ fldB s k < k) : fldL s (k + 1) = fldL s k := by rw [fldL, if_neg (by simp [h]), if_neg h1]
/-- The first k bytes may stand in a line. -/
def fldA (s : ByteArray) : Nat → Bool
  | 0 => true
  | k + 1 => fldA s k && fldG s k
theorem fldA_out {s : ByteArray} {k n : Nat} (hk : k < n) (h : fldG s k = false) : fldA s n = false := by
  induction n with
  | zero => omega
  | succ n ih =>
    rw [fldA]
    by_cases e : k = n
    · subst e; rw [h]; simp
    · rw [ih (by omega)]; rfl
theorem fldA_in {s : ByteArray} {k : Nat} (h : fldA s k = true) (h1 : fldG s k = true) : fldA s (k + 1) = true := by rw [fldA, h, h1]; rfl
theorem fldA_all {s : ByteArray} {n : Nat} (h : fldA s n = true) {k : Nat} (hk : k < n) : fldG s k = true := by
  cases hg : fldG s k with
  | true => rfl
  | false => rw [fldA_out hk hg] at h; cases h
def fldO (s : ByteArray) : Bool := decide (s.size ≤ 600) && fldA s s.size && decide ((fldL s (s.size + 1)).length ≤ 24)
def fldR (s : ByteArray) : List (List UInt8) := if fldO s then fldL s (s.size + 1) else []
theorem fld_f1 {s : ByteArray} (h : ¬ s.size ≤ 600) : fldO s = false ∧ fldR s = [] := by
  have : fldO s = false := by simp [fldO, h]
  exact ⟨this, by rw [fldR, this]; rfl⟩
theorem fld_f2 {s : ByteArray} {k : Nat} (hk : k < s.size) (h : fldG s k = false) : fldO s = false ∧ fldR s = [] := by
  have : fldO s = false := by simp [fldO, fldA_out hk h]
  exact ⟨this, by rw [fldR, this]; rfl⟩
theorem fld_f3 {s : ByteArray} (h : ¬ (fldL s (s.size + 1)).length ≤ 24) : fldO s = false ∧ fldR s = [] := by
  have : fldO s = false := by simp [fldO, h]
  exact ⟨this, by rw [fldR, this]; rfl⟩
theorem fld_t {s : ByteArray} (h1 : s.size ≤ 600) (h2 : fldA s s.size = true) (h3 : (fldL s (s.size + 1)).length ≤ 24) : fldO s = true ∧ fldR s = fldL s (s.size + 1) := by
  have : fldO s = true := by simp [fldO, h1, h2, h3]
  exact ⟨this, by rw [fldR, this]; rfl⟩
/-- The cells of texts. -/
def txtF (l : List (List UInt8)) (i j : Nat) : Value := .string ⟨(l.getD i []).toArray⟩
theorem txt_flat (l : List (List UInt8)) : ∀ n, n ≤ l.length → flat 1 (txtF l) n = (l.take n).map (fun x => Value.string ⟨x.toArray⟩)
  | 0, _ => by simp [flat]
  | n + 1, h => by
    rw [flat, txt_flat l n (by omega), List.take_add_one, List.map_append, List.getElem?_eq_getElem (by omega)]
    congr 1
    have : [0].map (txtF l n) = [Value.string ⟨(l[n]'(by omega)).toArray⟩] := by simp [txtF, List.getD_eq_getElem?_getD, List.getElem?_eq_getElem (show n < l.length by omega)]
    simpa using this
theorem txt_flat1 (l : List (List UInt8)) (x : List UInt8) : flat 1 (txtF (l ++ [x])) (l.length + 1) = flat 1 (txtF l) l.length ++ [.string ⟨x.toArray⟩] := by
  rw [txt_flat _ _ (by simp), txt_flat _ _ (Nat.le_refl _), List.take_of_length_le (by simp), List.take_of_length_le (Nat.le_refl _)]
  simp
theorem ext_list (s : ByteArray) (a b : Nat) : s.extract a b = ⟨((s.data.toList.drop a).take (b - a)).toArray⟩ := by
  apply ByteArray.ext
  rw [ByteArray.data_extract]
  apply Array.ext'
  simp [Array.toList_extract, List.extract_eq_take_drop]
end Go.Proofs.Ytmekjkhkbdkdoaa
