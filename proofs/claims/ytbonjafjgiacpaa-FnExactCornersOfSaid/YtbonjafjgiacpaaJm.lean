/- The walks of JustMetBy: the indices of the rows that are just met. No condition. -/
import Derived.Test.YtbonjafjgiacpaaRw
import Derived.Test.YtbonjafjgiacpaaInt
namespace Go.Proofs.Ytbonjafjgiacpaa
open Go.RowKit
set_option linter.unusedVariables false
theorem own_up {w a b : World} {base size n : Nat} {e : TypeId} {v : Value} {xs : List Value} (h : a.ownsRow base e size v n xs) (hu : Up a b) : b.ownsRow base e size v n xs := by
  refine ⟨h.1, ?_⟩
  rcases h.2 with h1 | ⟨g, cap, cur, h1, h2, h3, h4⟩
  · exact .inl h1
  · have hlt : g < a.heap.size := by
      rcases Nat.lt_or_ge g a.heap.size with hlt | hge
      · exact hlt
      · rw [Array.getElem?_eq_none hge] at h3; cases h3
    exact .inr ⟨g, cap, cur, h1, h2, (Below.block hu g hlt).trans h3, h4⟩
/-- Behind an append onto a row of the call's own. -/
theorem up_own {w a b : World} {base size n : Nat} {e : TypeId} {v : Value} {xs : List Value} (h : Up w a) (hb : w.heap.size ≤ base) (ho : a.ownsRow base e size v n xs) (hg : a.grownBy b v.ownBlock) : Up w b :=
  Below.grown h hg h.size (fun k hk => Nat.le_trans hb (ho.lt k hk).1)
/-- The indices below k of which p holds. -/
def jmL (p : Nat → Bool) : Nat → List Nat
  | 0 => []
  | k + 1 => jmL p k ++ if p k then [k] else []
theorem jmL_le (p : Nat → Bool) (k : Nat) : (jmL p k).length ≤ k := by
  induction k with
  | zero => simp [jmL]
  | succ k ih => simp only [jmL, List.length_append]; split <;> simp <;> omega
theorem jmL_t {p : Nat → Bool} {k : Nat} (h : p k = true) : (jmL p (k + 1)).length = (jmL p k).length + 1 := by simp [jmL, h]
theorem jmL_f {p : Nat → Bool} {k : Nat} (h : p k = false) : (jmL p (k + 1)).length = (jmL p k).length := by simp [jmL, h]
theorem jmL_get {p : Nat → Bool} {n k : Nat} (hk : k < n) (h : p k = true) : (jmL p n).getD (jmL p k).length 0 = k := by
  induction n with
  | zero => omega
  | succ n ih =>
    rw [jmL]
    by_cases hkn : k < n
    · have hlt : (jmL p k).length < (jmL p n).length := by
        have h1 : ∀ m, k + 1 ≤ m → (jmL p (k + 1)).length ≤ (jmL p m).length := by
          intro m hm
          induction m with
          | zero => omega
          | succ m ihm =>
            by_cases he : k + 1 ≤ m
            · have := ihm he
              refine Nat.le_trans this ?_
              show _ ≤ (jmL p m ++ _).length
              rw [List.length_append]; omega
            · rw [show m = k from by omega]; exact Nat.le_refl _
        have := h1 n (by omega)
        rw [jmL_t h] at this
        omega
      rw [List.getD_eq_getElem?_getD, List.getElem?_append_left hlt, ← List.getD_eq_getElem?_getD]
      exact ih hkn
    · have : k = n := by omega
      subst this
      rw [if_pos h, List.getD_eq_getElem?_getD, List.getElem?_append_right (Nat.le_refl _)]
      simp
/-- The cells of indices. -/
abbrev idxF (L : List Nat) : Nat → Nat → Value := intF (fun i _ => ((L.getD i 0 : Nat) : Int))
theorem flat1 (f : Nat → Nat → Value) (n : Nat) : flat 1 f (n + 1) = flat 1 f n ++ [f n 0] := by simp [flat]
def jmR (h v m n : Int) (R : Nat → Nat → Int) (i : Nat) : Bool := jmB h v m n (R i 0) (R i 1) (R i 2) (R i 3)
end Go.Proofs.Ytbonjafjgiacpaa
