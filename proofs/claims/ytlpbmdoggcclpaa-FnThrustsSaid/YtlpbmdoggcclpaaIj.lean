/- Plain laws: a number is known by its decimal text; texts parted by commas are known by their parts. No Go in sight; no condition. -/
import Derived.Test.YtlpbmdoggcclpaaTxt
import Derived.Test.YtlpbmdoggcclpaaTx
namespace Go.Proofs.Ytlpbmdoggcclpaa
open Go.RowKit
set_option linter.unusedVariables false
theorem dec_digits (n : Nat) : ∀ c ∈ decN n, 48 ≤ c.toNat ∧ c.toNat ≤ 57 := by
  induction n using Nat.strongRecOn with
  | ind n ih =>
    intro c hc
    by_cases h : n < 10
    · rw [decN_lt h] at hc
      simp only [List.mem_singleton] at hc
      subst hc
      have : (UInt8.ofNat (48 + n)).toNat = 48 + n := by simp; omega
      omega
    · rw [decN_ge h, List.mem_append] at hc
      rcases hc with hc | hc
      · exact ih (n / 10) (by omega) c hc
      · simp only [List.mem_singleton] at hc
        subst hc
        have : (UInt8.ofNat (48 + n % 10)).toNat = 48 + n % 10 := by simp; omega
        omega
/-- What a list of figures is worth. -/
def wrL (l : List UInt8) : Nat := l.foldl (fun a c => 10 * a + (c.toNat - 48)) 0
theorem wr_dec (n : Nat) : wrL (decN n) = n := by
  induction n using Nat.strongRecOn with
  | ind n ih =>
    by_cases h : n < 10
    · rw [decN_lt h]
      simp [wrL]
      omega
    · rw [decN_ge h, wrL, List.foldl_append]
      have h1 := ih (n / 10) (by omega)
      rw [wrL] at h1
      rw [h1]
      have : (UInt8.ofNat (48 + n % 10)).toNat = 48 + n % 10 := by simp; omega
      simp only [List.foldl_cons, List.foldl_nil, this]
      omega
theorem dec_inj {m n : Nat} (h : decN m = decN n) : m = n := by rw [← wr_dec m, ← wr_dec n, h]
theorem fmt_inj {x y : Int} (h : fmtI x = fmtI y) : x = y := by
  have no : ∀ (m n : Nat), ¬ 45 :: decN m = decN n := fun m n e => by
    have := (dec_digits n 45 (by rw [← e]; simp)).1
    exact absurd this (by decide)
  unfold fmtI at h
  split at h <;> split at h
  · rename_i h1 h2
    have := dec_inj (List.cons.inj h).2
    omega
  · exact absurd h (no _ _)
  · exact absurd h.symm (no _ _)
  · have := dec_inj h
    omega
theorem fmt_comma (x : Int) : ∀ c ∈ fmtI x, ¬ c = 44 := by
  intro c hc e
  subst e
  unfold fmtI at hc
  split at hc
  · rw [List.mem_cons] at hc
    rcases hc with hc | hc
    · exact absurd hc (by decide)
    · exact absurd (dec_digits _ _ hc).1 (by decide)
  · exact absurd (dec_digits _ _ hc).1 (by decide)
theorem sep_inj : ∀ {a b r s : List UInt8}, (∀ c ∈ a, ¬ c = 44) → (∀ c ∈ b, ¬ c = 44) → a ++ 44 :: r = b ++ 44 :: s → a = b ∧ r = s
  | [], [], r, s, _, _, h => ⟨rfl, (List.cons.inj h).2⟩
  | [], y :: b, r, s, _, hb, h => absurd (List.cons.inj h).1.symm (hb y (by simp))
  | x :: a, [], r, s, ha, _, h => absurd (List.cons.inj h).1 (ha x (by simp))
  | x :: a, y :: b, r, s, ha, hb, h => by
    obtain ⟨e1, e2⟩ := List.cons.inj h
    obtain ⟨e3, e4⟩ := sep_inj (fun c hc => ha c (by simp [hc])) (fun c hc => hb c (by simp [hc])) e2
    exact ⟨by rw [e1, e3], e4⟩
theorem pT_inj {x y z t : Int} (h : pT x y = pT z t) : x = z ∧ y = t := by
  obtain ⟨h1, h2⟩ := sep_inj (fmt_comma x) (fmt_comma z) h
  exact ⟨fmt_inj h1, fmt_inj h2⟩
theorem thT_inj {a b c d x y z t : Int} (h : fmtI a ++ 44 :: (fmtI b ++ 44 :: (fmtI c ++ 44 :: fmtI d)) = fmtI x ++ 44 :: (fmtI y ++ 44 :: (fmtI z ++ 44 :: fmtI t))) : a = x ∧ b = y ∧ c = z ∧ d = t := by
  obtain ⟨h1, h⟩ := sep_inj (fmt_comma a) (fmt_comma x) h
  obtain ⟨h2, h⟩ := sep_inj (fmt_comma b) (fmt_comma y) h
  obtain ⟨h3, h4⟩ := sep_inj (fmt_comma c) (fmt_comma z) h
  exact ⟨fmt_inj h1, fmt_inj h2, fmt_inj h3, fmt_inj h4⟩
end Go.Proofs.Ytlpbmdoggcclpaa
