/- Fields again, plain: fields joined by spaces have the same fields. No Go in sight; no condition. -/
import Derived.Test.YtmekjkhkbdkdoaaSf
namespace Go.Proofs.Ytmekjkhkbdkdoaa
open Go.RowKit
set_option linter.unusedVariables false
theorem take_drop_succ (l : List UInt8) (b k : Nat) (hb : b ≤ k) (hk : k < l.length) : (l.drop b).take (k + 1 - b) = (l.drop b).take (k - b) ++ [l.getD k 0] := by
  rw [show k + 1 - b = k - b + 1 from by omega, List.take_add_one, List.getElem?_drop, show b + (k - b) = k from by omega, List.getD_eq_getElem?_getD, List.getElem?_eq_getElem hk]
  rfl
theorem getD_bat (s : ByteArray) (k : Nat) (hk : k < s.size) : (s.data.toList.getD k 0).toNat = bat s k := by
  have h' : k < s.data.size := hk
  unfold bat
  rw [Array.getD, dif_pos h', List.getD_eq_getElem?_getD, List.getElem?_eq_getElem (by simpa using h')]
  simp
/-- What is closed, and what the rest of the text gives. -/
theorem fld_split (s : ByteArray) : ∀ k, k ≤ s.size → fldL s k ++ fldF (s.data.toList.drop k) ((s.data.toList.drop (fldB s k)).take (k - fldB s k)) = fldF s.data.toList []
  | 0, _ => by simp [fldL, fldB]
  | k + 1, hk => by
    have ih := fld_split s k (by omega)
    have hlen : s.data.toList.length = s.size := by rw [Array.length_toList]; rfl
    have hkl : k < s.data.toList.length := by omega
    have hb := fldB_le s k
    rw [← ih, List.drop_eq_getElem_cons hkl]
    have hc : (s.data.toList[k]).toNat = bat s k := by
      have := getD_bat s k (by omega)
      rw [List.getD_eq_getElem?_getD, List.getElem?_eq_getElem hkl] at this
      exact this
    by_cases h32 : bat s k = 32
    · have hN := fldN_f h32
      have h32' : s.data.toList[k] = 32 := by
        apply UInt8.toNat_inj.1
        rw [hc, h32]; rfl
      rw [fldB_s hN, Nat.sub_self, List.take_zero]
      rw [fldF, if_pos h32']
      by_cases h4 : fldB s k < k
      · rw [fldL_a hN h4, if_neg]
        · simp
        · intro h
          have := congrArg List.length h
          simp at this
          omega
      · have hbk : fldB s k = k := by omega
        rw [fldL_z hN h4, hbk, Nat.sub_self, List.take_zero, if_pos rfl]
    · have hN := fldN_t (show k < s.size by omega) h32
      obtain ⟨e1, e2⟩ := fldB_n hN
      have h32' : ¬ s.data.toList[k] = 32 := fun h => h32 (by rw [← hc, h]; rfl)
      rw [e1, e2, take_drop_succ _ _ _ hb hkl, fldF, if_neg h32', List.getD_eq_getElem?_getD, List.getElem?_eq_getElem hkl]
      rfl
theorem fld_all (s : ByteArray) : fldL s (s.size + 1) = fldF s.data.toList [] := by
  have h := fld_split s s.size (Nat.le_refl _)
  have hlen : s.data.toList.length = s.size := by rw [Array.length_toList]; rfl
  have hN := fldN_e (s := s) (k := s.size) (by omega)
  have hb := fldB_le s s.size
  rw [← h, List.drop_of_length_le (by omega), fldF]
  by_cases h4 : fldB s s.size < s.size
  · rw [fldL_a hN h4, if_neg]
    intro hh
    have := congrArg List.length hh
    simp only [List.length_take, List.length_drop, List.length_nil, hlen] at this
    omega
  · have hbk : fldB s s.size = s.size := by omega
    rw [fldL_z hN h4, hbk, Nat.sub_self, List.take_zero, if_pos rfl]
    simp
/-- A field: not empty, no space in it, every byte may stand in a line. -/
def okF (x : List UInt8) : Prop := x ≠ [] ∧ ∀ c ∈ x, 33 ≤ c.toNat ∧ c.toNat ≤ 126
theorem fldF_run : ∀ (x l cur : List UInt8), (∀ c ∈ x, ¬ c = 32) → fldF (x ++ l) cur = fldF l (cur ++ x)
  | [], l, cur, _ => by simp
  | c :: x, l, cur, h => by
    rw [List.cons_append, fldF, if_neg (h c (by simp)), fldF_run x l (cur ++ [c]) (fun d hd => h d (by simp [hd]))]
    simp
/-- The fields, each with a space behind it. -/
def jnF : List (List UInt8) → List UInt8
  | [] => []
  | x :: p => x ++ [32] ++ jnF p
theorem ok_ne {x : List UInt8} (h : okF x) : ∀ c ∈ x, ¬ c = 32 := fun c hc e => by
  have := (h.2 c hc).1
  rw [e] at this
  exact absurd this (by decide)
theorem fldF_jn : ∀ p : List (List UInt8), (∀ x ∈ p, okF x) → fldF (jnF p) [] = p
  | [], _ => rfl
  | x :: p, h => by
    have hx := h x (by simp)
    rw [jnF, List.append_assoc, fldF_run x _ [] (ok_ne hx), List.nil_append, List.singleton_append, fldF, if_pos rfl, if_neg hx.1, fldF_jn p (fun y hy => h y (by simp [hy]))]
theorem jn_ok : ∀ p : List (List UInt8), (∀ x ∈ p, okF x) → ∀ c ∈ jnF p, 32 ≤ c.toNat ∧ c.toNat ≤ 126
  | [], _, c, hc => by simp [jnF] at hc
  | x :: p, h, c, hc => by
    rw [jnF, List.mem_append, List.mem_append] at hc
    rcases hc with (hc | hc) | hc
    · have := (h x (by simp)).2 c hc; omega
    · simp at hc; subst hc; decide
    · exact jn_ok p (fun y hy => h y (by simp [hy])) c hc
/-- Whatever fldF gives are fields, where the text's bytes are good and what is open is so. -/
theorem fldF_ok : ∀ (l cur : List UInt8), (∀ c ∈ l, 32 ≤ c.toNat ∧ c.toNat ≤ 126) → (∀ c ∈ cur, 33 ≤ c.toNat ∧ c.toNat ≤ 126) → ∀ x ∈ fldF l cur, okF x
  | [], cur, _, hc, x, hx => by
    rw [fldF] at hx
    by_cases e : cur = []
    · rw [if_pos e] at hx; simp at hx
    · rw [if_neg e] at hx; simp at hx; subst hx; exact ⟨e, hc⟩
  | c :: l, cur, hl, hc, x, hx => by
    rw [fldF] at hx
    have hl' : ∀ d ∈ l, 32 ≤ d.toNat ∧ d.toNat ≤ 126 := fun d hd => hl d (by simp [hd])
    by_cases h32 : c = 32
    · rw [if_pos h32] at hx
      by_cases e : cur = []
      · rw [if_pos e] at hx
        exact fldF_ok l [] hl' (fun d hd => by simp at hd) x hx
      · rw [if_neg e, List.mem_cons] at hx
        rcases hx with rfl | hx
        · exact ⟨e, hc⟩
        · exact fldF_ok l [] hl' (fun d hd => by simp at hd) x hx
    · rw [if_neg h32] at hx
      refine fldF_ok l (cur ++ [c]) hl' (fun d hd => ?_) x hx
      rw [List.mem_append] at hd
      rcases hd with hd | hd
      · exact hc d hd
      · simp at hd
        subst hd
        have h1 := hl d (by simp)
        have h2 : d.toNat ≠ 32 := fun e => h32 (UInt8.toNat_inj.1 (by rw [e]; rfl))
        omega
theorem good_of (s : ByteArray) (h : fldA s s.size = true) : ∀ c ∈ s.data.toList, 32 ≤ c.toNat ∧ c.toNat ≤ 126 := by
  intro c hc
  obtain ⟨k, hk, rfl⟩ := List.getElem_of_mem hc
  have hk' : k < s.size := by rw [Array.length_toList] at hk; exact hk
  have hg := fldA_all h hk'
  have hb := getD_bat s k hk'
  rw [List.getD_eq_getElem?_getD, List.getElem?_eq_getElem hk] at hb
  simp only [fldG, Bool.and_eq_true, decide_eq_true_eq] at hg
  simp only [Option.getD_some] at hb
  omega
theorem good_to (s : ByteArray) (h : ∀ c ∈ s.data.toList, 32 ≤ c.toNat ∧ c.toNat ≤ 126) : fldA s s.size = true := by
  have H : ∀ n, n ≤ s.size → fldA s n = true := by
    intro n
    induction n with
    | zero => intro _; rfl
    | succ n ih =>
      intro hn
      refine fldA_in (ih (by omega)) ?_
      have hk : n < s.data.toList.length := by rw [Array.length_toList]; exact hn
      have := h _ (List.getElem_mem hk)
      have hb := getD_bat s n (by omega)
      rw [List.getD_eq_getElem?_getD, List.getElem?_eq_getElem hk] at hb
      simp only [Option.getD_some] at hb
      simp only [fldG, Bool.and_eq_true, decide_eq_true_eq]
      omega
  exact H _ (Nat.le_refl _)
/-- The law. -/
theorem fields_again (s : ByteArray) (h : fldO s = true) : (∀ x ∈ fldR s, okF x) ∧ ∀ t : ByteArray, t.data.toList = jnF (fldR s) → t.size ≤ 600 → fldO t = true ∧ fldR t = fldR s := by
  have h' := h
  simp only [fldO, Bool.and_eq_true, decide_eq_true_eq] at h'
  obtain ⟨⟨h1, h2⟩, h3⟩ := h'
  have hr : fldR s = fldF s.data.toList [] := by rw [fldR, h, if_pos rfl, fld_all]
  have hok : ∀ x ∈ fldR s, okF x := by rw [hr]; exact fldF_ok _ _ (good_of s h2) (fun d hd => by simp at hd)
  refine ⟨hok, fun t ht hz => ?_⟩
  have hA : fldA t t.size = true := good_to t (by rw [ht]; exact jn_ok _ hok)
  have hL : fldL t (t.size + 1) = fldR s := by rw [fld_all, ht, fldF_jn _ hok]
  obtain ⟨e1, e2⟩ := fld_t hz hA (by rw [hL, fldR, h, if_pos rfl]; exact h3)
  exact ⟨e1, by rw [e2, hL]⟩
theorem jn_snoc (p : List (List UInt8)) (x : List UInt8) : jnF (p ++ [x]) = jnF p ++ (x ++ [32]) := by
  induction p with
  | nil => simp [jnF]
  | cons y p ih => simp [jnF, ih]
theorem jn_len (p : List (List UInt8)) : ∀ x ∈ p, x.length ≤ (jnF p).length := by
  induction p with
  | nil => intro x hx; simp at hx
  | cons y p ih =>
    intro x hx
    rw [List.mem_cons] at hx
    rcases hx with rfl | hx
    · simp [jnF]
    · have := ih x hx; simp [jnF]; omega
end Go.Proofs.Ytmekjkhkbdkdoaa
