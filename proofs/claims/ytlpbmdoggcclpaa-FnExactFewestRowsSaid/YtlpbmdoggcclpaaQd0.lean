/- FindProof and FewestRows, plain: the quadruples in order, the first proof, the least number of rows. No condition. -/
import Derived.Test.YtlpbmdoggcclpaaPoL
namespace Go.Proofs.Ytlpbmdoggcclpaa
open Go.RowKit
set_option linter.unusedVariables false
abbrev Q4 := Nat × Nat × Nat × Nat
def R4q (i k m : Nat) : Nat → Nat → List Q4
  | _, 0 => []
  | x, f + 1 => (i, k, m, x) :: R4q i k m (x + 1) f
def R3q (n i k : Nat) : Nat → Nat → List Q4
  | _, 0 => []
  | m, f + 1 => R4q i k m (m + 1) (n - (m + 1)) ++ R3q n i k (m + 1) f
def R2q (n i : Nat) : Nat → Nat → List Q4
  | _, 0 => []
  | k, f + 1 => R3q n i k (k + 1) (n - (k + 1)) ++ R2q n i (k + 1) f
def R1q (n : Nat) : Nat → Nat → List Q4
  | _, 0 => []
  | i, f + 1 => R2q n i (i + 1) (n - (i + 1)) ++ R1q n (i + 1) f
/-- All quadruples i < k < m < x below n, in order. -/
def quads (n : Nat) : List Q4 := R1q n 0 n
theorem R4q_s {i k m x n : Nat} (h : x < n) : R4q i k m x (n - x) = (i, k, m, x) :: R4q i k m (x + 1) (n - (x + 1)) := by
  rw [show n - x = n - (x + 1) + 1 from by omega, R4q]
theorem R3q_s {i k m n : Nat} (h : m < n) : R3q n i k m (n - m) = R4q i k m (m + 1) (n - (m + 1)) ++ R3q n i k (m + 1) (n - (m + 1)) := by
  rw [show n - m = n - (m + 1) + 1 from by omega, R3q]
theorem R2q_s {i k n : Nat} (h : k < n) : R2q n i k (n - k) = R3q n i k (k + 1) (n - (k + 1)) ++ R2q n i (k + 1) (n - (k + 1)) := by
  rw [show n - k = n - (k + 1) + 1 from by omega, R2q]
theorem R1q_s {i n : Nat} (h : i < n) : R1q n i (n - i) = R2q n i (i + 1) (n - (i + 1)) ++ R1q n (i + 1) (n - (i + 1)) := by
  rw [show n - i = n - (i + 1) + 1 from by omega, R1q]
theorem R4q_z {i k m x n : Nat} (h : ¬ x < n) : R4q i k m x (n - x) = [] := by rw [show n - x = 0 from by omega, R4q]
theorem R3q_z {i k m n : Nat} (h : ¬ m < n) : R3q n i k m (n - m) = [] := by rw [show n - m = 0 from by omega, R3q]
theorem R2q_z {i k n : Nat} (h : ¬ k < n) : R2q n i k (n - k) = [] := by rw [show n - k = 0 from by omega, R2q]
theorem R1q_z {i n : Nat} (h : ¬ i < n) : R1q n i (n - i) = [] := by rw [show n - i = 0 from by omega, R1q]
theorem quads_len (n : Nat) (h : n ≤ 20) : (quads n).length ≤ 4845 := by
  have H : ∀ n : Fin 21, (quads n.val).length ≤ 4845 := by decide +kernel
  exact H ⟨n, by omega⟩
/-- A quadruple as a list of indices. -/
def qL (q : Q4) (j l : Nat) : Int := (([q.1, q.2.1, q.2.2.1, q.2.2.2].getD j 0 : Nat) : Int)
def okq (k : Nat) (R : Nat → Nat → Int) (q : Q4) : Bool := poB k 4 R (qL q)
def mq (k : Nat) (R : Nat → Nat → Int) (q : Q4) : Nat := poM k 4 R (qL q)
theorem okq_rows {k : Nat} {R : Nat → Nat → Int} {q : Q4} (h : okq k R q = true) : allN (rowR R) k = true := by
  simp only [okq, poB, ipR, ipB, pfOk, Bool.and_eq_true] at h
  exact h.2.1.1.1.1.1.1.1.1.2
/-- The first proof. -/
def fpO (k : Nat) (R : Nat → Nat → Int) : Option Q4 := if k ≤ 20 then (quads k).find? (okq k R) else none
def fpM (k : Nat) (R : Nat → Nat → Int) : Nat := match fpO k R with | some q => mq k R q | none => 0
def fpP (k : Nat) (R : Nat → Nat → Int) : Nat → Nat → Int := match fpO k R with | some q => poP R (qL q) | none => fun _ _ => 0
def fpF (k : Nat) (R : Nat → Nat → Int) : Nat → Nat → Int := match fpO k R with | some q => poQ R (qL q) | none => fun _ _ => 0
def fpB (k : Nat) (R : Nat → Nat → Int) : Bool := (fpO k R).isSome
theorem fp_some {k : Nat} {R : Nat → Nat → Int} {q : Q4} (h : fpO k R = some q) : fpM k R = mq k R q ∧ fpP k R = poP R (qL q) ∧ fpF k R = poQ R (qL q) ∧ fpB k R = true := by
  unfold fpM fpP fpF fpB; rw [h]; exact ⟨rfl, rfl, rfl, rfl⟩
theorem fp_none {k : Nat} {R : Nat → Nat → Int} (h : fpO k R = none) : fpM k R = 0 ∧ fpP k R = (fun _ _ => 0) ∧ fpF k R = (fun _ _ => 0) ∧ fpB k R = false := by
  unfold fpM fpP fpF fpB; rw [h]; exact ⟨rfl, rfl, rfl, rfl⟩
theorem fp_hit {k : Nat} {R : Nat → Nat → Int} {done rest : List Q4} {q : Q4} (hk : k ≤ 20) (h : done ++ q :: rest = quads k) (hd : ∀ x ∈ done, okq k R x = false) (hq : okq k R q = true) : fpO k R = some q := by
  rw [fpO, if_pos hk, ← h, List.find?_append]
  have : done.find? (okq k R) = none := List.find?_eq_none.2 fun x hx => by rw [hd x hx]; simp
  rw [this]
  simp [List.find?, hq]
theorem fp_miss {k : Nat} {R : Nat → Nat → Int} (h : ∀ x ∈ quads k, okq k R x = false) : fpO k R = none := by
  rw [fpO]
  split
  · exact List.find?_eq_none.2 fun x hx => by rw [h x hx]; simp
  · rfl
/-- The least number of rows. -/
def frF (n m : Nat) : Nat := if n = 0 ∨ m < n then m else n
def frL (k : Nat) (R : Nat → Nat → Int) (done : List Q4) : List Nat := (done.filter (okq k R)).map (mq k R)
def frV (k : Nat) (R : Nat → Nat → Int) : Nat := if k ≤ 20 then (frL k R (quads k)).foldl frF 0 else 0
theorem frL_t {k : Nat} {R : Nat → Nat → Int} {q : Q4} (h : okq k R q = true) (done : List Q4) : frL k R (done ++ [q]) = frL k R done ++ [mq k R q] := by
  simp [frL, List.filter_append, h]
theorem frL_f {k : Nat} {R : Nat → Nat → Int} {q : Q4} (h : okq k R q = false) (done : List Q4) : frL k R (done ++ [q]) = frL k R done := by
  simp [frL, List.filter_append, h]
theorem frL_len (k : Nat) (R : Nat → Nat → Int) (done : List Q4) : (frL k R done).length ≤ done.length := by
  rw [frL, List.length_map]; exact List.length_filter_le _ _
theorem frL_none {k : Nat} {R : Nat → Nat → Int} (h : ¬ allN (rowR R) k = true) (l : List Q4) : frL k R l = [] := by
  have : l.filter (okq k R) = [] := List.filter_eq_nil_iff.2 fun q _ hq => h (okq_rows hq)
  rw [frL, this]; rfl
theorem mq_le (k : Nat) (R : Nat → Nat → Int) (q : Q4) : mq k R q ≤ 4 := by
  have h2 := poN_le R (qL q)
  have h3 := pkN_le (poF R (qL q)) (poN R (qL q))
  unfold mq poM poC; split <;> omega
theorem fr_le (k : Nat) (R : Nat → Nat → Int) (l : List Q4) : ∀ n, n ≤ 4 → (frL k R l).foldl frF n ≤ 4 := by
  have H : ∀ l : List Nat, (∀ x ∈ l, x ≤ 4) → ∀ n, n ≤ 4 → l.foldl frF n ≤ 4 := by
    intro l
    induction l with
    | nil => intro _ n hn; exact hn
    | cons a l ih =>
      intro hl n hn
      rw [List.foldl_cons]
      refine ih (fun x hx => hl x (by simp [hx])) _ ?_
      have := hl a (by simp)
      unfold frF; split <;> omega
  exact H _ fun x hx => by
    simp only [frL, List.mem_map] at hx
    obtain ⟨q, _, rfl⟩ := hx
    exact mq_le k R q
/-- The built list of four indices. -/
theorem qL_sl (w : World) (i k m x : Nat) (t : TypeId) : Sl (w.alloc (.cells #[.int .i64 (i : Int), .int .i64 (k : Int), .int .i64 (m : Int), .int .i64 (x : Int)] t)) w.heap.size (w.heap.size + 1) 1 (.slice (some ⟨w.heap.size, 0, none⟩) 4 4) 4 (intF (qL (i, k, m, x))) := by
  refine ⟨by simp, _, 4, rfl, by omega, fun _ => ⟨w.heap.size, 0, rfl, Nat.le_refl _, by omega, fun j l hj hl => ?_⟩⟩
  have hl0 : l = 0 := by omega
  subst hl0
  rw [show 0 + (j * 1 + 0) = j from by omega, World.cell?_alloc_mark]
  have h : ∀ j : Fin 4, (#[.int .i64 (i : Int), .int .i64 (k : Int), .int .i64 (m : Int), .int .i64 (x : Int)] : Array Value)[j.val]? = some (intF (qL (i, k, m, x)) j.val 0) := by
    intro j
    match j with
    | ⟨0, _⟩ | ⟨1, _⟩ | ⟨2, _⟩ | ⟨3, _⟩ => rfl
  exact h ⟨j, hj⟩
theorem PrG.of_two {w w0 : World} {A A' : Option Addr} {c c' n m H : Nat} {f g : Nat → Nat → Value} {b : Bool} {L : Nat} (h : TwoR w L H A c A' c' n m f g) (hl : w0.heap.size ≤ L) (hu : Up w0 w) : PrG w0 n m f g b (.returned (.tuple #[.agg #[.slice A n c, .slice A' m c'], .bool b])) w := by
  obtain ⟨lo1, hi1, lo2, hi2, W1, W2, a1, a2, a3, a4, a5⟩ := h
  exact ⟨A, c, A', c', lo1, hi1, lo2, hi2, rfl, W1, W2, by omega, by omega, a5, hu⟩
end Go.Proofs.Ytlpbmdoggcclpaa
