/- Plain arithmetic of thrusts and rows: divisors, what is valid, determinants. No Go in sight; no condition. -/
import Derived.Test.YtaealkfnhhmmcaaBase
namespace Go.Proofs.Ytaealkfnhhmmcaa
open Go.RowKit

/-- The greatest common divisor of four numbers. -/
def g4 (h v m d : Int) : Nat := Nat.gcd (Nat.gcd h.natAbs v.natAbs) (Nat.gcd m.natAbs d.natAbs)
/-- commonDivisor. -/
def gcdL (l : List Int) : Nat := l.foldl (fun d n => Nat.gcd d n.natAbs) 0
theorem gcdL_four (h v m d : Int) : gcdL [h, v, m, d] = g4 h v m d := by
  simp [gcdL, g4, Nat.gcd_assoc]
theorem gcdL_snoc (l : List Int) (n : Int) : gcdL (l ++ [n]) = Nat.gcd (gcdL l) n.natAbs := by simp [gcdL]
theorem gcdL_take_succ (l : List Int) (k : Nat) (hk : k < l.length) : gcdL (l.take (k + 1)) = Nat.gcd (gcdL (l.take k)) (l.getD k 0).natAbs := by
  rw [List.take_succ_eq_append_getElem hk, gcdL_snoc]
  simp [List.getD_eq_getElem?_getD, hk]
theorem gcd_le_of (a b M : Nat) (ha : a ≤ M) (hb : b ≤ M) : Nat.gcd a b ≤ M := by
  rcases Nat.eq_zero_or_pos a with h | h
  · subst h; simpa using hb
  · exact Nat.le_trans (Nat.gcd_le_left _ h) ha
theorem gcdL_le (l : List Int) (M : Nat) (h : ∀ n ∈ l, n.natAbs ≤ M) : gcdL l ≤ M := by
  have : ∀ (l : List Int) (d : Nat), d ≤ M → (∀ n ∈ l, n.natAbs ≤ M) → l.foldl (fun d n => Nat.gcd d n.natAbs) d ≤ M := by
    intro l
    induction l with
    | nil => intro d hd _; simpa using hd
    | cons a l ih => intro d hd h; simp only [List.foldl_cons]; exact ih _ (gcd_le_of _ _ _ hd (h a (by simp))) (fun n hn => h n (by simp [hn]))
  exact this l 0 (by omega) h

/-- ThrustOk. -/
def thB (h v m d : Int) : Bool :=
  inB 1 d 1000000 && inB 0 h 1000000000000 && inB (-10000000000000) v 10000000000000 && inB (-10000000000000) m 10000000000000 && (g4 h v m d : Int) == 1
theorem thB_bd {h v m d : Int} (k : thB h v m d = true) : 1 ≤ d ∧ d ≤ 1000000 ∧ 0 ≤ h ∧ h ≤ 1000000000000 ∧ -10000000000000 ≤ v ∧ v ≤ 10000000000000 ∧ -10000000000000 ≤ m ∧ m ≤ 10000000000000 ∧ g4 h v m d = 1 := by
  simp [thB, inB] at k; omega
theorem rowB_bd {a b c d : Int} (k : rowB a b c d = true) : -100 ≤ a ∧ a ≤ 100 ∧ -100 ≤ b ∧ b ≤ 100 ∧ -1 ≤ c ∧ c ≤ 1 ∧ -1000000000 ≤ d ∧ d ≤ 1000000000 := by
  simp [rowB, inB] at k; omega

/-- Both sides of a row's condition. -/
def lefI (a b c h v m : Int) : Int := a * h + b * v + c * m
def rigI (d n : Int) : Int := d * n
theorem side_bds {a b c d h v m n : Int} (k1 : thB h v m n = true) (k2 : rowB a b c d = true) :
    -100000000000000 ≤ a * h ∧ a * h ≤ 100000000000000 ∧ -1000000000000000 ≤ b * v ∧ b * v ≤ 1000000000000000 ∧ -10000000000000 ≤ c * m ∧ c * m ≤ 10000000000000 ∧ -1000000000000000 ≤ d * n ∧ d * n ≤ 1000000000000000 := by
  obtain ⟨a1, a2, a3, a4, a5, a6, a7, a8, _⟩ := thB_bd k1
  obtain ⟨b1, b2, b3, b4, b5, b6, b7, b8⟩ := rowB_bd k2
  obtain ⟨p1, p2⟩ := mul_bd (a := a) (b := h) 100 1000000000000 (by omega) (by omega) (by omega) (by omega)
  obtain ⟨q1, q2⟩ := mul_bd (a := b) (b := v) 100 10000000000000 (by omega) (by omega) (by omega) (by omega)
  obtain ⟨r1, r2⟩ := mul_bd (a := c) (b := m) 1 10000000000000 (by omega) (by omega) (by omega) (by omega)
  obtain ⟨s1, s2⟩ := mul_bd (a := d) (b := n) 1000000000 1000000 (by omega) (by omega) (by omega) (by omega)
  omega
/-- Fulfills, IsJustMet. -/
def fuB (h v m n a b c d : Int) : Bool := thB h v m n && rowB a b c d && decide (lefI a b c h v m ≤ rigI d n)
def jmB (h v m n a b c d : Int) : Bool := thB h v m n && rowB a b c d && lefI a b c h v m == rigI d n

/-- A row's four numbers. -/
structure R4 where
  a : Int
  b : Int
  c : Int
  d : Int
def R4.ok (r : R4) : Bool := rowB r.a r.b r.c r.d
def rowsB (l : List R4) : Bool := l.all R4.ok
def R4.z : R4 := ⟨0, 0, 0, 0⟩
/-- Rows that lie in a block, one behind the other. -/
def RowsAt (w : World) (b : Nat) (l : List R4) : Prop := ∀ k, k < l.length → w.cell? ⟨b, k * 4, none⟩ = some (.int .i64 (l.getD k R4.z).a) ∧ w.cell? ⟨b, k * 4 + 1, none⟩ = some (.int .i64 (l.getD k R4.z).b) ∧
  w.cell? ⟨b, k * 4 + 2, none⟩ = some (.int .i64 (l.getD k R4.z).c) ∧ w.cell? ⟨b, k * 4 + 3, none⟩ = some (.int .i64 (l.getD k R4.z).d)
theorem RowsAt.up {w w' : World} {b : Nat} {l : List R4} (h : RowsAt w b l) (hu : Up w w') (hb : b < w.heap.size) : RowsAt w' b l := by
  intro k hk
  obtain ⟨hc, _⟩ := hu.cells
  rw [hc _ _ hb, hc _ _ hb, hc _ _ hb, hc _ _ hb]
  exact h k hk
theorem R4.getD_mem {l : List R4} {k : Nat} (hk : k < l.length) : l.getD k R4.z ∈ l := by
  have e : l.getD k R4.z = l[k] := by simp [List.getD_eq_getElem?_getD, hk]
  rw [e]; exact List.getElem_mem hk
theorem rowsB_false {l : List R4} {k : Nat} (hk : k < l.length) (h : (l.getD k R4.z).ok = false) : rowsB l = false := by
  cases hb : rowsB l with
  | false => rfl
  | true => rw [rowsB, List.all_eq_true] at hb; rw [hb _ (R4.getD_mem hk)] at h; exact h
theorem rowsB_true {l : List R4} (h : ∀ k, k < l.length → (l.getD k R4.z).ok = true) : rowsB l = true := by
  rw [rowsB, List.all_eq_true]
  intro r hr
  obtain ⟨k, hk, rfl⟩ := List.mem_iff_getElem.1 hr
  have := h k hk
  have e : l.getD k R4.z = l[k] := by simp [List.getD_eq_getElem?_getD, hk]
  rwa [e] at this

/-- A determinant of three rows of three. -/
def detI (a1 a2 a3 b1 b2 b3 c1 c2 c3 : Int) : Int := a1 * (b2 * c3 - b3 * c2) - a2 * (b1 * c3 - b3 * c1) + a3 * (b1 * c2 - b2 * c1)
theorem detI_turn (a1 a2 a3 b1 b2 b3 c1 c2 c3 : Int) : detI a1 a2 a3 b1 b2 b3 c1 c2 c3 = detI a1 b1 c1 a2 b2 c2 a3 b3 c3 := by
  unfold detI; grind
/-- DetOfRows. -/
def drI (a b c d e f g h i j k l : Int) : Int := if rowB a b c d && rowB e f g h && rowB i j k l then detI a b c e f g i j k else 0

/-- CompareThrusts. -/
def cmpI (a b : Int) : Int := if a < b then -1 else if b < a then 1 else 0
def ctI (h v m n h' v' m' n' : Int) : Int := if thB h v m n && thB h' v' m' n' then cmpI (h * n') (h' * n) else -2

/-- MakeThrust: the divisor, whether it is valid, the parts. -/
def mkD (h v m n : Int) : Int := if n < 0 then -(g4 h v m n : Int) else g4 h v m n
def mkIn (h v m n : Int) : Bool := inB (-4000000000000000000) h 4000000000000000000 && inB (-4000000000000000000) v 4000000000000000000 && inB (-4000000000000000000) m 4000000000000000000 && inB (-4000000000000000000) n 4000000000000000000 && !(n == 0)
def mkB (h v m n : Int) : Bool := mkIn h v m n && thB (h.tdiv (mkD h v m n)) (v.tdiv (mkD h v m n)) (m.tdiv (mkD h v m n)) (n.tdiv (mkD h v m n))
def mkP (x h v m n : Int) : Int := if mkB h v m n then x.tdiv (mkD h v m n) else 0
theorem g4_pos {h v m n : Int} (hn : n ≠ 0) : 0 < g4 h v m n := Nat.gcd_pos_of_pos_right _ (Nat.gcd_pos_of_pos_right _ (by omega))
theorem mkD_ne {h v m n : Int} (hn : n ≠ 0) : mkD h v m n ≠ 0 := by
  have := g4_pos (h := h) (v := v) (m := m) hn
  unfold mkD; split <;> omega
theorem g4_le {h v m n : Int} (M : Nat) (h1 : h.natAbs ≤ M) (h2 : v.natAbs ≤ M) (h3 : m.natAbs ≤ M) (h4 : n.natAbs ≤ M) : g4 h v m n ≤ M :=
  gcd_le_of _ _ _ (gcd_le_of _ _ _ h1 h2) (gcd_le_of _ _ _ h3 h4)
theorem tdiv_le {x d M : Int} (h1 : -M ≤ x) (h2 : x ≤ M) : -M ≤ x.tdiv d ∧ x.tdiv d ≤ M := by
  have h : (x.tdiv d).natAbs ≤ x.natAbs := by rw [Int.natAbs_tdiv]; exact Nat.div_le_self _ _
  omega
theorem tmod_nat (a b : Nat) : ((a : Int).tmod (b : Int)) = ((a % b : Nat) : Int) := by
  rw [Int.tmod_eq_emod_of_nonneg (by omega)]; rfl
/-- l08Gcd's step. -/
theorem gcd_tmod (a b : Int) : Nat.gcd b.natAbs (a.tmod b).natAbs = Nat.gcd a.natAbs b.natAbs := by
  rw [Int.natAbs_tmod, Nat.gcd_comm b.natAbs, ← Nat.gcd_rec, Nat.gcd_comm]
end Go.Proofs.Ytaealkfnhhmmcaa
