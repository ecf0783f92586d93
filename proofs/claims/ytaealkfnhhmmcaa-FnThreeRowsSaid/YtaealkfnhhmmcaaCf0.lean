/- CornersOf, plain: the thrusts of the triples that begin with a row, the list without doubles. No condition. -/
import Derived.Test.YtaealkfnhhmmcaaRw
import Derived.Test.YtaealkfnhhmmcaaDet2
import Derived.Test.YtaealkfnhhmmcaaSl
import Derived.Test.YtaealkfnhhmmcaaThr2
namespace Go.Proofs.Ytaealkfnhhmmcaa
open Go.RowKit
set_option linter.unusedVariables false
abbrev T4 := Int × Int × Int × Int
def t4 (t : T4) (j : Nat) : Int := match j with | 0 => t.1 | 1 => t.2.1 | 2 => t.2.2.1 | _ => t.2.2.2
/-- The cells of a list of thrusts. -/
def thF (L : List T4) : Nat → Nat → Value := intF (fun i j => t4 (L.getD i (0, 0, 0, 0)) j)
theorem thF_last (L : List T4) (t : T4) (j : Nat) : thF (L ++ [t]) L.length j = .int .i64 (t4 t j) := by
  show Value.int .i64 (t4 ((L ++ [t]).getD L.length (0, 0, 0, 0)) j) = _
  rw [List.getD_eq_getElem?_getD, List.getElem?_append_right (Nat.le_refl _)]
  simp
theorem thF_old (L : List T4) (t : T4) {i : Nat} (h : i < L.length) (j : Nat) : thF (L ++ [t]) i j = thF L i j := by
  show Value.int .i64 (t4 ((L ++ [t]).getD i (0, 0, 0, 0)) j) = Value.int .i64 (t4 (L.getD i (0, 0, 0, 0)) j)
  rw [List.getD_eq_getElem?_getD, List.getElem?_append_left h, ← List.getD_eq_getElem?_getD]
theorem flat_th (L : List T4) (t : T4) : flat 4 (thF (L ++ [t])) (L.length + 1) = flat 4 (thF L) L.length ++ [.int .i64 t.1, .int .i64 t.2.1, .int .i64 t.2.2.1, .int .i64 t.2.2.2] := by
  rw [flat, flat_congr (fun i j hi hj => thF_old L t hi j)]
  simp only [List.range_succ, List.range_zero, List.nil_append, List.map_cons, List.map_nil, List.cons_append, thF_last]
  rfl
variable (R : Nat → Nat → Int) (n : Nat)
/-- The thrust of three rows. -/
def sol (i k m : Nat) : T4 := (slP 0 (R i 0) (R i 1) (R i 2) (R i 3) (R k 0) (R k 1) (R k 2) (R k 3) (R m 0) (R m 1) (R m 2) (R m 3), slP 1 (R i 0) (R i 1) (R i 2) (R i 3) (R k 0) (R k 1) (R k 2) (R k 3) (R m 0) (R m 1) (R m 2) (R m 3), slP 2 (R i 0) (R i 1) (R i 2) (R i 3) (R k 0) (R k 1) (R k 2) (R k 3) (R m 0) (R m 1) (R m 2) (R m 3), slP 3 (R i 0) (R i 1) (R i 2) (R i 3) (R k 0) (R k 1) (R k 2) (R k 3) (R m 0) (R m 1) (R m 2) (R m 3))
def sok (i k m : Nat) : Bool := slB (R i 0) (R i 1) (R i 2) (R i 3) (R k 0) (R k 1) (R k 2) (R k 3) (R m 0) (R m 1) (R m 2) (R m 3)
def fal (t : T4) : Bool := faB t.1 t.2.1 t.2.2.1 t.2.2.2 R n
def hit (i k m : Nat) : Bool := sok R i k m && fal R n (sol R i k m)
/-- The triples i, k, .. below m. -/
def cm (i k : Nat) : Nat → List T4
  | 0 => []
  | m + 1 => cm i k m ++ if k < m ∧ hit R n i k m = true then [sol R i k m] else []
/-- The triples i, .. with a second one below k. -/
def ck (i : Nat) : Nat → List T4
  | 0 => []
  | k + 1 => ck i k ++ if i < k then cm R n i k n else []
def cf (i : Nat) : List T4 := ck R n i n
/-- All triples with a first one below i. -/
def ca : Nat → List T4
  | 0 => []
  | i + 1 => ca i ++ cf R n i
theorem cm_t {i k m : Nat} (h : k < m) (hh : hit R n i k m = true) : cm R n i k (m + 1) = cm R n i k m ++ [sol R i k m] := by rw [cm, if_pos ⟨h, hh⟩]
theorem cm_f {i k m : Nat} (hh : hit R n i k m = false) : cm R n i k (m + 1) = cm R n i k m := by rw [cm, if_neg (by rw [hh]; simp), List.append_nil]
theorem cm_low {i k : Nat} : ∀ {m : Nat}, m ≤ k + 1 → cm R n i k m = []
  | 0, _ => rfl
  | m + 1, h => by rw [cm, cm_low (by omega), if_neg (by omega)]; rfl
theorem ck_s {i k : Nat} (h : i < k) : ck R n i (k + 1) = ck R n i k ++ cm R n i k n := by rw [ck, if_pos h]
theorem ck_low {i : Nat} : ∀ {k : Nat}, k ≤ i + 1 → ck R n i k = []
  | 0, _ => rfl
  | k + 1, h => by rw [ck, ck_low (by omega), if_neg (by omega)]; rfl
theorem cm_len (i k : Nat) : ∀ m, (cm R n i k m).length ≤ m
  | 0 => Nat.le_refl _
  | m + 1 => by
    have := cm_len i k m
    rw [cm, List.length_append]
    split <;> simp <;> omega
theorem ck_len (i : Nat) : ∀ k, (ck R n i k).length ≤ k * n
  | 0 => by simp [ck]
  | k + 1 => by
    have h1 := ck_len i k
    have h2 := cm_len R n i k n
    rw [ck, List.length_append, Nat.add_mul]
    split <;> simp <;> omega
/-- One more, if it is new. -/
def addN (L : List T4) (t : T4) : List T4 := if L.contains t then L else L ++ [t]
def ddp (acc L : List T4) : List T4 := L.foldl addN acc
theorem ddp_app (acc a b : List T4) : ddp acc (a ++ b) = ddp (ddp acc a) b := by rw [ddp, List.foldl_append]; rfl
theorem addN_t {L : List T4} {t : T4} (h : L.contains t = true) : addN L t = L := by rw [addN, if_pos h]
theorem addN_f {L : List T4} {t : T4} (h : L.contains t = false) : addN L t = L ++ [t] := by rw [addN, if_neg (by rw [h]; simp)]
theorem addN_len (L : List T4) (t : T4) : (addN L t).length ≤ L.length + 1 := by rw [addN]; split <;> simp
theorem ddp_len : ∀ (L acc : List T4), (ddp acc L).length ≤ acc.length + L.length
  | [], acc => Nat.le_refl _
  | t :: L, acc => by
    have h1 := ddp_len L (addN acc t)
    have h2 := addN_len acc t
    rw [ddp, List.foldl_cons]
    rw [ddp] at h1
    simp only [List.length_cons]; omega
/-- All corners. -/
def coOk : Bool := inB 3 (n : Int) 20 && allN (fun i => rowB (R i 0) (R i 1) (R i 2) (R i 3)) n
def coL : List T4 := if coOk R n = true then ddp [] (ca R n n) else []
theorem ca_len (hn : n ≤ 20) : ∀ i, (ca R n i).length ≤ i * 400
  | 0 => by simp [ca]
  | i + 1 => by
    have h1 := ca_len hn i
    have h2 := ck_len R n i n
    have h3 : n * n ≤ 20 * 20 := Nat.mul_le_mul hn hn
    rw [ca, List.length_append, cf]
    omega
end Go.Proofs.Ytaealkfnhhmmcaa
