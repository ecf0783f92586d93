/- DecodeHex, plain: what a text decodes to. No Go in sight; no condition. -/
import Derived.Test.YtmekjkhkbdkdoaaHex
import Derived.Lib.Bytealg
namespace Go.Proofs.Ytmekjkhkbdkdoaa
open Go.RowKit
set_option linter.unusedVariables false
/-- The worth of a hexadecimal figure; -1 where it is none. -/
def hxD (b : Nat) : Int := if 48 ≤ b ∧ b ≤ 57 then (b : Int) - 48 else if 97 ≤ b ∧ b ≤ 102 then (b : Int) - 87 else -1
/-- The figures, as the program's constant has them. -/
def hxS : List UInt8 := [48, 49, 50, 51, 52, 53, 54, 55, 56, 57, 97, 98, 99, 100, 101, 102]
theorem hxD_bd (b : Nat) : -1 ≤ hxD b ∧ hxD b ≤ 15 := by unfold hxD; split <;> (try split) <;> omega
theorem hxD_index (c : Nat) (h : c ≤ 255) : Lib.indexByte hxS c.toUInt8 = hxD c := by
  have H : ∀ c : Fin 256, Lib.indexByte hxS c.val.toUInt8 = hxD c.val := by decide +kernel
  exact H ⟨c, by omega⟩
theorem hxS_at (n : Nat) (h : n < 16) : hxS[n]? = some (hexF n) := by
  have H : ∀ n : Fin 16, hxS[n.val]? = some (hexF n.val) := by decide +kernel
  exact H ⟨n, h⟩
theorem hx_or (H L : Int) (h1 : 0 ≤ H) (h2 : H ≤ 15) (h3 : 0 ≤ L) (h4 : L ≤ 15) : bits .or .i64 (H * 16) L = 16 * H + L := by
  have G : ∀ a b : Fin 16, bits .or .i64 ((a.val : Int) * 16) (b.val : Int) = 16 * (a.val : Int) + (b.val : Int) := by decide +kernel
  have := G ⟨H.toNat, by omega⟩ ⟨L.toNat, by omega⟩
  simp only [Int.toNat_of_nonneg h1, Int.toNat_of_nonneg h3] at this
  exact this
theorem hx_and (B : Nat) (h : B ≤ 255) : bits .and .u8 (B : Int) 15 = ((B % 16 : Nat) : Int) := by
  have G : ∀ a : Fin 256, bits .and .u8 (a.val : Int) 15 = ((a.val % 16 : Nat) : Int) := by decide +kernel
  exact G ⟨B, by omega⟩
/-- The k-th pair of figures: both are figures; the byte. -/
def dhO (s : ByteArray) (k : Nat) : Bool := decide (0 ≤ hxD (bat s (2 * k))) && decide (0 ≤ hxD (bat s (2 * k + 1)))
def dhC (s : ByteArray) (k : Nat) : Nat := (16 * hxD (bat s (2 * k)) + hxD (bat s (2 * k + 1))).toNat
/-- The first k pairs are figures. -/
def dhA (s : ByteArray) : Nat → Bool
  | 0 => true
  | k + 1 => dhA s k && dhO s k
/-- .. and what they decode to. -/
def dhL (s : ByteArray) : Nat → List UInt8
  | 0 => []
  | k + 1 => dhL s k ++ [UInt8.ofNat (dhC s k)]
def dhV (s : ByteArray) (k : Nat) : List Value := (dhL s k).map (fun c => Value.int .u8 (c.toNat : Int))
theorem dhL_length (s : ByteArray) (k : Nat) : (dhL s k).length = k := by induction k <;> simp_all [dhL]
theorem dhV_length (s : ByteArray) (k : Nat) : (dhV s k).length = k := by simp [dhV, dhL_length]
theorem dhV_succ (s : ByteArray) (k : Nat) (h : dhC s k ≤ 255) : dhV s (k + 1) = dhV s k ++ [.int .u8 (dhC s k : Int)] := by
  simp only [dhV, dhL, List.map_append, List.map_cons, List.map_nil]
  rw [byte_of _ h]
theorem dhA_out {s : ByteArray} {k n : Nat} (hk : k < n) (h : dhO s k = false) : dhA s n = false := by
  induction n with
  | zero => omega
  | succ n ih =>
    rw [dhA]
    by_cases e : k = n
    · subst e; rw [h]; simp
    · rw [ih (by omega)]; rfl
theorem dhA_in {s : ByteArray} {k : Nat} (h : dhA s k = true) (h1 : dhO s k = true) : dhA s (k + 1) = true := by rw [dhA, h, h1]; rfl
def dhB (s : ByteArray) : Bool := decide (s.size % 2 = 0) && decide (s.size ≤ 40000) && dhA s (s.size / 2)
def dhR (s : ByteArray) : List UInt8 := if dhB s then dhL s (s.size / 2) else []
theorem dh_f1 {s : ByteArray} (h : ¬ s.size % 2 = 0) : dhB s = false ∧ dhR s = [] := by
  have : dhB s = false := by simp [dhB, h]
  exact ⟨this, by rw [dhR, this]; rfl⟩
theorem dh_f2 {s : ByteArray} (h : ¬ s.size ≤ 40000) : dhB s = false ∧ dhR s = [] := by
  have : dhB s = false := by simp [dhB, h]
  exact ⟨this, by rw [dhR, this]; rfl⟩
theorem dh_f3 {s : ByteArray} (h : dhA s (s.size / 2) = false) : dhB s = false ∧ dhR s = [] := by
  have : dhB s = false := by simp [dhB, h]
  exact ⟨this, by rw [dhR, this]; rfl⟩
theorem dh_t {s : ByteArray} (h1 : s.size % 2 = 0) (h2 : s.size ≤ 40000) (h3 : dhA s (s.size / 2) = true) : dhB s = true ∧ dhR s = dhL s (s.size / 2) := by
  have : dhB s = true := by simp [dhB, h1, h2, h3]
  exact ⟨this, by rw [dhR, this]; rfl⟩
/-- Decoding undoes encoding. -/
theorem hexF_toNat (x : Nat) (h : x < 16) : (hexF x).toNat = if x < 10 then 48 + x else 87 + x := by
  have G : ∀ x : Fin 16, (hexF x.val).toNat = if x.val < 10 then 48 + x.val else 87 + x.val := by decide +kernel
  exact G ⟨x, h⟩
theorem hxD_hexF (x : Nat) (h : x < 16) : hxD (hexF x).toNat = (x : Int) := by
  have G : ∀ x : Fin 16, hxD (hexF x.val).toNat = (x.val : Int) := by decide +kernel
  exact G ⟨x, h⟩
theorem bat_getD (l : List UInt8) (k : Nat) : bat (⟨l.toArray⟩ : ByteArray) k = (l.getD k 0).toNat := by simp [bat]
theorem hxL_get (s : ByteArray) : ∀ n k, k < n → (hxL s n).getD (2 * k) 0 = hexF (bat s k / 16) ∧ (hxL s n).getD (2 * k + 1) 0 = hexF (bat s k % 16)
  | 0, k, h => by omega
  | n + 1, k, h => by
    have hl := hxL_length s n
    by_cases e : k < n
    · obtain ⟨h1, h2⟩ := hxL_get s n k e
      rw [List.getD_eq_getElem?_getD] at h1 h2
      rw [List.getD_eq_getElem?_getD, List.getD_eq_getElem?_getD, hxL, List.getElem?_append_left (by omega), List.getElem?_append_left (by omega)]
      exact ⟨h1, h2⟩
    · have : k = n := by omega
      subst this
      rw [List.getD_eq_getElem?_getD, List.getD_eq_getElem?_getD, hxL, List.getElem?_append_right (by omega), List.getElem?_append_right (by omega), hl]
      simp
theorem hx_round (s : ByteArray) (hs : s.size ≤ 20000) : dhB ⟨(hxL s s.size).toArray⟩ = true ∧ dhR ⟨(hxL s s.size).toArray⟩ = s.data.toList := by
  have hsz : (⟨(hxL s s.size).toArray⟩ : ByteArray).size = 2 * s.size := by show (hxL s s.size).toArray.size = _; rw [List.size_toArray, hxL_length]
  have hO : ∀ k, k < s.size → hxD (bat ⟨(hxL s s.size).toArray⟩ (2 * k)) = ((bat s k / 16 : Nat) : Int) ∧ hxD (bat ⟨(hxL s s.size).toArray⟩ (2 * k + 1)) = ((bat s k % 16 : Nat) : Int) := by
    intro k hk
    have := bat_le s k
    obtain ⟨h1, h2⟩ := hxL_get s s.size k hk
    constructor
    · rw [bat_getD, h1]; exact hxD_hexF _ (by omega)
    · rw [bat_getD, h2]; exact hxD_hexF _ (by omega)
  have hA : ∀ k, k ≤ s.size → dhA ⟨(hxL s s.size).toArray⟩ k = true := by
    intro k
    induction k with
    | zero => intro _; rfl
    | succ k ih =>
      intro hk
      refine dhA_in (ih (by omega)) ?_
      obtain ⟨h1, h2⟩ := hO k (by omega)
      simp only [dhO, h1, h2]
      simp only [Bool.and_eq_true, decide_eq_true_eq]
      omega
  have hL : ∀ k, k ≤ s.size → dhL ⟨(hxL s s.size).toArray⟩ k = s.data.toList.take k := by
    intro k
    induction k with
    | zero => intro _; simp [dhL]
    | succ k ih =>
      intro hk
      obtain ⟨h1, h2⟩ := hO k (by omega)
      have hk' : k < s.data.size := by have : s.size = s.data.size := rfl; omega
      rw [dhL, ih (by omega), List.take_add_one, List.getElem?_eq_getElem (by simpa using hk')]
      congr 1
      simp only [Option.toList_some, List.cons.injEq, and_true]
      have hb : dhC ⟨(hxL s s.size).toArray⟩ k = bat s k := by
        unfold dhC; rw [h1, h2]; omega
      rw [hb]
      unfold bat
      rw [Array.getD, dif_pos hk']
      simp
  have hd : (⟨(hxL s s.size).toArray⟩ : ByteArray).size / 2 = s.size := by rw [hsz]; omega
  obtain ⟨h1, h2⟩ := dh_t (s := ⟨(hxL s s.size).toArray⟩) (by rw [hsz]; omega) (by rw [hsz]; omega) (by rw [hd]; exact hA _ (Nat.le_refl _))
  refine ⟨h1, ?_⟩
  rw [h2, hd, hL _ (Nat.le_refl _)]
  exact List.take_of_length_le (by rw [Array.length_toList]; exact Nat.le_refl _)
end Go.Proofs.Ytmekjkhkbdkdoaa
