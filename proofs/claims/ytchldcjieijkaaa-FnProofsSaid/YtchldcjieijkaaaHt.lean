/- The walks of HingeText. No condition. -/
import Derived.Test.YtchldcjieijkaaaSlT
import Derived.Test.YtchldcjieijkaaaFmt2
import Derived.Test.YtchldcjieijkaaaShelf
import Derived.Lib.Join
namespace Go.Proofs.Ytchldcjieijkaaa
open Go.RowKit
set_option linter.unusedVariables false
/-- The first k words, joined by blanks. -/
def jtx (f : Nat → List UInt8) : Nat → List UInt8
  | 0 => []
  | k + 1 => (if k = 0 then [] else jtx f k ++ [32]) ++ f k
theorem joinTail_snoc (sep : List UInt8) (r : List (List UInt8)) (y : List UInt8) : Lib.joinTail sep (r ++ [y]) = Lib.joinTail sep r ++ (sep ++ y) := by simp [Lib.joinTail]
theorem jtx_join1 (f : Nat → List UInt8) (n : Nat) : jtx f (n + 1) = f 0 ++ Lib.joinTail [32] ((List.range n).map fun i => f (i + 1)) := by
  induction n with
  | zero => simp [jtx, Lib.joinTail]
  | succ n ih =>
    rw [jtx, if_neg (by omega), ih, List.range_succ, List.map_append, List.map_cons, List.map_nil, joinTail_snoc]
    simp
theorem jtx_join (f : Nat → List UInt8) (n : Nat) : Lib.join ((List.range n).map f) [32] = jtx f n := by
  cases n with
  | zero => rfl
  | succ n =>
    rw [jtx_join1, List.range_succ_eq_map, List.map_cons, Lib.join_cons, List.map_map]
    rfl
theorem jtx_le (f : Nat → List UInt8) (n m : Nat) (h : ∀ i, i < n → (f i).length ≤ m) (k : Nat) (hk : k ≤ n) : (jtx f k).length ≤ (m + 1) * k := by
  induction k with
  | zero => simp [jtx]
  | succ k ih =>
    have h1 := h k (by omega)
    have h2 := ih (by omega)
    have h3 : (m + 1) * (k + 1) = (m + 1) * k + (m + 1) := by rw [Nat.mul_succ]
    rw [jtx, List.length_append]
    split <;> simp <;> omega
def strF (f : Nat → List UInt8) (i j : Nat) : Value := .string ⟨(f i).toArray⟩
theorem flat1s (f : Nat → Nat → Value) (n : Nat) : flat 1 f (n + 1) = flat 1 f n ++ [f n 0] := by simp [flat]
theorem own_up2 {w a b : World} {base size n : Nat} {e : TypeId} {v : Value} {xs : List Value} (h : a.ownsRow base e size v n xs) (hu : Up a b) : b.ownsRow base e size v n xs := by
  refine ⟨h.1, ?_⟩
  rcases h.2 with h1 | ⟨g, cap, cur, h1, h2, h3, h4⟩
  · exact .inl h1
  · have hlt : g < a.heap.size := by
      rcases Nat.lt_or_ge g a.heap.size with hlt | hge
      · exact hlt
      · rw [Array.getElem?_eq_none hge] at h3; cases h3
    exact .inr ⟨g, cap, cur, h1, h2, (Below.block hu g hlt).trans h3, h4⟩
theorem up_own2 {w a b : World} {base size n : Nat} {e : TypeId} {v : Value} {xs : List Value} (h : Up w a) (hb : w.heap.size ≤ base) (ho : a.ownsRow base e size v n xs) (hg : a.grownBy b v.ownBlock) : Up w b :=
  Below.grown h hg h.size (fun k hk => Nat.le_trans hb (ho.lt k hk).1)
/-- A hinge's word. -/
def hgW (J : Nat → Int) (O : Nat → Bool) (i : Nat) : List UInt8 := (if O i then 111 else 105) :: fmtI (J i)
theorem hgW_le {J : Nat → Int} {O : Nat → Bool} {i : Nat} (h : I64 (J i)) : (hgW J O i).length ≤ 21 := by have := fmtI_length_le _ h; simp [hgW]; omega
theorem hgW_t {J : Nat → Int} {O : Nat → Bool} {i : Nat} (h : O i = true) : ((⟨#[111]⟩ : ByteArray) ++ (⟨(fmtI (J i)).toArray⟩ : ByteArray)) = ⟨(hgW J O i).toArray⟩ := by rw [hgW, if_pos h]; exact ba_app [111] _
theorem hgW_f {J : Nat → Int} {O : Nat → Bool} {i : Nat} (h : O i = false) : ((⟨#[105]⟩ : ByteArray) ++ (⟨(fmtI (J i)).toArray⟩ : ByteArray)) = ⟨(hgW J O i).toArray⟩ := by rw [hgW, if_neg (by rw [h]; simp)]; exact ba_app [105] _
theorem str_info : (Try.prog.info? 9).map (fun i => (i.zero, i.size, i.bytes)) = some (some (.string ⟨#[]⟩), 1, 16) := by kernel_rfl
theorem join_own {w : World} {base : Nat} {v : Value} {n : Nat} {f : Nat → List UInt8} (ho : w.ownsRow base 9 1 v n (flat 1 (strF f) n)) (hn : n ≤ 1048576) (hm : ∀ i, i < n → (f i).length ≤ 1000) :
    Calls Try.prog 23 #[v, .string ⟨#[32]⟩] w fun e w' => e = .returned (.string ⟨(jtx f n).toArray⟩) ∧ Up w w' := by
  rcases Nat.eq_zero_or_pos n with h0 | h0
  · subst h0
    rcases ho.2 with ⟨rfl, _⟩ | ⟨g, cap, cur, rfl, _⟩
    · exact (Try.strings_Join_none none 0 ⟨#[32]⟩ w).mono fun e w' hh => ⟨hh.1, by rw [hh.2]; exact Up.refl w⟩
    · exact (Try.strings_Join_none _ cap ⟨#[32]⟩ w).mono fun e w' hh => ⟨hh.1, by rw [hh.2]; exact Up.refl w⟩
  · have hW := Wr.of_own ho
    obtain ⟨g, cap, rfl, _, hlt⟩ := ho.form h0
    obtain ⟨_, A, c, hv, hc, hx⟩ := hW
    cases hv
    obtain ⟨b, hb, _, _, hcs, _⟩ := hx h0
    cases hb
    have hl : ((List.range n).map fun i => (⟨(f i).toArray⟩ : ByteArray)).length = n := by simp
    have hmap : ((List.range n).map fun i => (⟨(f i).toArray⟩ : ByteArray)).map (·.data.toList) = (List.range n).map f := by rw [List.map_map]; rfl
    have hj := Try.strings_Join g 0 cap ((List.range n).map fun i => (⟨(f i).toArray⟩ : ByteArray)) ⟨#[32]⟩ w (fun j x hx => by
      have hj : j < n := by
        have := (List.getElem?_eq_some_iff.1 hx).1
        rwa [hl] at this
      have h1 := hcs j 0 hj (by omega)
      simp [hj] at hx
      rw [← hx]
      simpa [strF] using h1) hlt (by rw [hl]; omega) (by rw [hl]; exact hc) (by
      rw [hmap]
      show (Lib.join _ [32]).length ≤ _
      rw [jtx_join]
      have := jtx_le f n 1000 hm n (Nat.le_refl _)
      have h2 : (1000 + 1) * n ≤ 1001 * 1048576 := Nat.mul_le_mul_left _ hn
      omega)
    rw [hl, hmap] at hj
    refine hj.mono fun e w' hh => ⟨?_, hh.2⟩
    rw [hh.1]
    show Ending.returned (.string ⟨(Lib.join _ [32]).toArray⟩) = _
    rw [jtx_join]
end Go.Proofs.Ytchldcjieijkaaa
