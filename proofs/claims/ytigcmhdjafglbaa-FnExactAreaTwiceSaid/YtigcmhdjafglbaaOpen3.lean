/- How the arguments of the laws read: structs of slices. No condition. -/
import Derived.Test.YtigcmhdjafglbaaOpen2
namespace Go.Proofs.Ytigcmhdjafglbaa
open Go.RowKit Go.WideShapes Go.ChangeShapes Go.Joins Go.Deep
section
variable {H : Type} {enc : TypeId × Value → H} {w : World} {base : Nat} {spare : Nat → Bool} {held : Bool} {v : Value} {d : DataW H} {p : List MemPlace}
set_option maxRecDepth 100000 in
theorem open_Proof {r : Reach} {b0 : Nat} (hv : Value.okWide Try.prog w r b0 44 v) (h : DataW.Trod enc Try.prog w base spare held 44 v d p) :
    ∃ (u s : Value) (n m : Nat) (R F : Nat → Nat → Int), v = .agg #[u, s] ∧ n ≤ maxLen ∧ m ≤ maxLen ∧ Sl w 0 w.heap.size 1 u n (intF R) ∧ Sl w 0 w.heap.size 1 s m (intF F) ∧ (∀ i j, i < n → j < 1 → I64 (R i j)) ∧ ∀ i j, i < m → j < 1 → I64 (F i j) := by
  obtain ⟨cs, rfl, hsz⟩ := okWide_struct Try.underlying44 hv
  obtain ⟨l⟩ := cs
  have hl : l.length = 2 := hsz.trans (by kernel_rfl)
  obtain ⟨fuel, hf⟩ := h
  match l, hl with
  | [c0, c1], _ =>
    obtain ⟨k0, z0, g0⟩ := fields_open (cs := [c0, c1]) Try.underlying44 (by kernel_rfl) (by kernel_rfl) rfl hf 0 _ rfl
    obtain ⟨k1, z1, g1⟩ := fields_open (cs := [c0, c1]) Try.underlying44 (by kernel_rfl) (by kernel_rfl) rfl hf 1 _ rfl
    obtain ⟨n, R, a1, a2, a3⟩ := ints1_open Try.underlying42 (by kernel_rfl) Try.underlying3 g0
    obtain ⟨m, F, b1, b2, b3⟩ := ints1_open Try.underlying42 (by kernel_rfl) Try.underlying3 g1
    exact ⟨c0, c1, n, m, R, F, rfl, a1, b1, a2, b2, a3, b3⟩
set_option maxRecDepth 100000 in
theorem open_Stone {r : Reach} {b0 : Nat} (hv : Value.okWide Try.prog w r b0 75 v) (h : DataW.Trod enc Try.prog w base spare held 75 v d p) :
    ∃ (u : Value) (n : Nat) (R : Nat → Nat → Int), v = .agg #[u] ∧ n ≤ maxLen ∧ Sl w 0 w.heap.size 2 u n (intF R) ∧ (∀ i j, i < n → j < 2 → I64 (R i j)) := by
  obtain ⟨cs, rfl, hsz⟩ := okWide_struct Try.underlying75 hv
  obtain ⟨l⟩ := cs
  have hl : l.length = 1 := hsz.trans (by kernel_rfl)
  obtain ⟨fuel, hf⟩ := h
  match l, hl with
  | [c0], _ =>
    obtain ⟨k0, z0, g0⟩ := fields_open (cs := [c0]) Try.underlying75 (by kernel_rfl) (by kernel_rfl) rfl hf 0 _ rfl
    obtain ⟨n, R, a1, a2, a3⟩ := ints_open Try.underlying73 Try.underlying125 (by kernel_rfl) (by kernel_rfl) (by decide) Try.underlying3 (fun j f hj => by
      match j, hj with
      | 0, hj | 1, hj => simp at hj; rw [← hj]) g0
    exact ⟨c0, n, R, rfl, a1, a2, a3⟩
end
end Go.Proofs.Ytigcmhdjafglbaa
