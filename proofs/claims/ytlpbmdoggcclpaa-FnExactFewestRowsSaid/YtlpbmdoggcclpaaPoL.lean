/- The walk of the law ProofOfFour: it returns true. No condition. -/
import Derived.Test.YtlpbmdoggcclpaaPo2
import Derived.Test.YtlpbmdoggcclpaaPr3
import Derived.Test.YtlpbmdoggcclpaaHgL
namespace Go.Proofs.Ytlpbmdoggcclpaa
open Go.RowKit
set_option linter.unusedVariables false
/-- Block b holds a proof whose rows lie in L .. H. -/
def PGB (w : World) (b L H : Nat) (A : Option Addr) (c : Nat) (A' : Option Addr) (c' n m : Nat) (f g : Nat → Nat → Value) : Prop :=
  w.cell? ⟨b, 0, none⟩ = some (.slice A n c) ∧ w.cell? ⟨b, 1, none⟩ = some (.slice A' m c') ∧ b < w.heap.size ∧ TwoR w L H A c A' c' n m f g
section
variable {w w' : World} {b L H c c' n m : Nat} {A A' : Option Addr} {f g : Nat → Nat → Value}
theorem PGB.t (h : PGB w b L H A c A' c' n m f g) : TwoR w L H A c A' c' n m f g := h.2.2.2
theorem PGB.up (h : PGB w b L H A c A' c' n m f g) (hu : Up w w') : PGB w' b L H A c A' c' n m f g :=
  ⟨(hu.cells.1 _ _ h.2.2.1).trans h.1, (hu.cells.1 _ _ h.2.2.1).trans h.2.1, Nat.lt_of_lt_of_le h.2.2.1 hu.size, h.2.2.2.up hu⟩
theorem PGB.off {l2 h2 : Nat} (h : PGB w b L H A c A' c' n m f g) (hc : Chg l2 h2 w w') (hd : H ≤ l2 ∨ h2 ≤ L) (hb : b < l2 ∨ h2 ≤ b) : PGB w' b L H A c A' c' n m f g :=
  ⟨(hc.2 _ _ h.2.2.1 hb).1.trans h.1, (hc.2 _ _ h.2.2.1 hb).1.trans h.2.1, Nat.lt_of_lt_of_le h.2.2.1 hc.1, h.2.2.2.off hc hd⟩
theorem PGB.new (t : TypeId) (h : TwoR w L H A c A' c' n m f g) : PGB (w.alloc (.cells #[.slice A n c, .slice A' m c'] t)) w.heap.size L H A c A' c' n m f g :=
  ⟨by rw [World.cell?_alloc_mark]; rfl, by rw [World.cell?_alloc_mark]; rfl, by simp, h.up (Up.alloc (Up.refl w) _)⟩
theorem Sl.form' {lo hi sz : Nat} {v : Value} (h : Sl w lo hi sz v n f) : ∃ A c, v = .slice A n c := by
  obtain ⟨_, A, c, rfl, _⟩ := h
  exact ⟨A, c, rfl⟩
theorem PrG.two {w w' : World} {n m : Nat} {f g : Nat → Nat → Value} {b : Bool} {e : Ending} (h : PrG w n m f g b e w') :
    ∃ A c A' c', e = .returned (.tuple #[.agg #[.slice A n c, .slice A' m c'], .bool b]) ∧ TwoR w' w.heap.size w'.heap.size A c A' c' n m f g ∧ Up w w' := by
  obtain ⟨A, c, A', c', l1, h1, l2, h2, he, W1, W2, a1, a2, a3, hu⟩ := h
  exact ⟨A, c, A', c', he, ⟨l1, h1, l2, h2, W1, W2, a1, W1.1, a2, W2.1, a3⟩, hu⟩
end
end Go.Proofs.Ytlpbmdoggcclpaa
