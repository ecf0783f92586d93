/- How the arguments of the laws read: bytes. No condition. -/
import Derived.Test.YtaealkfnhhmmcaaOpen2
import Derived.Test.YtaealkfnhhmmcaaDraw
namespace Go.Proofs.Ytaealkfnhhmmcaa
open Go.RowKit Go.WideShapes Go.ChangeShapes Go.Joins Go.Deep
section
variable {H : Type} {enc : TypeId × Value → H} {P : Program} {w : World} {base : Nat} {spare : Nat → Bool} {held : Bool} {v : Value} {d : DataW H} {p : List MemPlace}
theorem bytes_open {t e : TypeId} {fuel : Nat} {v : Value} {x : DataW H × List MemPlace} (ht : P.underlying t = some (.slice e)) (hC : P.cellsOf e = 1) (hT : P.underlying e = some (.int .u8)) (h : DataW.trod enc P w base spare held fuel t [v] = some x) :
    ∃ (n : Nat) (B : Nat → Int), n ≤ maxLen ∧ Sl w 0 w.heap.size 1 v n (bytF B) ∧ ∀ i, i < n → 0 ≤ B i ∧ B i ≤ 255 := by
  obtain ⟨n, C, hn, hs, hc⟩ := sl_open ht hC (by omega) h
  have each : ∀ i, i < n → ∃ a, (C i).getD 0 undef = .int .u8 a ∧ 0 ≤ a ∧ a ≤ 255 := fun i hi => by
    obtain ⟨hl, m, y, hy⟩ := hc i hi
    obtain ⟨a, e0, _, wa⟩ := DataW.trod_int hT hy
    rw [e0]
    simp [Lit.wf, IntKind.min, IntKind.max, IntKind.bits, IntKind.signed] at wa
    exact ⟨a, rfl, by omega, by omega⟩
  refine ⟨n, fun i => intOf ((C i).getD 0 undef), hn, hs.congr fun i j hi hj => ?_, fun i hi => ?_⟩
  · have hj0 : j = 0 := by omega
    subst hj0
    obtain ⟨a, h1, _⟩ := each i hi
    simp only [bytF]
    rw [h1]; rfl
  · obtain ⟨a, h1, h2⟩ := each i hi
    simp only []; rw [h1]; exact h2
set_option maxRecDepth 100000 in
theorem open_Bytes {r : Reach} {b0 : Nat} (hv : Value.okWide Try.prog w r b0 22 v) (h : DataW.Trod enc Try.prog w base spare held 22 v d p) :
    ∃ (n : Nat) (B : Nat → Int), n ≤ maxLen ∧ Sl w 0 w.heap.size 1 v n (bytF B) ∧ ∀ i, i < n → 0 ≤ B i ∧ B i ≤ 255 := by
  obtain ⟨A, l, c, rfl⟩ := okWide_slice Try.underlying22 hv
  obtain ⟨fuel, hf⟩ := h
  exact bytes_open Try.underlying22 (by kernel_rfl) Try.underlying5 hf
end
end Go.Proofs.Ytaealkfnhhmmcaa
