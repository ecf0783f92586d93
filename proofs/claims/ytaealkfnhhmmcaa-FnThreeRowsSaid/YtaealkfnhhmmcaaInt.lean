/- The walks of the laws' helpers on slices of integers and on structs of such slices. No condition. -/
import Derived.Test.YtaealkfnhhmmcaaSlT
namespace Go.Proofs.Ytaealkfnhhmmcaa
open Go.RowKit
set_option linter.unusedVariables false
theorem int_info : (Try.prog.info? 3).map (fun i => (i.zero, i.size, i.bytes)) = some (some (.int .i64 0), 1, 8) := by kernel_rfl
theorem Sl.int {w : World} {b o k n : Nat} {R : Nat → Nat → Int} (h : ∀ i j, i < n → j < 1 → w.cell? ⟨b, o + (i * 1 + j), none⟩ = some (intF R i j)) (hk : k < n) : w.cell? ⟨b, o + k, none⟩ = some (.int .i64 (R k 0)) := by simpa [intF] using h k 0 hk (by omega)
theorem Fl.set1 {w : World} {g q m : Nat} {f : Nat → Nat → Value} {u : Value} (h : Fl w g 1 q m f) (hqm : q < m) (hu : u = f q 0) : Fl (w.setCell ⟨g, q, none⟩ u) g 1 (q + 1) m f := h.set q 0 (by omega) (by omega) hqm hu
end Go.Proofs.Ytaealkfnhhmmcaa
