/- How the arguments of the laws read: structs of integers. No condition. -/
import Derived.Test.YtbonjafjgiacpaaBase
import Derived.Lib.SmallJoins
import Derived.ChangeOld
namespace Go.Proofs.Ytbonjafjgiacpaa
open Go.RowKit Go.WideShapes Go.ChangeShapes Go.Joins

theorem own : ownKnob Try.prog.godebug = none := by kernel_rfl
theorem laidOut : laidOutB Try.prog = true := by kernel_rfl


section
variable {H : Type} {enc : TypeId × Value → H} {w : World} {base : Nat} {spare : Nat → Bool} {held : Bool} {v : Value} {d : DataW H} {p : List MemPlace}
set_option maxRecDepth 100000 in
theorem open_Row {r : Reach} {b0 : Nat} (hv : Value.okWide Try.prog w r b0 44 v) (h : DataW.Trod enc Try.prog w base spare held 44 v d p) :
    ∃ x y z t, v = .agg #[.int .i64 x, .int .i64 y, .int .i64 z, .int .i64 t] ∧ I64 x ∧ I64 y ∧ I64 z ∧ I64 t := by
  obtain ⟨c0, c1, c2, c3, y0, y1, y2, y3, m, rfl, rfl, rfl, hy0, hy1, hy2, hy3⟩ := open_agg4 Try.underlying44 (by kernel_rfl) (by kernel_rfl) hv h
  obtain ⟨a, e0, rfl, wa⟩ := DataW.trod_int Try.underlying3 hy0
  obtain ⟨b, e1, rfl, wb⟩ := DataW.trod_int Try.underlying3 hy1
  obtain ⟨c, e2, rfl, wc⟩ := DataW.trod_int Try.underlying3 hy2
  obtain ⟨e, e3, rfl, we⟩ := DataW.trod_int Try.underlying3 hy3
  simp at e0 e1 e2 e3
  exact ⟨a, b, c, e, by rw [e0, e1, e2, e3], .of_wf wa, .of_wf wb, .of_wf wc, .of_wf we⟩
end
end Go.Proofs.Ytbonjafjgiacpaa
