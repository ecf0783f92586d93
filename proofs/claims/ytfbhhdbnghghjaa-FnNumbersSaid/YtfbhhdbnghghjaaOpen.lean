/- How the arguments of the laws read: structs of integers. No condition. -/
import Derived.Test.YtfbhhdbnghghjaaBase
import Derived.Lib.SmallJoins
import Derived.ChangeOld
namespace Go.Proofs.Ytfbhhdbnghghjaa
open Go.RowKit Go.WideShapes Go.ChangeShapes Go.Joins

theorem own : ownKnob Try.prog.godebug = none := by kernel_rfl
theorem laidOut : laidOutB Try.prog = true := by kernel_rfl


section
variable {H : Type} {enc : TypeId × Value → H} {w : World} {base : Nat} {spare : Nat → Bool} {held : Bool} {v : Value} {d : DataW H} {p : List MemPlace}
set_option maxRecDepth 100000 in
theorem open_Point {r : Reach} {b0 : Nat} (hv : Value.okWide Try.prog w r b0 28 v) (h : DataW.Trod enc Try.prog w base spare held 28 v d p) :
    ∃ x y, v = .agg #[.int .i64 x, .int .i64 y] ∧ I64 x ∧ I64 y := by
  obtain ⟨c0, c1, y0, y1, m, rfl, rfl, rfl, hy0, hy1⟩ := open_agg2 Try.underlying28 (by kernel_rfl) (by kernel_rfl) hv h
  obtain ⟨a, e0, rfl, wa⟩ := DataW.trod_int Try.underlying3 hy0
  obtain ⟨b, e1, rfl, wb⟩ := DataW.trod_int Try.underlying3 hy1
  simp at e0 e1
  exact ⟨a, b, by rw [e0, e1], .of_wf wa, .of_wf wb⟩
set_option maxRecDepth 100000 in
theorem open_Thrust {r : Reach} {b0 : Nat} (hv : Value.okWide Try.prog w r b0 51 v) (h : DataW.Trod enc Try.prog w base spare held 51 v d p) :
    ∃ x y z t, v = .agg #[.int .i64 x, .int .i64 y, .int .i64 z, .int .i64 t] ∧ I64 x ∧ I64 y ∧ I64 z ∧ I64 t := by
  obtain ⟨c0, c1, c2, c3, y0, y1, y2, y3, m, rfl, rfl, rfl, hy0, hy1, hy2, hy3⟩ := open_agg4 Try.underlying51 (by kernel_rfl) (by kernel_rfl) hv h
  obtain ⟨a, e0, rfl, wa⟩ := DataW.trod_int Try.underlying3 hy0
  obtain ⟨b, e1, rfl, wb⟩ := DataW.trod_int Try.underlying3 hy1
  obtain ⟨c, e2, rfl, wc⟩ := DataW.trod_int Try.underlying3 hy2
  obtain ⟨e, e3, rfl, we⟩ := DataW.trod_int Try.underlying3 hy3
  simp at e0 e1 e2 e3
  exact ⟨a, b, c, e, by rw [e0, e1, e2, e3], .of_wf wa, .of_wf wb, .of_wf wc, .of_wf we⟩
set_option maxRecDepth 100000 in
theorem ints2_of {n : Nat} {cs : List Value} {x : DataW H × List MemPlace} (h : DataW.trod enc Try.prog w base spare held n 28 cs = some x) :
    ∃ a b, cs = [.int .i64 a, .int .i64 b] ∧ I64 a ∧ I64 b := by
  obtain ⟨y0, y1, m, rfl, hl, h0, h1⟩ := trod_struct2 Try.underlying28 h
  have hl2 : cs.length = 2 := hl.trans (by kernel_rfl)
  obtain ⟨a, e0, _, wa⟩ := DataW.trod_int Try.underlying3 h0
  obtain ⟨b, e1, _, wb⟩ := DataW.trod_int Try.underlying3 h1
  have k : Try.prog.cellsOf 3 = 1 := by kernel_rfl
  match cs, hl2 with
  | [c0, c1], _ =>
    simp [k] at e0 e1
    exact ⟨a, b, by rw [e0, e1], .of_wf wa, .of_wf wb⟩
set_option maxRecDepth 100000 in
theorem open_Joint {r : Reach} {b0 : Nat} (hv : Value.okWide Try.prog w r b0 44 v) (h : DataW.Trod enc Try.prog w base spare held 44 v d p) :
    ∃ x y z t, v = .agg #[.int .i64 x, .int .i64 y, .int .i64 z, .int .i64 t] ∧ I64 x ∧ I64 y ∧ I64 z ∧ I64 t := by
  obtain ⟨cs, rfl, hsz⟩ := okWide_struct Try.underlying44 hv
  obtain ⟨c0, c1, c2, c3, rfl⟩ := array4 (hsz.trans (by kernel_rfl))
  obtain ⟨fuel, hf⟩ := h
  obtain ⟨y0, y1, m, _, _, h0, h1⟩ := trod_struct2 Try.underlying44 hf
  obtain ⟨a, b, e0, wa, wb⟩ := ints2_of h0
  obtain ⟨c, e, e1, wc, we⟩ := ints2_of h1
  have k : Try.prog.cellsOf 28 = 2 := by kernel_rfl
  simp [k, Value.cells] at e0 e1
  exact ⟨a, b, c, e, by rw [e0.1, e0.2, e1.1, e1.2], wa, wb, wc, we⟩
end
end Go.Proofs.Ytfbhhdbnghghjaa
