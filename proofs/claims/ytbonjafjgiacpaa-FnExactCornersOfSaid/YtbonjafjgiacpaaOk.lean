/- The functions that the law reaches beside the concurrent ones are pure code. No condition. -/
import Derived.Test.YtbonjafjgiacpaaSg5
import Derived.Test.YtbonjafjgiacpaaProg
import Derived.KernelRfl
namespace Go.Proofs.Ytbonjafjgiacpaa
open Sim
/-- The numbers of the functions that are pure code. -/
def okL : List Nat := [4, 5, 6, 8, 9, 10, 11, 12, 13, 14, 15, 16, 17, 18, 19, 20, 24, 26, 27, 28, 29, 30, 31, 32, 46, 47, 53, 54, 55, 56, 61, 62, 63, 64, 65, 67, 68, 69, 70]
/-- Of CornersOf's frame, what its code behind the join never names. -/
def deadT (f : FuncId) (t : Nat) : Bool := f == 7 && (t == 0 || t == 1 || t == 4 || t == 5 || t == 7 || t == 9 || (decide (11 ≤ t) && decide (t ≤ 31)))
def okF : LSet := ⟨fun f => okL.contains f, deadT⟩
theorem ok_each : (okL.all fun f => match Try.prog.funcs[f]? with | some fn => (match fn.body with | some c => okCode Try.prog okF (okF.dead f) c | none => false) | none => false) = true := by kernel_rfl
theorem ok_res7 : Try.f7.results.all (resOk (okF.dead 7)) = true := by kernel_rfl
theorem ok_set : okSet Try.prog okF := by
  refine ⟨fun f hf => ?_, fun f fn hfn => ?_⟩
  · have h := List.all_eq_true.1 ok_each f (by simpa [okF] using hf)
    split at h
    · rename_i fn hfn
      split at h
      · rename_i c hc
        exact ⟨fn, c, hfn, hc, h⟩
      · cases h
    · cases h
  · by_cases h7 : f = 7
    · subst h7
      rw [Try.func7] at hfn
      cases hfn
      exact ok_res7
    · have hd : ∀ t, okF.dead f t = false := fun t => by simp [okF, deadT, h7]
      refine Array.all_eq_true.2 fun i hi => ?_
      cases hr : fn.results[i] with
      | tmp t => simp [resOk, hd]
      | cell a t => simp [resOk, hd]
end Go.Proofs.Ytbonjafjgiacpaa
