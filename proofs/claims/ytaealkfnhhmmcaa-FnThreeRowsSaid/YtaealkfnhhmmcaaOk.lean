/- The functions that the law reaches beside the concurrent ones are pure code. No condition. -/
import Derived.Test.YtaealkfnhhmmcaaSg5
import Derived.Test.YtaealkfnhhmmcaaProg
import Derived.KernelRfl
namespace Go.Proofs.Ytaealkfnhhmmcaa
open Sim
/-- The numbers of the functions that are pure code. -/
def okL : List Nat := [6, 7, 8, 9, 10, 11, 15, 16, 19, 20, 21, 22, 23, 24, 25, 29, 33, 35, 36, 37, 38, 39, 41, 68, 69, 70, 71, 73, 86, 87, 88]
/-- Of CornersOf's frame, what its code behind the join never names. -/
def deadT (f : FuncId) (t : Nat) : Bool := (f == 14 && (t == 0 || t == 1 || t == 4 || t == 5 || t == 7 || t == 9 || (decide (11 ≤ t) && decide (t ≤ 31)))) || (f == 3 && !(t == 2 || t == 11 || t == 12 || t == 13 || decide (105 ≤ t)))
def okF : LSet := ⟨fun f => okL.contains f, deadT⟩
theorem ok_each : (okL.all fun f => match Try.prog.funcs[f]? with | some fn => (match fn.body with | some c => okCode Try.prog okF (okF.dead f) c | none => false) | none => false) = true := by kernel_rfl
theorem ok_res7 : Try.f14.results.all (resOk (okF.dead 14)) = true := by kernel_rfl
theorem ok_res3 : Try.f3.results.all (resOk (okF.dead 3)) = true := by kernel_rfl
theorem ok_set : okSet Try.prog okF := by
  refine ⟨fun f hf => ?_, fun f fn hfn => ?_⟩
  · have h := List.all_eq_true.1 ok_each f (by simpa [okF] using hf)
    split at h
    · rename_i fn hfn
      split at h
      · rename_i c hc
        exact ⟨fn, c, hfn, hc, h⟩
      · cases h
    · cases h
  · by_cases h7 : f = 14
    · subst h7
      rw [Try.func14] at hfn
      cases hfn
      exact ok_res7
    · by_cases h3 : f = 3
      · subst h3
        rw [Try.func3] at hfn
        cases hfn
        exact ok_res3
      have hd : ∀ t, okF.dead f t = false := fun t => by simp [okF, deadT, h7, h3]
      refine Array.all_eq_true.2 fun i hi => ?_
      cases hr : fn.results[i] with
      | tmp t => simp [resOk, hd]
      | cell a t => simp [resOk, hd]
end Go.Proofs.Ytaealkfnhhmmcaa
