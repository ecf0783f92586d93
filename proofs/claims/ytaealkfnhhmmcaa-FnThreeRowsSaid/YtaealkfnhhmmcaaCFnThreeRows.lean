/- The law FnThreeRows returns true for every input, and its argument reads behind the call as it read before; goroutines that are still leaving when it returns list nothing more: the given row, proved from the walk. No condition. -/
import Derived.Test.YtaealkfnhhmmcaaRows
import Derived.Test.YtaealkfnhhmmcaaOpen
import Derived.Test.YtaealkfnhhmmcaaOpen2
import Derived.Test.YtaealkfnhhmmcaaOpen4
import Derived.Test.YtaealkfnhhmmcaaLg
import Derived.Test.YtaealkfnhhmmcaaClo
import Derived.OpenShut
import Derived.ShutString
import Derived.Conc.LeavingOf
namespace Go.Proofs.Ytaealkfnhhmmcaa.fnThreeRows
open Go.ChangeShapes Go.WideShapes Go.ChangeAt Go.RowKit Go.Conc
set_option linter.unusedVariables false

set_option maxRecDepth 100000 in
theorem lifted (os : Os) (started : os.Started) (H : Type) (enc : TypeId × Value → H) :
    ReturnsInLeavingWide {} Try.checked os 3 .any (Rows.fnThreeRowsSpec.pre6 enc Try.prog Try.f3 Rows.fnThreeRowsRow.domain false) (Rows.fnThreeRowsSpec.post enc Try.prog Try.f3 false true false false) := by
  refine returnsInLeavingWide_of_change_sized (C := Try.checked) own started Try.func3
    (ChangeSpec.witness6 (enc := enc) (C := Try.checked) false ⟨#[], #[.slice none 0 0], []⟩ 8 (by kernel_rfl) (by kernel_rfl) (by kernel_rfl) (by kernel_rfl)) ?_
  intro W base args ds gs before hval0 hW hcnd hsz _
  have hval : ∀ (j : Nat) t v, Try.f3.params[j]? = some t → args[j]? = some v → Value.okWide Try.prog W .any base t v := hval0
  have hW' := hW
  obtain ⟨p, q, hA0, hV, rfl, hfz, hnd⟩ := hW
  have hA : DataW.TrodAll enc Try.prog W 0 (fun _ => true) true Try.f3.params.toList args.toList ds p := hA0
  rw [Try.params3] at hA hval
  obtain ⟨v0, vs0, d0, ds0, p0, q0, hargs, rfl, rfl, h0, r0⟩ := trodAll_cons hA
  obtain ⟨rfl, rfl, rfl⟩ := trodAll_nil r0
  obtain rfl : args = #[v0] := by cases args; simp_all
  obtain ⟨rfl, rfl⟩ := trodVars_none hV
  have k0 := h0
  have lt0 : ∀ x ∈ p0, x.block < W.heap.size := by obtain ⟨m, hm⟩ := k0; exact DataW.trod_lt m _ _ _ hm
  obtain ⟨n0, B0, sm0, sA0, sI0⟩ := open_Bytes (hval 0 22 v0 rfl rfl) h0
  clear hA0 hval0
  obtain ⟨e0, A, c, e1, hx⟩ := sA0
  subst e1
  obtain ⟨M, last, o, w', t', h1, h2, h3, h4⟩ := law_FnThreeRows A n0 c B0 W sm0 ⟨e0, A, c, rfl, hx⟩ sI0
  refine ⟨M, last, o, w', t', h1, h2, h3, h4.mono fun v hv => ?_⟩
  obtain ⟨rfl, bel⟩ := hv
  exact ⟨_, _, _, [], _, [], hW', trodAll_mk1 (shut_bool Try.underlying4 _), (trodAll_cons_mk (Below.trod laidOut (by kernel_rfl) (of_decide_eq_true (by kernel_rfl)) k0 bel lt0) trodAll_mk0), rfl, Below.frame bel _, fun h => by cases h⟩

theorem over : Rows.fnThreeRowsRow.holds Try.pinned (OpenSpec.ofChange Rows.fnThreeRowsSpec) :=
  OpenClaim.holds_of_wide_leaving 3 Try.f3 rfl rfl rfl rfl rfl rfl rfl ⟨rfl, rfl, rfl, rfl, rfl⟩ rfl rfl rfl rfl rfl (by kernel_rfl) Try.func3 (joined rfl rfl (by kernel_rfl))
    (of_decide_eq_true (by kernel_rfl)) (by unfold Func.isWrapper; first | (rw [if_pos (by decide +kernel)]; kernel_rfl) | (rw [if_neg (by decide +kernel)]; exact ⟨rfl, rfl⟩))
    (fun os started H enc _ => lifted os started H enc)

theorem proved : Rows.FnThreeRowsSaid := over
#print axioms proved
end Go.Proofs.Ytaealkfnhhmmcaa.fnThreeRows
