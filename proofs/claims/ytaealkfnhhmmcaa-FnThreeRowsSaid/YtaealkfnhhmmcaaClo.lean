/- Closed facts of the program alone, each asked once: the joined row's facts are put together out of them. No condition. -/
import Derived.Test.YtaealkfnhhmmcaaRows
import Derived.Test.YtaealkfnhhmmcaaOpen
import Derived.OpenShut
namespace Go.Proofs.Ytaealkfnhhmmcaa
open Go.ChangeShapes Go.WideShapes Go.ChangeAt Go.RowKit
/-- The facts that speak of one function. -/
def jfA (P : Program) (f : FuncId) (fn : Func) (s : ChangeSpec) (c : OpenClaim) : Bool :=
  c.wf (OpenSpec.ofChange s) &&
  fn.params.all (P.readableRec ·) && namedTie P c.named s.vars &&
  (c.stops == []) && (c.knobs == []) &&
  (c.inPlace == P.inPlace f) && (c.unfollowed == P.unfollowed f) && (c.recurses == P.recurses f) && (c.named == P.varsNamed f) &&
  (c.maps == (fn.params.toList ++ s.plain.varTypes P).any (P.mapsRec ·)) && (c.ifaces == (fn.params.toList ++ s.plain.varTypes P).any (P.ifacesRec ·)) && (c.mapsOut == P.mapsAmong fn.resultTypes.toList) &&
  (c.loops == (fn.params.toList ++ s.plain.varTypes P).any (P.loopsFrom ·)) && (c.wideKeys == (fn.params.toList ++ s.plain.varTypes P ++ fn.resultTypes.toList).any (P.wideKeysFrom ·)) &&
  s.vars.all (P.varReadable ·) && fn.resultTypes.all (fun t => P.readableRec t && decide (t < P.types.size)) && (c.ifacesOut == fn.resultTypes.toList.any (P.ifacesRec ·)) && (c.loopsOut == fn.resultTypes.toList.any (P.loopsFrom ·)) && (c.plainKeys == P.plainKeys) && c.shortTexts.isNone && (c.kinds == (if c.domain.isEmpty then [] else fn.params.toList.map fun t => match P.underlying t with | some (.int k) => some k | _ => none)) && (c.pinned == c.pinnedBy) &&
  (c.veiled == (fn.params.toList ++ s.plain.varTypes P ++ fn.resultTypes.toList).any (P.veiledRec ·)) && c.veiledFits P fn.params.toList (fn.params.toList ++ s.plain.varTypes P ++ fn.resultTypes.toList)
theorem joined_gen {P : Program} {f : FuncId} {fn : Func} {s : ChangeSpec} {c : OpenClaim} (e1 : laidOutB P = true) (e2 : mapsRowed P = true) (e3 : (P.stops == []) = true) (e4 : (P.stopKnobs == []) = true) (e5 : P.stopsHeard = true) (e6 : P.mayEnter = true)
    (e7 : P.liftsFinal = c.lifted) (e8 : P.make = some c.make) (h : jfA P f fn s c = true) : joinedFacts P f fn s c = true := by
  unfold joinedFacts
  rw [e1, e2, e3, e4, e5, e6, e7, e8]
  have h7 : (c.lifted == c.lifted) = true := by cases c.lifted <;> rfl
  have h8 : (some c.make == some c.make) = true := beq_self_eq_true _
  rw [h7, h8]
  simp only [jfA, Bool.and_true] at h ⊢
  exact h
theorem p_maps : mapsRowed Try.prog = true := by kernel_rfl
theorem p_stops : (Try.prog.stops == []) = true := by kernel_rfl
theorem p_knobs : (Try.prog.stopKnobs == []) = true := by kernel_rfl
theorem p_heard : Try.prog.stopsHeard = true := by kernel_rfl
theorem p_enter : Try.prog.mayEnter = true := by kernel_rfl
theorem p_final : Try.prog.liftsFinal = false := by kernel_rfl
theorem p_make : Try.prog.make = some .cut := by kernel_rfl
theorem joined {f : FuncId} {fn : Func} {s : ChangeSpec} {c : OpenClaim} (hl : c.lifted = false) (hm : c.make = .cut) (h : jfA Try.prog f fn s c = true) : joinedFacts Try.pinned.checked.prog f fn s c = true :=
  joined_gen (P := Try.prog) laidOut p_maps p_stops p_knobs p_heard p_enter (p_final.trans hl.symm) (by rw [hm]; exact p_make) h
end Go.Proofs.Ytaealkfnhhmmcaa
