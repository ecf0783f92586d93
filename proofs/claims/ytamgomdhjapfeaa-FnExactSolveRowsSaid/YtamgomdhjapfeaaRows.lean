/-
  No cell of these rows narrows 'for every input' (looked for: loops, veiled, ifaces, maps, wideKeys, modest, calm, conditions, laid).
  DERIVED. THE GIVEN ROWS OF THIS SEAT. 15 by the template 'for every input the law returns true; each argument reads behind the call as it read before'; 0 by the template 'total and deterministic' (their statements: YtamgomdhjapfeaaTotals.lean).
  GIVEN WITH THE SEED: the statements are not yours to turn. If you find one false, say at which input.
  Laid BY PROGRAM, IN A SANDBOX (cutbox-rows.mjs): the forced cells as the released guide's own fill.sh prints them over the translation 385e9e4e9c9ce6e0… (all of the seat's roots in one cut). By AI agents, Wed Nov 11 2026. No macro, syntax, notation, axiom, sorry.
-/
import Derived.Test.YtamgomdhjapfeaaChecked
import GoSem.Claim
import GoSem.ClaimJoined
import GoSem.ClaimMapViews
import Derived.JoinedTies
import Derived.KernelRfl
namespace Go.Proofs.Ytamgomdhjapfeaa
/- THE CELL 'sum', in the pinned program and in every row, IS THE sha256 OF THE DUMP (.gsa) THAT YtamgomdhjapfeaaProg.lean LOADS. Nothing in Lean hashes anything: it is a label: what it is worth is what the hold of that sum in a sandbox is worth. -/
noncomputable def Try.pinned : Pinned := { name := "ytamgomdhjapfeaa", sum := "385e9e4e9c9ce6e0f97d304eba67e97396239143f53adf729bb3f708fa6f2ecf", checked := Try.checked }
namespace Rows
def none {H : Type} : Left H := { results := [], args := [] }

/-- 'laws.FnExactPierStands': WHATEVER THE INPUT: true; the input reads as it did. -/
def fnExactPierStandsSpec : ChangeSpec := { name := "fnExactPierStands", fn := fun _ => fun
  | [d1, d2, d3, d4] => { results := [.lit (.bool true)], args := [d1, d2, d3, d4] }
  | _ => none }
def fnExactPierStandsRow : OpenClaim := { program := "ytamgomdhjapfeaa", sum := "385e9e4e9c9ce6e0f97d304eba67e97396239143f53adf729bb3f708fa6f2ecf", func := "loop.example/g03301/laws.FnExactPierStands", spec := "fnExactPierStands", unfollowed := true, recurses := true, apart := false }
def FnExactPierStandsSaid : Prop := fnExactPierStandsRow.holds Try.pinned (OpenSpec.ofChange fnExactPierStandsSpec)

/-- ITS FALSE NEIGHBOUR: 'it returns false'. Refute it at one input. -/
def fnExactPierStandsWrong : ChangeSpec := { name := "fnExactPierStands", fn := fun _ => fun
  | [d1, d2, d3, d4] => { results := [.lit (.bool false)], args := [d1, d2, d3, d4] }
  | _ => none }
def FnExactPierStandsWrongFalsely : Prop := fnExactPierStandsRow.holds Try.pinned (OpenSpec.ofChange fnExactPierStandsWrong)

/-- 'laws.FnExactIsOnJoint': WHATEVER THE INPUT: true; the input reads as it did. -/
def fnExactIsOnJointSpec : ChangeSpec := { name := "fnExactIsOnJoint", fn := fun _ => fun
  | [d1, d2] => { results := [.lit (.bool true)], args := [d1, d2] }
  | _ => none }
def fnExactIsOnJointRow : OpenClaim := { program := "ytamgomdhjapfeaa", sum := "385e9e4e9c9ce6e0f97d304eba67e97396239143f53adf729bb3f708fa6f2ecf", func := "loop.example/g03301/laws.FnExactIsOnJoint", spec := "fnExactIsOnJoint", apart := false }
def FnExactIsOnJointSaid : Prop := fnExactIsOnJointRow.holds Try.pinned (OpenSpec.ofChange fnExactIsOnJointSpec)

/-- ITS FALSE NEIGHBOUR: 'it returns false'. Refute it at one input. -/
def fnExactIsOnJointWrong : ChangeSpec := { name := "fnExactIsOnJoint", fn := fun _ => fun
  | [d1, d2] => { results := [.lit (.bool false)], args := [d1, d2] }
  | _ => none }
def FnExactIsOnJointWrongFalsely : Prop := fnExactIsOnJointRow.holds Try.pinned (OpenSpec.ofChange fnExactIsOnJointWrong)

/-- 'laws.FnExactThrustOk': WHATEVER THE INPUT: true; the input reads as it did. -/
def fnExactThrustOkSpec : ChangeSpec := { name := "fnExactThrustOk", fn := fun _ => fun
  | [d] => { results := [.lit (.bool true)], args := [d] }
  | _ => none }
def fnExactThrustOkRow : OpenClaim := { program := "ytamgomdhjapfeaa", sum := "385e9e4e9c9ce6e0f97d304eba67e97396239143f53adf729bb3f708fa6f2ecf", func := "loop.example/g03301/laws.FnExactThrustOk", spec := "fnExactThrustOk", apart := false }
def FnExactThrustOkSaid : Prop := fnExactThrustOkRow.holds Try.pinned (OpenSpec.ofChange fnExactThrustOkSpec)

/-- ITS FALSE NEIGHBOUR: 'it returns false'. Refute it at one input. -/
def fnExactThrustOkWrong : ChangeSpec := { name := "fnExactThrustOk", fn := fun _ => fun
  | [d] => { results := [.lit (.bool false)], args := [d] }
  | _ => none }
def FnExactThrustOkWrongFalsely : Prop := fnExactThrustOkRow.holds Try.pinned (OpenSpec.ofChange fnExactThrustOkWrong)

/-- 'laws.FnExactLeastWidth': WHATEVER THE INPUT: true; the input reads as it did. -/
def fnExactLeastWidthSpec : ChangeSpec := { name := "fnExactLeastWidth", fn := fun _ => fun
  | [d1, d2, d3, d4] => { results := [.lit (.bool true)], args := [d1, d2, d3, d4] }
  | _ => none }
def fnExactLeastWidthRow : OpenClaim := { program := "ytamgomdhjapfeaa", sum := "385e9e4e9c9ce6e0f97d304eba67e97396239143f53adf729bb3f708fa6f2ecf", func := "loop.example/g03301/laws.FnExactLeastWidth", spec := "fnExactLeastWidth", unfollowed := true, recurses := true, apart := false }
def FnExactLeastWidthSaid : Prop := fnExactLeastWidthRow.holds Try.pinned (OpenSpec.ofChange fnExactLeastWidthSpec)

/-- ITS FALSE NEIGHBOUR: 'it returns false'. Refute it at one input. -/
def fnExactLeastWidthWrong : ChangeSpec := { name := "fnExactLeastWidth", fn := fun _ => fun
  | [d1, d2, d3, d4] => { results := [.lit (.bool false)], args := [d1, d2, d3, d4] }
  | _ => none }
def FnExactLeastWidthWrongFalsely : Prop := fnExactLeastWidthRow.holds Try.pinned (OpenSpec.ofChange fnExactLeastWidthWrong)

/-- 'laws.FnExactDetOfRows': WHATEVER THE INPUT: true; the input reads as it did. -/
def fnExactDetOfRowsSpec : ChangeSpec := { name := "fnExactDetOfRows", fn := fun _ => fun
  | [d1, d2, d3] => { results := [.lit (.bool true)], args := [d1, d2, d3] }
  | _ => none }
def fnExactDetOfRowsRow : OpenClaim := { program := "ytamgomdhjapfeaa", sum := "385e9e4e9c9ce6e0f97d304eba67e97396239143f53adf729bb3f708fa6f2ecf", func := "loop.example/g03301/laws.FnExactDetOfRows", spec := "fnExactDetOfRows", apart := false }
def FnExactDetOfRowsSaid : Prop := fnExactDetOfRowsRow.holds Try.pinned (OpenSpec.ofChange fnExactDetOfRowsSpec)

/-- ITS FALSE NEIGHBOUR: 'it returns false'. Refute it at one input. -/
def fnExactDetOfRowsWrong : ChangeSpec := { name := "fnExactDetOfRows", fn := fun _ => fun
  | [d1, d2, d3] => { results := [.lit (.bool false)], args := [d1, d2, d3] }
  | _ => none }
def FnExactDetOfRowsWrongFalsely : Prop := fnExactDetOfRowsRow.holds Try.pinned (OpenSpec.ofChange fnExactDetOfRowsWrong)

/-- 'laws.FnClamped': WHATEVER THE INPUT: true; the input reads as it did. -/
def fnClampedSpec : ChangeSpec := { name := "fnClamped", fn := fun _ => fun
  | [d] => { results := [.lit (.bool true)], args := [d] }
  | _ => none }
def fnClampedRow : OpenClaim := { program := "ytamgomdhjapfeaa", sum := "385e9e4e9c9ce6e0f97d304eba67e97396239143f53adf729bb3f708fa6f2ecf", func := "loop.example/g03301/laws.FnClamped", spec := "fnClamped", apart := false }
def FnClampedSaid : Prop := fnClampedRow.holds Try.pinned (OpenSpec.ofChange fnClampedSpec)

/-- ITS FALSE NEIGHBOUR: 'it returns false'. Refute it at one input. -/
def fnClampedWrong : ChangeSpec := { name := "fnClamped", fn := fun _ => fun
  | [d] => { results := [.lit (.bool false)], args := [d] }
  | _ => none }
def FnClampedWrongFalsely : Prop := fnClampedRow.holds Try.pinned (OpenSpec.ofChange fnClampedWrong)

/-- 'laws.FnExactMirrorJoint': WHATEVER THE INPUT: true; the input reads as it did. -/
def fnExactMirrorJointSpec : ChangeSpec := { name := "fnExactMirrorJoint", fn := fun _ => fun
  | [d1, d2] => { results := [.lit (.bool true)], args := [d1, d2] }
  | _ => none }
def fnExactMirrorJointRow : OpenClaim := { program := "ytamgomdhjapfeaa", sum := "385e9e4e9c9ce6e0f97d304eba67e97396239143f53adf729bb3f708fa6f2ecf", func := "loop.example/g03301/laws.FnExactMirrorJoint", spec := "fnExactMirrorJoint", apart := false }
def FnExactMirrorJointSaid : Prop := fnExactMirrorJointRow.holds Try.pinned (OpenSpec.ofChange fnExactMirrorJointSpec)

/-- ITS FALSE NEIGHBOUR: 'it returns false'. Refute it at one input. -/
def fnExactMirrorJointWrong : ChangeSpec := { name := "fnExactMirrorJoint", fn := fun _ => fun
  | [d1, d2] => { results := [.lit (.bool false)], args := [d1, d2] }
  | _ => none }
def FnExactMirrorJointWrongFalsely : Prop := fnExactMirrorJointRow.holds Try.pinned (OpenSpec.ofChange fnExactMirrorJointWrong)

/-- 'laws.FnExactFulfills': WHATEVER THE INPUT: true; the input reads as it did. -/
def fnExactFulfillsSpec : ChangeSpec := { name := "fnExactFulfills", fn := fun _ => fun
  | [d1, d2] => { results := [.lit (.bool true)], args := [d1, d2] }
  | _ => none }
def fnExactFulfillsRow : OpenClaim := { program := "ytamgomdhjapfeaa", sum := "385e9e4e9c9ce6e0f97d304eba67e97396239143f53adf729bb3f708fa6f2ecf", func := "loop.example/g03301/laws.FnExactFulfills", spec := "fnExactFulfills", apart := false }
def FnExactFulfillsSaid : Prop := fnExactFulfillsRow.holds Try.pinned (OpenSpec.ofChange fnExactFulfillsSpec)

/-- ITS FALSE NEIGHBOUR: 'it returns false'. Refute it at one input. -/
def fnExactFulfillsWrong : ChangeSpec := { name := "fnExactFulfills", fn := fun _ => fun
  | [d1, d2] => { results := [.lit (.bool false)], args := [d1, d2] }
  | _ => none }
def FnExactFulfillsWrongFalsely : Prop := fnExactFulfillsRow.holds Try.pinned (OpenSpec.ofChange fnExactFulfillsWrong)

/-- 'laws.FnExactIsJustMet': WHATEVER THE INPUT: true; the input reads as it did. -/
def fnExactIsJustMetSpec : ChangeSpec := { name := "fnExactIsJustMet", fn := fun _ => fun
  | [d1, d2] => { results := [.lit (.bool true)], args := [d1, d2] }
  | _ => none }
def fnExactIsJustMetRow : OpenClaim := { program := "ytamgomdhjapfeaa", sum := "385e9e4e9c9ce6e0f97d304eba67e97396239143f53adf729bb3f708fa6f2ecf", func := "loop.example/g03301/laws.FnExactIsJustMet", spec := "fnExactIsJustMet", apart := false }
def FnExactIsJustMetSaid : Prop := fnExactIsJustMetRow.holds Try.pinned (OpenSpec.ofChange fnExactIsJustMetSpec)

/-- ITS FALSE NEIGHBOUR: 'it returns false'. Refute it at one input. -/
def fnExactIsJustMetWrong : ChangeSpec := { name := "fnExactIsJustMet", fn := fun _ => fun
  | [d1, d2] => { results := [.lit (.bool false)], args := [d1, d2] }
  | _ => none }
def FnExactIsJustMetWrongFalsely : Prop := fnExactIsJustMetRow.holds Try.pinned (OpenSpec.ofChange fnExactIsJustMetWrong)

/-- 'laws.FnExactCompareThrusts': WHATEVER THE INPUT: true; the input reads as it did. -/
def fnExactCompareThrustsSpec : ChangeSpec := { name := "fnExactCompareThrusts", fn := fun _ => fun
  | [d1, d2] => { results := [.lit (.bool true)], args := [d1, d2] }
  | _ => none }
def fnExactCompareThrustsRow : OpenClaim := { program := "ytamgomdhjapfeaa", sum := "385e9e4e9c9ce6e0f97d304eba67e97396239143f53adf729bb3f708fa6f2ecf", func := "loop.example/g03301/laws.FnExactCompareThrusts", spec := "fnExactCompareThrusts", apart := false }
def FnExactCompareThrustsSaid : Prop := fnExactCompareThrustsRow.holds Try.pinned (OpenSpec.ofChange fnExactCompareThrustsSpec)

/-- ITS FALSE NEIGHBOUR: 'it returns false'. Refute it at one input. -/
def fnExactCompareThrustsWrong : ChangeSpec := { name := "fnExactCompareThrusts", fn := fun _ => fun
  | [d1, d2] => { results := [.lit (.bool false)], args := [d1, d2] }
  | _ => none }
def FnExactCompareThrustsWrongFalsely : Prop := fnExactCompareThrustsRow.holds Try.pinned (OpenSpec.ofChange fnExactCompareThrustsWrong)

/-- 'laws.FnExactMakeThrust': WHATEVER THE INPUT: true; the input reads as it did. -/
def fnExactMakeThrustSpec : ChangeSpec := { name := "fnExactMakeThrust", fn := fun _ => fun
  | [d1, d2, d3, d4] => { results := [.lit (.bool true)], args := [d1, d2, d3, d4] }
  | _ => none }
def fnExactMakeThrustRow : OpenClaim := { program := "ytamgomdhjapfeaa", sum := "385e9e4e9c9ce6e0f97d304eba67e97396239143f53adf729bb3f708fa6f2ecf", func := "loop.example/g03301/laws.FnExactMakeThrust", spec := "fnExactMakeThrust", apart := false }
def FnExactMakeThrustSaid : Prop := fnExactMakeThrustRow.holds Try.pinned (OpenSpec.ofChange fnExactMakeThrustSpec)

/-- ITS FALSE NEIGHBOUR: 'it returns false'. Refute it at one input. -/
def fnExactMakeThrustWrong : ChangeSpec := { name := "fnExactMakeThrust", fn := fun _ => fun
  | [d1, d2, d3, d4] => { results := [.lit (.bool false)], args := [d1, d2, d3, d4] }
  | _ => none }
def FnExactMakeThrustWrongFalsely : Prop := fnExactMakeThrustRow.holds Try.pinned (OpenSpec.ofChange fnExactMakeThrustWrong)

/-- 'laws.FnPoints': WHATEVER THE INPUT: true; the input reads as it did. -/
def fnPointsSpec : ChangeSpec := { name := "fnPoints", fn := fun _ => fun
  | [d] => { results := [.lit (.bool true)], args := [d] }
  | _ => none }
def fnPointsRow : OpenClaim := { program := "ytamgomdhjapfeaa", sum := "385e9e4e9c9ce6e0f97d304eba67e97396239143f53adf729bb3f708fa6f2ecf", func := "loop.example/g03301/laws.FnPoints", spec := "fnPoints", apart := false }
def FnPointsSaid : Prop := fnPointsRow.holds Try.pinned (OpenSpec.ofChange fnPointsSpec)

/-- ITS FALSE NEIGHBOUR: 'it returns false'. Refute it at one input. -/
def fnPointsWrong : ChangeSpec := { name := "fnPoints", fn := fun _ => fun
  | [d] => { results := [.lit (.bool false)], args := [d] }
  | _ => none }
def FnPointsWrongFalsely : Prop := fnPointsRow.holds Try.pinned (OpenSpec.ofChange fnPointsWrong)

/-- 'laws.FnExactMixThrusts': WHATEVER THE INPUT: true; the input reads as it did. -/
def fnExactMixThrustsSpec : ChangeSpec := { name := "fnExactMixThrusts", fn := fun _ => fun
  | [d1, d2] => { results := [.lit (.bool true)], args := [d1, d2] }
  | _ => none }
def fnExactMixThrustsRow : OpenClaim := { program := "ytamgomdhjapfeaa", sum := "385e9e4e9c9ce6e0f97d304eba67e97396239143f53adf729bb3f708fa6f2ecf", func := "loop.example/g03301/laws.FnExactMixThrusts", spec := "fnExactMixThrusts", apart := false }
def FnExactMixThrustsSaid : Prop := fnExactMixThrustsRow.holds Try.pinned (OpenSpec.ofChange fnExactMixThrustsSpec)

/-- ITS FALSE NEIGHBOUR: 'it returns false'. Refute it at one input. -/
def fnExactMixThrustsWrong : ChangeSpec := { name := "fnExactMixThrusts", fn := fun _ => fun
  | [d1, d2] => { results := [.lit (.bool false)], args := [d1, d2] }
  | _ => none }
def FnExactMixThrustsWrongFalsely : Prop := fnExactMixThrustsRow.holds Try.pinned (OpenSpec.ofChange fnExactMixThrustsWrong)

/-- 'laws.FnExactSolveRows': WHATEVER THE INPUT: true; the input reads as it did. -/
def fnExactSolveRowsSpec : ChangeSpec := { name := "fnExactSolveRows", fn := fun _ => fun
  | [d1, d2, d3] => { results := [.lit (.bool true)], args := [d1, d2, d3] }
  | _ => none }
def fnExactSolveRowsRow : OpenClaim := { program := "ytamgomdhjapfeaa", sum := "385e9e4e9c9ce6e0f97d304eba67e97396239143f53adf729bb3f708fa6f2ecf", func := "loop.example/g03301/laws.FnExactSolveRows", spec := "fnExactSolveRows", apart := false }
def FnExactSolveRowsSaid : Prop := fnExactSolveRowsRow.holds Try.pinned (OpenSpec.ofChange fnExactSolveRowsSpec)

/-- ITS FALSE NEIGHBOUR: 'it returns false'. Refute it at one input. -/
def fnExactSolveRowsWrong : ChangeSpec := { name := "fnExactSolveRows", fn := fun _ => fun
  | [d1, d2, d3] => { results := [.lit (.bool false)], args := [d1, d2, d3] }
  | _ => none }
def FnExactSolveRowsWrongFalsely : Prop := fnExactSolveRowsRow.holds Try.pinned (OpenSpec.ofChange fnExactSolveRowsWrong)

/-- 'laws.FnThrusts': WHATEVER THE INPUT: true; the input reads as it did. -/
def fnThrustsSpec : ChangeSpec := { name := "fnThrusts", fn := fun _ => fun
  | [d] => { results := [.lit (.bool true)], args := [d] }
  | _ => none }
def fnThrustsRow : OpenClaim := { program := "ytamgomdhjapfeaa", sum := "385e9e4e9c9ce6e0f97d304eba67e97396239143f53adf729bb3f708fa6f2ecf", func := "loop.example/g03301/laws.FnThrusts", spec := "fnThrusts", apart := false }
def FnThrustsSaid : Prop := fnThrustsRow.holds Try.pinned (OpenSpec.ofChange fnThrustsSpec)

/-- ITS FALSE NEIGHBOUR: 'it returns false'. Refute it at one input. -/
def fnThrustsWrong : ChangeSpec := { name := "fnThrusts", fn := fun _ => fun
  | [d] => { results := [.lit (.bool false)], args := [d] }
  | _ => none }
def FnThrustsWrongFalsely : Prop := fnThrustsRow.holds Try.pinned (OpenSpec.ofChange fnThrustsWrong)

/- THE SECOND FORM. 'bulk': how many values and letters a reading holds, each counted each time it is reached (what is shared counts as often as it is met; a slice's spare places count too). A statement '..UptoSaid' is the law's where the arguments, and the package variables that the reading takes, are together of bulk at most 1048576: NARROWER than '..Said'. Prove '..Said' where nothing that the law and all that it calls make is longer than what came in: it says more and counts as full. Else prove '..UptoSaid'. A law counts once. -/
mutual
def uptoBulk {H : Type} : DataW H → Nat
  | .lit (.string bytes) => bytes.length + 1
  | .lit _ => 1
  | .nil => 1
  | .ptr d => uptoBulk d + 1
  | .slice elems spare => uptoBulkAll elems + uptoBulkAll spare + 1
  | .agg parts => uptoBulkAll parts + 1
  | .iface _ d => uptoBulk d + 1
  | .map entries => uptoBulkEntries entries + 1
  | .held _ => 1
def uptoBulkAll {H : Type} : List (DataW H) → Nat
  | [] => 0
  | d :: r => uptoBulk d + uptoBulkAll r
def uptoBulkEntries {H : Type} : List (Lit × DataW H) → Nat
  | [] => 0
  | x :: r => uptoBulkEntry x + uptoBulkEntries r
def uptoBulkEntry {H : Type} : Lit × DataW H → Nat
  | (.string bytes, d) => bytes.length + uptoBulk d + 1
  | (_, d) => uptoBulk d + 1
 end
def uptoSmall : (H : Type) → List (DataW H) → Bool := fun _ ds => decide (uptoBulkAll ds ≤ 1048576)
def OpenSpec.upto (s : _root_.Go.ChangeSpec) : _root_.Go.OpenSpec := { _root_.Go.OpenSpec.ofChange s with cond := some uptoSmall }

/-- 'laws.FnExactPierStands', WHERE WHAT IT READS IS OF BULK AT MOST 1048576: true; the input reads as it did. -/
def fnExactPierStandsUptoRow : OpenClaim := { program := "ytamgomdhjapfeaa", sum := "385e9e4e9c9ce6e0f97d304eba67e97396239143f53adf729bb3f708fa6f2ecf", func := "loop.example/g03301/laws.FnExactPierStands", spec := "fnExactPierStands", unfollowed := true, recurses := true, apart := false, narrowed := true }
def FnExactPierStandsUptoSaid : Prop := fnExactPierStandsUptoRow.holds Try.pinned (OpenSpec.upto fnExactPierStandsSpec)

/-- 'laws.FnExactIsOnJoint', WHERE WHAT IT READS IS OF BULK AT MOST 1048576: true; the input reads as it did. -/
def fnExactIsOnJointUptoRow : OpenClaim := { program := "ytamgomdhjapfeaa", sum := "385e9e4e9c9ce6e0f97d304eba67e97396239143f53adf729bb3f708fa6f2ecf", func := "loop.example/g03301/laws.FnExactIsOnJoint", spec := "fnExactIsOnJoint", apart := false, narrowed := true }
def FnExactIsOnJointUptoSaid : Prop := fnExactIsOnJointUptoRow.holds Try.pinned (OpenSpec.upto fnExactIsOnJointSpec)

/-- 'laws.FnExactThrustOk', WHERE WHAT IT READS IS OF BULK AT MOST 1048576: true; the input reads as it did. -/
def fnExactThrustOkUptoRow : OpenClaim := { program := "ytamgomdhjapfeaa", sum := "385e9e4e9c9ce6e0f97d304eba67e97396239143f53adf729bb3f708fa6f2ecf", func := "loop.example/g03301/laws.FnExactThrustOk", spec := "fnExactThrustOk", apart := false, narrowed := true }
def FnExactThrustOkUptoSaid : Prop := fnExactThrustOkUptoRow.holds Try.pinned (OpenSpec.upto fnExactThrustOkSpec)

/-- 'laws.FnExactLeastWidth', WHERE WHAT IT READS IS OF BULK AT MOST 1048576: true; the input reads as it did. -/
def fnExactLeastWidthUptoRow : OpenClaim := { program := "ytamgomdhjapfeaa", sum := "385e9e4e9c9ce6e0f97d304eba67e97396239143f53adf729bb3f708fa6f2ecf", func := "loop.example/g03301/laws.FnExactLeastWidth", spec := "fnExactLeastWidth", unfollowed := true, recurses := true, apart := false, narrowed := true }
def FnExactLeastWidthUptoSaid : Prop := fnExactLeastWidthUptoRow.holds Try.pinned (OpenSpec.upto fnExactLeastWidthSpec)

/-- 'laws.FnExactDetOfRows', WHERE WHAT IT READS IS OF BULK AT MOST 1048576: true; the input reads as it did. -/
def fnExactDetOfRowsUptoRow : OpenClaim := { program := "ytamgomdhjapfeaa", sum := "385e9e4e9c9ce6e0f97d304eba67e97396239143f53adf729bb3f708fa6f2ecf", func := "loop.example/g03301/laws.FnExactDetOfRows", spec := "fnExactDetOfRows", apart := false, narrowed := true }
def FnExactDetOfRowsUptoSaid : Prop := fnExactDetOfRowsUptoRow.holds Try.pinned (OpenSpec.upto fnExactDetOfRowsSpec)

/-- 'laws.FnClamped', WHERE WHAT IT READS IS OF BULK AT MOST 1048576: true; the input reads as it did. -/
def fnClampedUptoRow : OpenClaim := { program := "ytamgomdhjapfeaa", sum := "385e9e4e9c9ce6e0f97d304eba67e97396239143f53adf729bb3f708fa6f2ecf", func := "loop.example/g03301/laws.FnClamped", spec := "fnClamped", apart := false, narrowed := true }
def FnClampedUptoSaid : Prop := fnClampedUptoRow.holds Try.pinned (OpenSpec.upto fnClampedSpec)

/-- 'laws.FnExactMirrorJoint', WHERE WHAT IT READS IS OF BULK AT MOST 1048576: true; the input reads as it did. -/
def fnExactMirrorJointUptoRow : OpenClaim := { program := "ytamgomdhjapfeaa", sum := "385e9e4e9c9ce6e0f97d304eba67e97396239143f53adf729bb3f708fa6f2ecf", func := "loop.example/g03301/laws.FnExactMirrorJoint", spec := "fnExactMirrorJoint", apart := false, narrowed := true }
def FnExactMirrorJointUptoSaid : Prop := fnExactMirrorJointUptoRow.holds Try.pinned (OpenSpec.upto fnExactMirrorJointSpec)

/-- 'laws.FnExactFulfills', WHERE WHAT IT READS IS OF BULK AT MOST 1048576: true; the input reads as it did. -/
def fnExactFulfillsUptoRow : OpenClaim := { program := "ytamgomdhjapfeaa", sum := "385e9e4e9c9ce6e0f97d304eba67e97396239143f53adf729bb3f708fa6f2ecf", func := "loop.example/g03301/laws.FnExactFulfills", spec := "fnExactFulfills", apart := false, narrowed := true }
def FnExactFulfillsUptoSaid : Prop := fnExactFulfillsUptoRow.holds Try.pinned (OpenSpec.upto fnExactFulfillsSpec)

/-- 'laws.FnExactIsJustMet', WHERE WHAT IT READS IS OF BULK AT MOST 1048576: true; the input reads as it did. -/
def fnExactIsJustMetUptoRow : OpenClaim := { program := "ytamgomdhjapfeaa", sum := "385e9e4e9c9ce6e0f97d304eba67e97396239143f53adf729bb3f708fa6f2ecf", func := "loop.example/g03301/laws.FnExactIsJustMet", spec := "fnExactIsJustMet", apart := false, narrowed := true }
def FnExactIsJustMetUptoSaid : Prop := fnExactIsJustMetUptoRow.holds Try.pinned (OpenSpec.upto fnExactIsJustMetSpec)

/-- 'laws.FnExactCompareThrusts', WHERE WHAT IT READS IS OF BULK AT MOST 1048576: true; the input reads as it did. -/
def fnExactCompareThrustsUptoRow : OpenClaim := { program := "ytamgomdhjapfeaa", sum := "385e9e4e9c9ce6e0f97d304eba67e97396239143f53adf729bb3f708fa6f2ecf", func := "loop.example/g03301/laws.FnExactCompareThrusts", spec := "fnExactCompareThrusts", apart := false, narrowed := true }
def FnExactCompareThrustsUptoSaid : Prop := fnExactCompareThrustsUptoRow.holds Try.pinned (OpenSpec.upto fnExactCompareThrustsSpec)

/-- 'laws.FnExactMakeThrust', WHERE WHAT IT READS IS OF BULK AT MOST 1048576: true; the input reads as it did. -/
def fnExactMakeThrustUptoRow : OpenClaim := { program := "ytamgomdhjapfeaa", sum := "385e9e4e9c9ce6e0f97d304eba67e97396239143f53adf729bb3f708fa6f2ecf", func := "loop.example/g03301/laws.FnExactMakeThrust", spec := "fnExactMakeThrust", apart := false, narrowed := true }
def FnExactMakeThrustUptoSaid : Prop := fnExactMakeThrustUptoRow.holds Try.pinned (OpenSpec.upto fnExactMakeThrustSpec)

/-- 'laws.FnPoints', WHERE WHAT IT READS IS OF BULK AT MOST 1048576: true; the input reads as it did. -/
def fnPointsUptoRow : OpenClaim := { program := "ytamgomdhjapfeaa", sum := "385e9e4e9c9ce6e0f97d304eba67e97396239143f53adf729bb3f708fa6f2ecf", func := "loop.example/g03301/laws.FnPoints", spec := "fnPoints", apart := false, narrowed := true }
def FnPointsUptoSaid : Prop := fnPointsUptoRow.holds Try.pinned (OpenSpec.upto fnPointsSpec)

/-- 'laws.FnExactMixThrusts', WHERE WHAT IT READS IS OF BULK AT MOST 1048576: true; the input reads as it did. -/
def fnExactMixThrustsUptoRow : OpenClaim := { program := "ytamgomdhjapfeaa", sum := "385e9e4e9c9ce6e0f97d304eba67e97396239143f53adf729bb3f708fa6f2ecf", func := "loop.example/g03301/laws.FnExactMixThrusts", spec := "fnExactMixThrusts", apart := false, narrowed := true }
def FnExactMixThrustsUptoSaid : Prop := fnExactMixThrustsUptoRow.holds Try.pinned (OpenSpec.upto fnExactMixThrustsSpec)

/-- 'laws.FnExactSolveRows', WHERE WHAT IT READS IS OF BULK AT MOST 1048576: true; the input reads as it did. -/
def fnExactSolveRowsUptoRow : OpenClaim := { program := "ytamgomdhjapfeaa", sum := "385e9e4e9c9ce6e0f97d304eba67e97396239143f53adf729bb3f708fa6f2ecf", func := "loop.example/g03301/laws.FnExactSolveRows", spec := "fnExactSolveRows", apart := false, narrowed := true }
def FnExactSolveRowsUptoSaid : Prop := fnExactSolveRowsUptoRow.holds Try.pinned (OpenSpec.upto fnExactSolveRowsSpec)

/-- 'laws.FnThrusts', WHERE WHAT IT READS IS OF BULK AT MOST 1048576: true; the input reads as it did. -/
def fnThrustsUptoRow : OpenClaim := { program := "ytamgomdhjapfeaa", sum := "385e9e4e9c9ce6e0f97d304eba67e97396239143f53adf729bb3f708fa6f2ecf", func := "loop.example/g03301/laws.FnThrusts", spec := "fnThrusts", apart := false, narrowed := true }
def FnThrustsUptoSaid : Prop := fnThrustsUptoRow.holds Try.pinned (OpenSpec.upto fnThrustsSpec)

end Rows
end Go.Proofs.Ytamgomdhjapfeaa
