/-
  No cell of these rows narrows 'for every input' (looked for: loops, veiled, ifaces, maps, wideKeys, modest, calm, conditions, laid).
  DERIVED. THE GIVEN ROWS OF THIS SEAT. 16 by the template 'for every input the law returns true; each argument reads behind the call as it read before'; 0 by the template 'total and deterministic' (their statements: YtigcmhdjafglbaaTotals.lean).
  GIVEN WITH THE SEED: the statements are not yours to turn. If you find one false, say at which input.
  Laid BY PROGRAM, IN A SANDBOX (cutbox-rows.mjs): the forced cells as the released guide's own fill.sh prints them over the translation 23dd749c56db5d1a… (all of the seat's roots in one cut). By AI agents, Wed Nov 11 2026. No macro, syntax, notation, axiom, sorry.
-/
import Derived.Test.YtigcmhdjafglbaaChecked
import GoSem.Claim
import GoSem.ClaimJoined
import GoSem.ClaimMapViews
import Derived.JoinedTies
import Derived.KernelRfl
namespace Go.Proofs.Ytigcmhdjafglbaa
/- THE CELL 'sum', in the pinned program and in every row, IS THE sha256 OF THE DUMP (.gsa) THAT YtigcmhdjafglbaaProg.lean LOADS. Nothing in Lean hashes anything: it is a label: what it is worth is what the hold of that sum in a sandbox is worth. -/
noncomputable def Try.pinned : Pinned := { name := "ytigcmhdjafglbaa", sum := "23dd749c56db5d1a3ab3e1f514331e57c3e4053b127c3ac6647342dfc8c92fd3", checked := Try.checked }
namespace Rows
def none {H : Type} : Left H := { results := [], args := [] }

/-- 'laws.FnExactCountTurns': WHATEVER THE INPUT: true; the input reads as it did. -/
def fnExactCountTurnsSpec : ChangeSpec := { name := "fnExactCountTurns", fn := fun _ => fun
  | [d] => { results := [.lit (.bool true)], args := [d] }
  | _ => none }
def fnExactCountTurnsRow : OpenClaim := { program := "ytigcmhdjafglbaa", sum := "23dd749c56db5d1a3ab3e1f514331e57c3e4053b127c3ac6647342dfc8c92fd3", func := "loop.example/g03301/laws.FnExactCountTurns", spec := "fnExactCountTurns", apart := false }
def FnExactCountTurnsSaid : Prop := fnExactCountTurnsRow.holds Try.pinned (OpenSpec.ofChange fnExactCountTurnsSpec)

/-- ITS FALSE NEIGHBOUR: 'it returns false'. Refute it at one input. -/
def fnExactCountTurnsWrong : ChangeSpec := { name := "fnExactCountTurns", fn := fun _ => fun
  | [d] => { results := [.lit (.bool false)], args := [d] }
  | _ => none }
def FnExactCountTurnsWrongFalsely : Prop := fnExactCountTurnsRow.holds Try.pinned (OpenSpec.ofChange fnExactCountTurnsWrong)

/-- 'laws.FnExactHasMechanism': WHATEVER THE INPUT: true; the input reads as it did. -/
def fnExactHasMechanismSpec : ChangeSpec := { name := "fnExactHasMechanism", fn := fun _ => fun
  | [d] => { results := [.lit (.bool true)], args := [d] }
  | _ => none }
def fnExactHasMechanismRow : OpenClaim := { program := "ytigcmhdjafglbaa", sum := "23dd749c56db5d1a3ab3e1f514331e57c3e4053b127c3ac6647342dfc8c92fd3", func := "loop.example/g03301/laws.FnExactHasMechanism", spec := "fnExactHasMechanism", apart := false }
def FnExactHasMechanismSaid : Prop := fnExactHasMechanismRow.holds Try.pinned (OpenSpec.ofChange fnExactHasMechanismSpec)

/-- ITS FALSE NEIGHBOUR: 'it returns false'. Refute it at one input. -/
def fnExactHasMechanismWrong : ChangeSpec := { name := "fnExactHasMechanism", fn := fun _ => fun
  | [d] => { results := [.lit (.bool false)], args := [d] }
  | _ => none }
def FnExactHasMechanismWrongFalsely : Prop := fnExactHasMechanismRow.holds Try.pinned (OpenSpec.ofChange fnExactHasMechanismWrong)

/-- 'laws.FnExactFulfillsAll': WHATEVER THE INPUT: true; the input reads as it did. -/
def fnExactFulfillsAllSpec : ChangeSpec := { name := "fnExactFulfillsAll", fn := fun _ => fun
  | [d1, d2] => { results := [.lit (.bool true)], args := [d1, d2] }
  | _ => none }
def fnExactFulfillsAllRow : OpenClaim := { program := "ytigcmhdjafglbaa", sum := "23dd749c56db5d1a3ab3e1f514331e57c3e4053b127c3ac6647342dfc8c92fd3", func := "loop.example/g03301/laws.FnExactFulfillsAll", spec := "fnExactFulfillsAll", apart := false }
def FnExactFulfillsAllSaid : Prop := fnExactFulfillsAllRow.holds Try.pinned (OpenSpec.ofChange fnExactFulfillsAllSpec)

/-- ITS FALSE NEIGHBOUR: 'it returns false'. Refute it at one input. -/
def fnExactFulfillsAllWrong : ChangeSpec := { name := "fnExactFulfillsAll", fn := fun _ => fun
  | [d1, d2] => { results := [.lit (.bool false)], args := [d1, d2] }
  | _ => none }
def FnExactFulfillsAllWrongFalsely : Prop := fnExactFulfillsAllRow.holds Try.pinned (OpenSpec.ofChange fnExactFulfillsAllWrong)

/-- 'laws.FnExactCountBroken': WHATEVER THE INPUT: true; the input reads as it did. -/
def fnExactCountBrokenSpec : ChangeSpec := { name := "fnExactCountBroken", fn := fun _ => fun
  | [d1, d2] => { results := [.lit (.bool true)], args := [d1, d2] }
  | _ => none }
def fnExactCountBrokenRow : OpenClaim := { program := "ytigcmhdjafglbaa", sum := "23dd749c56db5d1a3ab3e1f514331e57c3e4053b127c3ac6647342dfc8c92fd3", func := "loop.example/g03301/laws.FnExactCountBroken", spec := "fnExactCountBroken", apart := false }
def FnExactCountBrokenSaid : Prop := fnExactCountBrokenRow.holds Try.pinned (OpenSpec.ofChange fnExactCountBrokenSpec)

/-- ITS FALSE NEIGHBOUR: 'it returns false'. Refute it at one input. -/
def fnExactCountBrokenWrong : ChangeSpec := { name := "fnExactCountBroken", fn := fun _ => fun
  | [d1, d2] => { results := [.lit (.bool false)], args := [d1, d2] }
  | _ => none }
def FnExactCountBrokenWrongFalsely : Prop := fnExactCountBrokenRow.holds Try.pinned (OpenSpec.ofChange fnExactCountBrokenWrong)

/-- 'laws.FnExactProofOk': WHATEVER THE INPUT: true; the input reads as it did. -/
def fnExactProofOkSpec : ChangeSpec := { name := "fnExactProofOk", fn := fun _ => fun
  | [d1, d2] => { results := [.lit (.bool true)], args := [d1, d2] }
  | _ => none }
def fnExactProofOkRow : OpenClaim := { program := "ytigcmhdjafglbaa", sum := "23dd749c56db5d1a3ab3e1f514331e57c3e4053b127c3ac6647342dfc8c92fd3", func := "loop.example/g03301/laws.FnExactProofOk", spec := "fnExactProofOk", apart := false }
def FnExactProofOkSaid : Prop := fnExactProofOkRow.holds Try.pinned (OpenSpec.ofChange fnExactProofOkSpec)

/-- ITS FALSE NEIGHBOUR: 'it returns false'. Refute it at one input. -/
def fnExactProofOkWrong : ChangeSpec := { name := "fnExactProofOk", fn := fun _ => fun
  | [d1, d2] => { results := [.lit (.bool false)], args := [d1, d2] }
  | _ => none }
def FnExactProofOkWrongFalsely : Prop := fnExactProofOkRow.holds Try.pinned (OpenSpec.ofChange fnExactProofOkWrong)

/-- 'laws.FnExactSumOfRows': WHATEVER THE INPUT: true; the input reads as it did. -/
def fnExactSumOfRowsSpec : ChangeSpec := { name := "fnExactSumOfRows", fn := fun _ => fun
  | [d1, d2] => { results := [.lit (.bool true)], args := [d1, d2] }
  | _ => none }
def fnExactSumOfRowsRow : OpenClaim := { program := "ytigcmhdjafglbaa", sum := "23dd749c56db5d1a3ab3e1f514331e57c3e4053b127c3ac6647342dfc8c92fd3", func := "loop.example/g03301/laws.FnExactSumOfRows", spec := "fnExactSumOfRows", apart := false }
def FnExactSumOfRowsSaid : Prop := fnExactSumOfRowsRow.holds Try.pinned (OpenSpec.ofChange fnExactSumOfRowsSpec)

/-- ITS FALSE NEIGHBOUR: 'it returns false'. Refute it at one input. -/
def fnExactSumOfRowsWrong : ChangeSpec := { name := "fnExactSumOfRows", fn := fun _ => fun
  | [d1, d2] => { results := [.lit (.bool false)], args := [d1, d2] }
  | _ => none }
def FnExactSumOfRowsWrongFalsely : Prop := fnExactSumOfRowsRow.holds Try.pinned (OpenSpec.ofChange fnExactSumOfRowsWrong)

/-- 'laws.FnExactIsProof': WHATEVER THE INPUT: true; the input reads as it did. -/
def fnExactIsProofSpec : ChangeSpec := { name := "fnExactIsProof", fn := fun _ => fun
  | [d1, d2] => { results := [.lit (.bool true)], args := [d1, d2] }
  | _ => none }
def fnExactIsProofRow : OpenClaim := { program := "ytigcmhdjafglbaa", sum := "23dd749c56db5d1a3ab3e1f514331e57c3e4053b127c3ac6647342dfc8c92fd3", func := "loop.example/g03301/laws.FnExactIsProof", spec := "fnExactIsProof", apart := false }
def FnExactIsProofSaid : Prop := fnExactIsProofRow.holds Try.pinned (OpenSpec.ofChange fnExactIsProofSpec)

/-- ITS FALSE NEIGHBOUR: 'it returns false'. Refute it at one input. -/
def fnExactIsProofWrong : ChangeSpec := { name := "fnExactIsProof", fn := fun _ => fun
  | [d1, d2] => { results := [.lit (.bool false)], args := [d1, d2] }
  | _ => none }
def FnExactIsProofWrongFalsely : Prop := fnExactIsProofRow.holds Try.pinned (OpenSpec.ofChange fnExactIsProofWrong)

/-- 'laws.FnExactWorkOf': WHATEVER THE INPUT: true; the input reads as it did. -/
def fnExactWorkOfSpec : ChangeSpec := { name := "fnExactWorkOf", fn := fun _ => fun
  | [d1, d2] => { results := [.lit (.bool true)], args := [d1, d2] }
  | _ => none }
def fnExactWorkOfRow : OpenClaim := { program := "ytigcmhdjafglbaa", sum := "23dd749c56db5d1a3ab3e1f514331e57c3e4053b127c3ac6647342dfc8c92fd3", func := "loop.example/g03301/laws.FnExactWorkOf", spec := "fnExactWorkOf", apart := false }
def FnExactWorkOfSaid : Prop := fnExactWorkOfRow.holds Try.pinned (OpenSpec.ofChange fnExactWorkOfSpec)

/-- ITS FALSE NEIGHBOUR: 'it returns false'. Refute it at one input. -/
def fnExactWorkOfWrong : ChangeSpec := { name := "fnExactWorkOf", fn := fun _ => fun
  | [d1, d2] => { results := [.lit (.bool false)], args := [d1, d2] }
  | _ => none }
def FnExactWorkOfWrongFalsely : Prop := fnExactWorkOfRow.holds Try.pinned (OpenSpec.ofChange fnExactWorkOfWrong)

/-- 'laws.FnExactJustMetBy': WHATEVER THE INPUT: true; the input reads as it did. -/
def fnExactJustMetBySpec : ChangeSpec := { name := "fnExactJustMetBy", fn := fun _ => fun
  | [d1, d2] => { results := [.lit (.bool true)], args := [d1, d2] }
  | _ => none }
def fnExactJustMetByRow : OpenClaim := { program := "ytigcmhdjafglbaa", sum := "23dd749c56db5d1a3ab3e1f514331e57c3e4053b127c3ac6647342dfc8c92fd3", func := "loop.example/g03301/laws.FnExactJustMetBy", spec := "fnExactJustMetBy", apart := false }
def FnExactJustMetBySaid : Prop := fnExactJustMetByRow.holds Try.pinned (OpenSpec.ofChange fnExactJustMetBySpec)

/-- ITS FALSE NEIGHBOUR: 'it returns false'. Refute it at one input. -/
def fnExactJustMetByWrong : ChangeSpec := { name := "fnExactJustMetBy", fn := fun _ => fun
  | [d1, d2] => { results := [.lit (.bool false)], args := [d1, d2] }
  | _ => none }
def FnExactJustMetByWrongFalsely : Prop := fnExactJustMetByRow.holds Try.pinned (OpenSpec.ofChange fnExactJustMetByWrong)

/-- 'laws.FnExactScaleLoads': WHATEVER THE INPUT: true; the input reads as it did. -/
def fnExactScaleLoadsSpec : ChangeSpec := { name := "fnExactScaleLoads", fn := fun _ => fun
  | [d1, d2] => { results := [.lit (.bool true)], args := [d1, d2] }
  | _ => none }
def fnExactScaleLoadsRow : OpenClaim := { program := "ytigcmhdjafglbaa", sum := "23dd749c56db5d1a3ab3e1f514331e57c3e4053b127c3ac6647342dfc8c92fd3", func := "loop.example/g03301/laws.FnExactScaleLoads", spec := "fnExactScaleLoads", apart := false }
def FnExactScaleLoadsSaid : Prop := fnExactScaleLoadsRow.holds Try.pinned (OpenSpec.ofChange fnExactScaleLoadsSpec)

/-- ITS FALSE NEIGHBOUR: 'it returns false'. Refute it at one input. -/
def fnExactScaleLoadsWrong : ChangeSpec := { name := "fnExactScaleLoads", fn := fun _ => fun
  | [d1, d2] => { results := [.lit (.bool false)], args := [d1, d2] }
  | _ => none }
def FnExactScaleLoadsWrongFalsely : Prop := fnExactScaleLoadsRow.holds Try.pinned (OpenSpec.ofChange fnExactScaleLoadsWrong)

/-- 'laws.FnExactJoinLoads': WHATEVER THE INPUT: true; the input reads as it did. -/
def fnExactJoinLoadsSpec : ChangeSpec := { name := "fnExactJoinLoads", fn := fun _ => fun
  | [d1, d2, d3] => { results := [.lit (.bool true)], args := [d1, d2, d3] }
  | _ => none }
def fnExactJoinLoadsRow : OpenClaim := { program := "ytigcmhdjafglbaa", sum := "23dd749c56db5d1a3ab3e1f514331e57c3e4053b127c3ac6647342dfc8c92fd3", func := "loop.example/g03301/laws.FnExactJoinLoads", spec := "fnExactJoinLoads", apart := false }
def FnExactJoinLoadsSaid : Prop := fnExactJoinLoadsRow.holds Try.pinned (OpenSpec.ofChange fnExactJoinLoadsSpec)

/-- ITS FALSE NEIGHBOUR: 'it returns false'. Refute it at one input. -/
def fnExactJoinLoadsWrong : ChangeSpec := { name := "fnExactJoinLoads", fn := fun _ => fun
  | [d1, d2, d3] => { results := [.lit (.bool false)], args := [d1, d2, d3] }
  | _ => none }
def FnExactJoinLoadsWrongFalsely : Prop := fnExactJoinLoadsRow.holds Try.pinned (OpenSpec.ofChange fnExactJoinLoadsWrong)

/-- 'laws.FnExactScaleProof': WHATEVER THE INPUT: true; the input reads as it did. -/
def fnExactScaleProofSpec : ChangeSpec := { name := "fnExactScaleProof", fn := fun _ => fun
  | [d1, d2, d3] => { results := [.lit (.bool true)], args := [d1, d2, d3] }
  | _ => none }
def fnExactScaleProofRow : OpenClaim := { program := "ytigcmhdjafglbaa", sum := "23dd749c56db5d1a3ab3e1f514331e57c3e4053b127c3ac6647342dfc8c92fd3", func := "loop.example/g03301/laws.FnExactScaleProof", spec := "fnExactScaleProof", apart := false }
def FnExactScaleProofSaid : Prop := fnExactScaleProofRow.holds Try.pinned (OpenSpec.ofChange fnExactScaleProofSpec)

/-- ITS FALSE NEIGHBOUR: 'it returns false'. Refute it at one input. -/
def fnExactScaleProofWrong : ChangeSpec := { name := "fnExactScaleProof", fn := fun _ => fun
  | [d1, d2, d3] => { results := [.lit (.bool false)], args := [d1, d2, d3] }
  | _ => none }
def FnExactScaleProofWrongFalsely : Prop := fnExactScaleProofRow.holds Try.pinned (OpenSpec.ofChange fnExactScaleProofWrong)

/-- 'laws.FnExactStoneOk': WHATEVER THE INPUT: true; the input reads as it did. -/
def fnExactStoneOkSpec : ChangeSpec := { name := "fnExactStoneOk", fn := fun _ => fun
  | [d] => { results := [.lit (.bool true)], args := [d] }
  | _ => none }
def fnExactStoneOkRow : OpenClaim := { program := "ytigcmhdjafglbaa", sum := "23dd749c56db5d1a3ab3e1f514331e57c3e4053b127c3ac6647342dfc8c92fd3", func := "loop.example/g03301/laws.FnExactStoneOk", spec := "fnExactStoneOk", unfollowed := true, recurses := true, apart := false }
def FnExactStoneOkSaid : Prop := fnExactStoneOkRow.holds Try.pinned (OpenSpec.ofChange fnExactStoneOkSpec)

/-- ITS FALSE NEIGHBOUR: 'it returns false'. Refute it at one input. -/
def fnExactStoneOkWrong : ChangeSpec := { name := "fnExactStoneOk", fn := fun _ => fun
  | [d] => { results := [.lit (.bool false)], args := [d] }
  | _ => none }
def FnExactStoneOkWrongFalsely : Prop := fnExactStoneOkRow.holds Try.pinned (OpenSpec.ofChange fnExactStoneOkWrong)

/-- 'laws.FnExactAreaTwice': WHATEVER THE INPUT: true; the input reads as it did. -/
def fnExactAreaTwiceSpec : ChangeSpec := { name := "fnExactAreaTwice", fn := fun _ => fun
  | [d] => { results := [.lit (.bool true)], args := [d] }
  | _ => none }
def fnExactAreaTwiceRow : OpenClaim := { program := "ytigcmhdjafglbaa", sum := "23dd749c56db5d1a3ab3e1f514331e57c3e4053b127c3ac6647342dfc8c92fd3", func := "loop.example/g03301/laws.FnExactAreaTwice", spec := "fnExactAreaTwice", unfollowed := true, recurses := true, apart := false }
def FnExactAreaTwiceSaid : Prop := fnExactAreaTwiceRow.holds Try.pinned (OpenSpec.ofChange fnExactAreaTwiceSpec)

/-- ITS FALSE NEIGHBOUR: 'it returns false'. Refute it at one input. -/
def fnExactAreaTwiceWrong : ChangeSpec := { name := "fnExactAreaTwice", fn := fun _ => fun
  | [d] => { results := [.lit (.bool false)], args := [d] }
  | _ => none }
def FnExactAreaTwiceWrongFalsely : Prop := fnExactAreaTwiceRow.holds Try.pinned (OpenSpec.ofChange fnExactAreaTwiceWrong)

/-- 'laws.FnExactHeightMoment': WHATEVER THE INPUT: true; the input reads as it did. -/
def fnExactHeightMomentSpec : ChangeSpec := { name := "fnExactHeightMoment", fn := fun _ => fun
  | [d] => { results := [.lit (.bool true)], args := [d] }
  | _ => none }
def fnExactHeightMomentRow : OpenClaim := { program := "ytigcmhdjafglbaa", sum := "23dd749c56db5d1a3ab3e1f514331e57c3e4053b127c3ac6647342dfc8c92fd3", func := "loop.example/g03301/laws.FnExactHeightMoment", spec := "fnExactHeightMoment", unfollowed := true, recurses := true, apart := false }
def FnExactHeightMomentSaid : Prop := fnExactHeightMomentRow.holds Try.pinned (OpenSpec.ofChange fnExactHeightMomentSpec)

/-- ITS FALSE NEIGHBOUR: 'it returns false'. Refute it at one input. -/
def fnExactHeightMomentWrong : ChangeSpec := { name := "fnExactHeightMoment", fn := fun _ => fun
  | [d] => { results := [.lit (.bool false)], args := [d] }
  | _ => none }
def FnExactHeightMomentWrongFalsely : Prop := fnExactHeightMomentRow.holds Try.pinned (OpenSpec.ofChange fnExactHeightMomentWrong)

/-- 'laws.FnExactMomentOf': WHATEVER THE INPUT: true; the input reads as it did. -/
def fnExactMomentOfSpec : ChangeSpec := { name := "fnExactMomentOf", fn := fun _ => fun
  | [d] => { results := [.lit (.bool true)], args := [d] }
  | _ => none }
def fnExactMomentOfRow : OpenClaim := { program := "ytigcmhdjafglbaa", sum := "23dd749c56db5d1a3ab3e1f514331e57c3e4053b127c3ac6647342dfc8c92fd3", func := "loop.example/g03301/laws.FnExactMomentOf", spec := "fnExactMomentOf", unfollowed := true, recurses := true, apart := false }
def FnExactMomentOfSaid : Prop := fnExactMomentOfRow.holds Try.pinned (OpenSpec.ofChange fnExactMomentOfSpec)

/-- ITS FALSE NEIGHBOUR: 'it returns false'. Refute it at one input. -/
def fnExactMomentOfWrong : ChangeSpec := { name := "fnExactMomentOf", fn := fun _ => fun
  | [d] => { results := [.lit (.bool false)], args := [d] }
  | _ => none }
def FnExactMomentOfWrongFalsely : Prop := fnExactMomentOfRow.holds Try.pinned (OpenSpec.ofChange fnExactMomentOfWrong)

/- THE SECOND FORM. 'bulk': how many values and letters a reading holds, each counted each time it is reached (what is shared counts as often as it is met; a slice's spare places count too). A statement '..UptoSaid' is the law's where the arguments, and the package variables that the reading takes, are together of bulk at most 1048576: NARROWER than '..Said'. Prove '..Said' where nothing that the law and all that it calls make is longer than what came in: it says more and counts as full. Else prove '..UptoSaid'. A law counts once. -/
mutual
def uptoBulk {H : Type} : DataW H → Nat
  | .lit (.string bytes) => bytes.length + 1
  | .lit _ => 1
  | .nil => 1
  | .ptr d => uptoBulk d + 1
  | .slice elems spare => uptoBulkAll elems + uptoBulkAll spare + 1
  | .agg parts => uptoBulkAll parts + 1
  | .iface _ d => uptoBulk d + 1
  | .map entries => uptoBulkEntries entries + 1
  | .held _ => 1
def uptoBulkAll {H : Type} : List (DataW H) → Nat
  | [] => 0
  | d :: r => uptoBulk d + uptoBulkAll r
def uptoBulkEntries {H : Type} : List (Lit × DataW H) → Nat
  | [] => 0
  | x :: r => uptoBulkEntry x + uptoBulkEntries r
def uptoBulkEntry {H : Type} : Lit × DataW H → Nat
  | (.string bytes, d) => bytes.length + uptoBulk d + 1
  | (_, d) => uptoBulk d + 1
 end
def uptoSmall : (H : Type) → List (DataW H) → Bool := fun _ ds => decide (uptoBulkAll ds ≤ 1048576)
def OpenSpec.upto (s : _root_.Go.ChangeSpec) : _root_.Go.OpenSpec := { _root_.Go.OpenSpec.ofChange s with cond := some uptoSmall }

/-- 'laws.FnExactCountTurns', WHERE WHAT IT READS IS OF BULK AT MOST 1048576: true; the input reads as it did. -/
def fnExactCountTurnsUptoRow : OpenClaim := { program := "ytigcmhdjafglbaa", sum := "23dd749c56db5d1a3ab3e1f514331e57c3e4053b127c3ac6647342dfc8c92fd3", func := "loop.example/g03301/laws.FnExactCountTurns", spec := "fnExactCountTurns", apart := false, narrowed := true }
def FnExactCountTurnsUptoSaid : Prop := fnExactCountTurnsUptoRow.holds Try.pinned (OpenSpec.upto fnExactCountTurnsSpec)

/-- 'laws.FnExactHasMechanism', WHERE WHAT IT READS IS OF BULK AT MOST 1048576: true; the input reads as it did. -/
def fnExactHasMechanismUptoRow : OpenClaim := { program := "ytigcmhdjafglbaa", sum := "23dd749c56db5d1a3ab3e1f514331e57c3e4053b127c3ac6647342dfc8c92fd3", func := "loop.example/g03301/laws.FnExactHasMechanism", spec := "fnExactHasMechanism", apart := false, narrowed := true }
def FnExactHasMechanismUptoSaid : Prop := fnExactHasMechanismUptoRow.holds Try.pinned (OpenSpec.upto fnExactHasMechanismSpec)

/-- 'laws.FnExactFulfillsAll', WHERE WHAT IT READS IS OF BULK AT MOST 1048576: true; the input reads as it did. -/
def fnExactFulfillsAllUptoRow : OpenClaim := { program := "ytigcmhdjafglbaa", sum := "23dd749c56db5d1a3ab3e1f514331e57c3e4053b127c3ac6647342dfc8c92fd3", func := "loop.example/g03301/laws.FnExactFulfillsAll", spec := "fnExactFulfillsAll", apart := false, narrowed := true }
def FnExactFulfillsAllUptoSaid : Prop := fnExactFulfillsAllUptoRow.holds Try.pinned (OpenSpec.upto fnExactFulfillsAllSpec)

/-- 'laws.FnExactCountBroken', WHERE WHAT IT READS IS OF BULK AT MOST 1048576: true; the input reads as it did. -/
def fnExactCountBrokenUptoRow : OpenClaim := { program := "ytigcmhdjafglbaa", sum := "23dd749c56db5d1a3ab3e1f514331e57c3e4053b127c3ac6647342dfc8c92fd3", func := "loop.example/g03301/laws.FnExactCountBroken", spec := "fnExactCountBroken", apart := false, narrowed := true }
def FnExactCountBrokenUptoSaid : Prop := fnExactCountBrokenUptoRow.holds Try.pinned (OpenSpec.upto fnExactCountBrokenSpec)

/-- 'laws.FnExactProofOk', WHERE WHAT IT READS IS OF BULK AT MOST 1048576: true; the input reads as it did. -/
def fnExactProofOkUptoRow : OpenClaim := { program := "ytigcmhdjafglbaa", sum := "23dd749c56db5d1a3ab3e1f514331e57c3e4053b127c3ac6647342dfc8c92fd3", func := "loop.example/g03301/laws.FnExactProofOk", spec := "fnExactProofOk", apart := false, narrowed := true }
def FnExactProofOkUptoSaid : Prop := fnExactProofOkUptoRow.holds Try.pinned (OpenSpec.upto fnExactProofOkSpec)

/-- 'laws.FnExactSumOfRows', WHERE WHAT IT READS IS OF BULK AT MOST 1048576: true; the input reads as it did. -/
def fnExactSumOfRowsUptoRow : OpenClaim := { program := "ytigcmhdjafglbaa", sum := "23dd749c56db5d1a3ab3e1f514331e57c3e4053b127c3ac6647342dfc8c92fd3", func := "loop.example/g03301/laws.FnExactSumOfRows", spec := "fnExactSumOfRows", apart := false, narrowed := true }
def FnExactSumOfRowsUptoSaid : Prop := fnExactSumOfRowsUptoRow.holds Try.pinned (OpenSpec.upto fnExactSumOfRowsSpec)

/-- 'laws.FnExactIsProof', WHERE WHAT IT READS IS OF BULK AT MOST 1048576: true; the input reads as it did. -/
def fnExactIsProofUptoRow : OpenClaim := { program := "ytigcmhdjafglbaa", sum := "23dd749c56db5d1a3ab3e1f514331e57c3e4053b127c3ac6647342dfc8c92fd3", func := "loop.example/g03301/laws.FnExactIsProof", spec := "fnExactIsProof", apart := false, narrowed := true }
def FnExactIsProofUptoSaid : Prop := fnExactIsProofUptoRow.holds Try.pinned (OpenSpec.upto fnExactIsProofSpec)

/-- 'laws.FnExactWorkOf', WHERE WHAT IT READS IS OF BULK AT MOST 1048576: true; the input reads as it did. -/
def fnExactWorkOfUptoRow : OpenClaim := { program := "ytigcmhdjafglbaa", sum := "23dd749c56db5d1a3ab3e1f514331e57c3e4053b127c3ac6647342dfc8c92fd3", func := "loop.example/g03301/laws.FnExactWorkOf", spec := "fnExactWorkOf", apart := false, narrowed := true }
def FnExactWorkOfUptoSaid : Prop := fnExactWorkOfUptoRow.holds Try.pinned (OpenSpec.upto fnExactWorkOfSpec)

/-- 'laws.FnExactJustMetBy', WHERE WHAT IT READS IS OF BULK AT MOST 1048576: true; the input reads as it did. -/
def fnExactJustMetByUptoRow : OpenClaim := { program := "ytigcmhdjafglbaa", sum := "23dd749c56db5d1a3ab3e1f514331e57c3e4053b127c3ac6647342dfc8c92fd3", func := "loop.example/g03301/laws.FnExactJustMetBy", spec := "fnExactJustMetBy", apart := false, narrowed := true }
def FnExactJustMetByUptoSaid : Prop := fnExactJustMetByUptoRow.holds Try.pinned (OpenSpec.upto fnExactJustMetBySpec)

/-- 'laws.FnExactScaleLoads', WHERE WHAT IT READS IS OF BULK AT MOST 1048576: true; the input reads as it did. -/
def fnExactScaleLoadsUptoRow : OpenClaim := { program := "ytigcmhdjafglbaa", sum := "23dd749c56db5d1a3ab3e1f514331e57c3e4053b127c3ac6647342dfc8c92fd3", func := "loop.example/g03301/laws.FnExactScaleLoads", spec := "fnExactScaleLoads", apart := false, narrowed := true }
def FnExactScaleLoadsUptoSaid : Prop := fnExactScaleLoadsUptoRow.holds Try.pinned (OpenSpec.upto fnExactScaleLoadsSpec)

/-- 'laws.FnExactJoinLoads', WHERE WHAT IT READS IS OF BULK AT MOST 1048576: true; the input reads as it did. -/
def fnExactJoinLoadsUptoRow : OpenClaim := { program := "ytigcmhdjafglbaa", sum := "23dd749c56db5d1a3ab3e1f514331e57c3e4053b127c3ac6647342dfc8c92fd3", func := "loop.example/g03301/laws.FnExactJoinLoads", spec := "fnExactJoinLoads", apart := false, narrowed := true }
def FnExactJoinLoadsUptoSaid : Prop := fnExactJoinLoadsUptoRow.holds Try.pinned (OpenSpec.upto fnExactJoinLoadsSpec)

/-- 'laws.FnExactScaleProof', WHERE WHAT IT READS IS OF BULK AT MOST 1048576: true; the input reads as it did. -/
def fnExactScaleProofUptoRow : OpenClaim := { program := "ytigcmhdjafglbaa", sum := "23dd749c56db5d1a3ab3e1f514331e57c3e4053b127c3ac6647342dfc8c92fd3", func := "loop.example/g03301/laws.FnExactScaleProof", spec := "fnExactScaleProof", apart := false, narrowed := true }
def FnExactScaleProofUptoSaid : Prop := fnExactScaleProofUptoRow.holds Try.pinned (OpenSpec.upto fnExactScaleProofSpec)

/-- 'laws.FnExactStoneOk', WHERE WHAT IT READS IS OF BULK AT MOST 1048576: true; the input reads as it did. -/
def fnExactStoneOkUptoRow : OpenClaim := { program := "ytigcmhdjafglbaa", sum := "23dd749c56db5d1a3ab3e1f514331e57c3e4053b127c3ac6647342dfc8c92fd3", func := "loop.example/g03301/laws.FnExactStoneOk", spec := "fnExactStoneOk", unfollowed := true, recurses := true, apart := false, narrowed := true }
def FnExactStoneOkUptoSaid : Prop := fnExactStoneOkUptoRow.holds Try.pinned (OpenSpec.upto fnExactStoneOkSpec)

/-- 'laws.FnExactAreaTwice', WHERE WHAT IT READS IS OF BULK AT MOST 1048576: true; the input reads as it did. -/
def fnExactAreaTwiceUptoRow : OpenClaim := { program := "ytigcmhdjafglbaa", sum := "23dd749c56db5d1a3ab3e1f514331e57c3e4053b127c3ac6647342dfc8c92fd3", func := "loop.example/g03301/laws.FnExactAreaTwice", spec := "fnExactAreaTwice", unfollowed := true, recurses := true, apart := false, narrowed := true }
def FnExactAreaTwiceUptoSaid : Prop := fnExactAreaTwiceUptoRow.holds Try.pinned (OpenSpec.upto fnExactAreaTwiceSpec)

/-- 'laws.FnExactHeightMoment', WHERE WHAT IT READS IS OF BULK AT MOST 1048576: true; the input reads as it did. -/
def fnExactHeightMomentUptoRow : OpenClaim := { program := "ytigcmhdjafglbaa", sum := "23dd749c56db5d1a3ab3e1f514331e57c3e4053b127c3ac6647342dfc8c92fd3", func := "loop.example/g03301/laws.FnExactHeightMoment", spec := "fnExactHeightMoment", unfollowed := true, recurses := true, apart := false, narrowed := true }
def FnExactHeightMomentUptoSaid : Prop := fnExactHeightMomentUptoRow.holds Try.pinned (OpenSpec.upto fnExactHeightMomentSpec)

/-- 'laws.FnExactMomentOf', WHERE WHAT IT READS IS OF BULK AT MOST 1048576: true; the input reads as it did. -/
def fnExactMomentOfUptoRow : OpenClaim := { program := "ytigcmhdjafglbaa", sum := "23dd749c56db5d1a3ab3e1f514331e57c3e4053b127c3ac6647342dfc8c92fd3", func := "loop.example/g03301/laws.FnExactMomentOf", spec := "fnExactMomentOf", unfollowed := true, recurses := true, apart := false, narrowed := true }
def FnExactMomentOfUptoSaid : Prop := fnExactMomentOfUptoRow.holds Try.pinned (OpenSpec.upto fnExactMomentOfSpec)

end Rows
end Go.Proofs.Ytigcmhdjafglbaa
