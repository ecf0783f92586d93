/-
  No cell of these rows narrows 'for every input' (looked for: loops, veiled, ifaces, maps, wideKeys, modest, calm, conditions, laid).
  DERIVED. THE GIVEN ROWS OF THIS SEAT. 12 by the template 'for every input the law returns true; each argument reads behind the call as it read before'; 0 by the template 'total and deterministic' (their statements: YtnfghkjnjhmlhaaTotals.lean).
  GIVEN WITH THE SEED: the statements are not yours to turn. If you find one false, say at which input.
  Laid BY PROGRAM, IN A SANDBOX (cutbox-rows.mjs): the forced cells as the released guide's own fill.sh prints them over the translation 36a55554af1883cc… (all of the seat's roots in one cut). By AI agents, Wed Nov 11 2026. No macro, syntax, notation, axiom, sorry.
-/
import Derived.Test.YtnfghkjnjhmlhaaChecked
import GoSem.Claim
import GoSem.ClaimJoined
import GoSem.ClaimMapViews
import Derived.JoinedTies
import Derived.KernelRfl
namespace Go.Proofs.Ytnfghkjnjhmlhaa
/- THE CELL 'sum', in the pinned program and in every row, IS THE sha256 OF THE DUMP (.gsa) THAT YtnfghkjnjhmlhaaProg.lean LOADS. Nothing in Lean hashes anything: it is a label: what it is worth is what the hold of that sum in a sandbox is worth. -/
noncomputable def Try.pinned : Pinned := { name := "ytnfghkjnjhmlhaa", sum := "36a55554af1883cc8eaf1de600a2c5a8d6f12f3f46585c8ee9d27854c7eedf58", checked := Try.checked }
namespace Rows
def none {H : Type} : Left H := { results := [], args := [] }

/-- 'laws.FnExactConstants': WHATEVER THE INPUT: true; the input reads as it did. -/
def fnExactConstantsSpec : ChangeSpec := { name := "fnExactConstants", fn := fun _ => fun
  | [] => { results := [.lit (.bool true)], args := [] }
  | _ => none }
def fnExactConstantsRow : OpenClaim := { program := "ytnfghkjnjhmlhaa", sum := "36a55554af1883cc8eaf1de600a2c5a8d6f12f3f46585c8ee9d27854c7eedf58", func := "loop.example/g03301/laws.FnExactConstants", spec := "fnExactConstants", apart := false }
def FnExactConstantsSaid : Prop := fnExactConstantsRow.holds Try.pinned (OpenSpec.ofChange fnExactConstantsSpec)

/-- ITS FALSE NEIGHBOUR: 'it returns false'. Refute it at one input. -/
def fnExactConstantsWrong : ChangeSpec := { name := "fnExactConstants", fn := fun _ => fun
  | [] => { results := [.lit (.bool false)], args := [] }
  | _ => none }
def FnExactConstantsWrongFalsely : Prop := fnExactConstantsRow.holds Try.pinned (OpenSpec.ofChange fnExactConstantsWrong)

/-- 'laws.FnExactClamp': WHATEVER THE INPUT: true; the input reads as it did. -/
def fnExactClampSpec : ChangeSpec := { name := "fnExactClamp", fn := fun _ => fun
  | [d1, d2, d3] => { results := [.lit (.bool true)], args := [d1, d2, d3] }
  | _ => none }
def fnExactClampRow : OpenClaim := { program := "ytnfghkjnjhmlhaa", sum := "36a55554af1883cc8eaf1de600a2c5a8d6f12f3f46585c8ee9d27854c7eedf58", func := "loop.example/g03301/laws.FnExactClamp", spec := "fnExactClamp", apart := false }
def FnExactClampSaid : Prop := fnExactClampRow.holds Try.pinned (OpenSpec.ofChange fnExactClampSpec)

/-- ITS FALSE NEIGHBOUR: 'it returns false'. Refute it at one input. -/
def fnExactClampWrong : ChangeSpec := { name := "fnExactClamp", fn := fun _ => fun
  | [d1, d2, d3] => { results := [.lit (.bool false)], args := [d1, d2, d3] }
  | _ => none }
def FnExactClampWrongFalsely : Prop := fnExactClampRow.holds Try.pinned (OpenSpec.ofChange fnExactClampWrong)

/-- 'laws.FnExactPierOk': WHATEVER THE INPUT: true; the input reads as it did. -/
def fnExactPierOkSpec : ChangeSpec := { name := "fnExactPierOk", fn := fun _ => fun
  | [d] => { results := [.lit (.bool true)], args := [d] }
  | _ => none }
def fnExactPierOkRow : OpenClaim := { program := "ytnfghkjnjhmlhaa", sum := "36a55554af1883cc8eaf1de600a2c5a8d6f12f3f46585c8ee9d27854c7eedf58", func := "loop.example/g03301/laws.FnExactPierOk", spec := "fnExactPierOk", apart := false }
def FnExactPierOkSaid : Prop := fnExactPierOkRow.holds Try.pinned (OpenSpec.ofChange fnExactPierOkSpec)

/-- ITS FALSE NEIGHBOUR: 'it returns false'. Refute it at one input. -/
def fnExactPierOkWrong : ChangeSpec := { name := "fnExactPierOk", fn := fun _ => fun
  | [d] => { results := [.lit (.bool false)], args := [d] }
  | _ => none }
def FnExactPierOkWrongFalsely : Prop := fnExactPierOkRow.holds Try.pinned (OpenSpec.ofChange fnExactPierOkWrong)

/-- 'laws.FnExactPointOk': WHATEVER THE INPUT: true; the input reads as it did. -/
def fnExactPointOkSpec : ChangeSpec := { name := "fnExactPointOk", fn := fun _ => fun
  | [d] => { results := [.lit (.bool true)], args := [d] }
  | _ => none }
def fnExactPointOkRow : OpenClaim := { program := "ytnfghkjnjhmlhaa", sum := "36a55554af1883cc8eaf1de600a2c5a8d6f12f3f46585c8ee9d27854c7eedf58", func := "loop.example/g03301/laws.FnExactPointOk", spec := "fnExactPointOk", apart := false }
def FnExactPointOkSaid : Prop := fnExactPointOkRow.holds Try.pinned (OpenSpec.ofChange fnExactPointOkSpec)

/-- ITS FALSE NEIGHBOUR: 'it returns false'. Refute it at one input. -/
def fnExactPointOkWrong : ChangeSpec := { name := "fnExactPointOk", fn := fun _ => fun
  | [d] => { results := [.lit (.bool false)], args := [d] }
  | _ => none }
def FnExactPointOkWrongFalsely : Prop := fnExactPointOkRow.holds Try.pinned (OpenSpec.ofChange fnExactPointOkWrong)

/-- 'laws.FnExactRowOk': WHATEVER THE INPUT: true; the input reads as it did. -/
def fnExactRowOkSpec : ChangeSpec := { name := "fnExactRowOk", fn := fun _ => fun
  | [d] => { results := [.lit (.bool true)], args := [d] }
  | _ => none }
def fnExactRowOkRow : OpenClaim := { program := "ytnfghkjnjhmlhaa", sum := "36a55554af1883cc8eaf1de600a2c5a8d6f12f3f46585c8ee9d27854c7eedf58", func := "loop.example/g03301/laws.FnExactRowOk", spec := "fnExactRowOk", apart := false }
def FnExactRowOkSaid : Prop := fnExactRowOkRow.holds Try.pinned (OpenSpec.ofChange fnExactRowOkSpec)

/-- ITS FALSE NEIGHBOUR: 'it returns false'. Refute it at one input. -/
def fnExactRowOkWrong : ChangeSpec := { name := "fnExactRowOk", fn := fun _ => fun
  | [d] => { results := [.lit (.bool false)], args := [d] }
  | _ => none }
def FnExactRowOkWrongFalsely : Prop := fnExactRowOkRow.holds Try.pinned (OpenSpec.ofChange fnExactRowOkWrong)

/-- 'laws.FnExactJointOk': WHATEVER THE INPUT: true; the input reads as it did. -/
def fnExactJointOkSpec : ChangeSpec := { name := "fnExactJointOk", fn := fun _ => fun
  | [d] => { results := [.lit (.bool true)], args := [d] }
  | _ => none }
def fnExactJointOkRow : OpenClaim := { program := "ytnfghkjnjhmlhaa", sum := "36a55554af1883cc8eaf1de600a2c5a8d6f12f3f46585c8ee9d27854c7eedf58", func := "loop.example/g03301/laws.FnExactJointOk", spec := "fnExactJointOk", apart := false }
def FnExactJointOkSaid : Prop := fnExactJointOkRow.holds Try.pinned (OpenSpec.ofChange fnExactJointOkSpec)

/-- ITS FALSE NEIGHBOUR: 'it returns false'. Refute it at one input. -/
def fnExactJointOkWrong : ChangeSpec := { name := "fnExactJointOk", fn := fun _ => fun
  | [d] => { results := [.lit (.bool false)], args := [d] }
  | _ => none }
def FnExactJointOkWrongFalsely : Prop := fnExactJointOkRow.holds Try.pinned (OpenSpec.ofChange fnExactJointOkWrong)

/-- 'laws.FnExactIsFlat': WHATEVER THE INPUT: true; the input reads as it did. -/
def fnExactIsFlatSpec : ChangeSpec := { name := "fnExactIsFlat", fn := fun _ => fun
  | [d] => { results := [.lit (.bool true)], args := [d] }
  | _ => none }
def fnExactIsFlatRow : OpenClaim := { program := "ytnfghkjnjhmlhaa", sum := "36a55554af1883cc8eaf1de600a2c5a8d6f12f3f46585c8ee9d27854c7eedf58", func := "loop.example/g03301/laws.FnExactIsFlat", spec := "fnExactIsFlat", apart := false }
def FnExactIsFlatSaid : Prop := fnExactIsFlatRow.holds Try.pinned (OpenSpec.ofChange fnExactIsFlatSpec)

/-- ITS FALSE NEIGHBOUR: 'it returns false'. Refute it at one input. -/
def fnExactIsFlatWrong : ChangeSpec := { name := "fnExactIsFlat", fn := fun _ => fun
  | [d] => { results := [.lit (.bool false)], args := [d] }
  | _ => none }
def FnExactIsFlatWrongFalsely : Prop := fnExactIsFlatRow.holds Try.pinned (OpenSpec.ofChange fnExactIsFlatWrong)

/-- 'laws.FnExactMiddleTwice': WHATEVER THE INPUT: true; the input reads as it did. -/
def fnExactMiddleTwiceSpec : ChangeSpec := { name := "fnExactMiddleTwice", fn := fun _ => fun
  | [d1, d2] => { results := [.lit (.bool true)], args := [d1, d2] }
  | _ => none }
def fnExactMiddleTwiceRow : OpenClaim := { program := "ytnfghkjnjhmlhaa", sum := "36a55554af1883cc8eaf1de600a2c5a8d6f12f3f46585c8ee9d27854c7eedf58", func := "loop.example/g03301/laws.FnExactMiddleTwice", spec := "fnExactMiddleTwice", apart := false }
def FnExactMiddleTwiceSaid : Prop := fnExactMiddleTwiceRow.holds Try.pinned (OpenSpec.ofChange fnExactMiddleTwiceSpec)

/-- ITS FALSE NEIGHBOUR: 'it returns false'. Refute it at one input. -/
def fnExactMiddleTwiceWrong : ChangeSpec := { name := "fnExactMiddleTwice", fn := fun _ => fun
  | [d1, d2] => { results := [.lit (.bool false)], args := [d1, d2] }
  | _ => none }
def FnExactMiddleTwiceWrongFalsely : Prop := fnExactMiddleTwiceRow.holds Try.pinned (OpenSpec.ofChange fnExactMiddleTwiceWrong)

/-- 'laws.FnExactSquareOf': WHATEVER THE INPUT: true; the input reads as it did. -/
def fnExactSquareOfSpec : ChangeSpec := { name := "fnExactSquareOf", fn := fun _ => fun
  | [d1, d2] => { results := [.lit (.bool true)], args := [d1, d2] }
  | _ => none }
def fnExactSquareOfRow : OpenClaim := { program := "ytnfghkjnjhmlhaa", sum := "36a55554af1883cc8eaf1de600a2c5a8d6f12f3f46585c8ee9d27854c7eedf58", func := "loop.example/g03301/laws.FnExactSquareOf", spec := "fnExactSquareOf", apart := false }
def FnExactSquareOfSaid : Prop := fnExactSquareOfRow.holds Try.pinned (OpenSpec.ofChange fnExactSquareOfSpec)

/-- ITS FALSE NEIGHBOUR: 'it returns false'. Refute it at one input. -/
def fnExactSquareOfWrong : ChangeSpec := { name := "fnExactSquareOf", fn := fun _ => fun
  | [d1, d2] => { results := [.lit (.bool false)], args := [d1, d2] }
  | _ => none }
def FnExactSquareOfWrongFalsely : Prop := fnExactSquareOfRow.holds Try.pinned (OpenSpec.ofChange fnExactSquareOfWrong)

/-- 'laws.FnExactSideOf': WHATEVER THE INPUT: true; the input reads as it did. -/
def fnExactSideOfSpec : ChangeSpec := { name := "fnExactSideOf", fn := fun _ => fun
  | [d1, d2, d3] => { results := [.lit (.bool true)], args := [d1, d2, d3] }
  | _ => none }
def fnExactSideOfRow : OpenClaim := { program := "ytnfghkjnjhmlhaa", sum := "36a55554af1883cc8eaf1de600a2c5a8d6f12f3f46585c8ee9d27854c7eedf58", func := "loop.example/g03301/laws.FnExactSideOf", spec := "fnExactSideOf", apart := false }
def FnExactSideOfSaid : Prop := fnExactSideOfRow.holds Try.pinned (OpenSpec.ofChange fnExactSideOfSpec)

/-- ITS FALSE NEIGHBOUR: 'it returns false'. Refute it at one input. -/
def fnExactSideOfWrong : ChangeSpec := { name := "fnExactSideOf", fn := fun _ => fun
  | [d1, d2, d3] => { results := [.lit (.bool false)], args := [d1, d2, d3] }
  | _ => none }
def FnExactSideOfWrongFalsely : Prop := fnExactSideOfRow.holds Try.pinned (OpenSpec.ofChange fnExactSideOfWrong)

/-- 'laws.FnExactMirrorPoint': WHATEVER THE INPUT: true; the input reads as it did. -/
def fnExactMirrorPointSpec : ChangeSpec := { name := "fnExactMirrorPoint", fn := fun _ => fun
  | [d1, d2] => { results := [.lit (.bool true)], args := [d1, d2] }
  | _ => none }
def fnExactMirrorPointRow : OpenClaim := { program := "ytnfghkjnjhmlhaa", sum := "36a55554af1883cc8eaf1de600a2c5a8d6f12f3f46585c8ee9d27854c7eedf58", func := "loop.example/g03301/laws.FnExactMirrorPoint", spec := "fnExactMirrorPoint", apart := false }
def FnExactMirrorPointSaid : Prop := fnExactMirrorPointRow.holds Try.pinned (OpenSpec.ofChange fnExactMirrorPointSpec)

/-- ITS FALSE NEIGHBOUR: 'it returns false'. Refute it at one input. -/
def fnExactMirrorPointWrong : ChangeSpec := { name := "fnExactMirrorPoint", fn := fun _ => fun
  | [d1, d2] => { results := [.lit (.bool false)], args := [d1, d2] }
  | _ => none }
def FnExactMirrorPointWrongFalsely : Prop := fnExactMirrorPointRow.holds Try.pinned (OpenSpec.ofChange fnExactMirrorPointWrong)

/-- 'laws.FnExactTurnOver': WHATEVER THE INPUT: true; the input reads as it did. -/
def fnExactTurnOverSpec : ChangeSpec := { name := "fnExactTurnOver", fn := fun _ => fun
  | [d1, d2, d3, d4] => { results := [.lit (.bool true)], args := [d1, d2, d3, d4] }
  | _ => none }
def fnExactTurnOverRow : OpenClaim := { program := "ytnfghkjnjhmlhaa", sum := "36a55554af1883cc8eaf1de600a2c5a8d6f12f3f46585c8ee9d27854c7eedf58", func := "loop.example/g03301/laws.FnExactTurnOver", spec := "fnExactTurnOver", apart := false }
def FnExactTurnOverSaid : Prop := fnExactTurnOverRow.holds Try.pinned (OpenSpec.ofChange fnExactTurnOverSpec)

/-- ITS FALSE NEIGHBOUR: 'it returns false'. Refute it at one input. -/
def fnExactTurnOverWrong : ChangeSpec := { name := "fnExactTurnOver", fn := fun _ => fun
  | [d1, d2, d3, d4] => { results := [.lit (.bool false)], args := [d1, d2, d3, d4] }
  | _ => none }
def FnExactTurnOverWrongFalsely : Prop := fnExactTurnOverRow.holds Try.pinned (OpenSpec.ofChange fnExactTurnOverWrong)

/- THE SECOND FORM. 'bulk': how many values and letters a reading holds, each counted each time it is reached (what is shared counts as often as it is met; a slice's spare places count too). A statement '..UptoSaid' is the law's where the arguments, and the package variables that the reading takes, are together of bulk at most 1048576: NARROWER than '..Said'. Prove '..Said' where nothing that the law and all that it calls make is longer than what came in: it says more and counts as full. Else prove '..UptoSaid'. A law counts once. -/
mutual
def uptoBulk {H : Type} : DataW H → Nat
  | .lit (.string bytes) => bytes.length + 1
  | .lit _ => 1
  | .nil => 1
  | .ptr d => uptoBulk d + 1
  | .slice elems spare => uptoBulkAll elems + uptoBulkAll spare + 1
  | .agg parts => uptoBulkAll parts + 1
  | .iface _ d => uptoBulk d + 1
  | .map entries => uptoBulkEntries entries + 1
  | .held _ => 1
def uptoBulkAll {H : Type} : List (DataW H) → Nat
  | [] => 0
  | d :: r => uptoBulk d + uptoBulkAll r
def uptoBulkEntries {H : Type} : List (Lit × DataW H) → Nat
  | [] => 0
  | x :: r => uptoBulkEntry x + uptoBulkEntries r
def uptoBulkEntry {H : Type} : Lit × DataW H → Nat
  | (.string bytes, d) => bytes.length + uptoBulk d + 1
  | (_, d) => uptoBulk d + 1
 end
def uptoSmall : (H : Type) → List (DataW H) → Bool := fun _ ds => decide (uptoBulkAll ds ≤ 1048576)
def OpenSpec.upto (s : _root_.Go.ChangeSpec) : _root_.Go.OpenSpec := { _root_.Go.OpenSpec.ofChange s with cond := some uptoSmall }

/-- 'laws.FnExactConstants', WHERE WHAT IT READS IS OF BULK AT MOST 1048576: true; the input reads as it did. -/
def fnExactConstantsUptoRow : OpenClaim := { program := "ytnfghkjnjhmlhaa", sum := "36a55554af1883cc8eaf1de600a2c5a8d6f12f3f46585c8ee9d27854c7eedf58", func := "loop.example/g03301/laws.FnExactConstants", spec := "fnExactConstants", apart := false, narrowed := true }
def FnExactConstantsUptoSaid : Prop := fnExactConstantsUptoRow.holds Try.pinned (OpenSpec.upto fnExactConstantsSpec)

/-- 'laws.FnExactClamp', WHERE WHAT IT READS IS OF BULK AT MOST 1048576: true; the input reads as it did. -/
def fnExactClampUptoRow : OpenClaim := { program := "ytnfghkjnjhmlhaa", sum := "36a55554af1883cc8eaf1de600a2c5a8d6f12f3f46585c8ee9d27854c7eedf58", func := "loop.example/g03301/laws.FnExactClamp", spec := "fnExactClamp", apart := false, narrowed := true }
def FnExactClampUptoSaid : Prop := fnExactClampUptoRow.holds Try.pinned (OpenSpec.upto fnExactClampSpec)

/-- 'laws.FnExactPierOk', WHERE WHAT IT READS IS OF BULK AT MOST 1048576: true; the input reads as it did. -/
def fnExactPierOkUptoRow : OpenClaim := { program := "ytnfghkjnjhmlhaa", sum := "36a55554af1883cc8eaf1de600a2c5a8d6f12f3f46585c8ee9d27854c7eedf58", func := "loop.example/g03301/laws.FnExactPierOk", spec := "fnExactPierOk", apart := false, narrowed := true }
def FnExactPierOkUptoSaid : Prop := fnExactPierOkUptoRow.holds Try.pinned (OpenSpec.upto fnExactPierOkSpec)

/-- 'laws.FnExactPointOk', WHERE WHAT IT READS IS OF BULK AT MOST 1048576: true; the input reads as it did. -/
def fnExactPointOkUptoRow : OpenClaim := { program := "ytnfghkjnjhmlhaa", sum := "36a55554af1883cc8eaf1de600a2c5a8d6f12f3f46585c8ee9d27854c7eedf58", func := "loop.example/g03301/laws.FnExactPointOk", spec := "fnExactPointOk", apart := false, narrowed := true }
def FnExactPointOkUptoSaid : Prop := fnExactPointOkUptoRow.holds Try.pinned (OpenSpec.upto fnExactPointOkSpec)

/-- 'laws.FnExactRowOk', WHERE WHAT IT READS IS OF BULK AT MOST 1048576: true; the input reads as it did. -/
def fnExactRowOkUptoRow : OpenClaim := { program := "ytnfghkjnjhmlhaa", sum := "36a55554af1883cc8eaf1de600a2c5a8d6f12f3f46585c8ee9d27854c7eedf58", func := "loop.example/g03301/laws.FnExactRowOk", spec := "fnExactRowOk", apart := false, narrowed := true }
def FnExactRowOkUptoSaid : Prop := fnExactRowOkUptoRow.holds Try.pinned (OpenSpec.upto fnExactRowOkSpec)

/-- 'laws.FnExactJointOk', WHERE WHAT IT READS IS OF BULK AT MOST 1048576: true; the input reads as it did. -/
def fnExactJointOkUptoRow : OpenClaim := { program := "ytnfghkjnjhmlhaa", sum := "36a55554af1883cc8eaf1de600a2c5a8d6f12f3f46585c8ee9d27854c7eedf58", func := "loop.example/g03301/laws.FnExactJointOk", spec := "fnExactJointOk", apart := false, narrowed := true }
def FnExactJointOkUptoSaid : Prop := fnExactJointOkUptoRow.holds Try.pinned (OpenSpec.upto fnExactJointOkSpec)

/-- 'laws.FnExactIsFlat', WHERE WHAT IT READS IS OF BULK AT MOST 1048576: true; the input reads as it did. -/
def fnExactIsFlatUptoRow : OpenClaim := { program := "ytnfghkjnjhmlhaa", sum := "36a55554af1883cc8eaf1de600a2c5a8d6f12f3f46585c8ee9d27854c7eedf58", func := "loop.example/g03301/laws.FnExactIsFlat", spec := "fnExactIsFlat", apart := false, narrowed := true }
def FnExactIsFlatUptoSaid : Prop := fnExactIsFlatUptoRow.holds Try.pinned (OpenSpec.upto fnExactIsFlatSpec)

/-- 'laws.FnExactMiddleTwice', WHERE WHAT IT READS IS OF BULK AT MOST 1048576: true; the input reads as it did. -/
def fnExactMiddleTwiceUptoRow : OpenClaim := { program := "ytnfghkjnjhmlhaa", sum := "36a55554af1883cc8eaf1de600a2c5a8d6f12f3f46585c8ee9d27854c7eedf58", func := "loop.example/g03301/laws.FnExactMiddleTwice", spec := "fnExactMiddleTwice", apart := false, narrowed := true }
def FnExactMiddleTwiceUptoSaid : Prop := fnExactMiddleTwiceUptoRow.holds Try.pinned (OpenSpec.upto fnExactMiddleTwiceSpec)

/-- 'laws.FnExactSquareOf', WHERE WHAT IT READS IS OF BULK AT MOST 1048576: true; the input reads as it did. -/
def fnExactSquareOfUptoRow : OpenClaim := { program := "ytnfghkjnjhmlhaa", sum := "36a55554af1883cc8eaf1de600a2c5a8d6f12f3f46585c8ee9d27854c7eedf58", func := "loop.example/g03301/laws.FnExactSquareOf", spec := "fnExactSquareOf", apart := false, narrowed := true }
def FnExactSquareOfUptoSaid : Prop := fnExactSquareOfUptoRow.holds Try.pinned (OpenSpec.upto fnExactSquareOfSpec)

/-- 'laws.FnExactSideOf', WHERE WHAT IT READS IS OF BULK AT MOST 1048576: true; the input reads as it did. -/
def fnExactSideOfUptoRow : OpenClaim := { program := "ytnfghkjnjhmlhaa", sum := "36a55554af1883cc8eaf1de600a2c5a8d6f12f3f46585c8ee9d27854c7eedf58", func := "loop.example/g03301/laws.FnExactSideOf", spec := "fnExactSideOf", apart := false, narrowed := true }
def FnExactSideOfUptoSaid : Prop := fnExactSideOfUptoRow.holds Try.pinned (OpenSpec.upto fnExactSideOfSpec)

/-- 'laws.FnExactMirrorPoint', WHERE WHAT IT READS IS OF BULK AT MOST 1048576: true; the input reads as it did. -/
def fnExactMirrorPointUptoRow : OpenClaim := { program := "ytnfghkjnjhmlhaa", sum := "36a55554af1883cc8eaf1de600a2c5a8d6f12f3f46585c8ee9d27854c7eedf58", func := "loop.example/g03301/laws.FnExactMirrorPoint", spec := "fnExactMirrorPoint", apart := false, narrowed := true }
def FnExactMirrorPointUptoSaid : Prop := fnExactMirrorPointUptoRow.holds Try.pinned (OpenSpec.upto fnExactMirrorPointSpec)

/-- 'laws.FnExactTurnOver', WHERE WHAT IT READS IS OF BULK AT MOST 1048576: true; the input reads as it did. -/
def fnExactTurnOverUptoRow : OpenClaim := { program := "ytnfghkjnjhmlhaa", sum := "36a55554af1883cc8eaf1de600a2c5a8d6f12f3f46585c8ee9d27854c7eedf58", func := "loop.example/g03301/laws.FnExactTurnOver", spec := "fnExactTurnOver", apart := false, narrowed := true }
def FnExactTurnOverUptoSaid : Prop := fnExactTurnOverUptoRow.holds Try.pinned (OpenSpec.upto fnExactTurnOverSpec)

end Rows
end Go.Proofs.Ytnfghkjnjhmlhaa
