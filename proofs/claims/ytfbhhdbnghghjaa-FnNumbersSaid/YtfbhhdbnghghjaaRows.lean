/-
  No cell of these rows narrows 'for every input' (looked for: loops, veiled, ifaces, maps, wideKeys, modest, calm, conditions, laid).
  DERIVED. THE GIVEN ROWS OF THIS SEAT. 13 by the template 'for every input the law returns true; each argument reads behind the call as it read before'; 0 by the template 'total and deterministic' (their statements: YtfbhhdbnghghjaaTotals.lean).
  GIVEN WITH THE SEED: the statements are not yours to turn. If you find one false, say at which input.
  Laid BY PROGRAM, IN A SANDBOX (cutbox-rows.mjs): the forced cells as the released guide's own fill.sh prints them over the translation c393c49587f3fe98… (all of the seat's roots in one cut). By AI agents, Wed Nov 11 2026. No macro, syntax, notation, axiom, sorry.
-/
import Derived.Test.YtfbhhdbnghghjaaChecked
import GoSem.Claim
import GoSem.ClaimJoined
import GoSem.ClaimMapViews
import Derived.JoinedTies
import Derived.KernelRfl
namespace Go.Proofs.Ytfbhhdbnghghjaa
/- THE CELL 'sum', in the pinned program and in every row, IS THE sha256 OF THE DUMP (.gsa) THAT YtfbhhdbnghghjaaProg.lean LOADS. Nothing in Lean hashes anything: it is a label: what it is worth is what the hold of that sum in a sandbox is worth. -/
noncomputable def Try.pinned : Pinned := { name := "ytfbhhdbnghghjaa", sum := "c393c49587f3fe98bc17f678f382a1b5d344c67d19191d87af33956ad3fdcbca", checked := Try.checked }
namespace Rows
def none {H : Type} : Left H := { results := [], args := [] }

/-- 'laws.FnExactFormatInt': WHATEVER THE INPUT: true; the input reads as it did. -/
def fnExactFormatIntSpec : ChangeSpec := { name := "fnExactFormatInt", fn := fun _ => fun
  | [d] => { results := [.lit (.bool true)], args := [d] }
  | _ => none }
def fnExactFormatIntRow : OpenClaim := { program := "ytfbhhdbnghghjaa", sum := "c393c49587f3fe98bc17f678f382a1b5d344c67d19191d87af33956ad3fdcbca", func := "loop.example/g03301/laws.FnExactFormatInt", spec := "fnExactFormatInt", apart := false }
def FnExactFormatIntSaid : Prop := fnExactFormatIntRow.holds Try.pinned (OpenSpec.ofChange fnExactFormatIntSpec)

/-- ITS FALSE NEIGHBOUR: 'it returns false'. Refute it at one input. -/
def fnExactFormatIntWrong : ChangeSpec := { name := "fnExactFormatInt", fn := fun _ => fun
  | [d] => { results := [.lit (.bool false)], args := [d] }
  | _ => none }
def FnExactFormatIntWrongFalsely : Prop := fnExactFormatIntRow.holds Try.pinned (OpenSpec.ofChange fnExactFormatIntWrong)

/-- 'laws.FnExactEncodeHex': WHATEVER THE INPUT: true; the input reads as it did. -/
def fnExactEncodeHexSpec : ChangeSpec := { name := "fnExactEncodeHex", fn := fun _ => fun
  | [d] => { results := [.lit (.bool true)], args := [d] }
  | _ => none }
def fnExactEncodeHexRow : OpenClaim := { program := "ytfbhhdbnghghjaa", sum := "c393c49587f3fe98bc17f678f382a1b5d344c67d19191d87af33956ad3fdcbca", func := "loop.example/g03301/laws.FnExactEncodeHex", spec := "fnExactEncodeHex", inPlace := ["internal/abi.NoEscape"], apart := false }
def FnExactEncodeHexSaid : Prop := fnExactEncodeHexRow.holds Try.pinned (OpenSpec.ofChange fnExactEncodeHexSpec)

/-- ITS FALSE NEIGHBOUR: 'it returns false'. Refute it at one input. -/
def fnExactEncodeHexWrong : ChangeSpec := { name := "fnExactEncodeHex", fn := fun _ => fun
  | [d] => { results := [.lit (.bool false)], args := [d] }
  | _ => none }
def FnExactEncodeHexWrongFalsely : Prop := fnExactEncodeHexRow.holds Try.pinned (OpenSpec.ofChange fnExactEncodeHexWrong)

/-- 'laws.FnExactDecodeHex': WHATEVER THE INPUT: true; the input reads as it did. -/
def fnExactDecodeHexSpec : ChangeSpec := { name := "fnExactDecodeHex", fn := fun _ => fun
  | [d] => { results := [.lit (.bool true)], args := [d] }
  | _ => none }
def fnExactDecodeHexRow : OpenClaim := { program := "ytfbhhdbnghghjaa", sum := "c393c49587f3fe98bc17f678f382a1b5d344c67d19191d87af33956ad3fdcbca", func := "loop.example/g03301/laws.FnExactDecodeHex", spec := "fnExactDecodeHex", inPlace := ["internal/bytealg.IndexByteString", "internal/abi.NoEscape"], apart := false }
def FnExactDecodeHexSaid : Prop := fnExactDecodeHexRow.holds Try.pinned (OpenSpec.ofChange fnExactDecodeHexSpec)

/-- ITS FALSE NEIGHBOUR: 'it returns false'. Refute it at one input. -/
def fnExactDecodeHexWrong : ChangeSpec := { name := "fnExactDecodeHex", fn := fun _ => fun
  | [d] => { results := [.lit (.bool false)], args := [d] }
  | _ => none }
def FnExactDecodeHexWrongFalsely : Prop := fnExactDecodeHexRow.holds Try.pinned (OpenSpec.ofChange fnExactDecodeHexWrong)

/-- 'laws.FnExactPointText': WHATEVER THE INPUT: true; the input reads as it did. -/
def fnExactPointTextSpec : ChangeSpec := { name := "fnExactPointText", fn := fun _ => fun
  | [d] => { results := [.lit (.bool true)], args := [d] }
  | _ => none }
def fnExactPointTextRow : OpenClaim := { program := "ytfbhhdbnghghjaa", sum := "c393c49587f3fe98bc17f678f382a1b5d344c67d19191d87af33956ad3fdcbca", func := "loop.example/g03301/laws.FnExactPointText", spec := "fnExactPointText", apart := false }
def FnExactPointTextSaid : Prop := fnExactPointTextRow.holds Try.pinned (OpenSpec.ofChange fnExactPointTextSpec)

/-- ITS FALSE NEIGHBOUR: 'it returns false'. Refute it at one input. -/
def fnExactPointTextWrong : ChangeSpec := { name := "fnExactPointText", fn := fun _ => fun
  | [d] => { results := [.lit (.bool false)], args := [d] }
  | _ => none }
def FnExactPointTextWrongFalsely : Prop := fnExactPointTextRow.holds Try.pinned (OpenSpec.ofChange fnExactPointTextWrong)

/-- 'laws.FnExactParseUint': WHATEVER THE INPUT: true; the input reads as it did. -/
def fnExactParseUintSpec : ChangeSpec := { name := "fnExactParseUint", fn := fun _ => fun
  | [d] => { results := [.lit (.bool true)], args := [d] }
  | _ => none }
def fnExactParseUintRow : OpenClaim := { program := "ytfbhhdbnghghjaa", sum := "c393c49587f3fe98bc17f678f382a1b5d344c67d19191d87af33956ad3fdcbca", func := "loop.example/g03301/laws.FnExactParseUint", spec := "fnExactParseUint", apart := false }
def FnExactParseUintSaid : Prop := fnExactParseUintRow.holds Try.pinned (OpenSpec.ofChange fnExactParseUintSpec)

/-- ITS FALSE NEIGHBOUR: 'it returns false'. Refute it at one input. -/
def fnExactParseUintWrong : ChangeSpec := { name := "fnExactParseUint", fn := fun _ => fun
  | [d] => { results := [.lit (.bool false)], args := [d] }
  | _ => none }
def FnExactParseUintWrongFalsely : Prop := fnExactParseUintRow.holds Try.pinned (OpenSpec.ofChange fnExactParseUintWrong)

/-- 'laws.FnExactSplitFields': WHATEVER THE INPUT: true; the input reads as it did. -/
def fnExactSplitFieldsSpec : ChangeSpec := { name := "fnExactSplitFields", fn := fun _ => fun
  | [d] => { results := [.lit (.bool true)], args := [d] }
  | _ => none }
def fnExactSplitFieldsRow : OpenClaim := { program := "ytfbhhdbnghghjaa", sum := "c393c49587f3fe98bc17f678f382a1b5d344c67d19191d87af33956ad3fdcbca", func := "loop.example/g03301/laws.FnExactSplitFields", spec := "fnExactSplitFields", apart := false }
def FnExactSplitFieldsSaid : Prop := fnExactSplitFieldsRow.holds Try.pinned (OpenSpec.ofChange fnExactSplitFieldsSpec)

/-- ITS FALSE NEIGHBOUR: 'it returns false'. Refute it at one input. -/
def fnExactSplitFieldsWrong : ChangeSpec := { name := "fnExactSplitFields", fn := fun _ => fun
  | [d] => { results := [.lit (.bool false)], args := [d] }
  | _ => none }
def FnExactSplitFieldsWrongFalsely : Prop := fnExactSplitFieldsRow.holds Try.pinned (OpenSpec.ofChange fnExactSplitFieldsWrong)

/-- 'laws.FnNumbers': WHATEVER THE INPUT: true; the input reads as it did. -/
def fnNumbersSpec : ChangeSpec := { name := "fnNumbers", fn := fun _ => fun
  | [d] => { results := [.lit (.bool true)], args := [d] }
  | _ => none }
def fnNumbersRow : OpenClaim := { program := "ytfbhhdbnghghjaa", sum := "c393c49587f3fe98bc17f678f382a1b5d344c67d19191d87af33956ad3fdcbca", func := "loop.example/g03301/laws.FnNumbers", spec := "fnNumbers", apart := false }
def FnNumbersSaid : Prop := fnNumbersRow.holds Try.pinned (OpenSpec.ofChange fnNumbersSpec)

/-- ITS FALSE NEIGHBOUR: 'it returns false'. Refute it at one input. -/
def fnNumbersWrong : ChangeSpec := { name := "fnNumbers", fn := fun _ => fun
  | [d] => { results := [.lit (.bool false)], args := [d] }
  | _ => none }
def FnNumbersWrongFalsely : Prop := fnNumbersRow.holds Try.pinned (OpenSpec.ofChange fnNumbersWrong)

/-- 'laws.FnExactJointText': WHATEVER THE INPUT: true; the input reads as it did. -/
def fnExactJointTextSpec : ChangeSpec := { name := "fnExactJointText", fn := fun _ => fun
  | [d] => { results := [.lit (.bool true)], args := [d] }
  | _ => none }
def fnExactJointTextRow : OpenClaim := { program := "ytfbhhdbnghghjaa", sum := "c393c49587f3fe98bc17f678f382a1b5d344c67d19191d87af33956ad3fdcbca", func := "loop.example/g03301/laws.FnExactJointText", spec := "fnExactJointText", apart := false }
def FnExactJointTextSaid : Prop := fnExactJointTextRow.holds Try.pinned (OpenSpec.ofChange fnExactJointTextSpec)

/-- ITS FALSE NEIGHBOUR: 'it returns false'. Refute it at one input. -/
def fnExactJointTextWrong : ChangeSpec := { name := "fnExactJointText", fn := fun _ => fun
  | [d] => { results := [.lit (.bool false)], args := [d] }
  | _ => none }
def FnExactJointTextWrongFalsely : Prop := fnExactJointTextRow.holds Try.pinned (OpenSpec.ofChange fnExactJointTextWrong)

/-- 'laws.FnExactThrustText': WHATEVER THE INPUT: true; the input reads as it did. -/
def fnExactThrustTextSpec : ChangeSpec := { name := "fnExactThrustText", fn := fun _ => fun
  | [d] => { results := [.lit (.bool true)], args := [d] }
  | _ => none }
def fnExactThrustTextRow : OpenClaim := { program := "ytfbhhdbnghghjaa", sum := "c393c49587f3fe98bc17f678f382a1b5d344c67d19191d87af33956ad3fdcbca", func := "loop.example/g03301/laws.FnExactThrustText", spec := "fnExactThrustText", apart := false }
def FnExactThrustTextSaid : Prop := fnExactThrustTextRow.holds Try.pinned (OpenSpec.ofChange fnExactThrustTextSpec)

/-- ITS FALSE NEIGHBOUR: 'it returns false'. Refute it at one input. -/
def fnExactThrustTextWrong : ChangeSpec := { name := "fnExactThrustText", fn := fun _ => fun
  | [d] => { results := [.lit (.bool false)], args := [d] }
  | _ => none }
def FnExactThrustTextWrongFalsely : Prop := fnExactThrustTextRow.holds Try.pinned (OpenSpec.ofChange fnExactThrustTextWrong)

/-- 'laws.FnHexText': WHATEVER THE INPUT: true; the input reads as it did. -/
def fnHexTextSpec : ChangeSpec := { name := "fnHexText", fn := fun _ => fun
  | [d] => { results := [.lit (.bool true)], args := [d] }
  | _ => none }
def fnHexTextRow : OpenClaim := { program := "ytfbhhdbnghghjaa", sum := "c393c49587f3fe98bc17f678f382a1b5d344c67d19191d87af33956ad3fdcbca", func := "loop.example/g03301/laws.FnHexText", spec := "fnHexText", inPlace := ["internal/abi.NoEscape", "internal/bytealg.IndexByteString"], apart := false }
def FnHexTextSaid : Prop := fnHexTextRow.holds Try.pinned (OpenSpec.ofChange fnHexTextSpec)

/-- ITS FALSE NEIGHBOUR: 'it returns false'. Refute it at one input. -/
def fnHexTextWrong : ChangeSpec := { name := "fnHexText", fn := fun _ => fun
  | [d] => { results := [.lit (.bool false)], args := [d] }
  | _ => none }
def FnHexTextWrongFalsely : Prop := fnHexTextRow.holds Try.pinned (OpenSpec.ofChange fnHexTextWrong)

/-- 'laws.FnFieldsAgain': WHATEVER THE INPUT: true; the input reads as it did. -/
def fnFieldsAgainSpec : ChangeSpec := { name := "fnFieldsAgain", fn := fun _ => fun
  | [d] => { results := [.lit (.bool true)], args := [d] }
  | _ => none }
def fnFieldsAgainRow : OpenClaim := { program := "ytfbhhdbnghghjaa", sum := "c393c49587f3fe98bc17f678f382a1b5d344c67d19191d87af33956ad3fdcbca", func := "loop.example/g03301/laws.FnFieldsAgain", spec := "fnFieldsAgain", apart := false }
def FnFieldsAgainSaid : Prop := fnFieldsAgainRow.holds Try.pinned (OpenSpec.ofChange fnFieldsAgainSpec)

/-- ITS FALSE NEIGHBOUR: 'it returns false'. Refute it at one input. -/
def fnFieldsAgainWrong : ChangeSpec := { name := "fnFieldsAgain", fn := fun _ => fun
  | [d] => { results := [.lit (.bool false)], args := [d] }
  | _ => none }
def FnFieldsAgainWrongFalsely : Prop := fnFieldsAgainRow.holds Try.pinned (OpenSpec.ofChange fnFieldsAgainWrong)

/-- 'laws.FnExactHingeText': WHATEVER THE INPUT: true; the input reads as it did. -/
def fnExactHingeTextSpec : ChangeSpec := { name := "fnExactHingeText", fn := fun _ => fun
  | [d] => { results := [.lit (.bool true)], args := [d] }
  | _ => none }
def fnExactHingeTextRow : OpenClaim := { program := "ytfbhhdbnghghjaa", sum := "c393c49587f3fe98bc17f678f382a1b5d344c67d19191d87af33956ad3fdcbca", func := "loop.example/g03301/laws.FnExactHingeText", spec := "fnExactHingeText", inPlace := ["internal/abi.NoEscape", "internal/bytealg.MakeNoZero"], apart := false }
def FnExactHingeTextSaid : Prop := fnExactHingeTextRow.holds Try.pinned (OpenSpec.ofChange fnExactHingeTextSpec)

/-- ITS FALSE NEIGHBOUR: 'it returns false'. Refute it at one input. -/
def fnExactHingeTextWrong : ChangeSpec := { name := "fnExactHingeText", fn := fun _ => fun
  | [d] => { results := [.lit (.bool false)], args := [d] }
  | _ => none }
def FnExactHingeTextWrongFalsely : Prop := fnExactHingeTextRow.holds Try.pinned (OpenSpec.ofChange fnExactHingeTextWrong)

/-- 'laws.FnExactProofText': WHATEVER THE INPUT: true; the input reads as it did. -/
def fnExactProofTextSpec : ChangeSpec := { name := "fnExactProofText", fn := fun _ => fun
  | [d] => { results := [.lit (.bool true)], args := [d] }
  | _ => none }
def fnExactProofTextRow : OpenClaim := { program := "ytfbhhdbnghghjaa", sum := "c393c49587f3fe98bc17f678f382a1b5d344c67d19191d87af33956ad3fdcbca", func := "loop.example/g03301/laws.FnExactProofText", spec := "fnExactProofText", inPlace := ["internal/abi.NoEscape", "internal/bytealg.MakeNoZero"], apart := false }
def FnExactProofTextSaid : Prop := fnExactProofTextRow.holds Try.pinned (OpenSpec.ofChange fnExactProofTextSpec)

/-- ITS FALSE NEIGHBOUR: 'it returns false'. Refute it at one input. -/
def fnExactProofTextWrong : ChangeSpec := { name := "fnExactProofText", fn := fun _ => fun
  | [d] => { results := [.lit (.bool false)], args := [d] }
  | _ => none }
def FnExactProofTextWrongFalsely : Prop := fnExactProofTextRow.holds Try.pinned (OpenSpec.ofChange fnExactProofTextWrong)

/- THE SECOND FORM. 'bulk': how many values and letters a reading holds, each counted each time it is reached (what is shared counts as often as it is met; a slice's spare places count too). A statement '..UptoSaid' is the law's where the arguments, and the package variables that the reading takes, are together of bulk at most 1048576: NARROWER than '..Said'. Prove '..Said' where nothing that the law and all that it calls make is longer than what came in: it says more and counts as full. Else prove '..UptoSaid'. A law counts once. -/
mutual
def uptoBulk {H : Type} : DataW H → Nat
  | .lit (.string bytes) => bytes.length + 1
  | .lit _ => 1
  | .nil => 1
  | .ptr d => uptoBulk d + 1
  | .slice elems spare => uptoBulkAll elems + uptoBulkAll spare + 1
  | .agg parts => uptoBulkAll parts + 1
  | .iface _ d => uptoBulk d + 1
  | .map entries => uptoBulkEntries entries + 1
  | .held _ => 1
def uptoBulkAll {H : Type} : List (DataW H) → Nat
  | [] => 0
  | d :: r => uptoBulk d + uptoBulkAll r
def uptoBulkEntries {H : Type} : List (Lit × DataW H) → Nat
  | [] => 0
  | x :: r => uptoBulkEntry x + uptoBulkEntries r
def uptoBulkEntry {H : Type} : Lit × DataW H → Nat
  | (.string bytes, d) => bytes.length + uptoBulk d + 1
  | (_, d) => uptoBulk d + 1
 end
def uptoSmall : (H : Type) → List (DataW H) → Bool := fun _ ds => decide (uptoBulkAll ds ≤ 1048576)
def OpenSpec.upto (s : _root_.Go.ChangeSpec) : _root_.Go.OpenSpec := { _root_.Go.OpenSpec.ofChange s with cond := some uptoSmall }

/-- 'laws.FnExactFormatInt', WHERE WHAT IT READS IS OF BULK AT MOST 1048576: true; the input reads as it did. -/
def fnExactFormatIntUptoRow : OpenClaim := { program := "ytfbhhdbnghghjaa", sum := "c393c49587f3fe98bc17f678f382a1b5d344c67d19191d87af33956ad3fdcbca", func := "loop.example/g03301/laws.FnExactFormatInt", spec := "fnExactFormatInt", apart := false, narrowed := true }
def FnExactFormatIntUptoSaid : Prop := fnExactFormatIntUptoRow.holds Try.pinned (OpenSpec.upto fnExactFormatIntSpec)

/-- 'laws.FnExactEncodeHex', WHERE WHAT IT READS IS OF BULK AT MOST 1048576: true; the input reads as it did. -/
def fnExactEncodeHexUptoRow : OpenClaim := { program := "ytfbhhdbnghghjaa", sum := "c393c49587f3fe98bc17f678f382a1b5d344c67d19191d87af33956ad3fdcbca", func := "loop.example/g03301/laws.FnExactEncodeHex", spec := "fnExactEncodeHex", inPlace := ["internal/abi.NoEscape"], apart := false, narrowed := true }
def FnExactEncodeHexUptoSaid : Prop := fnExactEncodeHexUptoRow.holds Try.pinned (OpenSpec.upto fnExactEncodeHexSpec)

/-- 'laws.FnExactDecodeHex', WHERE WHAT IT READS IS OF BULK AT MOST 1048576: true; the input reads as it did. -/
def fnExactDecodeHexUptoRow : OpenClaim := { program := "ytfbhhdbnghghjaa", sum := "c393c49587f3fe98bc17f678f382a1b5d344c67d19191d87af33956ad3fdcbca", func := "loop.example/g03301/laws.FnExactDecodeHex", spec := "fnExactDecodeHex", inPlace := ["internal/bytealg.IndexByteString", "internal/abi.NoEscape"], apart := false, narrowed := true }
def FnExactDecodeHexUptoSaid : Prop := fnExactDecodeHexUptoRow.holds Try.pinned (OpenSpec.upto fnExactDecodeHexSpec)

/-- 'laws.FnExactPointText', WHERE WHAT IT READS IS OF BULK AT MOST 1048576: true; the input reads as it did. -/
def fnExactPointTextUptoRow : OpenClaim := { program := "ytfbhhdbnghghjaa", sum := "c393c49587f3fe98bc17f678f382a1b5d344c67d19191d87af33956ad3fdcbca", func := "loop.example/g03301/laws.FnExactPointText", spec := "fnExactPointText", apart := false, narrowed := true }
def FnExactPointTextUptoSaid : Prop := fnExactPointTextUptoRow.holds Try.pinned (OpenSpec.upto fnExactPointTextSpec)

/-- 'laws.FnExactParseUint', WHERE WHAT IT READS IS OF BULK AT MOST 1048576: true; the input reads as it did. -/
def fnExactParseUintUptoRow : OpenClaim := { program := "ytfbhhdbnghghjaa", sum := "c393c49587f3fe98bc17f678f382a1b5d344c67d19191d87af33956ad3fdcbca", func := "loop.example/g03301/laws.FnExactParseUint", spec := "fnExactParseUint", apart := false, narrowed := true }
def FnExactParseUintUptoSaid : Prop := fnExactParseUintUptoRow.holds Try.pinned (OpenSpec.upto fnExactParseUintSpec)

/-- 'laws.FnExactSplitFields', WHERE WHAT IT READS IS OF BULK AT MOST 1048576: true; the input reads as it did. -/
def fnExactSplitFieldsUptoRow : OpenClaim := { program := "ytfbhhdbnghghjaa", sum := "c393c49587f3fe98bc17f678f382a1b5d344c67d19191d87af33956ad3fdcbca", func := "loop.example/g03301/laws.FnExactSplitFields", spec := "fnExactSplitFields", apart := false, narrowed := true }
def FnExactSplitFieldsUptoSaid : Prop := fnExactSplitFieldsUptoRow.holds Try.pinned (OpenSpec.upto fnExactSplitFieldsSpec)

/-- 'laws.FnNumbers', WHERE WHAT IT READS IS OF BULK AT MOST 1048576: true; the input reads as it did. -/
def fnNumbersUptoRow : OpenClaim := { program := "ytfbhhdbnghghjaa", sum := "c393c49587f3fe98bc17f678f382a1b5d344c67d19191d87af33956ad3fdcbca", func := "loop.example/g03301/laws.FnNumbers", spec := "fnNumbers", apart := false, narrowed := true }
def FnNumbersUptoSaid : Prop := fnNumbersUptoRow.holds Try.pinned (OpenSpec.upto fnNumbersSpec)

/-- 'laws.FnExactJointText', WHERE WHAT IT READS IS OF BULK AT MOST 1048576: true; the input reads as it did. -/
def fnExactJointTextUptoRow : OpenClaim := { program := "ytfbhhdbnghghjaa", sum := "c393c49587f3fe98bc17f678f382a1b5d344c67d19191d87af33956ad3fdcbca", func := "loop.example/g03301/laws.FnExactJointText", spec := "fnExactJointText", apart := false, narrowed := true }
def FnExactJointTextUptoSaid : Prop := fnExactJointTextUptoRow.holds Try.pinned (OpenSpec.upto fnExactJointTextSpec)

/-- 'laws.FnExactThrustText', WHERE WHAT IT READS IS OF BULK AT MOST 1048576: true; the input reads as it did. -/
def fnExactThrustTextUptoRow : OpenClaim := { program := "ytfbhhdbnghghjaa", sum := "c393c49587f3fe98bc17f678f382a1b5d344c67d19191d87af33956ad3fdcbca", func := "loop.example/g03301/laws.FnExactThrustText", spec := "fnExactThrustText", apart := false, narrowed := true }
def FnExactThrustTextUptoSaid : Prop := fnExactThrustTextUptoRow.holds Try.pinned (OpenSpec.upto fnExactThrustTextSpec)

/-- 'laws.FnHexText', WHERE WHAT IT READS IS OF BULK AT MOST 1048576: true; the input reads as it did. -/
def fnHexTextUptoRow : OpenClaim := { program := "ytfbhhdbnghghjaa", sum := "c393c49587f3fe98bc17f678f382a1b5d344c67d19191d87af33956ad3fdcbca", func := "loop.example/g03301/laws.FnHexText", spec := "fnHexText", inPlace := ["internal/abi.NoEscape", "internal/bytealg.IndexByteString"], apart := false, narrowed := true }
def FnHexTextUptoSaid : Prop := fnHexTextUptoRow.holds Try.pinned (OpenSpec.upto fnHexTextSpec)

/-- 'laws.FnFieldsAgain', WHERE WHAT IT READS IS OF BULK AT MOST 1048576: true; the input reads as it did. -/
def fnFieldsAgainUptoRow : OpenClaim := { program := "ytfbhhdbnghghjaa", sum := "c393c49587f3fe98bc17f678f382a1b5d344c67d19191d87af33956ad3fdcbca", func := "loop.example/g03301/laws.FnFieldsAgain", spec := "fnFieldsAgain", apart := false, narrowed := true }
def FnFieldsAgainUptoSaid : Prop := fnFieldsAgainUptoRow.holds Try.pinned (OpenSpec.upto fnFieldsAgainSpec)

/-- 'laws.FnExactHingeText', WHERE WHAT IT READS IS OF BULK AT MOST 1048576: true; the input reads as it did. -/
def fnExactHingeTextUptoRow : OpenClaim := { program := "ytfbhhdbnghghjaa", sum := "c393c49587f3fe98bc17f678f382a1b5d344c67d19191d87af33956ad3fdcbca", func := "loop.example/g03301/laws.FnExactHingeText", spec := "fnExactHingeText", inPlace := ["internal/abi.NoEscape", "internal/bytealg.MakeNoZero"], apart := false, narrowed := true }
def FnExactHingeTextUptoSaid : Prop := fnExactHingeTextUptoRow.holds Try.pinned (OpenSpec.upto fnExactHingeTextSpec)

/-- 'laws.FnExactProofText', WHERE WHAT IT READS IS OF BULK AT MOST 1048576: true; the input reads as it did. -/
def fnExactProofTextUptoRow : OpenClaim := { program := "ytfbhhdbnghghjaa", sum := "c393c49587f3fe98bc17f678f382a1b5d344c67d19191d87af33956ad3fdcbca", func := "loop.example/g03301/laws.FnExactProofText", spec := "fnExactProofText", inPlace := ["internal/abi.NoEscape", "internal/bytealg.MakeNoZero"], apart := false, narrowed := true }
def FnExactProofTextUptoSaid : Prop := fnExactProofTextUptoRow.holds Try.pinned (OpenSpec.upto fnExactProofTextSpec)

end Rows
end Go.Proofs.Ytfbhhdbnghghjaa
