/-
  No cell of these rows narrows 'for every input' (looked for: loops, veiled, ifaces, maps, wideKeys, modest, calm, conditions, laid).
  DERIVED. THE GIVEN ROWS OF THIS SEAT. 5 by the template 'for every input the law returns true; each argument reads behind the call as it read before'; 0 by the template 'total and deterministic' (their statements: YtmekjkhkbdkdoaaTotals.lean).
  GIVEN WITH THE SEED: the statements are not yours to turn. If you find one false, say at which input.
  Laid BY PROGRAM, IN A SANDBOX (cutbox-rows.mjs): the forced cells as the released guide's own fill.sh prints them over the translation f105218cac1cb4d9… (all of the seat's roots in one cut). By AI agents, Wed Nov 11 2026. No macro, syntax, notation, axiom, sorry.
-/
import Derived.Test.YtmekjkhkbdkdoaaChecked
import GoSem.Claim
import GoSem.ClaimJoined
import GoSem.ClaimMapViews
import Derived.JoinedTies
import Derived.KernelRfl
namespace Go.Proofs.Ytmekjkhkbdkdoaa
/- THE CELL 'sum', in the pinned program and in every row, IS THE sha256 OF THE DUMP (.gsa) THAT YtmekjkhkbdkdoaaProg.lean LOADS. Nothing in Lean hashes anything: it is a label: what it is worth is what the hold of that sum in a sandbox is worth. -/
noncomputable def Try.pinned : Pinned := { name := "ytmekjkhkbdkdoaa", sum := "f105218cac1cb4d92d4634f8abae9d40aa7cf6272d1a1665c5cc52bc71c9c4ec", checked := Try.checked }
namespace Rows
def none {H : Type} : Left H := { results := [], args := [] }

/-- 'laws.FnExactEncodeHex': WHATEVER THE INPUT: true; the input reads as it did. -/
def fnExactEncodeHexSpec : ChangeSpec := { name := "fnExactEncodeHex", fn := fun _ => fun
  | [d] => { results := [.lit (.bool true)], args := [d] }
  | _ => none }
def fnExactEncodeHexRow : OpenClaim := { program := "ytmekjkhkbdkdoaa", sum := "f105218cac1cb4d92d4634f8abae9d40aa7cf6272d1a1665c5cc52bc71c9c4ec", func := "loop.example/g03301/laws.FnExactEncodeHex", spec := "fnExactEncodeHex", inPlace := ["internal/abi.NoEscape"], apart := false }
def FnExactEncodeHexSaid : Prop := fnExactEncodeHexRow.holds Try.pinned (OpenSpec.ofChange fnExactEncodeHexSpec)

/-- ITS FALSE NEIGHBOUR: 'it returns false'. Refute it at one input. -/
def fnExactEncodeHexWrong : ChangeSpec := { name := "fnExactEncodeHex", fn := fun _ => fun
  | [d] => { results := [.lit (.bool false)], args := [d] }
  | _ => none }
def FnExactEncodeHexWrongFalsely : Prop := fnExactEncodeHexRow.holds Try.pinned (OpenSpec.ofChange fnExactEncodeHexWrong)

/-- 'laws.FnExactDecodeHex': WHATEVER THE INPUT: true; the input reads as it did. -/
def fnExactDecodeHexSpec : ChangeSpec := { name := "fnExactDecodeHex", fn := fun _ => fun
  | [d] => { results := [.lit (.bool true)], args := [d] }
  | _ => none }
def fnExactDecodeHexRow : OpenClaim := { program := "ytmekjkhkbdkdoaa", sum := "f105218cac1cb4d92d4634f8abae9d40aa7cf6272d1a1665c5cc52bc71c9c4ec", func := "loop.example/g03301/laws.FnExactDecodeHex", spec := "fnExactDecodeHex", inPlace := ["internal/bytealg.IndexByteString", "internal/abi.NoEscape"], apart := false }
def FnExactDecodeHexSaid : Prop := fnExactDecodeHexRow.holds Try.pinned (OpenSpec.ofChange fnExactDecodeHexSpec)

/-- ITS FALSE NEIGHBOUR: 'it returns false'. Refute it at one input. -/
def fnExactDecodeHexWrong : ChangeSpec := { name := "fnExactDecodeHex", fn := fun _ => fun
  | [d] => { results := [.lit (.bool false)], args := [d] }
  | _ => none }
def FnExactDecodeHexWrongFalsely : Prop := fnExactDecodeHexRow.holds Try.pinned (OpenSpec.ofChange fnExactDecodeHexWrong)

/-- 'laws.FnExactSplitFields': WHATEVER THE INPUT: true; the input reads as it did. -/
def fnExactSplitFieldsSpec : ChangeSpec := { name := "fnExactSplitFields", fn := fun _ => fun
  | [d] => { results := [.lit (.bool true)], args := [d] }
  | _ => none }
def fnExactSplitFieldsRow : OpenClaim := { program := "ytmekjkhkbdkdoaa", sum := "f105218cac1cb4d92d4634f8abae9d40aa7cf6272d1a1665c5cc52bc71c9c4ec", func := "loop.example/g03301/laws.FnExactSplitFields", spec := "fnExactSplitFields", apart := false }
def FnExactSplitFieldsSaid : Prop := fnExactSplitFieldsRow.holds Try.pinned (OpenSpec.ofChange fnExactSplitFieldsSpec)

/-- ITS FALSE NEIGHBOUR: 'it returns false'. Refute it at one input. -/
def fnExactSplitFieldsWrong : ChangeSpec := { name := "fnExactSplitFields", fn := fun _ => fun
  | [d] => { results := [.lit (.bool false)], args := [d] }
  | _ => none }
def FnExactSplitFieldsWrongFalsely : Prop := fnExactSplitFieldsRow.holds Try.pinned (OpenSpec.ofChange fnExactSplitFieldsWrong)

/-- 'laws.FnHexText': WHATEVER THE INPUT: true; the input reads as it did. -/
def fnHexTextSpec : ChangeSpec := { name := "fnHexText", fn := fun _ => fun
  | [d] => { results := [.lit (.bool true)], args := [d] }
  | _ => none }
def fnHexTextRow : OpenClaim := { program := "ytmekjkhkbdkdoaa", sum := "f105218cac1cb4d92d4634f8abae9d40aa7cf6272d1a1665c5cc52bc71c9c4ec", func := "loop.example/g03301/laws.FnHexText", spec := "fnHexText", inPlace := ["internal/abi.NoEscape", "internal/bytealg.IndexByteString"], apart := false }
def FnHexTextSaid : Prop := fnHexTextRow.holds Try.pinned (OpenSpec.ofChange fnHexTextSpec)

/-- ITS FALSE NEIGHBOUR: 'it returns false'. Refute it at one input. -/
def fnHexTextWrong : ChangeSpec := { name := "fnHexText", fn := fun _ => fun
  | [d] => { results := [.lit (.bool false)], args := [d] }
  | _ => none }
def FnHexTextWrongFalsely : Prop := fnHexTextRow.holds Try.pinned (OpenSpec.ofChange fnHexTextWrong)

/-- 'laws.FnFieldsAgain': WHATEVER THE INPUT: true; the input reads as it did. -/
def fnFieldsAgainSpec : ChangeSpec := { name := "fnFieldsAgain", fn := fun _ => fun
  | [d] => { results := [.lit (.bool true)], args := [d] }
  | _ => none }
def fnFieldsAgainRow : OpenClaim := { program := "ytmekjkhkbdkdoaa", sum := "f105218cac1cb4d92d4634f8abae9d40aa7cf6272d1a1665c5cc52bc71c9c4ec", func := "loop.example/g03301/laws.FnFieldsAgain", spec := "fnFieldsAgain", apart := false }
def FnFieldsAgainSaid : Prop := fnFieldsAgainRow.holds Try.pinned (OpenSpec.ofChange fnFieldsAgainSpec)

/-- ITS FALSE NEIGHBOUR: 'it returns false'. Refute it at one input. -/
def fnFieldsAgainWrong : ChangeSpec := { name := "fnFieldsAgain", fn := fun _ => fun
  | [d] => { results := [.lit (.bool false)], args := [d] }
  | _ => none }
def FnFieldsAgainWrongFalsely : Prop := fnFieldsAgainRow.holds Try.pinned (OpenSpec.ofChange fnFieldsAgainWrong)

/- THE SECOND FORM. 'bulk': how many values and letters a reading holds, each counted each time it is reached (what is shared counts as often as it is met; a slice's spare places count too). A statement '..UptoSaid' is the law's where the arguments, and the package variables that the reading takes, are together of bulk at most 1048576: NARROWER than '..Said'. Prove '..Said' where nothing that the law and all that it calls make is longer than what came in: it says more and counts as full. Else prove '..UptoSaid'. A law counts once. -/
mutual
def uptoBulk {H : Type} : DataW H → Nat
  | .lit (.string bytes) => bytes.length + 1
  | .lit _ => 1
  | .nil => 1
  | .ptr d => uptoBulk d + 1
  | .slice elems spare => uptoBulkAll elems + uptoBulkAll spare + 1
  | .agg parts => uptoBulkAll parts + 1
  | .iface _ d => uptoBulk d + 1
  | .map entries => uptoBulkEntries entries + 1
  | .held _ => 1
def uptoBulkAll {H : Type} : List (DataW H) → Nat
  | [] => 0
  | d :: r => uptoBulk d + uptoBulkAll r
def uptoBulkEntries {H : Type} : List (Lit × DataW H) → Nat
  | [] => 0
  | x :: r => uptoBulkEntry x + uptoBulkEntries r
def uptoBulkEntry {H : Type} : Lit × DataW H → Nat
  | (.string bytes, d) => bytes.length + uptoBulk d + 1
  | (_, d) => uptoBulk d + 1
 end
def uptoSmall : (H : Type) → List (DataW H) → Bool := fun _ ds => decide (uptoBulkAll ds ≤ 1048576)
def OpenSpec.upto (s : _root_.Go.ChangeSpec) : _root_.Go.OpenSpec := { _root_.Go.OpenSpec.ofChange s with cond := some uptoSmall }

/-- 'laws.FnExactEncodeHex', WHERE WHAT IT READS IS OF BULK AT MOST 1048576: true; the input reads as it did. -/
def fnExactEncodeHexUptoRow : OpenClaim := { program := "ytmekjkhkbdkdoaa", sum := "f105218cac1cb4d92d4634f8abae9d40aa7cf6272d1a1665c5cc52bc71c9c4ec", func := "loop.example/g03301/laws.FnExactEncodeHex", spec := "fnExactEncodeHex", inPlace := ["internal/abi.NoEscape"], apart := false, narrowed := true }
def FnExactEncodeHexUptoSaid : Prop := fnExactEncodeHexUptoRow.holds Try.pinned (OpenSpec.upto fnExactEncodeHexSpec)

/-- 'laws.FnExactDecodeHex', WHERE WHAT IT READS IS OF BULK AT MOST 1048576: true; the input reads as it did. -/
def fnExactDecodeHexUptoRow : OpenClaim := { program := "ytmekjkhkbdkdoaa", sum := "f105218cac1cb4d92d4634f8abae9d40aa7cf6272d1a1665c5cc52bc71c9c4ec", func := "loop.example/g03301/laws.FnExactDecodeHex", spec := "fnExactDecodeHex", inPlace := ["internal/bytealg.IndexByteString", "internal/abi.NoEscape"], apart := false, narrowed := true }
def FnExactDecodeHexUptoSaid : Prop := fnExactDecodeHexUptoRow.holds Try.pinned (OpenSpec.upto fnExactDecodeHexSpec)

/-- 'laws.FnExactSplitFields', WHERE WHAT IT READS IS OF BULK AT MOST 1048576: true; the input reads as it did. -/
def fnExactSplitFieldsUptoRow : OpenClaim := { program := "ytmekjkhkbdkdoaa", sum := "f105218cac1cb4d92d4634f8abae9d40aa7cf6272d1a1665c5cc52bc71c9c4ec", func := "loop.example/g03301/laws.FnExactSplitFields", spec := "fnExactSplitFields", apart := false, narrowed := true }
def FnExactSplitFieldsUptoSaid : Prop := fnExactSplitFieldsUptoRow.holds Try.pinned (OpenSpec.upto fnExactSplitFieldsSpec)

/-- 'laws.FnHexText', WHERE WHAT IT READS IS OF BULK AT MOST 1048576: true; the input reads as it did. -/
def fnHexTextUptoRow : OpenClaim := { program := "ytmekjkhkbdkdoaa", sum := "f105218cac1cb4d92d4634f8abae9d40aa7cf6272d1a1665c5cc52bc71c9c4ec", func := "loop.example/g03301/laws.FnHexText", spec := "fnHexText", inPlace := ["internal/abi.NoEscape", "internal/bytealg.IndexByteString"], apart := false, narrowed := true }
def FnHexTextUptoSaid : Prop := fnHexTextUptoRow.holds Try.pinned (OpenSpec.upto fnHexTextSpec)

/-- 'laws.FnFieldsAgain', WHERE WHAT IT READS IS OF BULK AT MOST 1048576: true; the input reads as it did. -/
def fnFieldsAgainUptoRow : OpenClaim := { program := "ytmekjkhkbdkdoaa", sum := "f105218cac1cb4d92d4634f8abae9d40aa7cf6272d1a1665c5cc52bc71c9c4ec", func := "loop.example/g03301/laws.FnFieldsAgain", spec := "fnFieldsAgain", apart := false, narrowed := true }
def FnFieldsAgainUptoSaid : Prop := fnFieldsAgainUptoRow.holds Try.pinned (OpenSpec.upto fnFieldsAgainSpec)

end Rows
end Go.Proofs.Ytmekjkhkbdkdoaa
