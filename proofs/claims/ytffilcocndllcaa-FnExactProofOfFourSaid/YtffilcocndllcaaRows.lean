/-
  No cell of these rows narrows 'for every input' (looked for: loops, veiled, ifaces, maps, wideKeys, modest, calm, conditions, laid).
  DERIVED. THE GIVEN ROWS OF THIS SEAT. 10 by the template 'for every input the law returns true; each argument reads behind the call as it read before'; 0 by the template 'total and deterministic' (their statements: YtffilcocndllcaaTotals.lean).
  GIVEN WITH THE SEED: the statements are not yours to turn. If you find one false, say at which input.
  Laid BY PROGRAM, IN A SANDBOX (cutbox-rows.mjs): the forced cells as the released guide's own fill.sh prints them over the translation c6a7ec5e2cf2a13e… (all of the seat's roots in one cut). By AI agents, Wed Nov 11 2026. No macro, syntax, notation, axiom, sorry.
-/
import Derived.Test.YtffilcocndllcaaChecked
import GoSem.Claim
import GoSem.ClaimJoined
import GoSem.ClaimMapViews
import Derived.JoinedTies
import Derived.KernelRfl
namespace Go.Proofs.Ytffilcocndllcaa
/- THE CELL 'sum', in the pinned program and in every row, IS THE sha256 OF THE DUMP (.gsa) THAT YtffilcocndllcaaProg.lean LOADS. Nothing in Lean hashes anything: it is a label: what it is worth is what the hold of that sum in a sandbox is worth. -/
noncomputable def Try.pinned : Pinned := { name := "ytffilcocndllcaa", sum := "c6a7ec5e2cf2a13e4a403675ffa83be0a47b3d373e3651d2855d386214b71c9d", checked := Try.checked }
namespace Rows
def none {H : Type} : Left H := { results := [], args := [] }

/-- 'laws.FnExactFactorsOf': WHATEVER THE INPUT: true; the input reads as it did. -/
def fnExactFactorsOfSpec : ChangeSpec := { name := "fnExactFactorsOf", fn := fun _ => fun
  | [d1, d2, d3, d4] => { results := [.lit (.bool true)], args := [d1, d2, d3, d4] }
  | _ => none }
def fnExactFactorsOfRow : OpenClaim := { program := "ytffilcocndllcaa", sum := "c6a7ec5e2cf2a13e4a403675ffa83be0a47b3d373e3651d2855d386214b71c9d", func := "loop.example/g03301/laws.FnExactFactorsOf", spec := "fnExactFactorsOf", apart := false }
def FnExactFactorsOfSaid : Prop := fnExactFactorsOfRow.holds Try.pinned (OpenSpec.ofChange fnExactFactorsOfSpec)

/-- ITS FALSE NEIGHBOUR: 'it returns false'. Refute it at one input. -/
def fnExactFactorsOfWrong : ChangeSpec := { name := "fnExactFactorsOf", fn := fun _ => fun
  | [d1, d2, d3, d4] => { results := [.lit (.bool false)], args := [d1, d2, d3, d4] }
  | _ => none }
def FnExactFactorsOfWrongFalsely : Prop := fnExactFactorsOfRow.holds Try.pinned (OpenSpec.ofChange fnExactFactorsOfWrong)

/-- 'laws.FnExactProofOfFour': WHATEVER THE INPUT: true; the input reads as it did. -/
def fnExactProofOfFourSpec : ChangeSpec := { name := "fnExactProofOfFour", fn := fun _ => fun
  | [d1, d2] => { results := [.lit (.bool true)], args := [d1, d2] }
  | _ => none }
def fnExactProofOfFourRow : OpenClaim := { program := "ytffilcocndllcaa", sum := "c6a7ec5e2cf2a13e4a403675ffa83be0a47b3d373e3651d2855d386214b71c9d", func := "loop.example/g03301/laws.FnExactProofOfFour", spec := "fnExactProofOfFour", apart := false }
def FnExactProofOfFourSaid : Prop := fnExactProofOfFourRow.holds Try.pinned (OpenSpec.ofChange fnExactProofOfFourSpec)

/-- ITS FALSE NEIGHBOUR: 'it returns false'. Refute it at one input. -/
def fnExactProofOfFourWrong : ChangeSpec := { name := "fnExactProofOfFour", fn := fun _ => fun
  | [d1, d2] => { results := [.lit (.bool false)], args := [d1, d2] }
  | _ => none }
def FnExactProofOfFourWrongFalsely : Prop := fnExactProofOfFourRow.holds Try.pinned (OpenSpec.ofChange fnExactProofOfFourWrong)

/-- 'laws.FnExactFindProof': WHATEVER THE INPUT: true; the input reads as it did. -/
def fnExactFindProofSpec : ChangeSpec := { name := "fnExactFindProof", fn := fun _ => fun
  | [d] => { results := [.lit (.bool true)], args := [d] }
  | _ => none }
def fnExactFindProofRow : OpenClaim := { program := "ytffilcocndllcaa", sum := "c6a7ec5e2cf2a13e4a403675ffa83be0a47b3d373e3651d2855d386214b71c9d", func := "loop.example/g03301/laws.FnExactFindProof", spec := "fnExactFindProof", unfollowed := true, recurses := true, leaving := true, apart := false }
def FnExactFindProofSaid : Prop := fnExactFindProofRow.holds Try.pinned (OpenSpec.ofChange fnExactFindProofSpec)

/-- ITS FALSE NEIGHBOUR: 'it returns false'. Refute it at one input. -/
def fnExactFindProofWrong : ChangeSpec := { name := "fnExactFindProof", fn := fun _ => fun
  | [d] => { results := [.lit (.bool false)], args := [d] }
  | _ => none }
def FnExactFindProofWrongFalsely : Prop := fnExactFindProofRow.holds Try.pinned (OpenSpec.ofChange fnExactFindProofWrong)

/-- 'laws.FnExactFewestRows': WHATEVER THE INPUT: true; the input reads as it did. -/
def fnExactFewestRowsSpec : ChangeSpec := { name := "fnExactFewestRows", fn := fun _ => fun
  | [d] => { results := [.lit (.bool true)], args := [d] }
  | _ => none }
def fnExactFewestRowsRow : OpenClaim := { program := "ytffilcocndllcaa", sum := "c6a7ec5e2cf2a13e4a403675ffa83be0a47b3d373e3651d2855d386214b71c9d", func := "loop.example/g03301/laws.FnExactFewestRows", spec := "fnExactFewestRows", unfollowed := true, recurses := true, leaving := true, apart := false }
def FnExactFewestRowsSaid : Prop := fnExactFewestRowsRow.holds Try.pinned (OpenSpec.ofChange fnExactFewestRowsSpec)

/-- ITS FALSE NEIGHBOUR: 'it returns false'. Refute it at one input. -/
def fnExactFewestRowsWrong : ChangeSpec := { name := "fnExactFewestRows", fn := fun _ => fun
  | [d] => { results := [.lit (.bool false)], args := [d] }
  | _ => none }
def FnExactFewestRowsWrongFalsely : Prop := fnExactFewestRowsRow.holds Try.pinned (OpenSpec.ofChange fnExactFewestRowsWrong)

/-- 'laws.FnExactCornersOf': WHATEVER THE INPUT: true; the input reads as it did. -/
def fnExactCornersOfSpec : ChangeSpec := { name := "fnExactCornersOf", fn := fun _ => fun
  | [d] => { results := [.lit (.bool true)], args := [d] }
  | _ => none }
def fnExactCornersOfRow : OpenClaim := { program := "ytffilcocndllcaa", sum := "c6a7ec5e2cf2a13e4a403675ffa83be0a47b3d373e3651d2855d386214b71c9d", func := "loop.example/g03301/laws.FnExactCornersOf", spec := "fnExactCornersOf", inPlace := ["(*sync.WaitGroup).Add", "internal/race.ReleaseMerge", "internal/race.Disable", "internal/race.Enable", "internal/synctest.IsInBubble", "internal/synctest.Associate[sync.WaitGroup]", "sync.fatal", "sync/atomic.OrUint64", "sync/atomic.AddUint64", "internal/race.Read", "sync/atomic.LoadUint64", "sync/atomic.StoreUint64", "internal/synctest.Disassociate[sync.WaitGroup]", "sync.runtime_Semrelease", "(*sync.WaitGroup).Done", "(*sync.WaitGroup).Wait", "internal/race.Acquire", "internal/synctest.IsAssociated[sync.WaitGroup]", "sync/atomic.CompareAndSwapUint64", "internal/race.Write", "sync.runtime_SemacquireWaitGroup"], unfollowed := true, recurses := true, leaving := true, apart := false }
def FnExactCornersOfSaid : Prop := fnExactCornersOfRow.holds Try.pinned (OpenSpec.ofChange fnExactCornersOfSpec)

/-- ITS FALSE NEIGHBOUR: 'it returns false'. Refute it at one input. -/
def fnExactCornersOfWrong : ChangeSpec := { name := "fnExactCornersOf", fn := fun _ => fun
  | [d] => { results := [.lit (.bool false)], args := [d] }
  | _ => none }
def FnExactCornersOfWrongFalsely : Prop := fnExactCornersOfRow.holds Try.pinned (OpenSpec.ofChange fnExactCornersOfWrong)

/-- 'laws.FnThreeRows': WHATEVER THE INPUT: true; the input reads as it did. -/
def fnThreeRowsSpec : ChangeSpec := { name := "fnThreeRows", fn := fun _ => fun
  | [d] => { results := [.lit (.bool true)], args := [d] }
  | _ => none }
def fnThreeRowsRow : OpenClaim := { program := "ytffilcocndllcaa", sum := "c6a7ec5e2cf2a13e4a403675ffa83be0a47b3d373e3651d2855d386214b71c9d", func := "loop.example/g03301/laws.FnThreeRows", spec := "fnThreeRows", inPlace := ["(*sync.WaitGroup).Add", "internal/race.ReleaseMerge", "internal/race.Disable", "internal/race.Enable", "internal/synctest.IsInBubble", "internal/synctest.Associate[sync.WaitGroup]", "sync.fatal", "sync/atomic.OrUint64", "sync/atomic.AddUint64", "internal/race.Read", "sync/atomic.LoadUint64", "sync/atomic.StoreUint64", "internal/synctest.Disassociate[sync.WaitGroup]", "sync.runtime_Semrelease", "(*sync.WaitGroup).Done", "(*sync.WaitGroup).Wait", "internal/race.Acquire", "internal/synctest.IsAssociated[sync.WaitGroup]", "sync/atomic.CompareAndSwapUint64", "internal/race.Write", "sync.runtime_SemacquireWaitGroup"], unfollowed := true, recurses := true, leaving := true, apart := false }
def FnThreeRowsSaid : Prop := fnThreeRowsRow.holds Try.pinned (OpenSpec.ofChange fnThreeRowsSpec)

/-- ITS FALSE NEIGHBOUR: 'it returns false'. Refute it at one input. -/
def fnThreeRowsWrong : ChangeSpec := { name := "fnThreeRows", fn := fun _ => fun
  | [d] => { results := [.lit (.bool false)], args := [d] }
  | _ => none }
def FnThreeRowsWrongFalsely : Prop := fnThreeRowsRow.holds Try.pinned (OpenSpec.ofChange fnThreeRowsWrong)

/-- 'laws.FnProofs': WHATEVER THE INPUT: true; the input reads as it did. -/
def fnProofsSpec : ChangeSpec := { name := "fnProofs", fn := fun _ => fun
  | [d] => { results := [.lit (.bool true)], args := [d] }
  | _ => none }
def fnProofsRow : OpenClaim := { program := "ytffilcocndllcaa", sum := "c6a7ec5e2cf2a13e4a403675ffa83be0a47b3d373e3651d2855d386214b71c9d", func := "loop.example/g03301/laws.FnProofs", spec := "fnProofs", inPlace := ["internal/abi.NoEscape", "internal/bytealg.MakeNoZero"], apart := false }
def FnProofsSaid : Prop := fnProofsRow.holds Try.pinned (OpenSpec.ofChange fnProofsSpec)

/-- ITS FALSE NEIGHBOUR: 'it returns false'. Refute it at one input. -/
def fnProofsWrong : ChangeSpec := { name := "fnProofs", fn := fun _ => fun
  | [d] => { results := [.lit (.bool false)], args := [d] }
  | _ => none }
def FnProofsWrongFalsely : Prop := fnProofsRow.holds Try.pinned (OpenSpec.ofChange fnProofsWrong)

/-- 'laws.FnClamped': WHATEVER THE INPUT: true; the input reads as it did. -/
def fnClampedSpec : ChangeSpec := { name := "fnClamped", fn := fun _ => fun
  | [d] => { results := [.lit (.bool true)], args := [d] }
  | _ => none }
def fnClampedRow : OpenClaim := { program := "ytffilcocndllcaa", sum := "c6a7ec5e2cf2a13e4a403675ffa83be0a47b3d373e3651d2855d386214b71c9d", func := "loop.example/g03301/laws.FnClamped", spec := "fnClamped", apart := false }
def FnClampedSaid : Prop := fnClampedRow.holds Try.pinned (OpenSpec.ofChange fnClampedSpec)

/-- ITS FALSE NEIGHBOUR: 'it returns false'. Refute it at one input. -/
def fnClampedWrong : ChangeSpec := { name := "fnClamped", fn := fun _ => fun
  | [d] => { results := [.lit (.bool false)], args := [d] }
  | _ => none }
def FnClampedWrongFalsely : Prop := fnClampedRow.holds Try.pinned (OpenSpec.ofChange fnClampedWrong)

/-- 'laws.FnPoints': WHATEVER THE INPUT: true; the input reads as it did. -/
def fnPointsSpec : ChangeSpec := { name := "fnPoints", fn := fun _ => fun
  | [d] => { results := [.lit (.bool true)], args := [d] }
  | _ => none }
def fnPointsRow : OpenClaim := { program := "ytffilcocndllcaa", sum := "c6a7ec5e2cf2a13e4a403675ffa83be0a47b3d373e3651d2855d386214b71c9d", func := "loop.example/g03301/laws.FnPoints", spec := "fnPoints", apart := false }
def FnPointsSaid : Prop := fnPointsRow.holds Try.pinned (OpenSpec.ofChange fnPointsSpec)

/-- ITS FALSE NEIGHBOUR: 'it returns false'. Refute it at one input. -/
def fnPointsWrong : ChangeSpec := { name := "fnPoints", fn := fun _ => fun
  | [d] => { results := [.lit (.bool false)], args := [d] }
  | _ => none }
def FnPointsWrongFalsely : Prop := fnPointsRow.holds Try.pinned (OpenSpec.ofChange fnPointsWrong)

/-- 'laws.FnThrusts': WHATEVER THE INPUT: true; the input reads as it did. -/
def fnThrustsSpec : ChangeSpec := { name := "fnThrusts", fn := fun _ => fun
  | [d] => { results := [.lit (.bool true)], args := [d] }
  | _ => none }
def fnThrustsRow : OpenClaim := { program := "ytffilcocndllcaa", sum := "c6a7ec5e2cf2a13e4a403675ffa83be0a47b3d373e3651d2855d386214b71c9d", func := "loop.example/g03301/laws.FnThrusts", spec := "fnThrusts", apart := false }
def FnThrustsSaid : Prop := fnThrustsRow.holds Try.pinned (OpenSpec.ofChange fnThrustsSpec)

/-- ITS FALSE NEIGHBOUR: 'it returns false'. Refute it at one input. -/
def fnThrustsWrong : ChangeSpec := { name := "fnThrusts", fn := fun _ => fun
  | [d] => { results := [.lit (.bool false)], args := [d] }
  | _ => none }
def FnThrustsWrongFalsely : Prop := fnThrustsRow.holds Try.pinned (OpenSpec.ofChange fnThrustsWrong)

/- THE SECOND FORM. 'bulk': how many values and letters a reading holds, each counted each time it is reached (what is shared counts as often as it is met; a slice's spare places count too). A statement '..UptoSaid' is the law's where the arguments, and the package variables that the reading takes, are together of bulk at most 1048576: NARROWER than '..Said'. Prove '..Said' where nothing that the law and all that it calls make is longer than what came in: it says more and counts as full. Else prove '..UptoSaid'. A law counts once. -/
mutual
def uptoBulk {H : Type} : DataW H → Nat
  | .lit (.string bytes) => bytes.length + 1
  | .lit _ => 1
  | .nil => 1
  | .ptr d => uptoBulk d + 1
  | .slice elems spare => uptoBulkAll elems + uptoBulkAll spare + 1
  | .agg parts => uptoBulkAll parts + 1
  | .iface _ d => uptoBulk d + 1
  | .map entries => uptoBulkEntries entries + 1
  | .held _ => 1
def uptoBulkAll {H : Type} : List (DataW H) → Nat
  | [] => 0
  | d :: r => uptoBulk d + uptoBulkAll r
def uptoBulkEntries {H : Type} : List (Lit × DataW H) → Nat
  | [] => 0
  | x :: r => uptoBulkEntry x + uptoBulkEntries r
def uptoBulkEntry {H : Type} : Lit × DataW H → Nat
  | (.string bytes, d) => bytes.length + uptoBulk d + 1
  | (_, d) => uptoBulk d + 1
 end
def uptoSmall : (H : Type) → List (DataW H) → Bool := fun _ ds => decide (uptoBulkAll ds ≤ 1048576)
def OpenSpec.upto (s : _root_.Go.ChangeSpec) : _root_.Go.OpenSpec := { _root_.Go.OpenSpec.ofChange s with cond := some uptoSmall }

/-- 'laws.FnExactFactorsOf', WHERE WHAT IT READS IS OF BULK AT MOST 1048576: true; the input reads as it did. -/
def fnExactFactorsOfUptoRow : OpenClaim := { program := "ytffilcocndllcaa", sum := "c6a7ec5e2cf2a13e4a403675ffa83be0a47b3d373e3651d2855d386214b71c9d", func := "loop.example/g03301/laws.FnExactFactorsOf", spec := "fnExactFactorsOf", apart := false, narrowed := true }
def FnExactFactorsOfUptoSaid : Prop := fnExactFactorsOfUptoRow.holds Try.pinned (OpenSpec.upto fnExactFactorsOfSpec)

/-- 'laws.FnExactProofOfFour', WHERE WHAT IT READS IS OF BULK AT MOST 1048576: true; the input reads as it did. -/
def fnExactProofOfFourUptoRow : OpenClaim := { program := "ytffilcocndllcaa", sum := "c6a7ec5e2cf2a13e4a403675ffa83be0a47b3d373e3651d2855d386214b71c9d", func := "loop.example/g03301/laws.FnExactProofOfFour", spec := "fnExactProofOfFour", apart := false, narrowed := true }
def FnExactProofOfFourUptoSaid : Prop := fnExactProofOfFourUptoRow.holds Try.pinned (OpenSpec.upto fnExactProofOfFourSpec)

/-- 'laws.FnExactFindProof', WHERE WHAT IT READS IS OF BULK AT MOST 1048576: true; the input reads as it did. -/
def fnExactFindProofUptoRow : OpenClaim := { program := "ytffilcocndllcaa", sum := "c6a7ec5e2cf2a13e4a403675ffa83be0a47b3d373e3651d2855d386214b71c9d", func := "loop.example/g03301/laws.FnExactFindProof", spec := "fnExactFindProof", unfollowed := true, recurses := true, leaving := true, apart := false, narrowed := true }
def FnExactFindProofUptoSaid : Prop := fnExactFindProofUptoRow.holds Try.pinned (OpenSpec.upto fnExactFindProofSpec)

/-- 'laws.FnExactFewestRows', WHERE WHAT IT READS IS OF BULK AT MOST 1048576: true; the input reads as it did. -/
def fnExactFewestRowsUptoRow : OpenClaim := { program := "ytffilcocndllcaa", sum := "c6a7ec5e2cf2a13e4a403675ffa83be0a47b3d373e3651d2855d386214b71c9d", func := "loop.example/g03301/laws.FnExactFewestRows", spec := "fnExactFewestRows", unfollowed := true, recurses := true, leaving := true, apart := false, narrowed := true }
def FnExactFewestRowsUptoSaid : Prop := fnExactFewestRowsUptoRow.holds Try.pinned (OpenSpec.upto fnExactFewestRowsSpec)

/-- 'laws.FnExactCornersOf', WHERE WHAT IT READS IS OF BULK AT MOST 1048576: true; the input reads as it did. -/
def fnExactCornersOfUptoRow : OpenClaim := { program := "ytffilcocndllcaa", sum := "c6a7ec5e2cf2a13e4a403675ffa83be0a47b3d373e3651d2855d386214b71c9d", func := "loop.example/g03301/laws.FnExactCornersOf", spec := "fnExactCornersOf", inPlace := ["(*sync.WaitGroup).Add", "internal/race.ReleaseMerge", "internal/race.Disable", "internal/race.Enable", "internal/synctest.IsInBubble", "internal/synctest.Associate[sync.WaitGroup]", "sync.fatal", "sync/atomic.OrUint64", "sync/atomic.AddUint64", "internal/race.Read", "sync/atomic.LoadUint64", "sync/atomic.StoreUint64", "internal/synctest.Disassociate[sync.WaitGroup]", "sync.runtime_Semrelease", "(*sync.WaitGroup).Done", "(*sync.WaitGroup).Wait", "internal/race.Acquire", "internal/synctest.IsAssociated[sync.WaitGroup]", "sync/atomic.CompareAndSwapUint64", "internal/race.Write", "sync.runtime_SemacquireWaitGroup"], unfollowed := true, recurses := true, leaving := true, apart := false, narrowed := true }
def FnExactCornersOfUptoSaid : Prop := fnExactCornersOfUptoRow.holds Try.pinned (OpenSpec.upto fnExactCornersOfSpec)

/-- 'laws.FnThreeRows', WHERE WHAT IT READS IS OF BULK AT MOST 1048576: true; the input reads as it did. -/
def fnThreeRowsUptoRow : OpenClaim := { program := "ytffilcocndllcaa", sum := "c6a7ec5e2cf2a13e4a403675ffa83be0a47b3d373e3651d2855d386214b71c9d", func := "loop.example/g03301/laws.FnThreeRows", spec := "fnThreeRows", inPlace := ["(*sync.WaitGroup).Add", "internal/race.ReleaseMerge", "internal/race.Disable", "internal/race.Enable", "internal/synctest.IsInBubble", "internal/synctest.Associate[sync.WaitGroup]", "sync.fatal", "sync/atomic.OrUint64", "sync/atomic.AddUint64", "internal/race.Read", "sync/atomic.LoadUint64", "sync/atomic.StoreUint64", "internal/synctest.Disassociate[sync.WaitGroup]", "sync.runtime_Semrelease", "(*sync.WaitGroup).Done", "(*sync.WaitGroup).Wait", "internal/race.Acquire", "internal/synctest.IsAssociated[sync.WaitGroup]", "sync/atomic.CompareAndSwapUint64", "internal/race.Write", "sync.runtime_SemacquireWaitGroup"], unfollowed := true, recurses := true, leaving := true, apart := false, narrowed := true }
def FnThreeRowsUptoSaid : Prop := fnThreeRowsUptoRow.holds Try.pinned (OpenSpec.upto fnThreeRowsSpec)

/-- 'laws.FnProofs', WHERE WHAT IT READS IS OF BULK AT MOST 1048576: true; the input reads as it did. -/
def fnProofsUptoRow : OpenClaim := { program := "ytffilcocndllcaa", sum := "c6a7ec5e2cf2a13e4a403675ffa83be0a47b3d373e3651d2855d386214b71c9d", func := "loop.example/g03301/laws.FnProofs", spec := "fnProofs", inPlace := ["internal/abi.NoEscape", "internal/bytealg.MakeNoZero"], apart := false, narrowed := true }
def FnProofsUptoSaid : Prop := fnProofsUptoRow.holds Try.pinned (OpenSpec.upto fnProofsSpec)

/-- 'laws.FnClamped', WHERE WHAT IT READS IS OF BULK AT MOST 1048576: true; the input reads as it did. -/
def fnClampedUptoRow : OpenClaim := { program := "ytffilcocndllcaa", sum := "c6a7ec5e2cf2a13e4a403675ffa83be0a47b3d373e3651d2855d386214b71c9d", func := "loop.example/g03301/laws.FnClamped", spec := "fnClamped", apart := false, narrowed := true }
def FnClampedUptoSaid : Prop := fnClampedUptoRow.holds Try.pinned (OpenSpec.upto fnClampedSpec)

/-- 'laws.FnPoints', WHERE WHAT IT READS IS OF BULK AT MOST 1048576: true; the input reads as it did. -/
def fnPointsUptoRow : OpenClaim := { program := "ytffilcocndllcaa", sum := "c6a7ec5e2cf2a13e4a403675ffa83be0a47b3d373e3651d2855d386214b71c9d", func := "loop.example/g03301/laws.FnPoints", spec := "fnPoints", apart := false, narrowed := true }
def FnPointsUptoSaid : Prop := fnPointsUptoRow.holds Try.pinned (OpenSpec.upto fnPointsSpec)

/-- 'laws.FnThrusts', WHERE WHAT IT READS IS OF BULK AT MOST 1048576: true; the input reads as it did. -/
def fnThrustsUptoRow : OpenClaim := { program := "ytffilcocndllcaa", sum := "c6a7ec5e2cf2a13e4a403675ffa83be0a47b3d373e3651d2855d386214b71c9d", func := "loop.example/g03301/laws.FnThrusts", spec := "fnThrusts", apart := false, narrowed := true }
def FnThrustsUptoSaid : Prop := fnThrustsUptoRow.holds Try.pinned (OpenSpec.upto fnThrustsSpec)

end Rows
end Go.Proofs.Ytffilcocndllcaa
