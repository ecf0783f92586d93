/- How the arguments of the laws read: structs of integers. No condition. -/
import Derived.Test.YtaealkfnhhmmcaaBase
import Derived.Lib.SmallJoins
import Derived.ChangeOld
namespace Go.Proofs.Ytaealkfnhhmmcaa
open Go.RowKit Go.WideShapes Go.ChangeShapes Go.Joins

theorem own : ownKnob Try.prog.godebug = none := by kernel_rfl
theorem laidOut : laidOutB Try.prog = true := by kernel_rfl


section
variable {H : Type} {enc : TypeId × Value → H} {w : World} {base : Nat} {spare : Nat → Bool} {held : Bool} {v : Value} {d : DataW H} {p : List MemPlace}
end
end Go.Proofs.Ytaealkfnhhmmcaa
