/- A region that draws its order: its test, part by part (a long region's test is too great for one kernel check). No condition. -/
import Derived.Test.YtlpbmdoggcclpaaBase
import Derived.Still
namespace Go.Proofs.Ytlpbmdoggcclpaa
open Go.RowKit
/-- The first k operations are listed. -/
def lsT (n : Nat) : Nat → Array Bool
  | 0 => Array.replicate n false
  | k + 1 => (lsT n k).setIfInBounds k true
def lexS (md : Region.Mode) (ops : Array Oper) (k : Nat) : Bool := (Region.ready md ops (lsT ops.size k)).contains k && Region.free md ops (lsT ops.size k) k
theorem lex_from {md : Region.Mode} {ops : Array Oper} (he : (Region.ready md ops (lsT ops.size ops.size)).isEmpty = true) (h : ∀ k, k < ops.size → lexS md ops k = true) :
    ∀ f k, k + f = ops.size → Region.lexFrom md ops f k (lsT ops.size k) = true
  | 0, k, e => by
    have : k = ops.size := by omega
    subst this
    exact he
  | f + 1, k, e => by
    have h1 := h k (by omega)
    rw [lexS, Bool.and_eq_true] at h1
    rw [Region.lexFrom, h1.1, h1.2]
    exact lex_from he h f (k + 1) (by omega)
theorem lex_parts {md : Region.Mode} {ops : Array Oper} (hs : Region.noSelect ops = true) (he : (Region.ready md ops (lsT ops.size ops.size)).isEmpty = true) (h : ∀ k, k < ops.size → lexS md ops k = true) : Region.lexB md ops = true := by
  rw [Region.lexB, hs]
  exact lex_from he h ops.size 0 (by omega)
/-- m tests from a on. -/
def lexC (md : Region.Mode) (ops : Array Oper) (a : Nat) : Nat → Bool
  | 0 => true
  | m + 1 => lexS md ops a && lexC md ops (a + 1) m
theorem lexC_get {md : Region.Mode} {ops : Array Oper} : ∀ {m a : Nat}, lexC md ops a m = true → ∀ k, a ≤ k → k < a + m → lexS md ops k = true
  | 0, a, _, k, h1, h2 => by omega
  | m + 1, a, h, k, h1, h2 => by
    rw [lexC, Bool.and_eq_true] at h
    by_cases e : k = a
    · subst e; exact h.1
    · exact lexC_get h.2 k (by omega) (by omega)
/-- The operations of region id. -/
def regOps (id : Nat) : Code → Option (Array Oper)
  | .region j o _ => if j = id then some o else none
  | .seq a b => (regOps id a).or (regOps id b)
  | .cond _ a b => (regOps id a).or (regOps id b)
  | .block _ a => regOps id a
  | .scope a => regOps id a
  | .loop a => regOps id a
  | _ => none
def regOf (id : Nat) (f : Func) : Array Oper := match f.body with | some c => (regOps id c).getD #[] | none => #[]
end Go.Proofs.Ytlpbmdoggcclpaa
