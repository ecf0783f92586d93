/- The walks of the draws of points. No condition. -/
import Derived.Test.YtchldcjieijkaaaDraw3
import Derived.Deep.RegionHeld3
namespace Go.Proofs.Ytchldcjieijkaaa
open Go.RowKit
set_option linter.unusedVariables false
theorem ChB.far {c p o : Nat} {w a : World} (h : ChB c w a) (hp : w.heap.size ≤ p) (u : Value) : ChB c w (a.setCell ⟨p, o, none⟩ u) := by
  refine ⟨⟨by have := h.1.1; simpa [World.setCell] using this, fun x o' hx hd => ?_⟩, fun x hx hc => ?_⟩
  · obtain ⟨h1, h2⟩ := h.1.2 x o' hx hd
    exact ⟨(World.cell?_setCell_other _ _ _ _ (by intro e; injection e with e _; omega)).trans h1, by rw [World.frozen?_setCell]; exact h2⟩
  · rw [← h.2 x hx hc]
    simp only [World.setCell, Array.getElem?_modify]
    rw [if_neg (by omega)]
theorem Cur.far {c p o : Nat} {a : World} (h : Cur a c) (hp : c < p) (u : Value) : Cur (a.setCell ⟨p, o, none⟩ u) c := by
  have hC : Chg p (p + 1) a (a.setCell ⟨p, o, none⟩ u) := (Chg.refl _ _ a).setCell (p := ⟨p, o, none⟩) (Nat.le_refl _) (Nat.lt_succ_self _) u
  obtain ⟨A, m, cp, i, hh, B, lo, hi, q0, q1, q2, qf, ql, qh, qn, qi, qI, qs, qB⟩ := h
  have e := fun o' => hC.2 c o' ql (.inl hp)
  exact ⟨A, m, cp, i, hh, B, lo, hi, (e 0).1.trans q0, (e 1).1.trans q1, (e 2).1.trans q2, fun x => (e x).2.trans (qf x), Nat.lt_of_lt_of_le ql hC.1, qh, qn, qi, qI, qs.off hC (.inl (by omega)), qB⟩
theorem pk_set {W : World} {b1 b2 : Nat} {p : Addr} {v a b c d : Value} (hp1 : p.block ≠ b1) (hp2 : p.block ≠ b2) (h : W.cell? ⟨b1, 0, none⟩ = some a ∧ W.cell? ⟨b1, 1, none⟩ = some b ∧ W.cell? ⟨b2, 0, none⟩ = some c ∧ W.cell? ⟨b2, 1, none⟩ = some d) :
    (W.setCell p v).cell? ⟨b1, 0, none⟩ = some a ∧ (W.setCell p v).cell? ⟨b1, 1, none⟩ = some b ∧ (W.setCell p v).cell? ⟨b2, 0, none⟩ = some c ∧ (W.setCell p v).cell? ⟨b2, 1, none⟩ = some d := by
  obtain ⟨h1, h2, h3, h4⟩ := h
  refine ⟨(World.cell?_setCell_other _ _ _ _ ?_).trans h1, (World.cell?_setCell_other _ _ _ _ ?_).trans h2, (World.cell?_setCell_other _ _ _ _ ?_).trans h3, (World.cell?_setCell_other _ _ _ _ ?_).trans h4⟩
  all_goals (rintro rfl; simp at hp1 hp2)
/-- A drawn point. -/
def ptV (v : Value) : Prop := ∃ x y : Int, v = .agg #[.int .i64 x, .int .i64 y] ∧ -5 ≤ x ∧ x ≤ 15 ∧ -3 ≤ y ∧ y ≤ 12
end Go.Proofs.Ytchldcjieijkaaa
