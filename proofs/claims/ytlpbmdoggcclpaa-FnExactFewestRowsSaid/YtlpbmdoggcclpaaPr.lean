/- The walks of the laws' helpers on proofs: sizes, comparisons, marks. No condition. -/
import Derived.Test.YtlpbmdoggcclpaaInt
namespace Go.Proofs.Ytlpbmdoggcclpaa
open Go.RowKit
set_option linter.unusedVariables false
set_option maxRecDepth 100000 in
theorem eqProof_same (a b a' b' : Value) (n m l1 l2 l3 l4 l5 l6 l7 l8 : Nat) (R F : Nat → Nat → Int) (w : World) (hs : Sl w l1 l2 1 a n (intF R)) (hs' : Sl w l3 l4 1 b m (intF F)) (ht : Sl w l5 l6 1 a' n (intF R)) (ht' : Sl w l7 l8 1 b' m (intF F)) (hn : n ≤ 1048576) (hm : m ≤ 1048576) :
    Calls Try.prog 12 #[.agg #[a, b], .agg #[a', b']] w fun e w' => e = .returned (.bool true) ∧ Up w w' := by
  have hup0 : Up w ((w.alloc (.cells #[a, b] 26)).alloc (.cells #[a', b'] 26)) := (by repeat (first | with_reducible exact Up.refl _ | with_reducible refine Up.alloc ?_ _ | with_reducible refine Up.drew ?_ | with_reducible refine Up.drewN ?_ _ | (with_reducible refine Up.setCell ?_ (by first | omega | (simp; done) | (simp; omega)) _) | with_reducible assumption | (with_reducible refine Up.trans ?_ (by with_reducible assumption))))
  go_enter Try.func12, Try.ntmps12
  go_wp2_with fail
  (go_at_call 44; (with_reducible refine (eqIntS_same _ _ _ _ _ _ _ _ _ (hs.up hup0) (ht.up hup0) hn).mono ?_); rintro e w1 ⟨rfl, hb1⟩; obtain ⟨hc1, hf1⟩ := hb1.cells; have hs1 := hb1.size; (try simp at hs1); (try have hs1_0a : w.heap.size < w1.heap.size := by omega); (try have hs1_0a' : w.heap.size ≤ w1.heap.size := by omega); (try have hs1_0b : w.heap.size + 1 < w1.heap.size := by omega); (try have hs1_0b' : w.heap.size + 1 ≤ w1.heap.size := by omega); (try have hs1_0c : w.heap.size + 1 + 1 < w1.heap.size := by omega); (try have hs1_0c' : w.heap.size + 1 + 1 ≤ w1.heap.size := by omega))
  have hup1 : Up w w1 := hup0.trans hb1
  have q0 : w1.cell? ⟨w.heap.size, 1, none⟩ = some b := (hb1.cells.1 _ _ (by simp <;> omega)).trans (by go_simp)
  have q1 : w1.cell? ⟨w.heap.size + 1, 1, none⟩ = some b' := (hb1.cells.1 _ _ (by simp <;> omega)).trans (by go_simp)
  go_wp2_with fail
  (go_at_call 44; (with_reducible refine (eqIntS_same _ _ _ _ _ _ _ _ _ (hs'.up hup1) (ht'.up hup1) hm).mono ?_); rintro e w2 ⟨rfl, hb2⟩; obtain ⟨hc2, hf2⟩ := hb2.cells; have hs2 := hb2.size; (try simp at hs2); (try have hs2_0a : w.heap.size < w2.heap.size := by omega); (try have hs2_0a' : w.heap.size ≤ w2.heap.size := by omega); (try have hs2_0b : w.heap.size + 1 < w2.heap.size := by omega); (try have hs2_0b' : w.heap.size + 1 ≤ w2.heap.size := by omega); (try have hs2_0c : w.heap.size + 1 + 1 < w2.heap.size := by omega); (try have hs2_0c' : w.heap.size + 1 + 1 ≤ w2.heap.size := by omega); (try have hs2_1a : w1.heap.size < w2.heap.size := by omega); (try have hs2_1a' : w1.heap.size ≤ w2.heap.size := by omega); (try have hs2_1b : w1.heap.size + 1 < w2.heap.size := by omega); (try have hs2_1b' : w1.heap.size + 1 ≤ w2.heap.size := by omega); (try have hs2_1c : w1.heap.size + 1 + 1 < w2.heap.size := by omega); (try have hs2_1c' : w1.heap.size + 1 + 1 ≤ w2.heap.size := by omega))
  go_wp2
  go_ret
  exact ⟨rfl, (by repeat (first | with_reducible exact Up.refl _ | with_reducible refine Up.alloc ?_ _ | with_reducible refine Up.drew ?_ | with_reducible refine Up.drewN ?_ _ | (with_reducible refine Up.setCell ?_ (by first | omega | (simp; done) | (simp; omega)) _) | with_reducible assumption | (with_reducible refine Up.trans ?_ (by with_reducible assumption))))⟩
end Go.Proofs.Ytlpbmdoggcclpaa
