/- The walks of the laws' helpers on stones. No condition. -/
import Derived.Test.YtigcmhdjafglbaaSlT
namespace Go.Proofs.Ytigcmhdjafglbaa
open Go.RowKit
set_option linter.unusedVariables false
set_option maxRecDepth 100000 in
theorem szStone_any (a : Value) (n lo hi : Nat) (f : Nat → Nat → Value) (left : Int) (w : World) (hs : Sl w lo hi 2 a n f) (hn : n ≤ maxLen) (h0 : 0 ≤ left) (h1 : left ≤ 1048576) :
    Calls Try.prog 64 #[.agg #[a], .int .i64 left] w fun e w' => e = .returned (.int .i64 (szI left n)) ∧ Up w w' := by
  have hup0 : Up w (w.alloc (.cells #[a] 75)) := (by repeat (first | with_reducible exact Up.refl _ | with_reducible refine Up.alloc ?_ _ | with_reducible refine Up.drew ?_ | with_reducible refine Up.drewN ?_ _ | (with_reducible refine Up.setCell ?_ (by first | omega | (simp; done) | (simp; omega)) _) | with_reducible assumption | (with_reducible refine Up.trans ?_ (by with_reducible assumption))))
  by_cases k1 : (n : Int) ≤ left
  · have e1 : szI left n = left - (n : Int) := by unfold szI; rw [if_neg (by omega)]
    have j1 : ¬ (left - (n : Int) < 0) := by omega
    rw [e1]
    go_enter Try.func64, Try.ntmps64
    go_wp2_with fail
    (go_at_call 98; (with_reducible refine (szPointS_any _ _ _ _ _ _ _ (hs.up hup0) hn (by omega) (by omega)).mono ?_); rintro e wx ⟨rfl, rfl⟩)
    go_wp2
    go_ret
    exact ⟨rfl, (by repeat (first | with_reducible exact Up.refl _ | with_reducible refine Up.alloc ?_ _ | with_reducible refine Up.drew ?_ | with_reducible refine Up.drewN ?_ _ | (with_reducible refine Up.setCell ?_ (by first | omega | (simp; done) | (simp; omega)) _) | with_reducible assumption | (with_reducible refine Up.trans ?_ (by with_reducible assumption))))⟩
  · have e1 : szI left n = -1 := by unfold szI; rw [if_pos (by omega)]
    rw [e1]
    go_enter Try.func64, Try.ntmps64
    go_wp2_with fail
    (go_at_call 98; (with_reducible refine (szPointS_any _ _ _ _ _ _ _ (hs.up hup0) hn (by omega) (by omega)).mono ?_); rintro e wx ⟨rfl, rfl⟩)
    go_wp2
    go_ret
    exact ⟨rfl, (by repeat (first | with_reducible exact Up.refl _ | with_reducible refine Up.alloc ?_ _ | with_reducible refine Up.drew ?_ | with_reducible refine Up.drewN ?_ _ | (with_reducible refine Up.setCell ?_ (by first | omega | (simp; done) | (simp; omega)) _) | with_reducible assumption | (with_reducible refine Up.trans ?_ (by with_reducible assumption))))⟩
set_option maxRecDepth 100000 in
theorem eqStone_same (a a' : Value) (n l1 l2 l3 l4 : Nat) (R : Nat → Nat → Int) (w : World) (hs : Sl w l1 l2 2 a n (intF R)) (ht : Sl w l3 l4 2 a' n (intF R)) (hn : n ≤ 1048576) :
    Calls Try.prog 68 #[.agg #[a], .agg #[a']] w fun e w' => e = .returned (.bool true) ∧ Up w w' := by
  have hup0 : Up w ((w.alloc (.cells #[a] 80)).alloc (.cells #[a'] 80)) := (by repeat (first | with_reducible exact Up.refl _ | with_reducible refine Up.alloc ?_ _ | with_reducible refine Up.drew ?_ | with_reducible refine Up.drewN ?_ _ | (with_reducible refine Up.setCell ?_ (by first | omega | (simp; done) | (simp; omega)) _) | with_reducible assumption | (with_reducible refine Up.trans ?_ (by with_reducible assumption))))
  go_enter Try.func68, Try.ntmps68
  go_wp2_with fail
  (go_at_call 106; (with_reducible refine (eqPointS_same _ _ _ _ _ _ _ _ _ (hs.up hup0) (ht.up hup0) hn).mono ?_); rintro e w1 ⟨rfl, hb1⟩; obtain ⟨hc1, hf1⟩ := hb1.cells; have hs1 := hb1.size; (try simp at hs1); (try have hs1_0a : w.heap.size < w1.heap.size := by omega); (try have hs1_0a' : w.heap.size ≤ w1.heap.size := by omega); (try have hs1_0b : w.heap.size + 1 < w1.heap.size := by omega); (try have hs1_0b' : w.heap.size + 1 ≤ w1.heap.size := by omega); (try have hs1_0c : w.heap.size + 1 + 1 < w1.heap.size := by omega); (try have hs1_0c' : w.heap.size + 1 + 1 ≤ w1.heap.size := by omega))
  go_wp2
  go_ret
  exact ⟨rfl, (by repeat (first | with_reducible exact Up.refl _ | with_reducible refine Up.alloc ?_ _ | with_reducible refine Up.drew ?_ | with_reducible refine Up.drewN ?_ _ | (with_reducible refine Up.setCell ?_ (by first | omega | (simp; done) | (simp; omega)) _) | with_reducible assumption | (with_reducible refine Up.trans ?_ (by with_reducible assumption))))⟩
/-- What the copy of a stone ends in. -/
def TsP (w : World) (n : Nat) (R : Nat → Nat → Int) (e : Ending) (w' : World) : Prop :=
  ∃ A c, e = .returned (.agg #[.slice A n c]) ∧ Wr w' w.heap.size w'.heap.size 2 (.slice A n c) n (intF R) ∧ Up w w'
set_option maxRecDepth 100000 in
theorem toStone_any (a : Value) (n lo hi : Nat) (R : Nat → Nat → Int) (w : World) (hs : Sl w lo hi 2 a n (intF R)) (hn : n ≤ 1048576) :
    Calls Try.prog 66 #[.agg #[a]] w (TsP w n R) := by
  have ha := Lib.hid hs
  clear hs
  go_enter Try.func66, Try.ntmps66
  go_wp2_with fail
  (go_at_call 101; (with_reducible refine (toPointS_any _ _ _ _ _ _ (ha.out.up (by repeat (first | with_reducible exact Up.refl _ | with_reducible refine Up.alloc ?_ _ | with_reducible refine Up.drew ?_ | with_reducible refine Up.drewN ?_ _ | (with_reducible refine Up.setCell ?_ (by first | omega | (simp; done) | (simp; omega)) _) | with_reducible assumption | (with_reducible refine Up.trans ?_ (by with_reducible assumption))))) hn).mono ?_); rintro e w1 ⟨v1, rfl, hv1, hb1⟩)
  have HV1 := Lib.hid hv1
  obtain ⟨hz1, A1, c1, rfl, hc1, hx1⟩ := hv1
  clear hx1
  have hsz := hb1.size
  simp at hsz
  have hq2 : w1.cell? ⟨w.heap.size + 1 + 1, 0, none⟩ = some (.slice none 0 0) := (hb1.cells.1 _ _ (by simp)).trans (by go_simp)
  have hf2 : ∀ x, w1.frozen? ⟨w.heap.size + 1 + 1, x, none⟩ = false := fun x => (hb1.cells.2 _ _ (by simp)).trans (by go_simp)
  have hp0 : w1.cell? ⟨w.heap.size + 1, 0, none⟩ = some (.slice none 0 0) := (hb1.cells.1 _ _ (by simp)).trans (by go_simp)
  have hf1 : ∀ x, w1.frozen? ⟨w.heap.size + 1, x, none⟩ = false := fun x => (hb1.cells.2 _ _ (by simp)).trans (by go_simp)
  have hu1 : Up w w1 := (by repeat (first | with_reducible exact Up.refl _ | with_reducible refine Up.alloc ?_ _ | with_reducible refine Up.drew ?_ | with_reducible refine Up.drewN ?_ _ | (with_reducible refine Up.setCell ?_ (by first | omega | (simp; done) | (simp; omega)) _) | with_reducible assumption | (with_reducible refine Up.trans ?_ (by with_reducible assumption))))
  go_wp2
  have C2 : Chg w.heap.size (w.heap.size + 3) w1 ((w1.setCell ⟨w.heap.size + 1 + 1, 0, none⟩ (.slice A1 n c1)).setCell ⟨w.heap.size + 1, 0, none⟩ (.slice A1 n c1)) :=
    ((Chg.refl _ _ w1).setCell (by simp; omega) (by simp) _).setCell (by simp) (by simp) _
  have W1 := (HV1.out.off C2 (Or.inr (by simp))).wide (l2 := w.heap.size) (h2 := ((w1.setCell ⟨w.heap.size + 1 + 1, 0, none⟩ (.slice A1 n c1)).setCell ⟨w.heap.size + 1, 0, none⟩ (.slice A1 n c1)).heap.size) (by simp; omega) (by simp) (Nat.le_refl _)
  exact bodyPost_ret (v := .agg #[.slice A1 n c1]) (by simp only [results]; go_simp; try simp) rfl ⟨_, _, rfl, W1, (by repeat (first | with_reducible exact Up.refl _ | with_reducible refine Up.alloc ?_ _ | with_reducible refine Up.drew ?_ | with_reducible refine Up.drewN ?_ _ | (with_reducible refine Up.setCell ?_ (by first | omega | (simp; done) | (simp; omega)) _) | with_reducible assumption | (with_reducible refine Up.trans ?_ (by with_reducible assumption))))⟩
end Go.Proofs.Ytigcmhdjafglbaa
