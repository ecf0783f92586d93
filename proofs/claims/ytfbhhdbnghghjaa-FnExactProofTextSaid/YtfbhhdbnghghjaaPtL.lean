/- The walk of the law ProofText: it returns true. No condition. -/
import Derived.Test.YtfbhhdbnghghjaaPt
import Derived.Test.YtfbhhdbnghghjaaHtL
import Derived.Test.YtfbhhdbnghghjaaOpen3
import Derived.Deep.RegionHeld3
namespace Go.Proofs.Ytfbhhdbnghghjaa
open Go.RowKit
set_option linter.unusedVariables false
theorem upS {W w' : World} (h : Up W w') : (∀ b o, b < W.heap.size → w'.cell? ⟨b, o, none⟩ = W.cell? ⟨b, o, none⟩) ∧ Up W w' := ⟨h.cells.1, h⟩
set_option maxHeartbeats 2000000 in
set_option maxRecDepth 100000 in
theorem law_ProofText (a b : Value) (n m : Nat) (R F : Nat → Nat → Int) (w : World) (hm : n ≤ maxLen) (hm' : m ≤ maxLen) (hA : Sl w 0 w.heap.size 1 a n (intF R)) (hB : Sl w 0 w.heap.size 1 b m (intF F)) (hI : ∀ i j, i < n → j < 1 → I64 (R i j)) (hJ : ∀ i j, i < m → j < 1 → I64 (F i j)) :
    Calls Try.prog 15 #[.agg #[a, b]] w fun e w' => e = .returned (.bool true) ∧ Up w w' := by
  have hup0 : Up w (w.alloc (.cells #[a, b] 66)) := (by repeat (first | with_reducible exact Up.refl _ | with_reducible refine Up.alloc ?_ _ | with_reducible refine Up.drew ?_ | with_reducible refine Up.drewN ?_ _ | (with_reducible refine Up.setCell ?_ (by first | omega | (simp; done) | (simp; omega)) _) | with_reducible assumption | (with_reducible refine Up.trans ?_ (by with_reducible assumption))))
  by_cases hnm : (n : Int) ≤ 1048576 ∧ (m : Int) ≤ 1048576 - (n : Int)
  rotate_left
  · go_enter Try.func15, Try.ntmps15
    go_wp2_with fail
    (go_at_call 48; (with_reducible refine (szProof_out _ _ _ _ _ _ _ _ _ _ _ _ (hA.up hup0) (hB.up hup0) hm hm' (by omega) (by omega) hnm).mono ?_); rintro e w1 ⟨rfl, hb1⟩; obtain ⟨hc1, hf1⟩ := hb1.cells; have hs1 := hb1.size; (try simp at hs1); (try have hs1_0a : w.heap.size < w1.heap.size := by omega); (try have hs1_0a' : w.heap.size ≤ w1.heap.size := by omega); (try have hs1_0b : w.heap.size + 1 < w1.heap.size := by omega); (try have hs1_0b' : w.heap.size + 1 ≤ w1.heap.size := by omega); (try have hs1_0c : w.heap.size + 1 + 1 < w1.heap.size := by omega); (try have hs1_0c' : w.heap.size + 1 + 1 ≤ w1.heap.size := by omega))
    go_wp2
    go_ret
    exact ⟨rfl, (by repeat (first | with_reducible exact Up.refl _ | with_reducible refine Up.alloc ?_ _ | with_reducible refine Up.drew ?_ | with_reducible refine Up.drewN ?_ _ | (with_reducible refine Up.setCell ?_ (by first | omega | (simp; done) | (simp; omega)) _) | with_reducible assumption | (with_reducible refine Up.trans ?_ (by with_reducible assumption))))⟩
  · obtain ⟨hn1, hn2⟩ := hnm
    have hn : n ≤ 1048576 := by omega
    have hn' : m ≤ 1048576 := by omega
    have hz : ¬ (1048576 - (n : Int) - (m : Int) < 0) := by omega
    go_enter Try.func15, Try.ntmps15
    go_wp2_with fail
    (go_at_call 48; (with_reducible refine (szProof_in _ _ _ _ _ _ _ _ _ _ _ _ (hA.up hup0) (hB.up hup0) hm hm' (by omega) (by omega) hn1 hn2).mono ?_); rintro e w1 ⟨rfl, hb1⟩; obtain ⟨hc1, hf1⟩ := hb1.cells; have hs1 := hb1.size; (try simp at hs1); (try have hs1_0a : w.heap.size < w1.heap.size := by omega); (try have hs1_0a' : w.heap.size ≤ w1.heap.size := by omega); (try have hs1_0b : w.heap.size + 1 < w1.heap.size := by omega); (try have hs1_0b' : w.heap.size + 1 ≤ w1.heap.size := by omega); (try have hs1_0c : w.heap.size + 1 + 1 < w1.heap.size := by omega); (try have hs1_0c' : w.heap.size + 1 + 1 ≤ w1.heap.size := by omega))
    have b10 : w1.cell? ⟨w.heap.size, 0, none⟩ = some a := (hb1.cells.1 _ _ (by simp)).trans (by simp [World.cell?_alloc_mark])
    have b11 : w1.cell? ⟨w.heap.size, 1, none⟩ = some b := (hb1.cells.1 _ _ (by simp)).trans (by simp [World.cell?_alloc_mark])
    have hu1 : Up w w1 := hup0.trans hb1
    go_wp2_with fail
    (go_at_call 50; (with_reducible refine (toProof_any _ _ _ _ _ _ _ _ _ _ _ (hA.up hu1) (hB.up hu1) hn hn').mono ?_); rintro e w2 ⟨x2, y2, mid2, rfl, hx2, hy2, hmid2, hb2⟩)
    go_wp2_with fail
    (go_at_call 49; (with_reducible refine (sProofText_any _ _ _ _ _ _ _ _ _ _ _ hx2.sl hy2.sl hn hn' hI hJ).mono ?_); rintro e w3 ⟨rfl, hb3⟩)
    have hs1 : w.heap.size < w1.heap.size := by have := hb1.size; simp at this; omega
    have hu13 : Up w1 w3 := hb2.trans hb3
    have hu3 : Up w w3 := hu1.trans hu13
    have b30 := (hu13.cells.1 _ _ hs1).trans b10
    have b31 := (hu13.cells.1 _ _ hs1).trans b11
    go_wp2_with fail
    (go_at_call 50; (with_reducible refine (toProof_any _ _ _ _ _ _ _ _ _ _ _ (hA.up hu3) (hB.up hu3) hn hn').mono ?_); rintro e w4 ⟨x4, y4, mid4, rfl, hx4, hy4, hmid4, hb4⟩)
    have hu4 : Up w w4 := hu3.trans hb4
    have HX := Lib.hid hx4
    have HY := Lib.hid hy4
    obtain ⟨_, A4, c4, rfl, _, hxx⟩ := hx4
    obtain ⟨_, A5, c5, rfl, _, hyy⟩ := hy4
    clear hxx hyy
    have hua : Up w4 (w4.alloc (.cells #[.slice A4 n c4, .slice A5 m c5] 69)) := Up.alloc (Up.refl w4) _
    go_wp2_with fail
    (go_at_call 51; (with_reducible refine (ProofText_any _ _ _ _ _ _ _ _ _ _ _ (HX.out.sl.up hua) (HY.out.sl.up hua) hn hn' hI hJ).mono ?_); rintro e w5 ⟨rfl, hb5⟩)
    have hs3 := hu13.size
    have hs4 := hb4.size
    have hs5 := hb5.size
    simp at hs5
    have hu45 : Up w4 w5 := hua.trans hb5
    have hu5 : Up w w5 := hu4.trans hu45
    have hs6 : w.heap.size < w5.heap.size := by omega
    have hs7 : w4.heap.size < w5.heap.size := by omega
    have b50 := ((hb4.trans hu45).cells.1 _ 0 (by omega)).trans b30
    have b51 := ((hb4.trans hu45).cells.1 _ 1 (by omega)).trans b31
    have c50 : w5.cell? ⟨w4.heap.size, 0, none⟩ = some (.slice A4 n c4) := (hb5.cells.1 _ _ (by simp)).trans (by simp [World.cell?_alloc_mark])
    have c51 : w5.cell? ⟨w4.heap.size, 1, none⟩ = some (.slice A5 m c5) := (hb5.cells.1 _ _ (by simp)).trans (by simp [World.cell?_alloc_mark])
    clear b10 b11 b30 b31
    go_wp2_with fail
    go_region_held3 (fun w' => (∀ b o, b < w5.heap.size → w'.cell? ⟨b, o, none⟩ = w5.cell? ⟨b, o, none⟩) ∧ Up w5 w') (exact upS (by repeat (first | with_reducible exact Up.refl _ | with_reducible refine Up.alloc ?_ _ | with_reducible refine Up.drew ?_ | with_reducible refine Up.drewN ?_ _ | (with_reducible refine Up.setCell ?_ (by first | omega | (simp; done) | (simp; omega)) _) | with_reducible assumption | (with_reducible refine Up.trans ?_ (by with_reducible assumption))))) (first | (go_at_call 50; (with_reducible refine (toProof_any _ _ _ _ _ _ _ _ _ _ _ (hA.up (Up.trans hu5 (by repeat (first | with_reducible exact Up.refl _ | with_reducible refine Up.alloc ?_ _ | with_reducible refine Up.drew ?_ | with_reducible refine Up.drewN ?_ _ | (with_reducible refine Up.setCell ?_ (by first | omega | (simp; done) | (simp; omega)) _) | with_reducible assumption | (with_reducible refine Up.trans ?_ (by with_reducible assumption)))))) (hB.up (Up.trans hu5 (by repeat (first | with_reducible exact Up.refl _ | with_reducible refine Up.alloc ?_ _ | with_reducible refine Up.drew ?_ | with_reducible refine Up.drewN ?_ _ | (with_reducible refine Up.setCell ?_ (by first | omega | (simp; done) | (simp; omega)) _) | with_reducible assumption | (with_reducible refine Up.trans ?_ (by with_reducible assumption)))))) hn hn').mono ?_); rintro e w6 ⟨x6, y6, mid6, rfl, hx6, hy6, hmid6, hb6⟩) | (go_at_call 52; (with_reducible refine (eqProof_same _ _ _ _ _ _ _ _ _ _ _ _ _ _ _ _ _ (HX.out.sl.up (Up.trans hu45 (by repeat (first | with_reducible exact Up.refl _ | with_reducible refine Up.alloc ?_ _ | with_reducible refine Up.drew ?_ | with_reducible refine Up.drewN ?_ _ | (with_reducible refine Up.setCell ?_ (by first | omega | (simp; done) | (simp; omega)) _) | with_reducible assumption | (with_reducible refine Up.trans ?_ (by with_reducible assumption)))))) (HY.out.sl.up (Up.trans hu45 (by repeat (first | with_reducible exact Up.refl _ | with_reducible refine Up.alloc ?_ _ | with_reducible refine Up.drew ?_ | with_reducible refine Up.drewN ?_ _ | (with_reducible refine Up.setCell ?_ (by first | omega | (simp; done) | (simp; omega)) _) | with_reducible assumption | (with_reducible refine Up.trans ?_ (by with_reducible assumption)))))) (hx6.sl.up (by repeat (first | with_reducible exact Up.refl _ | with_reducible refine Up.alloc ?_ _ | with_reducible refine Up.drew ?_ | with_reducible refine Up.drewN ?_ _ | (with_reducible refine Up.setCell ?_ (by first | omega | (simp; done) | (simp; omega)) _) | with_reducible assumption | (with_reducible refine Up.trans ?_ (by with_reducible assumption))))) (hy6.sl.up (by repeat (first | with_reducible exact Up.refl _ | with_reducible refine Up.alloc ?_ _ | with_reducible refine Up.drew ?_ | with_reducible refine Up.drewN ?_ _ | (with_reducible refine Up.setCell ?_ (by first | omega | (simp; done) | (simp; omega)) _) | with_reducible assumption | (with_reducible refine Up.trans ?_ (by with_reducible assumption))))) hn hn').mono ?_); rintro e w7 ⟨rfl, hb7⟩))
    all_goals
      go_wp2
      go_ret
      exact ⟨rfl, Up.trans hu5 (by repeat (first | with_reducible exact Up.refl _ | with_reducible refine Up.alloc ?_ _ | with_reducible refine Up.drew ?_ | with_reducible refine Up.drewN ?_ _ | (with_reducible refine Up.setCell ?_ (by first | omega | (simp; done) | (simp; omega)) _) | with_reducible assumption | (with_reducible refine Up.trans ?_ (by with_reducible assumption))))⟩
end Go.Proofs.Ytfbhhdbnghghjaa
