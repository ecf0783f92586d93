/- The walk of DrawProofOk. No condition. -/
import Derived.Test.YtchldcjieijkaaaDrawC
namespace Go.Proofs.Ytchldcjieijkaaa
open Go.RowKit
set_option linter.unusedVariables false
set_option maxHeartbeats 2000000 in
set_option maxRecDepth 100000 in
theorem DrawProofOk_any (u : Value) (n lo hi : Nat) (B : Nat → Int) (w : World) (hs : Sl w lo hi 1 u n (bytF B)) (hn : n ≤ 1048576) (hB : ∀ i, i < n → 0 ≤ B i ∧ B i ≤ 255) : Calls Try.prog 5 #[u] w (L5P w) := by
  have huA : Up w (w.alloc (.cells #[.slice none 0 0, .slice none 0 0] 27)) := Up.alloc (Up.refl w) _
  have hzA : (w.alloc (.cells #[.slice none 0 0, .slice none 0 0] 27)).heap.size = w.heap.size + 1 := by simp
  have g0 := heap_alloc_new w (.cells #[.slice none 0 0, .slice none 0 0] 27)
  go_enter Try.func5, Try.ntmps5
  go_wp2_with fail
  (go_at_call 14; (with_reducible refine (l01New_any _ _ _ _ _ _ (hs.up huA) hn hB).mono ?_); rintro e w1 ⟨c, rfl, h0, hC1, hU1⟩)
  go_wp2_with fail
  (go_at_call 13; (with_reducible refine (l15Pair_any _ _ (w.alloc (.cells #[.slice none 0 0, .slice none 0 0] 27)) hC1 h0 hU1).mono ?_); rintro e w2 ⟨x, y, z, m, R, P, F, l1, h1, l2, h2, l3, h3, rfl, SR, SP, SF, hm, e1, e2, e3, hU2⟩)
  have g2 := (Below.block hU2 w.heap.size (by omega)).trans g0
  have hz2 := hU2.size
  have hu4 : Up w2 (w2.alloc (.cells #[y, z] 27)) := Up.alloc (Up.refl w2) _
  have g4 := (Below.block hu4 w.heap.size (by omega)).trans g2
  have k4 := heap_alloc_new w2 (.cells #[y, z] 27)
  have SR4 := SR.up hu4
  have SP4 := SP.up hu4
  have SF4 := SF.up hu4
  have hU4 := huA.trans (hU2.trans hu4)
  have hz4 : w2.heap.size < (w2.alloc (.cells #[y, z] 27)).heap.size := by simp
  clear SR SP SF hC1 hU1 hU2 g0 g2 h0
  obtain ⟨_, A1, c1, rfl, hc1, hx1⟩ := id SR4
  obtain ⟨_, A2, c2, rfl, hc2, hx2⟩ := id SP4
  obtain ⟨_, A3, c3, rfl, hc3, hx3⟩ := id SF4
  clear hx1 hx2 hx3 hc1 hc2 hc3
  obtain ⟨wb, hwb⟩ : ∃ wb, w2.alloc (.cells #[.slice A2 2 c2, .slice A3 m c3] 27) = wb := ⟨_, rfl⟩
  rw [hwb] at hz4 g4 k4 SR4 SP4 SF4 hU4
  clear hu4
  obtain ⟨b0, b1, bf, bl⟩ := two_at k4
  obtain ⟨o0, o1, of, ol⟩ := two_at g4
  have hne : w.heap.size ≠ w2.heap.size := by omega
  have HB := Lib.hid (And.intro b0 b1)
  have HBd : Hid (wb.drew.cell? ⟨w2.heap.size, 0, none⟩ = some (.slice A2 2 c2) ∧ wb.drew.cell? ⟨w2.heap.size, 1, none⟩ = some (.slice A3 m c3)) := HB
  have HBw : Hid ((w2.alloc (.cells #[.slice A2 2 c2, .slice A3 m c3] 27)).drew.cell? ⟨w2.heap.size, 0, none⟩ = some (.slice A2 2 c2) ∧ (w2.alloc (.cells #[.slice A2 2 c2, .slice A3 m c3] 27)).drew.cell? ⟨w2.heap.size, 1, none⟩ = some (.slice A3 m c3)) := by rw [hwb]; exact HBd
  clear b0 b1 g4 k4 bf
  go_wp2_with fail
  (try rw [hwb])
  go_region_held3 (fun w' => w'.cell? ⟨w2.heap.size, 0, none⟩ = some (.slice A2 2 c2) ∧ w'.cell? ⟨w2.heap.size, 1, none⟩ = some (.slice A3 m c3)) (repeat (first | with_reducible exact HB.out | with_reducible exact HBd.out | with_reducible exact HBw.out | with_reducible refine pk2_drew ?_ | with_reducible refine pk2_set (by dsimp only; omega) ?_)) (fail)
  clear HB HBd HBw
  have hUe : Up w (((wb.setCell ⟨w.heap.size, 0, none⟩ (.slice A2 2 c2)).setCell ⟨w.heap.size, 1, none⟩ (.slice A3 m c3)).drew) := (((hU4.setCell (p := ⟨w.heap.size, 0, none⟩) (Nat.le_refl _) _).setCell (p := ⟨w.heap.size, 1, none⟩) (Nat.le_refl _) _)).drew
  have hCh : Chg w.heap.size (w.heap.size + 1) wb (((wb.setCell ⟨w.heap.size, 0, none⟩ (.slice A2 2 c2)).setCell ⟨w.heap.size, 1, none⟩ (.slice A3 m c3)).drew) := (((Chg.refl w.heap.size (w.heap.size + 1) wb).setCell (p := ⟨w.heap.size, 0, none⟩) (Nat.le_refl _) (Nat.lt_succ_self _) (.slice A2 2 c2)).setCell (p := ⟨w.heap.size, 1, none⟩) (Nat.le_refl _) (Nat.lt_succ_self _) (.slice A3 m c3))
  have TR := SR4.off hCh (.inr (by omega))
  have TP := SP4.off hCh (.inr (by omega))
  have TF := SF4.off hCh (.inr (by omega))
  have z0 : (((wb.setCell ⟨w.heap.size, 0, none⟩ (.slice A2 2 c2)).setCell ⟨w.heap.size, 1, none⟩ (.slice A3 m c3)).drew).cell? ⟨w.heap.size, 0, none⟩ = some (.slice A2 2 c2) := by show ((wb.setCell _ _).setCell _ _).cell? _ = _; go_simp
  have z1 : (((wb.setCell ⟨w.heap.size, 0, none⟩ (.slice A2 2 c2)).setCell ⟨w.heap.size, 1, none⟩ (.slice A3 m c3)).drew).cell? ⟨w.heap.size, 1, none⟩ = some (.slice A3 m c3) := by show ((wb.setCell _ _).setCell _ _).cell? _ = _; go_simp
  generalize ((wb.setCell ⟨w.heap.size, 0, none⟩ (.slice A2 2 c2)).setCell ⟨w.heap.size, 1, none⟩ (.slice A3 m c3)).drew = we at z0 z1 TR TP TF hUe ⊢
  clear SR4 SP4 SF4 hCh o0 o1 of hne hU4 hwb
  rename_i hheld
  (try clear hheld)
  go_wp2
  exact bodyPost_ret (v := .tuple #[.slice A1 3 c1, .agg #[.slice A2 2 c2, .slice A3 m c3]]) (by simp only [results]; go_simp; try simp) rfl ⟨_, _, _, m, R, P, F, _, _, _, _, _, _, rfl, TR, TP, TF, hm, by omega, by omega, by omega, hUe⟩
end Go.Proofs.Ytchldcjieijkaaa
