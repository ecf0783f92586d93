/- The walks of the laws' helpers on slices: copies, comparisons, marks. No condition. -/
import Derived.Test.YtbonjafjgiacpaaOpen2
namespace Go.Proofs.Ytbonjafjgiacpaa
open Go.RowKit
set_option linter.unusedVariables false

set_option maxRecDepth 100000 in
theorem cpRow_any (a0 : Int) (a1 : Int) (a2 : Int) (a3 : Int) (w : World) : Calls Try.prog 18 #[.agg #[.int .i64 a0, .int .i64 a1, .int .i64 a2, .int .i64 a3]] w fun e w' => e = .returned (.agg #[.int .i64 a0, .int .i64 a1, .int .i64 a2, .int .i64 a3]) ∧ Up w w' := by
  go_enter Try.func18, Try.ntmps18
  go_wp2
  exact bodyPost_ret (v := .agg #[.int .i64 a0, .int .i64 a1, .int .i64 a2, .int .i64 a3]) (by simp only [results]; go_simp; try simp) rfl ⟨rfl, (by repeat (first | with_reducible exact Up.refl _ | with_reducible refine Up.alloc ?_ _ | with_reducible refine Up.drew ?_ | with_reducible refine Up.drewN ?_ _ | (with_reducible refine Up.setCell ?_ (by first | omega | (simp; done) | (simp; omega)) _) | with_reducible assumption | (with_reducible refine Up.trans ?_ (by with_reducible assumption))))⟩

theorem szRowS_any (v : Value) (n lo hi : Nat) (f : Nat → Nat → Value) (left : Int) (w : World) (hs : Sl w lo hi 4 v n f) (hn : n ≤ maxLen) (h0 : 0 ≤ left) (h1 : left ≤ 1048576) : Calls Try.prog 4 #[v, .int .i64 left] w fun e w' => e = .returned (.int .i64 (szI left n)) ∧ w = w' := by
  obtain ⟨_, A, c, rfl, hc, _⟩ := hs
  unfold maxLen at hn
  by_cases h : left - (n : Int) < 0
  · rw [szI, if_pos h]
    go_enter Try.func4, Try.ntmps4
    go_wp2
    all_goals (go_ret; exact ⟨rfl, rfl⟩)
  · rw [szI, if_neg h]
    go_enter Try.func4, Try.ntmps4
    go_wp2
    all_goals (go_ret; exact ⟨rfl, rfl⟩)

theorem Row_info : (Try.prog.info? 35).map (fun i => (i.zero, i.size, i.bytes)) = some (some (.agg #[.int .i64 0, .int .i64 0, .int .i64 0, .int .i64 0]), 4, 32) := by kernel_rfl
set_option maxRecDepth 100000 in
theorem toRowS_any (v : Value) (n lo hi : Nat) (R : Nat → Nat → Int) (w : World) (hs : Sl w lo hi 4 v n (intF R)) (hn : n ≤ 1048576) : Calls Try.prog 6 #[v] w (ToP w 4 n (intF R)) := by
  obtain ⟨h0, A, c, rfl, hc, h⟩ := hs
  obtain ⟨i0, hi0, hz0, hz1, hz2⟩ := info_parts Row_info
  have hmk : ∀ W : World, (Instr.makeSlice 26 (.int .i64 (n : Int)) (.int .i64 (n : Int))).run Try.prog W = .ok (.slice (some ⟨W.heap.size, 0, none⟩) n n) (W.alloc (.cells (madeCells #[.int .i64 0, .int .i64 0, .int .i64 0, .int .i64 0] (n * 4)) 35)) := fun W => by
    have := run_mkN (P := Try.prog) 26 35 i0 (.agg #[.int .i64 0, .int .i64 0, .int .i64 0, .int .i64 0]) Try.underlying26 hi0 hz0 n (by rw [hz2]; omega) (by omega) W
    rw [hz1] at this
    exact this
  have H := Lib.hid h
  clear h
  have hfl : Fl (w.alloc (.cells (madeCells #[.int .i64 0, .int .i64 0, .int .i64 0, .int .i64 0] (n * 4)) 35)) w.heap.size 4 0 (n * 4) (intF R) := Fl.made _ _ _ _ _ _
  go_enter Try.func6, Try.ntmps6
  go_wp2
  go_loopw [4] (fun i wr => ∃ k : Nat, i = .int .i64 (k : Int) ∧ k ≤ n ∧ Fl wr w.heap.size 4 (k * 4) (n * 4) (intF R) ∧ Up w wr) (fun i _ => n - (intOf i).toNat)
  case atStart => exact ⟨0, rfl, Nat.zero_le _, by simpa using hfl, (by repeat (first | with_reducible exact Up.refl _ | with_reducible refine Up.alloc ?_ _ | with_reducible refine Up.drew ?_ | with_reducible refine Up.drewN ?_ _ | (with_reducible refine Up.setCell ?_ (by first | omega | (simp; done) | (simp; omega)) _) | with_reducible assumption | (with_reducible refine Up.trans ?_ (by with_reducible assumption))))⟩
  case round =>
    obtain ⟨k, rfl, hk, hF, hup⟩ := hrel
    by_cases hk1 : k < n
    · obtain ⟨b, o, rfl, hb1, hb2, hcs⟩ := H.out (by omega)
      have hbs : b < w.heap.size := by omega
      have hbs2 : b < wr.heap.size := Nat.lt_of_lt_of_le hbs hup.size
      have hc0 : w.cell? ⟨b, o + k * 4, none⟩ = some (.int .i64 (R k 0)) := by simpa [hgF, intF, Nat.add_assoc] using hcs k 0 hk1 (by omega)
      have hc1 : w.cell? ⟨b, o + k * 4 + 1, none⟩ = some (.int .i64 (R k 1)) := by simpa [hgF, intF, Nat.add_assoc] using hcs k 1 hk1 (by omega)
      have hc2 : w.cell? ⟨b, o + k * 4 + 2, none⟩ = some (.int .i64 (R k 2)) := by simpa [hgF, intF, Nat.add_assoc] using hcs k 2 hk1 (by omega)
      have hc3 : w.cell? ⟨b, o + k * 4 + 3, none⟩ = some (.int .i64 (R k 3)) := by simpa [hgF, intF, Nat.add_assoc] using hcs k 3 hk1 (by omega)
      have hg0 : wr.cell? ⟨b, o + k * 4, none⟩ = some (.int .i64 (R k 0)) := (hup.cells.1 _ _ (by omega)).trans hc0
      have hg1 : wr.cell? ⟨b, o + k * 4 + 1, none⟩ = some (.int .i64 (R k 1)) := (hup.cells.1 _ _ (by omega)).trans hc1
      have hg2 : wr.cell? ⟨b, o + k * 4 + 2, none⟩ = some (.int .i64 (R k 2)) := (hup.cells.1 _ _ (by omega)).trans hc2
      have hg3 : wr.cell? ⟨b, o + k * 4 + 3, none⟩ = some (.int .i64 (R k 3)) := (hup.cells.1 _ _ (by omega)).trans hc3
      clear hcs hc0 hc1 hc2 hc3
      go_wp2_with fail
      (go_at_call 18; (with_reducible refine (cpRow_any _ _ _ _ _).mono ?_); rintro e w1 ⟨rfl, hb1⟩)
      have F1 := hF.up hb1
      have hp0 : w1.cell? ⟨w.heap.size, k * 4, none⟩ = some (getc w1 w.heap.size (k * 4)) := getc_of (F1.2.1 _ (by omega))
      have hp1 : w1.cell? ⟨w.heap.size, k * 4 + 1, none⟩ = some (getc w1 w.heap.size (k * 4 + 1)) := getc_of (F1.2.1 _ (by omega))
      have hp2 : w1.cell? ⟨w.heap.size, k * 4 + 2, none⟩ = some (getc w1 w.heap.size (k * 4 + 2)) := getc_of (F1.2.1 _ (by omega))
      have hp3 : w1.cell? ⟨w.heap.size, k * 4 + 3, none⟩ = some (getc w1 w.heap.size (k * 4 + 3)) := getc_of (F1.2.1 _ (by omega))
      have hfr : ∀ x, w1.frozen? ⟨w.heap.size, x, none⟩ = false := F1.2.2.1
      have F2 := ((((F1.set k 0 (by omega) (by omega) (by omega) (by rfl)).set k 1 (by omega) (by omega) (by omega) (by rfl)).set k 2 (by omega) (by omega) (by omega) (by rfl)).set k 3 (by omega) (by omega) (by omega) (by rfl))
      have hsz : w.heap.size < w1.heap.size := F1.1
      have HF := Lib.hid F2
      clear F1 F2 hF
      go_wp2
      exact ⟨⟨k + 1, by rfl, by omega, HF.out.cast (by omega), (by repeat (first | with_reducible exact Up.refl _ | with_reducible refine Up.alloc ?_ _ | with_reducible refine Up.drew ?_ | with_reducible refine Up.drewN ?_ _ | (with_reducible refine Up.setCell ?_ (by first | omega | (simp; done) | (simp; omega)) _) | with_reducible assumption | (with_reducible refine Up.trans ?_ (by with_reducible assumption))))⟩, by simp only [intOf]; omega⟩
    · have hkk : k = n := by omega
      subst hkk
      go_wp2
      go_ret
      exact ⟨_, rfl, hF.wr (Nat.le_refl _), (by repeat (first | with_reducible exact Up.refl _ | with_reducible refine Up.alloc ?_ _ | with_reducible refine Up.drew ?_ | with_reducible refine Up.drewN ?_ _ | (with_reducible refine Up.setCell ?_ (by first | omega | (simp; done) | (simp; omega)) _) | with_reducible assumption | (with_reducible refine Up.trans ?_ (by with_reducible assumption))))⟩

set_option maxRecDepth 100000 in
theorem eqRow_sm (a0 : Int) (a1 : Int) (a2 : Int) (a3 : Int) (w : World) : Calls Try.prog 28 #[.agg #[.int .i64 a0, .int .i64 a1, .int .i64 a2, .int .i64 a3], .agg #[.int .i64 a0, .int .i64 a1, .int .i64 a2, .int .i64 a3]] w fun e w' => e = .returned (.bool true) ∧ Up w w' := by
  go_enter Try.func28, Try.ntmps28
  go_wp2
  go_ret
  exact ⟨rfl, (by repeat (first | with_reducible exact Up.refl _ | with_reducible refine Up.alloc ?_ _ | with_reducible refine Up.drew ?_ | with_reducible refine Up.drewN ?_ _ | (with_reducible refine Up.setCell ?_ (by first | omega | (simp; done) | (simp; omega)) _) | with_reducible assumption | (with_reducible refine Up.trans ?_ (by with_reducible assumption))))⟩

set_option maxRecDepth 100000 in
theorem eqRowS_same (v v' : Value) (n lo hi lo' hi' : Nat) (R : Nat → Nat → Int) (w : World) (hs : Sl w lo hi 4 v n (intF R)) (hs' : Sl w lo' hi' 4 v' n (intF R)) (hn : n ≤ 1048576) : Calls Try.prog 9 #[v, v'] w fun e w' => e = .returned (.bool true) ∧ Up w w' := by
  obtain ⟨h0, A, c, rfl, hc, h⟩ := hs
  obtain ⟨h0', A', c', rfl, hc', h'⟩ := hs'
  have H := Lib.hid h
  have H' := Lib.hid h'
  clear h h'
  go_enter Try.func9, Try.ntmps9
  go_wp2
  go_loopw [5] (fun i wr => ∃ k : Nat, i = .int .i64 (k : Int) ∧ k ≤ n ∧ Up w wr) (fun i _ => n - (intOf i).toNat)
  case atStart => exact ⟨0, rfl, Nat.zero_le _, (by repeat (first | with_reducible exact Up.refl _ | with_reducible refine Up.alloc ?_ _ | with_reducible refine Up.drew ?_ | with_reducible refine Up.drewN ?_ _ | (with_reducible refine Up.setCell ?_ (by first | omega | (simp; done) | (simp; omega)) _) | with_reducible assumption | (with_reducible refine Up.trans ?_ (by with_reducible assumption))))⟩
  case round =>
    obtain ⟨k, rfl, hk, hup⟩ := hrel
    by_cases hk1 : k < n
    · obtain ⟨b, o, rfl, hb1, hb2, hcs⟩ := H.out (by omega)
      obtain ⟨b', o', rfl, hb1', hb2', hcs'⟩ := H'.out (by omega)
      have hbs2 : b < wr.heap.size := Nat.lt_of_lt_of_le (by omega) hup.size
      have hbs2' : b' < wr.heap.size := Nat.lt_of_lt_of_le (by omega) hup.size
      have hg0 : wr.cell? ⟨b, o + k * 4, none⟩ = some (.int .i64 (R k 0)) := (hup.cells.1 _ _ (by omega)).trans (by simpa [hgF, intF, Nat.add_assoc] using hcs k 0 hk1 (by omega))
      have hg1 : wr.cell? ⟨b, o + k * 4 + 1, none⟩ = some (.int .i64 (R k 1)) := (hup.cells.1 _ _ (by omega)).trans (by simpa [hgF, intF, Nat.add_assoc] using hcs k 1 hk1 (by omega))
      have hg2 : wr.cell? ⟨b, o + k * 4 + 2, none⟩ = some (.int .i64 (R k 2)) := (hup.cells.1 _ _ (by omega)).trans (by simpa [hgF, intF, Nat.add_assoc] using hcs k 2 hk1 (by omega))
      have hg3 : wr.cell? ⟨b, o + k * 4 + 3, none⟩ = some (.int .i64 (R k 3)) := (hup.cells.1 _ _ (by omega)).trans (by simpa [hgF, intF, Nat.add_assoc] using hcs k 3 hk1 (by omega))
      have hq0 : wr.cell? ⟨b', o' + k * 4, none⟩ = some (.int .i64 (R k 0)) := (hup.cells.1 _ _ (by omega)).trans (by simpa [hgF, intF, Nat.add_assoc] using hcs' k 0 hk1 (by omega))
      have hq1 : wr.cell? ⟨b', o' + k * 4 + 1, none⟩ = some (.int .i64 (R k 1)) := (hup.cells.1 _ _ (by omega)).trans (by simpa [hgF, intF, Nat.add_assoc] using hcs' k 1 hk1 (by omega))
      have hq2 : wr.cell? ⟨b', o' + k * 4 + 2, none⟩ = some (.int .i64 (R k 2)) := (hup.cells.1 _ _ (by omega)).trans (by simpa [hgF, intF, Nat.add_assoc] using hcs' k 2 hk1 (by omega))
      have hq3 : wr.cell? ⟨b', o' + k * 4 + 3, none⟩ = some (.int .i64 (R k 3)) := (hup.cells.1 _ _ (by omega)).trans (by simpa [hgF, intF, Nat.add_assoc] using hcs' k 3 hk1 (by omega))
      clear hcs hcs'
      go_wp2_with fail
      (refine wp_region_up (by kernel_rfl) (by kernel_rfl) ?_; (repeat (refine wpQuiet_step (fun K hK => ?_); go_simp; first | (refine hK _ ?_; clear hK K) | (apply Exists.intro; refine ⟨fun wq hwq => ?_, hK _ ?_⟩; (obtain ⟨hcq, hfq⟩ := hwq.cells; (try go_simp); first | done | rfl | exact ⟨rfl, rfl⟩ | (go_at_call 28; exact up_of hwq (eqRow_sm _ _ _ _ _))); clear hK K))); refine wpQuiet_nil ?_; intro w1 hb1; obtain ⟨hc1, hf1⟩ := hb1.cells; have hl1 := hb1.lt; have hle1 := hb1.le; have hs1 := hb1.size; (try simp at hs1); (try have hs1a : wr.heap.size < w1.heap.size := by omega); (try have hs1aa : wr.heap.size ≤ w1.heap.size := by omega); (try have hs1b : wr.heap.size + 1 < w1.heap.size := by omega); (try have hs1bb : wr.heap.size + 1 ≤ w1.heap.size := by omega); (try have hs1c : wr.heap.size + 1 + 1 < w1.heap.size := by omega); (try have hs1cc : wr.heap.size + 1 + 1 ≤ w1.heap.size := by omega); (try have hs1d : wr.heap.size + 1 + 1 + 1 < w1.heap.size := by omega); (try have hs1dd : wr.heap.size + 1 + 1 + 1 ≤ w1.heap.size := by omega); (try have hs1L := Nat.lt_of_succ_le hs1); (try have hs1M := Nat.lt_of_succ_lt hs1L); (try have hs1N := Nat.lt_of_succ_lt hs1M); (try have hs1LE := Nat.le_of_lt hs1L); (try have hs1ME := Nat.le_of_lt hs1M))
      go_wp2
      exact ⟨⟨k + 1, by rfl, by omega, (by repeat (first | with_reducible exact Up.refl _ | with_reducible refine Up.alloc ?_ _ | with_reducible refine Up.drew ?_ | with_reducible refine Up.drewN ?_ _ | (with_reducible refine Up.setCell ?_ (by first | omega | (simp; done) | (simp; omega)) _) | with_reducible assumption | (with_reducible refine Up.trans ?_ (by with_reducible assumption))))⟩, by simp only [intOf]; omega⟩
    · have hkk : k = n := by omega
      subst hkk
      go_wp2
      go_ret
      exact ⟨rfl, (by repeat (first | with_reducible exact Up.refl _ | with_reducible refine Up.alloc ?_ _ | with_reducible refine Up.drew ?_ | with_reducible refine Up.drewN ?_ _ | (with_reducible refine Up.setCell ?_ (by first | omega | (simp; done) | (simp; omega)) _) | with_reducible assumption | (with_reducible refine Up.trans ?_ (by with_reducible assumption))))⟩

set_option maxRecDepth 100000 in
theorem markRowS_any (v : Value) (n lo hi : Nat) (f : Nat → Nat → Value) (m : Int) (w w0 : World) (hs : Wr w lo hi 4 v n f) (hn : n ≤ 1048576) (hm0 : 0 ≤ m) (hm1 : m ≤ 100000000) (hu : Up w0 w) (hlo : w0.heap.size ≤ lo) :
    Calls Try.prog 10 #[v, .int .i64 m] w (MkP w w0 lo hi 4 v n m (m + (n : Int) * 4)) := by
  obtain ⟨h0, A, c, rfl, hc, h⟩ := hs
  have H := Lib.hid h
  clear h
  go_enter Try.func10, Try.ntmps10
  go_wp2
  go_loopw [1, 5] (fun t i wr => ∃ k : Nat, i = .int .i64 (k : Int) ∧ k ≤ n ∧ t = .int .i64 (m + (k : Int) * 4) ∧ Hid (0 < n → ∃ g, A = some ⟨g, 0, none⟩ ∧ lo ≤ g ∧ g < hi ∧ Fl wr g 4 (k * 4) (n * 4) (mkF 4 m)) ∧ Chg lo hi w wr ∧ Up w0 wr) (fun _ i _ => n - (intOf i).toNat)
  case atStart =>
    refine ⟨0, rfl, Nat.zero_le _, by simp, ?_, Chg.refl _ _ _, hu⟩
    intro hn0
    obtain ⟨g, hg1, hg2, hg3, hg4, hg5⟩ := H.out hn0
    exact ⟨g, hg1, hg2, hg3, by simpa using Wr.fl (by omega) (by omega) hg4 hg5⟩
  case round =>
    obtain ⟨k, rfl, hk, rfl, hW, hC, hup⟩ := hrel
    by_cases hk1 : k < n
    · obtain ⟨g, rfl, h1, h2, hF⟩ := hW.out (by omega)
      clear hW
      have hp0 : wr.cell? ⟨g, k * 4, none⟩ = some (getc wr g (k * 4)) := getc_of (hF.2.1 _ (by omega))
      have hp1 : wr.cell? ⟨g, k * 4 + 1, none⟩ = some (getc wr g (k * 4 + 1)) := getc_of (hF.2.1 _ (by omega))
      have hp2 : wr.cell? ⟨g, k * 4 + 2, none⟩ = some (getc wr g (k * 4 + 2)) := getc_of (hF.2.1 _ (by omega))
      have hp3 : wr.cell? ⟨g, k * 4 + 3, none⟩ = some (getc wr g (k * 4 + 3)) := getc_of (hF.2.1 _ (by omega))
      have hfr : ∀ x, wr.frozen? ⟨g, x, none⟩ = false := hF.2.2.1
      have hk2 : (k : Int) < (n : Int) := by omega
      have F2 := ((((hF.set (u := .int .i64 (m + (k : Int) * 4)) k 0 (by omega) (by omega) (by omega) (by simp only [mkF]; congr 1; try omega)).set (u := .int .i64 (m + (k : Int) * 4 + 1)) k 1 (by omega) (by omega) (by omega) (by simp only [mkF]; congr 1; try omega)).set (u := .int .i64 (m + (k : Int) * 4 + 1 + 1)) k 2 (by omega) (by omega) (by omega) (by simp only [mkF]; congr 1; try omega)).set (u := .int .i64 (m + (k : Int) * 4 + 1 + 1 + 1)) k 3 (by omega) (by omega) (by omega) (by simp only [mkF]; congr 1; try omega))
      have C2 := ((((hC.setCell (p := ⟨g, k * 4, none⟩) h1 h2 (.int .i64 (m + (k : Int) * 4))).setCell (p := ⟨g, k * 4 + 1, none⟩) h1 h2 (.int .i64 (m + (k : Int) * 4 + 1))).setCell (p := ⟨g, k * 4 + 2, none⟩) h1 h2 (.int .i64 (m + (k : Int) * 4 + 1 + 1))).setCell (p := ⟨g, k * 4 + 3, none⟩) h1 h2 (.int .i64 (m + (k : Int) * 4 + 1 + 1 + 1)))
      have U2 := ((((hup.setCell (p := ⟨g, k * 4, none⟩) (Nat.le_trans hlo h1) (.int .i64 (m + (k : Int) * 4))).setCell (p := ⟨g, k * 4 + 1, none⟩) (Nat.le_trans hlo h1) (.int .i64 (m + (k : Int) * 4 + 1))).setCell (p := ⟨g, k * 4 + 2, none⟩) (Nat.le_trans hlo h1) (.int .i64 (m + (k : Int) * 4 + 1 + 1))).setCell (p := ⟨g, k * 4 + 3, none⟩) (Nat.le_trans hlo h1) (.int .i64 (m + (k : Int) * 4 + 1 + 1 + 1)))
      have HF := Lib.hid F2
      have HC := Lib.hid C2
      have HU := Lib.hid U2
      clear F2 C2 U2 hF
      go_wp2
      exact ⟨⟨k + 1, by rfl, by omega, by congr 1; omega, fun _ => ⟨g, rfl, h1, h2, HF.out.cast (by omega)⟩, HC.out, HU.out⟩, by simp only [intOf]; omega⟩
    · have hkk : k = n := by omega
      subst hkk
      go_wp2
      go_ret
      refine ⟨by rfl, ?_, hC, hup⟩
      refine ⟨Nat.le_trans h0 hC.1, A, c, rfl, hc, fun hn0 => ?_⟩
      obtain ⟨g, rfl, h1, h2, hF⟩ := hW.out hn0
      obtain ⟨_, A', c', hv, _, hx⟩ := Fl.wr2 (c := c) hF h1 h2 (Nat.le_trans h0 hC.1) hc
      cases hv
      exact hx hn0

set_option maxRecDepth 100000 in
theorem eqThrust_sm (a0 : Int) (a1 : Int) (a2 : Int) (a3 : Int) (w : World) : Calls Try.prog 27 #[.agg #[.int .i64 a0, .int .i64 a1, .int .i64 a2, .int .i64 a3], .agg #[.int .i64 a0, .int .i64 a1, .int .i64 a2, .int .i64 a3]] w fun e w' => e = .returned (.bool true) ∧ Up w w' := by
  go_enter Try.func27, Try.ntmps27
  go_wp2
  go_ret
  exact ⟨rfl, (by repeat (first | with_reducible exact Up.refl _ | with_reducible refine Up.alloc ?_ _ | with_reducible refine Up.drew ?_ | with_reducible refine Up.drewN ?_ _ | (with_reducible refine Up.setCell ?_ (by first | omega | (simp; done) | (simp; omega)) _) | with_reducible assumption | (with_reducible refine Up.trans ?_ (by with_reducible assumption))))⟩

set_option maxRecDepth 100000 in
theorem eqThrustS_same (v v' : Value) (n lo hi lo' hi' : Nat) (R : Nat → Nat → Int) (w : World) (hs : Sl w lo hi 4 v n (intF R)) (hs' : Sl w lo' hi' 4 v' n (intF R)) (hn : n ≤ 1048576) : Calls Try.prog 8 #[v, v'] w fun e w' => e = .returned (.bool true) ∧ Up w w' := by
  obtain ⟨h0, A, c, rfl, hc, h⟩ := hs
  obtain ⟨h0', A', c', rfl, hc', h'⟩ := hs'
  have H := Lib.hid h
  have H' := Lib.hid h'
  clear h h'
  go_enter Try.func8, Try.ntmps8
  go_wp2
  go_loopw [5] (fun i wr => ∃ k : Nat, i = .int .i64 (k : Int) ∧ k ≤ n ∧ Up w wr) (fun i _ => n - (intOf i).toNat)
  case atStart => exact ⟨0, rfl, Nat.zero_le _, (by repeat (first | with_reducible exact Up.refl _ | with_reducible refine Up.alloc ?_ _ | with_reducible refine Up.drew ?_ | with_reducible refine Up.drewN ?_ _ | (with_reducible refine Up.setCell ?_ (by first | omega | (simp; done) | (simp; omega)) _) | with_reducible assumption | (with_reducible refine Up.trans ?_ (by with_reducible assumption))))⟩
  case round =>
    obtain ⟨k, rfl, hk, hup⟩ := hrel
    by_cases hk1 : k < n
    · obtain ⟨b, o, rfl, hb1, hb2, hcs⟩ := H.out (by omega)
      obtain ⟨b', o', rfl, hb1', hb2', hcs'⟩ := H'.out (by omega)
      have hbs2 : b < wr.heap.size := Nat.lt_of_lt_of_le (by omega) hup.size
      have hbs2' : b' < wr.heap.size := Nat.lt_of_lt_of_le (by omega) hup.size
      have hg0 : wr.cell? ⟨b, o + k * 4, none⟩ = some (.int .i64 (R k 0)) := (hup.cells.1 _ _ (by omega)).trans (by simpa [hgF, intF, Nat.add_assoc] using hcs k 0 hk1 (by omega))
      have hg1 : wr.cell? ⟨b, o + k * 4 + 1, none⟩ = some (.int .i64 (R k 1)) := (hup.cells.1 _ _ (by omega)).trans (by simpa [hgF, intF, Nat.add_assoc] using hcs k 1 hk1 (by omega))
      have hg2 : wr.cell? ⟨b, o + k * 4 + 2, none⟩ = some (.int .i64 (R k 2)) := (hup.cells.1 _ _ (by omega)).trans (by simpa [hgF, intF, Nat.add_assoc] using hcs k 2 hk1 (by omega))
      have hg3 : wr.cell? ⟨b, o + k * 4 + 3, none⟩ = some (.int .i64 (R k 3)) := (hup.cells.1 _ _ (by omega)).trans (by simpa [hgF, intF, Nat.add_assoc] using hcs k 3 hk1 (by omega))
      have hq0 : wr.cell? ⟨b', o' + k * 4, none⟩ = some (.int .i64 (R k 0)) := (hup.cells.1 _ _ (by omega)).trans (by simpa [hgF, intF, Nat.add_assoc] using hcs' k 0 hk1 (by omega))
      have hq1 : wr.cell? ⟨b', o' + k * 4 + 1, none⟩ = some (.int .i64 (R k 1)) := (hup.cells.1 _ _ (by omega)).trans (by simpa [hgF, intF, Nat.add_assoc] using hcs' k 1 hk1 (by omega))
      have hq2 : wr.cell? ⟨b', o' + k * 4 + 2, none⟩ = some (.int .i64 (R k 2)) := (hup.cells.1 _ _ (by omega)).trans (by simpa [hgF, intF, Nat.add_assoc] using hcs' k 2 hk1 (by omega))
      have hq3 : wr.cell? ⟨b', o' + k * 4 + 3, none⟩ = some (.int .i64 (R k 3)) := (hup.cells.1 _ _ (by omega)).trans (by simpa [hgF, intF, Nat.add_assoc] using hcs' k 3 hk1 (by omega))
      clear hcs hcs'
      go_wp2_with fail
      (refine wp_region_up (by kernel_rfl) (by kernel_rfl) ?_; (repeat (refine wpQuiet_step (fun K hK => ?_); go_simp; first | (refine hK _ ?_; clear hK K) | (apply Exists.intro; refine ⟨fun wq hwq => ?_, hK _ ?_⟩; (obtain ⟨hcq, hfq⟩ := hwq.cells; (try go_simp); first | done | rfl | exact ⟨rfl, rfl⟩ | (go_at_call 27; exact up_of hwq (eqThrust_sm _ _ _ _ _))); clear hK K))); refine wpQuiet_nil ?_; intro w1 hb1; obtain ⟨hc1, hf1⟩ := hb1.cells; have hl1 := hb1.lt; have hle1 := hb1.le; have hs1 := hb1.size; (try simp at hs1); (try have hs1a : wr.heap.size < w1.heap.size := by omega); (try have hs1aa : wr.heap.size ≤ w1.heap.size := by omega); (try have hs1b : wr.heap.size + 1 < w1.heap.size := by omega); (try have hs1bb : wr.heap.size + 1 ≤ w1.heap.size := by omega); (try have hs1c : wr.heap.size + 1 + 1 < w1.heap.size := by omega); (try have hs1cc : wr.heap.size + 1 + 1 ≤ w1.heap.size := by omega); (try have hs1d : wr.heap.size + 1 + 1 + 1 < w1.heap.size := by omega); (try have hs1dd : wr.heap.size + 1 + 1 + 1 ≤ w1.heap.size := by omega); (try have hs1L := Nat.lt_of_succ_le hs1); (try have hs1M := Nat.lt_of_succ_lt hs1L); (try have hs1N := Nat.lt_of_succ_lt hs1M); (try have hs1LE := Nat.le_of_lt hs1L); (try have hs1ME := Nat.le_of_lt hs1M))
      go_wp2
      exact ⟨⟨k + 1, by rfl, by omega, (by repeat (first | with_reducible exact Up.refl _ | with_reducible refine Up.alloc ?_ _ | with_reducible refine Up.drew ?_ | with_reducible refine Up.drewN ?_ _ | (with_reducible refine Up.setCell ?_ (by first | omega | (simp; done) | (simp; omega)) _) | with_reducible assumption | (with_reducible refine Up.trans ?_ (by with_reducible assumption))))⟩, by simp only [intOf]; omega⟩
    · have hkk : k = n := by omega
      subst hkk
      go_wp2
      go_ret
      exact ⟨rfl, (by repeat (first | with_reducible exact Up.refl _ | with_reducible refine Up.alloc ?_ _ | with_reducible refine Up.drew ?_ | with_reducible refine Up.drewN ?_ _ | (with_reducible refine Up.setCell ?_ (by first | omega | (simp; done) | (simp; omega)) _) | with_reducible assumption | (with_reducible refine Up.trans ?_ (by with_reducible assumption))))⟩

set_option maxRecDepth 100000 in
theorem markThrustS_any (v : Value) (n lo hi : Nat) (f : Nat → Nat → Value) (m : Int) (w w0 : World) (hs : Wr w lo hi 4 v n f) (hn : n ≤ 1048576) (hm0 : 0 ≤ m) (hm1 : m ≤ 100000000) (hu : Up w0 w) (hlo : w0.heap.size ≤ lo) :
    Calls Try.prog 11 #[v, .int .i64 m] w (MkP w w0 lo hi 4 v n m (m + (n : Int) * 4)) := by
  obtain ⟨h0, A, c, rfl, hc, h⟩ := hs
  have H := Lib.hid h
  clear h
  go_enter Try.func11, Try.ntmps11
  go_wp2
  go_loopw [1, 5] (fun t i wr => ∃ k : Nat, i = .int .i64 (k : Int) ∧ k ≤ n ∧ t = .int .i64 (m + (k : Int) * 4) ∧ Hid (0 < n → ∃ g, A = some ⟨g, 0, none⟩ ∧ lo ≤ g ∧ g < hi ∧ Fl wr g 4 (k * 4) (n * 4) (mkF 4 m)) ∧ Chg lo hi w wr ∧ Up w0 wr) (fun _ i _ => n - (intOf i).toNat)
  case atStart =>
    refine ⟨0, rfl, Nat.zero_le _, by simp, ?_, Chg.refl _ _ _, hu⟩
    intro hn0
    obtain ⟨g, hg1, hg2, hg3, hg4, hg5⟩ := H.out hn0
    exact ⟨g, hg1, hg2, hg3, by simpa using Wr.fl (by omega) (by omega) hg4 hg5⟩
  case round =>
    obtain ⟨k, rfl, hk, rfl, hW, hC, hup⟩ := hrel
    by_cases hk1 : k < n
    · obtain ⟨g, rfl, h1, h2, hF⟩ := hW.out (by omega)
      clear hW
      have hp0 : wr.cell? ⟨g, k * 4, none⟩ = some (getc wr g (k * 4)) := getc_of (hF.2.1 _ (by omega))
      have hp1 : wr.cell? ⟨g, k * 4 + 1, none⟩ = some (getc wr g (k * 4 + 1)) := getc_of (hF.2.1 _ (by omega))
      have hp2 : wr.cell? ⟨g, k * 4 + 2, none⟩ = some (getc wr g (k * 4 + 2)) := getc_of (hF.2.1 _ (by omega))
      have hp3 : wr.cell? ⟨g, k * 4 + 3, none⟩ = some (getc wr g (k * 4 + 3)) := getc_of (hF.2.1 _ (by omega))
      have hfr : ∀ x, wr.frozen? ⟨g, x, none⟩ = false := hF.2.2.1
      have hk2 : (k : Int) < (n : Int) := by omega
      have F2 := ((((hF.set (u := .int .i64 (m + (k : Int) * 4)) k 0 (by omega) (by omega) (by omega) (by simp only [mkF]; congr 1; try omega)).set (u := .int .i64 (m + (k : Int) * 4 + 1)) k 1 (by omega) (by omega) (by omega) (by simp only [mkF]; congr 1; try omega)).set (u := .int .i64 (m + (k : Int) * 4 + 1 + 1)) k 2 (by omega) (by omega) (by omega) (by simp only [mkF]; congr 1; try omega)).set (u := .int .i64 (m + (k : Int) * 4 + 1 + 1 + 1)) k 3 (by omega) (by omega) (by omega) (by simp only [mkF]; congr 1; try omega))
      have C2 := ((((hC.setCell (p := ⟨g, k * 4, none⟩) h1 h2 (.int .i64 (m + (k : Int) * 4))).setCell (p := ⟨g, k * 4 + 1, none⟩) h1 h2 (.int .i64 (m + (k : Int) * 4 + 1))).setCell (p := ⟨g, k * 4 + 2, none⟩) h1 h2 (.int .i64 (m + (k : Int) * 4 + 1 + 1))).setCell (p := ⟨g, k * 4 + 3, none⟩) h1 h2 (.int .i64 (m + (k : Int) * 4 + 1 + 1 + 1)))
      have U2 := ((((hup.setCell (p := ⟨g, k * 4, none⟩) (Nat.le_trans hlo h1) (.int .i64 (m + (k : Int) * 4))).setCell (p := ⟨g, k * 4 + 1, none⟩) (Nat.le_trans hlo h1) (.int .i64 (m + (k : Int) * 4 + 1))).setCell (p := ⟨g, k * 4 + 2, none⟩) (Nat.le_trans hlo h1) (.int .i64 (m + (k : Int) * 4 + 1 + 1))).setCell (p := ⟨g, k * 4 + 3, none⟩) (Nat.le_trans hlo h1) (.int .i64 (m + (k : Int) * 4 + 1 + 1 + 1)))
      have HF := Lib.hid F2
      have HC := Lib.hid C2
      have HU := Lib.hid U2
      clear F2 C2 U2 hF
      go_wp2
      exact ⟨⟨k + 1, by rfl, by omega, by congr 1; omega, fun _ => ⟨g, rfl, h1, h2, HF.out.cast (by omega)⟩, HC.out, HU.out⟩, by simp only [intOf]; omega⟩
    · have hkk : k = n := by omega
      subst hkk
      go_wp2
      go_ret
      refine ⟨by rfl, ?_, hC, hup⟩
      refine ⟨Nat.le_trans h0 hC.1, A, c, rfl, hc, fun hn0 => ?_⟩
      obtain ⟨g, rfl, h1, h2, hF⟩ := hW.out hn0
      obtain ⟨_, A', c', hv, _, hx⟩ := Fl.wr2 (c := c) hF h1 h2 (Nat.le_trans h0 hC.1) hc
      cases hv
      exact hx hn0

set_option maxRecDepth 100000 in
theorem heldThrustS_any (v : Value) (n lo hi : Nat) (m : Int) (w : World) (hs : Sl w lo hi 4 v n (mkF 4 m)) (hn : n ≤ 1048576) (hm0 : 0 ≤ m) (hm1 : m ≤ 100000000) :
    Calls Try.prog 12 #[v, .int .i64 m] w fun e w' => e = .returned (.int .i64 (m + (n : Int) * 4)) ∧ w = w' := by
  obtain ⟨h0, A, c, rfl, hc, h⟩ := hs
  have H := Lib.hid h
  clear h
  go_enter Try.func12, Try.ntmps12
  go_wp2
  go_loop [1, 5] (fun t i => ∃ k : Nat, i = .int .i64 (k : Int) ∧ k ≤ n ∧ t = .int .i64 (m + (k : Int) * 4)) (fun _ i => n - (intOf i).toNat)
  case atStart => exact ⟨0, rfl, Nat.zero_le _, by simp⟩
  case round =>
    obtain ⟨k, rfl, hk, rfl⟩ := hrel
    by_cases hk1 : k < n
    · obtain ⟨b, o, rfl, h1, h2, hcs⟩ := H.out (by omega)
      have hbs : b < w.heap.size := by omega
      have hg0 : w.cell? ⟨b, o + k * 4, none⟩ = some (.int .i64 (m + (k : Int) * 4)) := by simpa [mkF, Nat.add_assoc, Int.add_assoc] using hcs k 0 hk1 (by omega)
      have hg1 : w.cell? ⟨b, o + k * 4 + 1, none⟩ = some (.int .i64 (m + (k : Int) * 4 + 1)) := by simpa [mkF, Nat.add_assoc, Int.add_assoc] using hcs k 1 hk1 (by omega)
      have hg2 : w.cell? ⟨b, o + k * 4 + 2, none⟩ = some (.int .i64 (m + (k : Int) * 4 + 1 + 1)) := by simpa [mkF, Nat.add_assoc, Int.add_assoc] using hcs k 2 hk1 (by omega)
      have hg3 : w.cell? ⟨b, o + k * 4 + 3, none⟩ = some (.int .i64 (m + (k : Int) * 4 + 1 + 1 + 1)) := by simpa [mkF, Nat.add_assoc, Int.add_assoc] using hcs k 3 hk1 (by omega)
      have hk2 : (k : Int) < (n : Int) := by omega
      clear hcs
      go_wp2
      exact ⟨⟨k + 1, by rfl, by omega, by congr 1; omega⟩, by simp only [intOf]; omega⟩
    · have hkk : k = n := by omega
      subst hkk
      go_wp2
      go_ret
      exact ⟨by rfl, by rfl⟩

end Go.Proofs.Ytbonjafjgiacpaa
