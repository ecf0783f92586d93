/- The walks of the laws' helpers on slices: copies, comparisons, marks. No condition. -/
import Derived.Test.YtfbhhdbnghghjaaOpen2
namespace Go.Proofs.Ytfbhhdbnghghjaa
open Go.RowKit
set_option linter.unusedVariables false

set_option maxRecDepth 100000 in
theorem cpHinge_any (a0 : Int) (a1 : Bool) (w : World) : Calls Try.prog 73 #[.agg #[.int .i64 a0, .bool a1]] w fun e w' => e = .returned (.agg #[.int .i64 a0, .bool a1]) ∧ Up w w' := by
  go_enter Try.func73, Try.ntmps73
  go_wp2
  exact bodyPost_ret (v := .agg #[.int .i64 a0, .bool a1]) (by simp only [results]; go_simp; try simp) rfl ⟨rfl, (by repeat (first | with_reducible exact Up.refl _ | with_reducible refine Up.alloc ?_ _ | with_reducible refine Up.drew ?_ | with_reducible refine Up.drewN ?_ _ | (with_reducible refine Up.setCell ?_ (by first | omega | (simp; done) | (simp; omega)) _) | with_reducible assumption | (with_reducible refine Up.trans ?_ (by with_reducible assumption))))⟩

theorem szHingeS_any (v : Value) (n lo hi : Nat) (f : Nat → Nat → Value) (left : Int) (w : World) (hs : Sl w lo hi 2 v n f) (hn : n ≤ maxLen) (h0 : 0 ≤ left) (h1 : left ≤ 1048576) : Calls Try.prog 43 #[v, .int .i64 left] w fun e w' => e = .returned (.int .i64 (szI left n)) ∧ w = w' := by
  obtain ⟨_, A, c, rfl, hc, _⟩ := hs
  unfold maxLen at hn
  by_cases h : left - (n : Int) < 0
  · rw [szI, if_pos h]
    go_enter Try.func43, Try.ntmps43
    go_wp2
    all_goals (go_ret; exact ⟨rfl, rfl⟩)
  · rw [szI, if_neg h]
    go_enter Try.func43, Try.ntmps43
    go_wp2
    all_goals (go_ret; exact ⟨rfl, rfl⟩)

theorem Hinge_info : (Try.prog.info? 99).map (fun i => (i.zero, i.size, i.bytes)) = some (some (.agg #[.int .i64 0, .bool false]), 2, 16) := by kernel_rfl
set_option maxRecDepth 100000 in
theorem toHingeS_any (v : Value) (n lo hi : Nat) (J : Nat → Int) (O : Nat → Bool) (w : World) (hs : Sl w lo hi 2 v n (hgF J O)) (hn : n ≤ 1048576) : Calls Try.prog 45 #[v] w (ToP w 2 n (hgF J O)) := by
  obtain ⟨h0, A, c, rfl, hc, h⟩ := hs
  obtain ⟨i0, hi0, hz0, hz1, hz2⟩ := info_parts Hinge_info
  have hmk : ∀ W : World, (Instr.makeSlice 60 (.int .i64 (n : Int)) (.int .i64 (n : Int))).run Try.prog W = .ok (.slice (some ⟨W.heap.size, 0, none⟩) n n) (W.alloc (.cells (madeCells #[.int .i64 0, .bool false] (n * 2)) 99)) := fun W => by
    have := run_mkN (P := Try.prog) 60 99 i0 (.agg #[.int .i64 0, .bool false]) Try.underlying60 hi0 hz0 n (by rw [hz2]; omega) (by omega) W
    rw [hz1] at this
    exact this
  have H := Lib.hid h
  clear h
  have hfl : Fl (w.alloc (.cells (madeCells #[.int .i64 0, .bool false] (n * 2)) 99)) w.heap.size 2 0 (n * 2) (hgF J O) := Fl.made _ _ _ _ _ _
  go_enter Try.func45, Try.ntmps45
  go_wp2
  go_loopw [4] (fun i wr => ∃ k : Nat, i = .int .i64 (k : Int) ∧ k ≤ n ∧ Fl wr w.heap.size 2 (k * 2) (n * 2) (hgF J O) ∧ Up w wr) (fun i _ => n - (intOf i).toNat)
  case atStart => exact ⟨0, rfl, Nat.zero_le _, by simpa using hfl, (by repeat (first | with_reducible exact Up.refl _ | with_reducible refine Up.alloc ?_ _ | with_reducible refine Up.drew ?_ | with_reducible refine Up.drewN ?_ _ | (with_reducible refine Up.setCell ?_ (by first | omega | (simp; done) | (simp; omega)) _) | with_reducible assumption | (with_reducible refine Up.trans ?_ (by with_reducible assumption))))⟩
  case round =>
    obtain ⟨k, rfl, hk, hF, hup⟩ := hrel
    by_cases hk1 : k < n
    · obtain ⟨b, o, rfl, hb1, hb2, hcs⟩ := H.out (by omega)
      have hbs : b < w.heap.size := by omega
      have hbs2 : b < wr.heap.size := Nat.lt_of_lt_of_le hbs hup.size
      have hc0 : w.cell? ⟨b, o + k * 2, none⟩ = some (.int .i64 (J k)) := by simpa [hgF, intF, Nat.add_assoc] using hcs k 0 hk1 (by omega)
      have hc1 : w.cell? ⟨b, o + k * 2 + 1, none⟩ = some (.bool (O k)) := by simpa [hgF, intF, Nat.add_assoc] using hcs k 1 hk1 (by omega)
      have hg0 : wr.cell? ⟨b, o + k * 2, none⟩ = some (.int .i64 (J k)) := (hup.cells.1 _ _ (by omega)).trans hc0
      have hg1 : wr.cell? ⟨b, o + k * 2 + 1, none⟩ = some (.bool (O k)) := (hup.cells.1 _ _ (by omega)).trans hc1
      clear hcs hc0 hc1
      go_wp2_with fail
      (go_at_call 73; (with_reducible refine (cpHinge_any _ _ _).mono ?_); rintro e w1 ⟨rfl, hb1⟩)
      have F1 := hF.up hb1
      have hp0 : w1.cell? ⟨w.heap.size, k * 2, none⟩ = some (getc w1 w.heap.size (k * 2)) := getc_of (F1.2.1 _ (by omega))
      have hp1 : w1.cell? ⟨w.heap.size, k * 2 + 1, none⟩ = some (getc w1 w.heap.size (k * 2 + 1)) := getc_of (F1.2.1 _ (by omega))
      have hfr : ∀ x, w1.frozen? ⟨w.heap.size, x, none⟩ = false := F1.2.2.1
      have F2 := ((F1.set k 0 (by omega) (by omega) (by omega) (by rfl)).set k 1 (by omega) (by omega) (by omega) (by rfl))
      have hsz : w.heap.size < w1.heap.size := F1.1
      have HF := Lib.hid F2
      clear F1 F2 hF
      go_wp2
      exact ⟨⟨k + 1, by rfl, by omega, HF.out.cast (by omega), (by repeat (first | with_reducible exact Up.refl _ | with_reducible refine Up.alloc ?_ _ | with_reducible refine Up.drew ?_ | with_reducible refine Up.drewN ?_ _ | (with_reducible refine Up.setCell ?_ (by first | omega | (simp; done) | (simp; omega)) _) | with_reducible assumption | (with_reducible refine Up.trans ?_ (by with_reducible assumption))))⟩, by simp only [intOf]; omega⟩
    · have hkk : k = n := by omega
      subst hkk
      go_wp2
      go_ret
      exact ⟨_, rfl, hF.wr (Nat.le_refl _), (by repeat (first | with_reducible exact Up.refl _ | with_reducible refine Up.alloc ?_ _ | with_reducible refine Up.drew ?_ | with_reducible refine Up.drewN ?_ _ | (with_reducible refine Up.setCell ?_ (by first | omega | (simp; done) | (simp; omega)) _) | with_reducible assumption | (with_reducible refine Up.trans ?_ (by with_reducible assumption))))⟩

set_option maxRecDepth 100000 in
theorem eqHinge_sm (a0 : Int) (a1 : Bool) (w : World) : Calls Try.prog 75 #[.agg #[.int .i64 a0, .bool a1], .agg #[.int .i64 a0, .bool a1]] w fun e w' => e = .returned (.bool true) ∧ Up w w' := by
  go_enter Try.func75, Try.ntmps75
  go_wp2
  go_ret
  exact ⟨rfl, (by repeat (first | with_reducible exact Up.refl _ | with_reducible refine Up.alloc ?_ _ | with_reducible refine Up.drew ?_ | with_reducible refine Up.drewN ?_ _ | (with_reducible refine Up.setCell ?_ (by first | omega | (simp; done) | (simp; omega)) _) | with_reducible assumption | (with_reducible refine Up.trans ?_ (by with_reducible assumption))))⟩

set_option maxRecDepth 100000 in
theorem eqHingeS_same (v v' : Value) (n lo hi lo' hi' : Nat) (J : Nat → Int) (O : Nat → Bool) (w : World) (hs : Sl w lo hi 2 v n (hgF J O)) (hs' : Sl w lo' hi' 2 v' n (hgF J O)) (hn : n ≤ 1048576) : Calls Try.prog 47 #[v, v'] w fun e w' => e = .returned (.bool true) ∧ Up w w' := by
  obtain ⟨h0, A, c, rfl, hc, h⟩ := hs
  obtain ⟨h0', A', c', rfl, hc', h'⟩ := hs'
  have H := Lib.hid h
  have H' := Lib.hid h'
  clear h h'
  go_enter Try.func47, Try.ntmps47
  go_wp2
  go_loopw [5] (fun i wr => ∃ k : Nat, i = .int .i64 (k : Int) ∧ k ≤ n ∧ Up w wr) (fun i _ => n - (intOf i).toNat)
  case atStart => exact ⟨0, rfl, Nat.zero_le _, (by repeat (first | with_reducible exact Up.refl _ | with_reducible refine Up.alloc ?_ _ | with_reducible refine Up.drew ?_ | with_reducible refine Up.drewN ?_ _ | (with_reducible refine Up.setCell ?_ (by first | omega | (simp; done) | (simp; omega)) _) | with_reducible assumption | (with_reducible refine Up.trans ?_ (by with_reducible assumption))))⟩
  case round =>
    obtain ⟨k, rfl, hk, hup⟩ := hrel
    by_cases hk1 : k < n
    · obtain ⟨b, o, rfl, hb1, hb2, hcs⟩ := H.out (by omega)
      obtain ⟨b', o', rfl, hb1', hb2', hcs'⟩ := H'.out (by omega)
      have hbs2 : b < wr.heap.size := Nat.lt_of_lt_of_le (by omega) hup.size
      have hbs2' : b' < wr.heap.size := Nat.lt_of_lt_of_le (by omega) hup.size
      have hg0 : wr.cell? ⟨b, o + k * 2, none⟩ = some (.int .i64 (J k)) := (hup.cells.1 _ _ (by omega)).trans (by simpa [hgF, intF, Nat.add_assoc] using hcs k 0 hk1 (by omega))
      have hg1 : wr.cell? ⟨b, o + k * 2 + 1, none⟩ = some (.bool (O k)) := (hup.cells.1 _ _ (by omega)).trans (by simpa [hgF, intF, Nat.add_assoc] using hcs k 1 hk1 (by omega))
      have hq0 : wr.cell? ⟨b', o' + k * 2, none⟩ = some (.int .i64 (J k)) := (hup.cells.1 _ _ (by omega)).trans (by simpa [hgF, intF, Nat.add_assoc] using hcs' k 0 hk1 (by omega))
      have hq1 : wr.cell? ⟨b', o' + k * 2 + 1, none⟩ = some (.bool (O k)) := (hup.cells.1 _ _ (by omega)).trans (by simpa [hgF, intF, Nat.add_assoc] using hcs' k 1 hk1 (by omega))
      clear hcs hcs'
      go_wp2_with fail
      (refine wp_region_up (by kernel_rfl) (by kernel_rfl) ?_; (repeat (refine wpQuiet_step (fun K hK => ?_); go_simp; first | (refine hK _ ?_; clear hK K) | (apply Exists.intro; refine ⟨fun wq hwq => ?_, hK _ ?_⟩; (obtain ⟨hcq, hfq⟩ := hwq.cells; (try go_simp); first | done | rfl | exact ⟨rfl, rfl⟩ | (go_at_call 75; exact up_of hwq (eqHinge_sm _ _ _))); clear hK K))); refine wpQuiet_nil ?_; intro w1 hb1; obtain ⟨hc1, hf1⟩ := hb1.cells; have hl1 := hb1.lt; have hle1 := hb1.le; have hs1 := hb1.size; (try simp at hs1); (try have hs1a : wr.heap.size < w1.heap.size := by omega); (try have hs1aa : wr.heap.size ≤ w1.heap.size := by omega); (try have hs1b : wr.heap.size + 1 < w1.heap.size := by omega); (try have hs1bb : wr.heap.size + 1 ≤ w1.heap.size := by omega); (try have hs1c : wr.heap.size + 1 + 1 < w1.heap.size := by omega); (try have hs1cc : wr.heap.size + 1 + 1 ≤ w1.heap.size := by omega); (try have hs1d : wr.heap.size + 1 + 1 + 1 < w1.heap.size := by omega); (try have hs1dd : wr.heap.size + 1 + 1 + 1 ≤ w1.heap.size := by omega); (try have hs1L := Nat.lt_of_succ_le hs1); (try have hs1M := Nat.lt_of_succ_lt hs1L); (try have hs1N := Nat.lt_of_succ_lt hs1M); (try have hs1LE := Nat.le_of_lt hs1L); (try have hs1ME := Nat.le_of_lt hs1M))
      go_wp2
      exact ⟨⟨k + 1, by rfl, by omega, (by repeat (first | with_reducible exact Up.refl _ | with_reducible refine Up.alloc ?_ _ | with_reducible refine Up.drew ?_ | with_reducible refine Up.drewN ?_ _ | (with_reducible refine Up.setCell ?_ (by first | omega | (simp; done) | (simp; omega)) _) | with_reducible assumption | (with_reducible refine Up.trans ?_ (by with_reducible assumption))))⟩, by simp only [intOf]; omega⟩
    · have hkk : k = n := by omega
      subst hkk
      go_wp2
      go_ret
      exact ⟨rfl, (by repeat (first | with_reducible exact Up.refl _ | with_reducible refine Up.alloc ?_ _ | with_reducible refine Up.drew ?_ | with_reducible refine Up.drewN ?_ _ | (with_reducible refine Up.setCell ?_ (by first | omega | (simp; done) | (simp; omega)) _) | with_reducible assumption | (with_reducible refine Up.trans ?_ (by with_reducible assumption))))⟩

set_option maxRecDepth 100000 in
theorem cpThrust_any (a0 : Int) (a1 : Int) (a2 : Int) (a3 : Int) (w : World) : Calls Try.prog 38 #[.agg #[.int .i64 a0, .int .i64 a1, .int .i64 a2, .int .i64 a3]] w fun e w' => e = .returned (.agg #[.int .i64 a0, .int .i64 a1, .int .i64 a2, .int .i64 a3]) ∧ Up w w' := by
  go_enter Try.func38, Try.ntmps38
  go_wp2
  exact bodyPost_ret (v := .agg #[.int .i64 a0, .int .i64 a1, .int .i64 a2, .int .i64 a3]) (by simp only [results]; go_simp; try simp) rfl ⟨rfl, (by repeat (first | with_reducible exact Up.refl _ | with_reducible refine Up.alloc ?_ _ | with_reducible refine Up.drew ?_ | with_reducible refine Up.drewN ?_ _ | (with_reducible refine Up.setCell ?_ (by first | omega | (simp; done) | (simp; omega)) _) | with_reducible assumption | (with_reducible refine Up.trans ?_ (by with_reducible assumption))))⟩

set_option maxRecDepth 100000 in
theorem cpPoint_any (a0 : Int) (a1 : Int) (w : World) : Calls Try.prog 23 #[.agg #[.int .i64 a0, .int .i64 a1]] w fun e w' => e = .returned (.agg #[.int .i64 a0, .int .i64 a1]) ∧ Up w w' := by
  go_enter Try.func23, Try.ntmps23
  go_wp2
  exact bodyPost_ret (v := .agg #[.int .i64 a0, .int .i64 a1]) (by simp only [results]; go_simp; try simp) rfl ⟨rfl, (by repeat (first | with_reducible exact Up.refl _ | with_reducible refine Up.alloc ?_ _ | with_reducible refine Up.drew ?_ | with_reducible refine Up.drewN ?_ _ | (with_reducible refine Up.setCell ?_ (by first | omega | (simp; done) | (simp; omega)) _) | with_reducible assumption | (with_reducible refine Up.trans ?_ (by with_reducible assumption))))⟩

end Go.Proofs.Ytfbhhdbnghghjaa
