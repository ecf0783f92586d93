/- The walks of the laws' helpers on slices of integers and on structs of such slices. No condition. -/
import Derived.Test.YtlpbmdoggcclpaaSlT
namespace Go.Proofs.Ytlpbmdoggcclpaa
open Go.RowKit
set_option linter.unusedVariables false
theorem int_info : (Try.prog.info? 3).map (fun i => (i.zero, i.size, i.bytes)) = some (some (.int .i64 0), 1, 8) := by kernel_rfl
theorem Sl.int {w : World} {b o k n : Nat} {R : Nat → Nat → Int} (h : ∀ i j, i < n → j < 1 → w.cell? ⟨b, o + (i * 1 + j), none⟩ = some (intF R i j)) (hk : k < n) : w.cell? ⟨b, o + k, none⟩ = some (.int .i64 (R k 0)) := by simpa [intF] using h k 0 hk (by omega)
theorem Fl.set1 {w : World} {g q m : Nat} {f : Nat → Nat → Value} {u : Value} (h : Fl w g 1 q m f) (hqm : q < m) (hu : u = f q 0) : Fl (w.setCell ⟨g, q, none⟩ u) g 1 (q + 1) m f := h.set q 0 (by omega) (by omega) hqm hu
set_option maxRecDepth 100000 in
theorem eqIntS_same (v v' : Value) (n lo hi lo' hi' : Nat) (R : Nat → Nat → Int) (w : World) (hs : Sl w lo hi 1 v n (intF R)) (hs' : Sl w lo' hi' 1 v' n (intF R)) (hn : n ≤ 1048576) : Calls Try.prog 44 #[v, v'] w fun e w' => e = .returned (.bool true) ∧ Up w w' := by
  obtain ⟨h0, A, c, rfl, hc, h⟩ := hs
  obtain ⟨h0', A', c', rfl, hc', h'⟩ := hs'
  have H := Lib.hid h
  have H' := Lib.hid h'
  clear h h'
  go_enter Try.func44, Try.ntmps44
  go_wp2
  go_loopw [5] (fun i wr => ∃ k : Nat, i = .int .i64 (k : Int) ∧ k ≤ n ∧ Up w wr) (fun i _ => n - (intOf i).toNat)
  case atStart => exact ⟨0, rfl, Nat.zero_le _, (by repeat (first | with_reducible exact Up.refl _ | with_reducible refine Up.alloc ?_ _ | with_reducible refine Up.drew ?_ | with_reducible refine Up.drewN ?_ _ | (with_reducible refine Up.setCell ?_ (by first | omega | (simp; done) | (simp; omega)) _) | with_reducible assumption | (with_reducible refine Up.trans ?_ (by with_reducible assumption))))⟩
  case round =>
    obtain ⟨k, rfl, hk, hup⟩ := hrel
    by_cases hk1 : k < n
    · obtain ⟨b, o, rfl, hb1, hb2, hcs⟩ := H.out (by omega)
      obtain ⟨b', o', rfl, hb1', hb2', hcs'⟩ := H'.out (by omega)
      have hbs2 : b < wr.heap.size := Nat.lt_of_lt_of_le (by omega) hup.size
      have hbs2' : b' < wr.heap.size := Nat.lt_of_lt_of_le (by omega) hup.size
      have hg0 : wr.cell? ⟨b, o + k, none⟩ = some (.int .i64 (R k 0)) := (hup.cells.1 _ _ (by omega)).trans (Sl.int hcs hk1)
      have hq0 : wr.cell? ⟨b', o' + k, none⟩ = some (.int .i64 (R k 0)) := (hup.cells.1 _ _ (by omega)).trans (Sl.int hcs' hk1)
      have hk2 : (k : Int) < (n : Int) := by omega
      clear hcs hcs'
      go_wp2_with fail
      (refine wp_region_up (by kernel_rfl) (by kernel_rfl) ?_; (repeat (refine wpQuiet_step (fun K hK => ?_); go_simp; first | (refine hK _ ?_; clear hK K) | (apply Exists.intro; refine ⟨fun wq hwq => ?_, hK _ ?_⟩; (obtain ⟨hcq, hfq⟩ := hwq.cells; (try go_simp); first | done | rfl | exact ⟨rfl, rfl⟩ | fail); clear hK K))); refine wpQuiet_nil ?_; intro w1 hb1; obtain ⟨hc1, hf1⟩ := hb1.cells; have hl1 := hb1.lt; have hle1 := hb1.le; have hs1 := hb1.size; (try simp at hs1); (try have hs1a : wr.heap.size < w1.heap.size := by omega); (try have hs1aa : wr.heap.size ≤ w1.heap.size := by omega); (try have hs1b : wr.heap.size + 1 < w1.heap.size := by omega); (try have hs1bb : wr.heap.size + 1 ≤ w1.heap.size := by omega); (try have hs1c : wr.heap.size + 1 + 1 < w1.heap.size := by omega); (try have hs1cc : wr.heap.size + 1 + 1 ≤ w1.heap.size := by omega); (try have hs1d : wr.heap.size + 1 + 1 + 1 < w1.heap.size := by omega); (try have hs1dd : wr.heap.size + 1 + 1 + 1 ≤ w1.heap.size := by omega); (try have hs1L := Nat.lt_of_succ_le hs1); (try have hs1M := Nat.lt_of_succ_lt hs1L); (try have hs1N := Nat.lt_of_succ_lt hs1M); (try have hs1LE := Nat.le_of_lt hs1L); (try have hs1ME := Nat.le_of_lt hs1M))
      go_wp2
      exact ⟨⟨k + 1, by rfl, by omega, (by repeat (first | with_reducible exact Up.refl _ | with_reducible refine Up.alloc ?_ _ | with_reducible refine Up.drew ?_ | with_reducible refine Up.drewN ?_ _ | (with_reducible refine Up.setCell ?_ (by first | omega | (simp; done) | (simp; omega)) _) | with_reducible assumption | (with_reducible refine Up.trans ?_ (by with_reducible assumption))))⟩, by simp only [intOf]; omega⟩
    · have hkk : k = n := by omega
      subst hkk
      go_wp2
      go_ret
      exact ⟨rfl, (by repeat (first | with_reducible exact Up.refl _ | with_reducible refine Up.alloc ?_ _ | with_reducible refine Up.drew ?_ | with_reducible refine Up.drewN ?_ _ | (with_reducible refine Up.setCell ?_ (by first | omega | (simp; done) | (simp; omega)) _) | with_reducible assumption | (with_reducible refine Up.trans ?_ (by with_reducible assumption))))⟩
set_option maxRecDepth 100000 in
theorem markIntS_any (v : Value) (n lo hi : Nat) (f : Nat → Nat → Value) (m : Int) (w w0 : World) (hs : Wr w lo hi 1 v n f) (hn : n ≤ 1048576) (hm0 : 0 ≤ m) (hm1 : m ≤ 100000000) (hu : Up w0 w) (hlo : w0.heap.size ≤ lo) :
    Calls Try.prog 46 #[v, .int .i64 m] w (MkP w w0 lo hi 1 v n m (m + (n : Int))) := by
  obtain ⟨h0, A, c, rfl, hc, h⟩ := hs
  have H := Lib.hid h
  clear h
  go_enter Try.func46, Try.ntmps46
  go_wp2
  go_loopw [1, 5] (fun t i wr => ∃ k : Nat, i = .int .i64 (k : Int) ∧ k ≤ n ∧ t = .int .i64 (m + (k : Int)) ∧ Hid (0 < n → ∃ g, A = some ⟨g, 0, none⟩ ∧ lo ≤ g ∧ g < hi ∧ Fl wr g 1 k (n * 1) (mkF 1 m)) ∧ Chg lo hi w wr ∧ Up w0 wr) (fun _ i _ => n - (intOf i).toNat)
  case atStart =>
    refine ⟨0, rfl, Nat.zero_le _, by simp, ?_, Chg.refl _ _ _, hu⟩
    intro hn0
    obtain ⟨g, hg1, hg2, hg3, hg4, hg5⟩ := H.out hn0
    exact ⟨g, hg1, hg2, hg3, Wr.fl (by omega) (by omega) hg4 hg5⟩
  case round =>
    obtain ⟨k, rfl, hk, rfl, hW, hC, hup⟩ := hrel
    by_cases hk1 : k < n
    · obtain ⟨g, rfl, h1, h2, hF⟩ := hW.out (by omega)
      clear hW
      have hp0 : wr.cell? ⟨g, k, none⟩ = some (getc wr g k) := getc_of (hF.2.1 _ (by omega))
      have hfr : ∀ x, wr.frozen? ⟨g, x, none⟩ = false := hF.2.2.1
      have hk2 : (k : Int) < (n : Int) := by omega
      have F2 := hF.set1 (u := .int .i64 (m + (k : Int))) (by omega) (by simp [mkF])
      have C2 := hC.setCell (p := ⟨g, k, none⟩) h1 h2 (.int .i64 (m + (k : Int)))
      have U2 := hup.setCell (p := ⟨g, k, none⟩) (Nat.le_trans hlo h1) (.int .i64 (m + (k : Int)))
      have HF := Lib.hid F2
      have HC := Lib.hid C2
      have HU := Lib.hid U2
      clear F2 C2 U2 hF
      go_wp2
      exact ⟨⟨k + 1, by rfl, by omega, by congr 1; omega, fun _ => ⟨g, rfl, h1, h2, HF.out⟩, HC.out, HU.out⟩, by simp only [intOf]; omega⟩
    · have hkk : k = n := by omega
      subst hkk
      go_wp2
      go_ret
      refine ⟨by rfl, ?_, hC, hup⟩
      refine ⟨Nat.le_trans h0 hC.1, A, c, rfl, hc, fun hn0 => ?_⟩
      obtain ⟨g, rfl, h1, h2, hF⟩ := hW.out hn0
      obtain ⟨_, A', c', hv, _, hx⟩ := Fl.wr2 (c := c) (hF.cast (Nat.mul_one k).symm) h1 h2 (Nat.le_trans h0 hC.1) hc
      cases hv
      exact hx hn0
set_option maxRecDepth 100000 in
theorem heldIntS_any (v : Value) (n lo hi : Nat) (m : Int) (w : World) (hs : Sl w lo hi 1 v n (mkF 1 m)) (hn : n ≤ 1048576) (hm0 : 0 ≤ m) (hm1 : m ≤ 100000000) :
    Calls Try.prog 47 #[v, .int .i64 m] w fun e w' => e = .returned (.int .i64 (m + (n : Int))) ∧ w = w' := by
  obtain ⟨h0, A, c, rfl, hc, h⟩ := hs
  have H := Lib.hid h
  clear h
  go_enter Try.func47, Try.ntmps47
  go_wp2
  go_loop [1, 5] (fun t i => ∃ k : Nat, i = .int .i64 (k : Int) ∧ k ≤ n ∧ t = .int .i64 (m + (k : Int))) (fun _ i => n - (intOf i).toNat)
  case atStart => exact ⟨0, rfl, Nat.zero_le _, by simp⟩
  case round =>
    obtain ⟨k, rfl, hk, rfl⟩ := hrel
    by_cases hk1 : k < n
    · obtain ⟨b, o, rfl, h1, h2, hcs⟩ := H.out (by omega)
      have hg0 : w.cell? ⟨b, o + k, none⟩ = some (.int .i64 (m + (k : Int))) := by simpa [mkF] using hcs k 0 hk1 (by omega)
      have hk2 : (k : Int) < (n : Int) := by omega
      clear hcs
      go_wp2
      exact ⟨⟨k + 1, by rfl, by omega, by congr 1; omega⟩, by simp only [intOf]; omega⟩
    · have hkk : k = n := by omega
      subst hkk
      go_wp2
      go_ret
      exact ⟨by rfl, by rfl⟩
end Go.Proofs.Ytlpbmdoggcclpaa
