/- The walks of the functions on hinges. No condition. -/
import Derived.Test.YtigcmhdjafglbaaSlT
namespace Go.Proofs.Ytigcmhdjafglbaa
open Go.RowKit
set_option linter.unusedVariables false
def cnt (p : Nat → Bool) : Nat → Nat
  | 0 => 0
  | n + 1 => cnt p n + if p n then 1 else 0
theorem cnt_le (p : Nat → Bool) (n : Nat) : cnt p n ≤ n := by
  induction n with
  | zero => simp [cnt]
  | succ n ih => simp only [cnt]; split <;> omega
theorem cnt_t {p : Nat → Bool} {n : Nat} (h : p n = true) : cnt p (n + 1) = cnt p n + 1 := by simp [cnt, h]
theorem cnt_f {p : Nat → Bool} {n : Nat} (h : p n = false) : cnt p (n + 1) = cnt p n := by simp [cnt, h]
/-- Is there a turn at hinge i? -/
def turn (O : Nat → Bool) (i : Nat) : Bool := decide (1 ≤ i) && (O i != O (i - 1))
def htI (O : Nat → Bool) (n : Nat) : Int := (cnt (turn O) n : Int)
theorem ht_end {O : Nat → Bool} {n m : Nat} (h : m + 1 ≤ n ∨ m = 0) (h2 : ¬ m + 1 < n) : cnt (turn O) (m + 1) = cnt (turn O) n := by
  rcases h with h | h
  · rw [show n = m + 1 from by omega]
  · subst h
    have : cnt (turn O) 1 = 0 := by simp [cnt, turn]
    rcases Nat.eq_zero_or_pos n with h0 | h0
    · subst h0; rw [this]; rfl
    · rw [show n = 1 from by omega]
set_option maxRecDepth 100000 in
theorem sCountTurns_any (v : Value) (n lo hi : Nat) (J : Nat → Int) (O : Nat → Bool) (w : World) (hs : Sl w lo hi 2 v n (hgF J O)) (hn : n ≤ 1048576) : Calls Try.prog 20 #[v] w fun e w' => e = .returned (.int .i64 (htI O n)) ∧ Up w w' := by
  obtain ⟨h0, A, c, rfl, hc, h⟩ := hs
  have H := Lib.hid h
  clear h
  go_enter Try.func20, Try.ntmps20
  go_wp2
  go_loopw [3, 4] (fun t i wr => ∃ m : Nat, i = .int .i64 ((m : Int) + 1) ∧ (m + 1 ≤ n ∨ m = 0) ∧ t = .int .i64 (cnt (turn O) (m + 1) : Int) ∧ Up w wr) (fun _ i _ => n - (intOf i).toNat)
  case atStart => exact ⟨0, by rfl, .inr rfl, by simp [cnt, turn], (by repeat (first | with_reducible exact Up.refl _ | with_reducible refine Up.alloc ?_ _ | with_reducible refine Up.drew ?_ | with_reducible refine Up.drewN ?_ _ | (with_reducible refine Up.setCell ?_ (by first | omega | (simp; done) | (simp; omega)) _) | with_reducible assumption | (with_reducible refine Up.trans ?_ (by with_reducible assumption))))⟩
  case round =>
    obtain ⟨m, rfl, hm, rfl, hup⟩ := hrel
    have hle := cnt_le (turn O) (m + 1)
    by_cases hk1 : m + 1 < n
    · obtain ⟨b, o, rfl, hb1, hb2, hcs⟩ := H.out (by omega)
      have hbs2 : b < wr.heap.size := Nat.lt_of_lt_of_le (by omega) hup.size
      have hg : wr.cell? ⟨b, o + (m + 1) * 2 + 1, none⟩ = some (.bool (O (m + 1))) := (hup.cells.1 _ _ (by omega)).trans (by simpa [hgF, Nat.add_assoc] using hcs (m + 1) 1 hk1 (by omega))
      have hq : wr.cell? ⟨b, o + m * 2 + 1, none⟩ = some (.bool (O m)) := (hup.cells.1 _ _ (by omega)).trans (by simpa [hgF, Nat.add_assoc] using hcs m 1 (by omega) (by omega))
      have hk2 : ((m : Int) + 1) < (n : Int) := by omega
      have HT : turn O (m + 1) = (O (m + 1) != O m) := by simp [turn]
      have hk3 : (m : Int) < (n : Int) := by omega
      have hwr : IntKind.i64.wrap (m : Int) = (m : Int) := by rw [IntKind.wrap_i64]; omega
      clear hcs
      cases hx : O (m + 1) <;> cases hy : O m <;> rw [hx] at hg <;> rw [hy] at hq <;> rw [hx, hy] at HT
      all_goals
        have HT2 := Lib.hid HT
        clear HT hx hy
        go_wp2_with fail
        (refine wp_region_up (by kernel_rfl) (by kernel_rfl) ?_; (repeat (refine wpQuiet_step (fun K hK => ?_); go_simp; first | (refine hK _ ?_; clear hK K) | (apply Exists.intro; refine ⟨fun wq hwq => ?_, hK _ ?_⟩; (obtain ⟨hcq, hfq⟩ := hwq.cells; (try go_simp); first | done | rfl | exact ⟨rfl, rfl⟩ | fail); clear hK K))); refine wpQuiet_nil ?_; intro w1 hb1; obtain ⟨hc1, hf1⟩ := hb1.cells; have hl1 := hb1.lt; have hle1 := hb1.le; have hs1 := hb1.size; (try simp at hs1); (try have hs1a : wr.heap.size < w1.heap.size := by omega); (try have hs1aa : wr.heap.size ≤ w1.heap.size := by omega); (try have hs1b : wr.heap.size + 1 < w1.heap.size := by omega); (try have hs1bb : wr.heap.size + 1 ≤ w1.heap.size := by omega); (try have hs1c : wr.heap.size + 1 + 1 < w1.heap.size := by omega); (try have hs1cc : wr.heap.size + 1 + 1 ≤ w1.heap.size := by omega); (try have hs1d : wr.heap.size + 1 + 1 + 1 < w1.heap.size := by omega); (try have hs1dd : wr.heap.size + 1 + 1 + 1 ≤ w1.heap.size := by omega); (try have hs1L := Nat.lt_of_succ_le hs1); (try have hs1M := Nat.lt_of_succ_lt hs1L); (try have hs1N := Nat.lt_of_succ_lt hs1M); (try have hs1LE := Nat.le_of_lt hs1L); (try have hs1ME := Nat.le_of_lt hs1M))
        go_wp2
        exact ⟨⟨m + 1, by simp, .inl (by omega), by first | (rw [cnt_t HT2.out]; simp) | (rw [cnt_f HT2.out]), (by repeat (first | with_reducible exact Up.refl _ | with_reducible refine Up.alloc ?_ _ | with_reducible refine Up.drew ?_ | with_reducible refine Up.drewN ?_ _ | (with_reducible refine Up.setCell ?_ (by first | omega | (simp; done) | (simp; omega)) _) | with_reducible assumption | (with_reducible refine Up.trans ?_ (by with_reducible assumption))))⟩, by simp only [intOf]; omega⟩
    · have he := Lib.hid (ht_end (O := O) hm hk1)
      have hk2 : ¬ ((m : Int) + 1 < (n : Int)) := by omega
      go_wp2
      go_ret
      exact ⟨by rw [htI, ← he.out]; rfl, (by repeat (first | with_reducible exact Up.refl _ | with_reducible refine Up.alloc ?_ _ | with_reducible refine Up.drew ?_ | with_reducible refine Up.drewN ?_ _ | (with_reducible refine Up.setCell ?_ (by first | omega | (simp; done) | (simp; omega)) _) | with_reducible assumption | (with_reducible refine Up.trans ?_ (by with_reducible assumption))))⟩
set_option maxRecDepth 100000 in
theorem CountTurns_any (v : Value) (n lo hi : Nat) (J : Nat → Int) (O : Nat → Bool) (w : World) (hs : Sl w lo hi 2 v n (hgF J O)) (hn : n ≤ 1048576) : Calls Try.prog 22 #[v] w fun e w' => e = .returned (.int .i64 (htI O n)) ∧ Up w w' := by
  obtain ⟨h0, A, c, rfl, hc, h⟩ := hs
  have H := Lib.hid h
  clear h
  go_enter Try.func22, Try.ntmps22
  go_wp2
  go_loopw [3, 4] (fun t i wr => ∃ m : Nat, i = .int .i64 ((m : Int) + 1) ∧ (m + 1 ≤ n ∨ m = 0) ∧ t = .int .i64 (cnt (turn O) (m + 1) : Int) ∧ Up w wr) (fun _ i _ => n - (intOf i).toNat)
  case atStart => exact ⟨0, by rfl, .inr rfl, by simp [cnt, turn], (by repeat (first | with_reducible exact Up.refl _ | with_reducible refine Up.alloc ?_ _ | with_reducible refine Up.drew ?_ | with_reducible refine Up.drewN ?_ _ | (with_reducible refine Up.setCell ?_ (by first | omega | (simp; done) | (simp; omega)) _) | with_reducible assumption | (with_reducible refine Up.trans ?_ (by with_reducible assumption))))⟩
  case round =>
    obtain ⟨m, rfl, hm, rfl, hup⟩ := hrel
    have hle := cnt_le (turn O) (m + 1)
    by_cases hk1 : m + 1 < n
    · obtain ⟨b, o, rfl, hb1, hb2, hcs⟩ := H.out (by omega)
      have hbs2 : b < wr.heap.size := Nat.lt_of_lt_of_le (by omega) hup.size
      have hg : wr.cell? ⟨b, o + (m + 1) * 2 + 1, none⟩ = some (.bool (O (m + 1))) := (hup.cells.1 _ _ (by omega)).trans (by simpa [hgF, Nat.add_assoc] using hcs (m + 1) 1 hk1 (by omega))
      have hq : wr.cell? ⟨b, o + m * 2 + 1, none⟩ = some (.bool (O m)) := (hup.cells.1 _ _ (by omega)).trans (by simpa [hgF, Nat.add_assoc] using hcs m 1 (by omega) (by omega))
      have hk2 : ((m : Int) + 1) < (n : Int) := by omega
      have HT : turn O (m + 1) = (O (m + 1) != O m) := by simp [turn]
      have hk3 : (m : Int) < (n : Int) := by omega
      have hwr : IntKind.i64.wrap (m : Int) = (m : Int) := by rw [IntKind.wrap_i64]; omega
      clear hcs
      cases hx : O (m + 1) <;> cases hy : O m <;> rw [hx] at hg <;> rw [hy] at hq <;> rw [hx, hy] at HT
      all_goals
        have HT2 := Lib.hid HT
        clear HT hx hy
        go_wp2_with fail
        (refine wp_region_up (by kernel_rfl) (by kernel_rfl) ?_; (repeat (refine wpQuiet_step (fun K hK => ?_); go_simp; first | (refine hK _ ?_; clear hK K) | (apply Exists.intro; refine ⟨fun wq hwq => ?_, hK _ ?_⟩; (obtain ⟨hcq, hfq⟩ := hwq.cells; (try go_simp); first | done | rfl | exact ⟨rfl, rfl⟩ | fail); clear hK K))); refine wpQuiet_nil ?_; intro w1 hb1; obtain ⟨hc1, hf1⟩ := hb1.cells; have hl1 := hb1.lt; have hle1 := hb1.le; have hs1 := hb1.size; (try simp at hs1); (try have hs1a : wr.heap.size < w1.heap.size := by omega); (try have hs1aa : wr.heap.size ≤ w1.heap.size := by omega); (try have hs1b : wr.heap.size + 1 < w1.heap.size := by omega); (try have hs1bb : wr.heap.size + 1 ≤ w1.heap.size := by omega); (try have hs1c : wr.heap.size + 1 + 1 < w1.heap.size := by omega); (try have hs1cc : wr.heap.size + 1 + 1 ≤ w1.heap.size := by omega); (try have hs1d : wr.heap.size + 1 + 1 + 1 < w1.heap.size := by omega); (try have hs1dd : wr.heap.size + 1 + 1 + 1 ≤ w1.heap.size := by omega); (try have hs1L := Nat.lt_of_succ_le hs1); (try have hs1M := Nat.lt_of_succ_lt hs1L); (try have hs1N := Nat.lt_of_succ_lt hs1M); (try have hs1LE := Nat.le_of_lt hs1L); (try have hs1ME := Nat.le_of_lt hs1M))
        go_wp2
        exact ⟨⟨m + 1, by simp, .inl (by omega), by first | (rw [cnt_t HT2.out]; simp) | (rw [cnt_f HT2.out]), (by repeat (first | with_reducible exact Up.refl _ | with_reducible refine Up.alloc ?_ _ | with_reducible refine Up.drew ?_ | with_reducible refine Up.drewN ?_ _ | (with_reducible refine Up.setCell ?_ (by first | omega | (simp; done) | (simp; omega)) _) | with_reducible assumption | (with_reducible refine Up.trans ?_ (by with_reducible assumption))))⟩, by simp only [intOf]; omega⟩
    · have he := Lib.hid (ht_end (O := O) hm hk1)
      have hk2 : ¬ ((m : Int) + 1 < (n : Int)) := by omega
      go_wp2
      go_ret
      exact ⟨by rw [htI, ← he.out]; rfl, (by repeat (first | with_reducible exact Up.refl _ | with_reducible refine Up.alloc ?_ _ | with_reducible refine Up.drew ?_ | with_reducible refine Up.drewN ?_ _ | (with_reducible refine Up.setCell ?_ (by first | omega | (simp; done) | (simp; omega)) _) | with_reducible assumption | (with_reducible refine Up.trans ?_ (by with_reducible assumption))))⟩
end Go.Proofs.Ytigcmhdjafglbaa
