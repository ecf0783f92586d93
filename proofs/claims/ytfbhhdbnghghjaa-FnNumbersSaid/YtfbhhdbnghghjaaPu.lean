/- The walks of ParseUint, the program's and the reference's, and of its law. No condition. -/
import Derived.Test.YtfbhhdbnghghjaaFmt2
import Derived.Test.YtfbhhdbnghghjaaOpen
namespace Go.Proofs.Ytfbhhdbnghghjaa
open Go.RowKit
set_option linter.unusedVariables false
/-- The byte of a string at a place. -/
def bat (s : ByteArray) (k : Nat) : Nat := (s.data.getD k 0).toNat
theorem bat_le (s : ByteArray) (k : Nat) : bat s k ≤ 255 := by have := (s.data.getD k 0).toNat_lt; unfold bat; omega
theorem bat_at {s : ByteArray} {k : Nat} (h : k < s.size) : (s[k]'h).toNat = bat s k := by
  have h' : k < s.data.size := h
  unfold bat
  rw [Array.getD, dif_pos h']
  rfl
/-- The number of the first k figures. -/
def pv (s : ByteArray) : Nat → Nat
  | 0 => 0
  | k + 1 => 10 * pv s k + (bat s k - 48)
def digs (s : ByteArray) (k : Nat) : Prop := ∀ j, j < k → 48 ≤ bat s j ∧ bat s j ≤ 57
theorem digs_zero (s : ByteArray) : digs s 0 := fun j hj => by omega
theorem digs_succ {s : ByteArray} {k : Nat} (h : digs s k) (h1 : 48 ≤ bat s k) (h2 : bat s k ≤ 57) : digs s (k + 1) := fun j hj => by
  rcases Nat.lt_or_ge j k with hj' | hj'
  · exact h j hj'
  · rw [show j = k from by omega]; exact ⟨h1, h2⟩
theorem pv_lt {s : ByteArray} {k : Nat} (h : digs s k) : pv s k < 10 ^ k := by
  induction k with
  | zero => simp [pv]
  | succ k ih =>
    have h1 := ih (fun j hj => h j (by omega))
    have h2 := h k (by omega)
    rw [pv, Nat.pow_succ]; omega
theorem pv_big {s : ByteArray} {k : Nat} (h : digs s k) (hk : k ≤ 10) : pv s k < 10000000000 :=
  Nat.lt_of_lt_of_le (pv_lt h) (Nat.le_trans (Nat.pow_le_pow_right (by omega) hk) (by decide))
open Classical in
noncomputable def puB (s : ByteArray) : Bool := decide (s.size ≤ 10 ∧ digs s s.size ∧ pv s s.size ≤ 1000000000 ∧ fmtI (pv s s.size) = s.data.toList)
noncomputable def puV (s : ByteArray) : Int := if puB s = true then (pv s s.size : Int) else 0
theorem puB_false {s : ByteArray} (h : ¬ (s.size ≤ 10 ∧ digs s s.size ∧ pv s s.size ≤ 1000000000 ∧ fmtI (pv s s.size) = s.data.toList)) : puB s = false := by simp [puB]; intro a b c d; exact h ⟨a, b, c, d⟩
theorem puB_true {s : ByteArray} (h : s.size ≤ 10 ∧ digs s s.size ∧ pv s s.size ≤ 1000000000 ∧ fmtI (pv s s.size) = s.data.toList) : puB s = true := by simp only [puB, decide_eq_true_eq]; exact h
theorem puV_false {s : ByteArray} (h : puB s = false) : puV s = 0 := by simp [puV, h]
theorem puV_true {s : ByteArray} (h : puB s = true) : puV s = (pv s s.size : Int) := by simp [puV, h]
set_option maxRecDepth 100000 in
theorem sParseUint_any (s : ByteArray) (w : World) : Calls Try.prog 25 #[.string s] w fun e w' => e = .returned (.tuple #[.int .i64 (puV s), .bool (puB s)]) ∧ Up w w' := by
  by_cases hs : s.size ≤ 10
  rotate_left
  · have hb := puB_false (s := s) (fun h => hs h.1)
    rw [puV_false hb, hb]
    have hs1 : 10 < s.size := by omega
    have hs2 : ¬ s.size < 1 := by omega
    go_enter Try.func25, Try.ntmps25
    go_wp2
    exact bodyPost_ret (v := .tuple #[.int .i64 0, .bool false]) (by simp only [results]; go_simp; try simp) rfl ⟨by first | rfl | (rw [puV_false hb]; done) | (rw [puV_false hb, hb]; done) | (rw [puV_true hb, hb, HN.out]; done), (by repeat (first | with_reducible exact Up.refl _ | with_reducible refine Up.alloc ?_ _ | with_reducible refine Up.drew ?_ | with_reducible refine Up.drewN ?_ _ | (with_reducible refine Up.setCell ?_ (by first | omega | (simp; done) | (simp; omega)) _) | with_reducible assumption | (with_reducible refine Up.trans ?_ (by with_reducible assumption))))⟩
  · have hs1 : ¬ 10 < s.size := by omega
    go_enter Try.func25, Try.ntmps25
    go_wp2
    go_loopw [4, 5] (fun n i wr => ∃ k : Nat, n = .int .i64 (pv s k : Int) ∧ i = .int .i64 (k : Int) ∧ k ≤ s.size ∧ Hid (digs s k) ∧ Up w wr) (fun _ i _ => s.size - (intOf i).toNat)
    case atStart => exact ⟨0, rfl, rfl, Nat.zero_le _, digs_zero s, (by repeat (first | with_reducible exact Up.refl _ | with_reducible refine Up.alloc ?_ _ | with_reducible refine Up.drew ?_ | with_reducible refine Up.drewN ?_ _ | (with_reducible refine Up.setCell ?_ (by first | omega | (simp; done) | (simp; omega)) _) | with_reducible assumption | (with_reducible refine Up.trans ?_ (by with_reducible assumption))))⟩
    case round =>
      obtain ⟨k, rfl, rfl, hk, hd, hup⟩ := hrel
      have hp := pv_big hd.out (by omega)
      generalize hN : pv s k = N at *
      have HN := Lib.hid hN
      clear hN
      by_cases hk1 : k < s.size
      · have hB := bat_at hk1
        have hB2 := bat_le s k
        generalize hBB : bat s k = B at *
        have HBB := Lib.hid hBB
        clear hBB
        by_cases h1 : B < 48
        · have hb := puB_false (s := s) (fun h => by have := h.2.1 k hk1; rw [HBB.out] at this; omega)
          go_wp2
          exact bodyPost_ret (v := .tuple #[.int .i64 0, .bool false]) (by simp only [results]; go_simp; try simp) rfl ⟨by first | rfl | (rw [puV_false hb]; done) | (rw [puV_false hb, hb]; done) | (rw [puV_true hb, hb, HN.out]; done), (by repeat (first | with_reducible exact Up.refl _ | with_reducible refine Up.alloc ?_ _ | with_reducible refine Up.drew ?_ | with_reducible refine Up.drewN ?_ _ | (with_reducible refine Up.setCell ?_ (by first | omega | (simp; done) | (simp; omega)) _) | with_reducible assumption | (with_reducible refine Up.trans ?_ (by with_reducible assumption))))⟩
        · by_cases h2 : 57 < B
          · have hb := puB_false (s := s) (fun h => by have := h.2.1 k hk1; rw [HBB.out] at this; omega)
            go_wp2
            exact bodyPost_ret (v := .tuple #[.int .i64 0, .bool false]) (by simp only [results]; go_simp; try simp) rfl ⟨by first | rfl | (rw [puV_false hb]; done) | (rw [puV_false hb, hb]; done) | (rw [puV_true hb, hb, HN.out]; done), (by repeat (first | with_reducible exact Up.refl _ | with_reducible refine Up.alloc ?_ _ | with_reducible refine Up.drew ?_ | with_reducible refine Up.drewN ?_ _ | (with_reducible refine Up.setCell ?_ (by first | omega | (simp; done) | (simp; omega)) _) | with_reducible assumption | (with_reducible refine Up.trans ?_ (by with_reducible assumption))))⟩
          · go_wp2
            case roundEnd =>
              refine ⟨⟨k + 1, ?_, by rfl, by omega, digs_succ hd.out (by rw [HBB.out]; omega) (by rw [HBB.out]; omega), (by repeat (first | with_reducible exact Up.refl _ | with_reducible refine Up.alloc ?_ _ | with_reducible refine Up.drew ?_ | with_reducible refine Up.drewN ?_ _ | (with_reducible refine Up.setCell ?_ (by first | omega | (simp; done) | (simp; omega)) _) | with_reducible assumption | (with_reducible refine Up.trans ?_ (by with_reducible assumption))))⟩, ?_⟩
              · rw [pv, HN.out, HBB.out, show (10 * N + B - 48 : Int) = ((10 * N + (B - 48) : Nat) : Int) from by omega]
              · simp only [intOf]; omega
      · have hkk : k = s.size := by omega
        subst hkk
        by_cases h3 : 1000000000 < N
        · have hb := puB_false (s := s) (fun h => by have := h.2.2.1; rw [HN.out] at this; omega)
          go_wp2
          exact bodyPost_ret (v := .tuple #[.int .i64 0, .bool false]) (by simp only [results]; go_simp; try simp) rfl ⟨by first | rfl | (rw [puV_false hb]; done) | (rw [puV_false hb, hb]; done) | (rw [puV_true hb, hb, HN.out]; done), (by repeat (first | with_reducible exact Up.refl _ | with_reducible refine Up.alloc ?_ _ | with_reducible refine Up.drew ?_ | with_reducible refine Up.drewN ?_ _ | (with_reducible refine Up.setCell ?_ (by first | omega | (simp; done) | (simp; omega)) _) | with_reducible assumption | (with_reducible refine Up.trans ?_ (by with_reducible assumption))))⟩
        · by_cases h4 : fmtI (N : Int) = s.data.toList
          · have hb := puB_true (s := s) ⟨hs, hd.out, by rw [HN.out]; omega, by rw [HN.out]; exact h4⟩
            have h5 : fmtI (N : Int) = s.toList := by rw [ByteArray.toList_eq]; exact h4
            have hN64 : I64 (N : Int) := by unfold I64; omega
            go_wp2_with (go_at_call 16; (with_reducible refine (sFormatInt_any _ _ (by assumption)).mono ?_); rintro e w1 ⟨rfl, hb1⟩; obtain ⟨hc1, hf1⟩ := hb1.cells; have hl1 := hb1.lt; have hle1 := hb1.le; have hs1 := hb1.size; (try simp at hs1); (try have hs1a : w.heap.size < w1.heap.size := by omega); (try have hs1aa : w.heap.size ≤ w1.heap.size := by omega); (try have hs1b : w.heap.size + 1 < w1.heap.size := by omega); (try have hs1bb : w.heap.size + 1 ≤ w1.heap.size := by omega); (try have hs1c : w.heap.size + 1 + 1 < w1.heap.size := by omega); (try have hs1cc : w.heap.size + 1 + 1 ≤ w1.heap.size := by omega); (try have hs1d : w.heap.size + 1 + 1 + 1 < w1.heap.size := by omega); (try have hs1dd : w.heap.size + 1 + 1 + 1 ≤ w1.heap.size := by omega); (try have hs1L := Nat.lt_of_succ_le hs1); (try have hs1M := Nat.lt_of_succ_lt hs1L); (try have hs1N := Nat.lt_of_succ_lt hs1M); (try have hs1LE := Nat.le_of_lt hs1L); (try have hs1ME := Nat.le_of_lt hs1M))
            exact bodyPost_ret (v := .tuple #[.int .i64 (N : Int), .bool true]) (by simp only [results]; go_simp; try simp) rfl ⟨by first | rfl | (rw [puV_false hb]; done) | (rw [puV_false hb, hb]; done) | (rw [puV_true hb, hb, HN.out]; done), (by repeat (first | with_reducible exact Up.refl _ | with_reducible refine Up.alloc ?_ _ | with_reducible refine Up.drew ?_ | with_reducible refine Up.drewN ?_ _ | (with_reducible refine Up.setCell ?_ (by first | omega | (simp; done) | (simp; omega)) _) | with_reducible assumption | (with_reducible refine Up.trans ?_ (by with_reducible assumption))))⟩
          · have hb := puB_false (s := s) (fun h => by have := h.2.2.2; rw [HN.out] at this; exact h4 this)
            have h5 : (fmtI (N : Int) == s.toList) = false := by rw [beq_eq_false_iff_ne, ByteArray.toList_eq]; exact h4
            have hN64 : I64 (N : Int) := by unfold I64; omega
            go_wp2_with (go_at_call 16; (with_reducible refine (sFormatInt_any _ _ (by assumption)).mono ?_); rintro e w1 ⟨rfl, hb1⟩; obtain ⟨hc1, hf1⟩ := hb1.cells; have hl1 := hb1.lt; have hle1 := hb1.le; have hs1 := hb1.size; (try simp at hs1); (try have hs1a : w.heap.size < w1.heap.size := by omega); (try have hs1aa : w.heap.size ≤ w1.heap.size := by omega); (try have hs1b : w.heap.size + 1 < w1.heap.size := by omega); (try have hs1bb : w.heap.size + 1 ≤ w1.heap.size := by omega); (try have hs1c : w.heap.size + 1 + 1 < w1.heap.size := by omega); (try have hs1cc : w.heap.size + 1 + 1 ≤ w1.heap.size := by omega); (try have hs1d : w.heap.size + 1 + 1 + 1 < w1.heap.size := by omega); (try have hs1dd : w.heap.size + 1 + 1 + 1 ≤ w1.heap.size := by omega); (try have hs1L := Nat.lt_of_succ_le hs1); (try have hs1M := Nat.lt_of_succ_lt hs1L); (try have hs1N := Nat.lt_of_succ_lt hs1M); (try have hs1LE := Nat.le_of_lt hs1L); (try have hs1ME := Nat.le_of_lt hs1M))
            all_goals exact bodyPost_ret (v := .tuple #[.int .i64 0, .bool false]) (by simp only [results]; go_simp; try simp) rfl ⟨by first | rfl | (rw [puV_false hb]; done) | (rw [puV_false hb, hb]; done) | (rw [puV_true hb, hb, HN.out]; done), (by repeat (first | with_reducible exact Up.refl _ | with_reducible refine Up.alloc ?_ _ | with_reducible refine Up.drew ?_ | with_reducible refine Up.drewN ?_ _ | (with_reducible refine Up.setCell ?_ (by first | omega | (simp; done) | (simp; omega)) _) | with_reducible assumption | (with_reducible refine Up.trans ?_ (by with_reducible assumption))))⟩
set_option maxRecDepth 100000 in
theorem ParseUint_any (s : ByteArray) (w : World) : Calls Try.prog 26 #[.string s] w fun e w' => e = .returned (.tuple #[.int .i64 (puV s), .bool (puB s)]) ∧ Up w w' := by
  by_cases hs : s.size ≤ 10
  rotate_left
  · have hb := puB_false (s := s) (fun h => hs h.1)
    rw [puV_false hb, hb]
    have hs1 : 10 < s.size := by omega
    have hs2 : ¬ s.size < 1 := by omega
    go_enter Try.func26, Try.ntmps26
    go_wp2
    exact bodyPost_ret (v := .tuple #[.int .i64 0, .bool false]) (by simp only [results]; go_simp; try simp) rfl ⟨by first | rfl | (rw [puV_false hb]; done) | (rw [puV_false hb, hb]; done) | (rw [puV_true hb, hb, HN.out]; done), (by repeat (first | with_reducible exact Up.refl _ | with_reducible refine Up.alloc ?_ _ | with_reducible refine Up.drew ?_ | with_reducible refine Up.drewN ?_ _ | (with_reducible refine Up.setCell ?_ (by first | omega | (simp; done) | (simp; omega)) _) | with_reducible assumption | (with_reducible refine Up.trans ?_ (by with_reducible assumption))))⟩
  by_cases hz : s.size < 1
  · have hb := puB_false (s := s) (fun h => by
      have h0 : s.size = 0 := by omega
      have h1 := h.2.2.2
      rw [h0, pv] at h1
      have h2 : (fmtI ((0 : Nat) : Int)).length = s.data.size := by rw [h1]; simp
      have h3 : s.data.size = 0 := h0
      rw [h3, show fmtI ((0 : Nat) : Int) = [48] from by rw [fmtI, if_neg (by omega), decN_lt (by decide)]; rfl] at h2
      simp at h2)
    rw [puV_false hb, hb]
    go_enter Try.func26, Try.ntmps26
    go_wp2
    exact bodyPost_ret (v := .tuple #[.int .i64 0, .bool false]) (by simp only [results]; go_simp; try simp) rfl ⟨rfl, (by repeat (first | with_reducible exact Up.refl _ | with_reducible refine Up.alloc ?_ _ | with_reducible refine Up.drew ?_ | with_reducible refine Up.drewN ?_ _ | (with_reducible refine Up.setCell ?_ (by first | omega | (simp; done) | (simp; omega)) _) | with_reducible assumption | (with_reducible refine Up.trans ?_ (by with_reducible assumption))))⟩
  · have hs1 : ¬ 10 < s.size := by omega
    go_enter Try.func26, Try.ntmps26
    go_wp2
    go_loopw [4, 16] (fun n i wr => ∃ k : Nat, n = .int .i64 (pv s k : Int) ∧ i = .int .i64 (k : Int) ∧ k ≤ s.size ∧ Hid (digs s k) ∧ Up w wr) (fun _ i _ => s.size - (intOf i).toNat)
    case atStart => exact ⟨0, rfl, rfl, Nat.zero_le _, digs_zero s, (by repeat (first | with_reducible exact Up.refl _ | with_reducible refine Up.alloc ?_ _ | with_reducible refine Up.drew ?_ | with_reducible refine Up.drewN ?_ _ | (with_reducible refine Up.setCell ?_ (by first | omega | (simp; done) | (simp; omega)) _) | with_reducible assumption | (with_reducible refine Up.trans ?_ (by with_reducible assumption))))⟩
    case round =>
      obtain ⟨k, rfl, rfl, hk, hd, hup⟩ := hrel
      have hp := pv_big hd.out (by omega)
      generalize hN : pv s k = N at *
      have HN := Lib.hid hN
      clear hN
      by_cases hk1 : k < s.size
      · have hB := bat_at hk1
        have hB2 := bat_le s k
        generalize hBB : bat s k = B at *
        have HBB := Lib.hid hBB
        clear hBB
        by_cases h1 : B < 48
        · have hb := puB_false (s := s) (fun h => by have := h.2.1 k hk1; rw [HBB.out] at this; omega)
          go_wp2
          exact bodyPost_ret (v := .tuple #[.int .i64 0, .bool false]) (by simp only [results]; go_simp; try simp) rfl ⟨by first | rfl | (rw [puV_false hb]; done) | (rw [puV_false hb, hb]; done) | (rw [puV_true hb, hb, HN.out]; done), (by repeat (first | with_reducible exact Up.refl _ | with_reducible refine Up.alloc ?_ _ | with_reducible refine Up.drew ?_ | with_reducible refine Up.drewN ?_ _ | (with_reducible refine Up.setCell ?_ (by first | omega | (simp; done) | (simp; omega)) _) | with_reducible assumption | (with_reducible refine Up.trans ?_ (by with_reducible assumption))))⟩
        · by_cases h2 : 57 < B
          · have hb := puB_false (s := s) (fun h => by have := h.2.1 k hk1; rw [HBB.out] at this; omega)
            go_wp2
            exact bodyPost_ret (v := .tuple #[.int .i64 0, .bool false]) (by simp only [results]; go_simp; try simp) rfl ⟨by first | rfl | (rw [puV_false hb]; done) | (rw [puV_false hb, hb]; done) | (rw [puV_true hb, hb, HN.out]; done), (by repeat (first | with_reducible exact Up.refl _ | with_reducible refine Up.alloc ?_ _ | with_reducible refine Up.drew ?_ | with_reducible refine Up.drewN ?_ _ | (with_reducible refine Up.setCell ?_ (by first | omega | (simp; done) | (simp; omega)) _) | with_reducible assumption | (with_reducible refine Up.trans ?_ (by with_reducible assumption))))⟩
          · go_wp2
            case roundEnd =>
              refine ⟨⟨k + 1, ?_, by rfl, by omega, digs_succ hd.out (by rw [HBB.out]; omega) (by rw [HBB.out]; omega), (by repeat (first | with_reducible exact Up.refl _ | with_reducible refine Up.alloc ?_ _ | with_reducible refine Up.drew ?_ | with_reducible refine Up.drewN ?_ _ | (with_reducible refine Up.setCell ?_ (by first | omega | (simp; done) | (simp; omega)) _) | with_reducible assumption | (with_reducible refine Up.trans ?_ (by with_reducible assumption))))⟩, ?_⟩
              · rw [pv, HN.out, HBB.out, show (N * 10 + (B - 48) : Int) = ((10 * N + (B - 48) : Nat) : Int) from by omega]
              · simp only [intOf]; omega
      · have hkk : k = s.size := by omega
        subst hkk
        by_cases h3 : 1000000000 < N
        · have hb := puB_false (s := s) (fun h => by have := h.2.2.1; rw [HN.out] at this; omega)
          go_wp2
          exact bodyPost_ret (v := .tuple #[.int .i64 0, .bool false]) (by simp only [results]; go_simp; try simp) rfl ⟨by first | rfl | (rw [puV_false hb]; done) | (rw [puV_false hb, hb]; done) | (rw [puV_true hb, hb, HN.out]; done), (by repeat (first | with_reducible exact Up.refl _ | with_reducible refine Up.alloc ?_ _ | with_reducible refine Up.drew ?_ | with_reducible refine Up.drewN ?_ _ | (with_reducible refine Up.setCell ?_ (by first | omega | (simp; done) | (simp; omega)) _) | with_reducible assumption | (with_reducible refine Up.trans ?_ (by with_reducible assumption))))⟩
        · by_cases h4 : fmtI (N : Int) = s.data.toList
          · have hb := puB_true (s := s) ⟨hs, hd.out, by rw [HN.out]; omega, by rw [HN.out]; exact h4⟩
            have h5 : fmtI (N : Int) = s.toList := by rw [ByteArray.toList_eq]; exact h4
            have hN64 : I64 (N : Int) := by unfold I64; omega
            go_wp2_with (go_at_call 17; (with_reducible refine (FormatInt_any _ _ (by assumption)).mono ?_); rintro e w1 ⟨rfl, hb1⟩; obtain ⟨hc1, hf1⟩ := hb1.cells; have hl1 := hb1.lt; have hle1 := hb1.le; have hs1 := hb1.size; (try simp at hs1); (try have hs1a : w.heap.size < w1.heap.size := by omega); (try have hs1aa : w.heap.size ≤ w1.heap.size := by omega); (try have hs1b : w.heap.size + 1 < w1.heap.size := by omega); (try have hs1bb : w.heap.size + 1 ≤ w1.heap.size := by omega); (try have hs1c : w.heap.size + 1 + 1 < w1.heap.size := by omega); (try have hs1cc : w.heap.size + 1 + 1 ≤ w1.heap.size := by omega); (try have hs1d : w.heap.size + 1 + 1 + 1 < w1.heap.size := by omega); (try have hs1dd : w.heap.size + 1 + 1 + 1 ≤ w1.heap.size := by omega); (try have hs1L := Nat.lt_of_succ_le hs1); (try have hs1M := Nat.lt_of_succ_lt hs1L); (try have hs1N := Nat.lt_of_succ_lt hs1M); (try have hs1LE := Nat.le_of_lt hs1L); (try have hs1ME := Nat.le_of_lt hs1M))
            exact bodyPost_ret (v := .tuple #[.int .i64 (N : Int), .bool true]) (by simp only [results]; go_simp; try simp) rfl ⟨by first | rfl | (rw [puV_false hb]; done) | (rw [puV_false hb, hb]; done) | (rw [puV_true hb, hb, HN.out]; done), (by repeat (first | with_reducible exact Up.refl _ | with_reducible refine Up.alloc ?_ _ | with_reducible refine Up.drew ?_ | with_reducible refine Up.drewN ?_ _ | (with_reducible refine Up.setCell ?_ (by first | omega | (simp; done) | (simp; omega)) _) | with_reducible assumption | (with_reducible refine Up.trans ?_ (by with_reducible assumption))))⟩
          · have hb := puB_false (s := s) (fun h => by have := h.2.2.2; rw [HN.out] at this; exact h4 this)
            have h5 : (fmtI (N : Int) == s.toList) = false := by rw [beq_eq_false_iff_ne, ByteArray.toList_eq]; exact h4
            have hN64 : I64 (N : Int) := by unfold I64; omega
            go_wp2_with (go_at_call 17; (with_reducible refine (FormatInt_any _ _ (by assumption)).mono ?_); rintro e w1 ⟨rfl, hb1⟩; obtain ⟨hc1, hf1⟩ := hb1.cells; have hl1 := hb1.lt; have hle1 := hb1.le; have hs1 := hb1.size; (try simp at hs1); (try have hs1a : w.heap.size < w1.heap.size := by omega); (try have hs1aa : w.heap.size ≤ w1.heap.size := by omega); (try have hs1b : w.heap.size + 1 < w1.heap.size := by omega); (try have hs1bb : w.heap.size + 1 ≤ w1.heap.size := by omega); (try have hs1c : w.heap.size + 1 + 1 < w1.heap.size := by omega); (try have hs1cc : w.heap.size + 1 + 1 ≤ w1.heap.size := by omega); (try have hs1d : w.heap.size + 1 + 1 + 1 < w1.heap.size := by omega); (try have hs1dd : w.heap.size + 1 + 1 + 1 ≤ w1.heap.size := by omega); (try have hs1L := Nat.lt_of_succ_le hs1); (try have hs1M := Nat.lt_of_succ_lt hs1L); (try have hs1N := Nat.lt_of_succ_lt hs1M); (try have hs1LE := Nat.le_of_lt hs1L); (try have hs1ME := Nat.le_of_lt hs1M))
            all_goals exact bodyPost_ret (v := .tuple #[.int .i64 0, .bool false]) (by simp only [results]; go_simp; try simp) rfl ⟨by first | rfl | (rw [puV_false hb]; done) | (rw [puV_false hb, hb]; done) | (rw [puV_true hb, hb, HN.out]; done), (by repeat (first | with_reducible exact Up.refl _ | with_reducible refine Up.alloc ?_ _ | with_reducible refine Up.drew ?_ | with_reducible refine Up.drewN ?_ _ | (with_reducible refine Up.setCell ?_ (by first | omega | (simp; done) | (simp; omega)) _) | with_reducible assumption | (with_reducible refine Up.trans ?_ (by with_reducible assumption))))⟩
theorem law_ParseUint (s : ByteArray) (w : World) (h1 : s.size ≤ maxLen) : Calls Try.prog 7 #[.string s] w fun e w' => e = .returned (.bool true) ∧ Up w w' := by
  by_cases hbig : 1048576 < s.size
  · go_enter Try.func7, Try.ntmps7
    go_wp2
    go_ret
    exact ⟨rfl, (by repeat (first | with_reducible exact Up.refl _ | with_reducible refine Up.alloc ?_ _ | with_reducible refine Up.drew ?_ | with_reducible refine Up.drewN ?_ _ | (with_reducible refine Up.setCell ?_ (by first | omega | (simp; done) | (simp; omega)) _) | with_reducible assumption | (with_reducible refine Up.trans ?_ (by with_reducible assumption))))⟩
  go_enter Try.func7, Try.ntmps7
  go_wp2_with fail
  (go_at_call 25; (with_reducible refine (sParseUint_any _ _).mono ?_); rintro e w1 ⟨rfl, hb1⟩; obtain ⟨hc1, hf1⟩ := hb1.cells; have hs1 := hb1.size; (try simp at hs1); (try have hs1_0a : w.heap.size < w1.heap.size := by omega); (try have hs1_0a' : w.heap.size ≤ w1.heap.size := by omega); (try have hs1_0b : w.heap.size + 1 < w1.heap.size := by omega); (try have hs1_0b' : w.heap.size + 1 ≤ w1.heap.size := by omega); (try have hs1_0c : w.heap.size + 1 + 1 < w1.heap.size := by omega); (try have hs1_0c' : w.heap.size + 1 + 1 ≤ w1.heap.size := by omega))
  go_wp2_with fail
  (go_at_call 26; (with_reducible refine (ParseUint_any _ _).mono ?_); rintro e w2 ⟨rfl, hb2⟩; obtain ⟨hc2, hf2⟩ := hb2.cells; have hs2 := hb2.size; (try simp at hs2); (try have hs2_0a : w.heap.size < w2.heap.size := by omega); (try have hs2_0a' : w.heap.size ≤ w2.heap.size := by omega); (try have hs2_0b : w.heap.size + 1 < w2.heap.size := by omega); (try have hs2_0b' : w.heap.size + 1 ≤ w2.heap.size := by omega); (try have hs2_0c : w.heap.size + 1 + 1 < w2.heap.size := by omega); (try have hs2_0c' : w.heap.size + 1 + 1 ≤ w2.heap.size := by omega); (try have hs2_1a : w1.heap.size < w2.heap.size := by omega); (try have hs2_1a' : w1.heap.size ≤ w2.heap.size := by omega); (try have hs2_1b : w1.heap.size + 1 < w2.heap.size := by omega); (try have hs2_1b' : w1.heap.size + 1 ≤ w2.heap.size := by omega); (try have hs2_1c : w1.heap.size + 1 + 1 < w2.heap.size := by omega); (try have hs2_1c' : w1.heap.size + 1 + 1 ≤ w2.heap.size := by omega))
  go_wp2
  go_ret
  exact ⟨rfl, (by repeat (first | with_reducible exact Up.refl _ | with_reducible refine Up.alloc ?_ _ | with_reducible refine Up.drew ?_ | with_reducible refine Up.drewN ?_ _ | (with_reducible refine Up.setCell ?_ (by first | omega | (simp; done) | (simp; omega)) _) | with_reducible assumption | (with_reducible refine Up.trans ?_ (by with_reducible assumption))))⟩
end Go.Proofs.Ytfbhhdbnghghjaa
