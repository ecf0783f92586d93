/- The walks of divisors and thrusts: each returns what the plain function gives. No condition. -/
import Derived.Test.YtaealkfnhhmmcaaPts
import Derived.Test.YtaealkfnhhmmcaaNum
import Derived.Deep.RegionHeld3
namespace Go.Proofs.Ytaealkfnhhmmcaa
open Go.RowKit
set_option linter.unusedVariables false
theorem magnitude_any (n : Int) (w : World) (h : I64 n) : Calls Try.prog 73 #[.int .i64 n] w fun e w' => e = .returned (.int .u64 (n.natAbs : Int)) ∧ w = w' := by
  obtain ⟨h1, h2⟩ := h
  by_cases hn : n < 0
  · go_enter Try.func73, Try.ntmps73
    go_wp2
    go_ret
    exact ⟨ret_int (by (try simp [IntKind.wrap, IntKind.bits, IntKind.signed]); omega), rfl⟩
  · go_enter Try.func73, Try.ntmps73
    go_wp2
    go_ret
    exact ⟨ret_int (by (try simp [IntKind.wrap, IntKind.bits, IntKind.signed]); omega), rfl⟩
theorem commonDivisor_any (l : List Int) (b cap : Nat) (w : World) (hc : ∀ k, k < l.length → w.cell? ⟨b, k, none⟩ = some (.int .i64 (l.getD k 0))) (hm : ∀ n ∈ l, n.natAbs ≤ 9223372036854775807) (hb : b < w.heap.size) (hl : l.length ≤ 1000) :
    Calls Try.prog 41 #[.slice (some ⟨b, 0, none⟩) l.length cap] w fun e w' => e = .returned (.int .i64 (gcdL l)) ∧ Up w w' := by
  have hG : gcdL l ≤ 9223372036854775807 := gcdL_le l _ hm
  go_enter Try.func41, Try.ntmps41
  go_wp2
  go_loopw [3, 9] (fun d i wr => ∃ k : Nat, k ≤ l.length ∧ i = .int .i64 k ∧ d = .int .u64 (gcdL (l.take k)) ∧ Up w wr) (fun _ i _ => l.length - (intOf i).toNat)
  case atStart => exact ⟨0, Nat.zero_le _, rfl, rfl, Up.refl _⟩
  case round =>
    obtain ⟨k, hk, rfl, rfl, hup⟩ := hrel
    obtain ⟨hcu, hfu⟩ := hup.cells
    by_cases hlt : k < l.length
    · have hce := (hcu b k hb).trans (hc k hlt)
      have hmk : (l.getD k 0).natAbs ≤ 9223372036854775807 := hm _ (by rw [List.getD_eq_getElem?_getD]; simp [hlt])
      have hDk : gcdL (l.take k) ≤ 9223372036854775807 := gcdL_le _ _ (fun n hn => hm n (List.mem_of_mem_take hn))
      have hts := Lib.hid (gcdL_take_succ l k hlt)
      generalize hx : l.getD k 0 = x at *
      clear hx hc hcu hfu hm
      have hI : I64 x := by constructor <;> omega
      go_wp2_with (go_at_call 73; (with_reducible refine (magnitude_any _ _ (by assumption)).mono ?_); rintro e w1 ⟨rfl, rfl⟩)
      generalize hD : gcdL (l.take k) = D0 at *
      have HD := Lib.hid hD
      clear hD hce
      obtain ⟨wo, rfl⟩ : ∃ wo : World, wo = wr := ⟨_, rfl⟩
      go_loopw [3, 6] (fun d m wr2 => ∃ D M : Nat, d = .int .u64 D ∧ m = .int .u64 M ∧ Nat.gcd D M = Nat.gcd D0 x.natAbs ∧ D ≤ 9223372036854775807 ∧ M ≤ 9223372036854775807 ∧ Up wo wr2) (fun _ m _ => (intOf m).toNat)
      case atStart => exact ⟨_, _, rfl, rfl, rfl, by omega, by omega, Up.refl _⟩
      case round =>
        obtain ⟨D, M, rfl, rfl, hg, hD1, hM1, hup2⟩ := hrel
        have HGD := Lib.hid hg
        clear hg
        by_cases hM0 : M = 0
        · subst hM0
          go_wp2
          go_roundw
          case rel => exact ⟨k + 1, by omega, by go_num, by rw [hts.out, ← HGD.out, Nat.gcd_zero_right], hup.trans hup2⟩
          case measure => simp [intOf]; omega
        · have hb1 : ((M : Int) != 0) = true := by rw [bne_iff_ne]; omega
          have hb2 : ((M : Int) == 0) = false := by rw [beq_eq_false_iff_ne]; omega
          go_wp2
          (refine wp_region_up (by kernel_rfl) (by kernel_rfl) ?_; (repeat (refine wpQuiet_step (fun K hK => ?_); go_simp; first | (refine hK _ ?_; clear hK K) | (apply Exists.intro; refine ⟨fun wq hwq => ?_, hK _ ?_⟩; (obtain ⟨hcq, hfq⟩ := hwq.cells; (try go_simp); first | done | rfl | exact ⟨rfl, rfl⟩ | fail); clear hK K))); refine wpQuiet_nil ?_; intro w1 hb1; obtain ⟨hc1, hf1⟩ := hb1.cells; have hl1 := hb1.lt; have hle1 := hb1.le; have hs1 := hb1.size; (try simp at hs1); (try have hs1a : wo.heap.size < w1.heap.size := by omega); (try have hs1aa : wo.heap.size ≤ w1.heap.size := by omega); (try have hs1b : wo.heap.size + 1 < w1.heap.size := by omega); (try have hs1bb : wo.heap.size + 1 ≤ w1.heap.size := by omega); (try have hs1c : wo.heap.size + 1 + 1 < w1.heap.size := by omega); (try have hs1cc : wo.heap.size + 1 + 1 ≤ w1.heap.size := by omega); (try have hs1d : wo.heap.size + 1 + 1 + 1 < w1.heap.size := by omega); (try have hs1dd : wo.heap.size + 1 + 1 + 1 ≤ w1.heap.size := by omega); (try have hs1L := Nat.lt_of_succ_le hs1); (try have hs1M := Nat.lt_of_succ_lt hs1L); (try have hs1N := Nat.lt_of_succ_lt hs1M); (try have hs1LE := Nat.le_of_lt hs1L); (try have hs1ME := Nat.le_of_lt hs1M))
          go_wp2
          go_roundw
          case rel => exact ⟨M, D % M, rfl, by rw [tmod_nat], by rw [← HGD.out, Nat.gcd_comm M, ← Nat.gcd_rec, Nat.gcd_comm], by omega, by have := Nat.mod_lt D (Nat.pos_of_ne_zero hM0); omega, hup2.trans hb1⟩
          case measure => rw [tmod_nat]; simp [intOf]; exact Nat.mod_lt D (Nat.pos_of_ne_zero hM0)
    · obtain rfl : k = l.length := by omega
      have hts : gcdL (l.take l.length) = gcdL l := by simp
      go_wp2
      go_ret
      exact ⟨ret_int (by first | rfl | rw [hts]), hup⟩
theorem l08Gcd_any (a b : Int) (w : World) (ha : a.natAbs ≤ 9223372036854775807) (hb : b.natAbs ≤ 9223372036854775807) : Calls Try.prog 87 #[.int .i64 a, .int .i64 b] w fun e w' => e = .returned (.int .i64 (Nat.gcd a.natAbs b.natAbs : Int)) ∧ Up w w' := by
  go_enter Try.func87, Try.ntmps87
  go_wp2
  go_loopw [0, 1] (fun x y wr => ∃ X Y : Int, x = .int .i64 X ∧ y = .int .i64 Y ∧ Nat.gcd X.natAbs Y.natAbs = Nat.gcd a.natAbs b.natAbs ∧ X.natAbs ≤ 9223372036854775807 ∧ Y.natAbs ≤ 9223372036854775807 ∧ Up w wr) (fun _ y _ => (intOf y).natAbs)
  case atStart => exact ⟨_, _, rfl, rfl, rfl, ha, hb, Up.refl _⟩
  case round =>
    obtain ⟨X, Y, rfl, rfl, hg, hX, hY, hup⟩ := hrel
    have HG := Lib.hid hg
    clear hg
    by_cases hY0 : Y = 0
    · subst hY0
      by_cases hX0 : X < 0
      · go_wp2
        go_ret
        exact ⟨ret_int (by rw [← HG.out]; simp; omega), hup⟩
      · go_wp2
        go_ret
        exact ⟨ret_int (by rw [← HG.out]; simp; omega), hup⟩
    · have hb1 : (Y != 0) = true := by rw [bne_iff_ne]; omega
      have hb2 : (Y == 0) = false := by rw [beq_eq_false_iff_ne]; omega
      have hg := Lib.hid (gcd_tmod X Y)
      have hmod : (X.tmod Y).natAbs < Y.natAbs := by rw [Int.natAbs_tmod]; exact Nat.mod_lt _ (by omega)
      have HM := Lib.hid hmod
      clear hmod
      go_wp2
      (refine wp_region_up (by kernel_rfl) (by kernel_rfl) ?_; (repeat (refine wpQuiet_step (fun K hK => ?_); go_simp; first | (refine hK _ ?_; clear hK K) | (apply Exists.intro; refine ⟨fun wq hwq => ?_, hK _ ?_⟩; (obtain ⟨hcq, hfq⟩ := hwq.cells; (try go_simp); first | done | rfl | exact ⟨rfl, rfl⟩ | fail); clear hK K))); refine wpQuiet_nil ?_; intro w1 hb1; obtain ⟨hc1, hf1⟩ := hb1.cells; have hl1 := hb1.lt; have hle1 := hb1.le; have hs1 := hb1.size; (try simp at hs1); (try have hs1a : wr.heap.size < w1.heap.size := by omega); (try have hs1aa : wr.heap.size ≤ w1.heap.size := by omega); (try have hs1b : wr.heap.size + 1 < w1.heap.size := by omega); (try have hs1bb : wr.heap.size + 1 ≤ w1.heap.size := by omega); (try have hs1c : wr.heap.size + 1 + 1 < w1.heap.size := by omega); (try have hs1cc : wr.heap.size + 1 + 1 ≤ w1.heap.size := by omega); (try have hs1d : wr.heap.size + 1 + 1 + 1 < w1.heap.size := by omega); (try have hs1dd : wr.heap.size + 1 + 1 + 1 ≤ w1.heap.size := by omega); (try have hs1L := Nat.lt_of_succ_le hs1); (try have hs1M := Nat.lt_of_succ_lt hs1L); (try have hs1N := Nat.lt_of_succ_lt hs1M); (try have hs1LE := Nat.le_of_lt hs1L); (try have hs1ME := Nat.le_of_lt hs1M))
      go_wp2
      go_roundw
      case rel => exact ⟨Y, _, rfl, rfl, hg.out.trans HG.out, hY, by have := HM.out; omega, hup.trans hb1⟩
      case measure => exact HM.out
/-- .. of four numbers in a new block. -/
theorem commonDivisor_four (h v m d : Int) (b cap : Nat) (w : World) (c0 : w.cell? ⟨b, 0, none⟩ = some (.int .i64 h)) (c1 : w.cell? ⟨b, 1, none⟩ = some (.int .i64 v)) (c2 : w.cell? ⟨b, 2, none⟩ = some (.int .i64 m)) (c3 : w.cell? ⟨b, 3, none⟩ = some (.int .i64 d))
    (h0 : h.natAbs ≤ 9223372036854775807) (h1 : v.natAbs ≤ 9223372036854775807) (h2 : m.natAbs ≤ 9223372036854775807) (h3 : d.natAbs ≤ 9223372036854775807) (hb : b < w.heap.size) :
    Calls Try.prog 41 #[.slice (some ⟨b, 0, none⟩) 4 cap] w fun e w' => e = .returned (.int .i64 (g4 h v m d)) ∧ Up w w' := by
  rw [← gcdL_four]
  refine commonDivisor_any [h, v, m, d] b cap w (fun k hk => ?_) (by simp; exact ⟨h0, h1, h2, h3⟩) hb (by simp)
  match k, hk with
  | 0, _ => exact c0
  | 1, _ => exact c1
  | 2, _ => exact c2
  | 3, _ => exact c3
theorem ThrustOk_any (h v m d : Int) (w : World) : Calls Try.prog 24 #[.agg #[.int .i64 h, .int .i64 v, .int .i64 m, .int .i64 d]] w fun e w' => e = .returned (.bool (thB h v m d)) ∧ Up w w' := by
  by_cases k1 : inB 1 d 1000000 = true
  rotate_left
  · go_enter Try.func24, Try.ntmps24
    go_wp2_with (go_at_call 23; (with_reducible refine (within_any _ _ _ _).mono ?_); rintro e w1 ⟨rfl, rfl⟩)
    go_ret
    exact ⟨by simp [thB, *], (by repeat (first | with_reducible exact Up.refl _ | with_reducible refine Up.alloc ?_ _ | with_reducible refine Up.drew ?_ | with_reducible refine Up.drewN ?_ _ | (with_reducible refine Up.setCell ?_ (by first | omega | (simp; done) | (simp; omega)) _) | with_reducible assumption | (with_reducible refine Up.trans ?_ (by with_reducible assumption))))⟩
  by_cases k2 : inB 0 h 1000000000000 = true
  rotate_left
  · go_enter Try.func24, Try.ntmps24
    go_wp2_with (go_at_call 23; (with_reducible refine (within_any _ _ _ _).mono ?_); rintro e w1 ⟨rfl, rfl⟩)
    go_ret
    exact ⟨by simp [thB, *], (by repeat (first | with_reducible exact Up.refl _ | with_reducible refine Up.alloc ?_ _ | with_reducible refine Up.drew ?_ | with_reducible refine Up.drewN ?_ _ | (with_reducible refine Up.setCell ?_ (by first | omega | (simp; done) | (simp; omega)) _) | with_reducible assumption | (with_reducible refine Up.trans ?_ (by with_reducible assumption))))⟩
  by_cases k3 : inB (-10000000000000) v 10000000000000 = true
  rotate_left
  · go_enter Try.func24, Try.ntmps24
    go_wp2_with (go_at_call 23; (with_reducible refine (within_any _ _ _ _).mono ?_); rintro e w1 ⟨rfl, rfl⟩)
    go_ret
    exact ⟨by simp [thB, *], (by repeat (first | with_reducible exact Up.refl _ | with_reducible refine Up.alloc ?_ _ | with_reducible refine Up.drew ?_ | with_reducible refine Up.drewN ?_ _ | (with_reducible refine Up.setCell ?_ (by first | omega | (simp; done) | (simp; omega)) _) | with_reducible assumption | (with_reducible refine Up.trans ?_ (by with_reducible assumption))))⟩
  by_cases k4 : inB (-10000000000000) m 10000000000000 = true
  rotate_left
  · go_enter Try.func24, Try.ntmps24
    go_wp2_with (go_at_call 23; (with_reducible refine (within_any _ _ _ _).mono ?_); rintro e w1 ⟨rfl, rfl⟩)
    go_ret
    exact ⟨by simp [thB, *], (by repeat (first | with_reducible exact Up.refl _ | with_reducible refine Up.alloc ?_ _ | with_reducible refine Up.drew ?_ | with_reducible refine Up.drewN ?_ _ | (with_reducible refine Up.setCell ?_ (by first | omega | (simp; done) | (simp; omega)) _) | with_reducible assumption | (with_reducible refine Up.trans ?_ (by with_reducible assumption))))⟩
  have b1 := inB_true.1 k1
  have b2 := inB_true.1 k2
  have b3 := inB_true.1 k3
  have b4 := inB_true.1 k4
  go_enter Try.func24, Try.ntmps24
  go_wp2_with (first | (go_at_call 23; (with_reducible refine (within_any _ _ _ _).mono ?_); rintro e w1 ⟨rfl, rfl⟩) | (go_at_call 41; (with_reducible refine (commonDivisor_four h v m d _ _ _ (by go_simp) (by go_simp) (by go_simp) (by go_simp) (by omega) (by omega) (by omega) (by omega) (by simp)).mono ?_); rintro e w1 ⟨rfl, hb1⟩; obtain ⟨hc1, hf1⟩ := hb1.cells; have hl1 := hb1.lt; have hle1 := hb1.le; have hs1 := hb1.size; (try simp at hs1); (try have hs1a : w.heap.size < w1.heap.size := by omega); (try have hs1aa : w.heap.size ≤ w1.heap.size := by omega); (try have hs1b : w.heap.size + 1 < w1.heap.size := by omega); (try have hs1bb : w.heap.size + 1 ≤ w1.heap.size := by omega); (try have hs1c : w.heap.size + 1 + 1 < w1.heap.size := by omega); (try have hs1cc : w.heap.size + 1 + 1 ≤ w1.heap.size := by omega); (try have hs1d : w.heap.size + 1 + 1 + 1 < w1.heap.size := by omega); (try have hs1dd : w.heap.size + 1 + 1 + 1 ≤ w1.heap.size := by omega); (try have hs1L := Nat.lt_of_succ_le hs1); (try have hs1M := Nat.lt_of_succ_lt hs1L); (try have hs1N := Nat.lt_of_succ_lt hs1M); (try have hs1LE := Nat.le_of_lt hs1L); (try have hs1ME := Nat.le_of_lt hs1M)))
  go_ret
  exact ⟨by simp [thB, *], (by repeat (first | with_reducible exact Up.refl _ | with_reducible refine Up.alloc ?_ _ | with_reducible refine Up.drew ?_ | with_reducible refine Up.drewN ?_ _ | (with_reducible refine Up.setCell ?_ (by first | omega | (simp; done) | (simp; omega)) _) | with_reducible assumption | (with_reducible refine Up.trans ?_ (by with_reducible assumption))))⟩
theorem sThrustOk_any (h v m d : Int) (w : World) : Calls Try.prog 88 #[.agg #[.int .i64 h, .int .i64 v, .int .i64 m, .int .i64 d]] w fun e w' => e = .returned (.bool (thB h v m d)) ∧ Up w w' := by
  by_cases k1 : inB 1 d 1000000 = true
  rotate_left
  · go_enter Try.func88, Try.ntmps88
    go_wp2_with (go_at_call 36; (with_reducible refine (l01In_any _ _ _ _).mono ?_); rintro e w1 ⟨rfl, rfl⟩)
    go_ret
    exact ⟨by simp [thB, *], (by repeat (first | with_reducible exact Up.refl _ | with_reducible refine Up.alloc ?_ _ | with_reducible refine Up.drew ?_ | with_reducible refine Up.drewN ?_ _ | (with_reducible refine Up.setCell ?_ (by first | omega | (simp; done) | (simp; omega)) _) | with_reducible assumption | (with_reducible refine Up.trans ?_ (by with_reducible assumption))))⟩
  by_cases k2 : inB 0 h 1000000000000 = true
  rotate_left
  · go_enter Try.func88, Try.ntmps88
    go_wp2_with (go_at_call 36; (with_reducible refine (l01In_any _ _ _ _).mono ?_); rintro e w1 ⟨rfl, rfl⟩)
    go_ret
    exact ⟨by simp [thB, *], (by repeat (first | with_reducible exact Up.refl _ | with_reducible refine Up.alloc ?_ _ | with_reducible refine Up.drew ?_ | with_reducible refine Up.drewN ?_ _ | (with_reducible refine Up.setCell ?_ (by first | omega | (simp; done) | (simp; omega)) _) | with_reducible assumption | (with_reducible refine Up.trans ?_ (by with_reducible assumption))))⟩
  by_cases k3 : inB (-10000000000000) v 10000000000000 = true
  rotate_left
  · go_enter Try.func88, Try.ntmps88
    go_wp2_with (go_at_call 36; (with_reducible refine (l01In_any _ _ _ _).mono ?_); rintro e w1 ⟨rfl, rfl⟩)
    go_ret
    exact ⟨by simp [thB, *], (by repeat (first | with_reducible exact Up.refl _ | with_reducible refine Up.alloc ?_ _ | with_reducible refine Up.drew ?_ | with_reducible refine Up.drewN ?_ _ | (with_reducible refine Up.setCell ?_ (by first | omega | (simp; done) | (simp; omega)) _) | with_reducible assumption | (with_reducible refine Up.trans ?_ (by with_reducible assumption))))⟩
  by_cases k4 : inB (-10000000000000) m 10000000000000 = true
  rotate_left
  · go_enter Try.func88, Try.ntmps88
    go_wp2_with (go_at_call 36; (with_reducible refine (l01In_any _ _ _ _).mono ?_); rintro e w1 ⟨rfl, rfl⟩)
    go_ret
    exact ⟨by simp [thB, *], (by repeat (first | with_reducible exact Up.refl _ | with_reducible refine Up.alloc ?_ _ | with_reducible refine Up.drew ?_ | with_reducible refine Up.drewN ?_ _ | (with_reducible refine Up.setCell ?_ (by first | omega | (simp; done) | (simp; omega)) _) | with_reducible assumption | (with_reducible refine Up.trans ?_ (by with_reducible assumption))))⟩
  have b1 := inB_true.1 k1
  have b2 := inB_true.1 k2
  have b3 := inB_true.1 k3
  have b4 := inB_true.1 k4
  have g1 : Nat.gcd h.natAbs v.natAbs ≤ 9223372036854775807 := gcd_le_of _ _ _ (by omega) (by omega)
  have g2 : Nat.gcd m.natAbs d.natAbs ≤ 9223372036854775807 := gcd_le_of _ _ _ (by omega) (by omega)
  go_enter Try.func88, Try.ntmps88
  go_wp2_with (go_at_call 36; (with_reducible refine (l01In_any _ _ _ _).mono ?_); rintro e w1 ⟨rfl, rfl⟩)
  (refine wp_region_up (by kernel_rfl) (by kernel_rfl) ?_; (repeat (refine wpQuiet_step (fun K hK => ?_); go_simp; first | (refine hK _ ?_; clear hK K) | (apply Exists.intro; refine ⟨fun wq hwq => ?_, hK _ ?_⟩; (obtain ⟨hcq, hfq⟩ := hwq.cells; (try go_simp); first | done | rfl | exact ⟨rfl, rfl⟩ | (go_at_call 87; exact up_of hwq (l08Gcd_any _ _ _ (by omega) (by omega)))); clear hK K))); refine wpQuiet_nil ?_; intro w1 hb1; obtain ⟨hc1, hf1⟩ := hb1.cells; have hl1 := hb1.lt; have hle1 := hb1.le; have hs1 := hb1.size; (try simp at hs1); (try have hs1a : w.heap.size < w1.heap.size := by omega); (try have hs1aa : w.heap.size ≤ w1.heap.size := by omega); (try have hs1b : w.heap.size + 1 < w1.heap.size := by omega); (try have hs1bb : w.heap.size + 1 ≤ w1.heap.size := by omega); (try have hs1c : w.heap.size + 1 + 1 < w1.heap.size := by omega); (try have hs1cc : w.heap.size + 1 + 1 ≤ w1.heap.size := by omega); (try have hs1d : w.heap.size + 1 + 1 + 1 < w1.heap.size := by omega); (try have hs1dd : w.heap.size + 1 + 1 + 1 ≤ w1.heap.size := by omega); (try have hs1L := Nat.lt_of_succ_le hs1); (try have hs1M := Nat.lt_of_succ_lt hs1L); (try have hs1N := Nat.lt_of_succ_lt hs1M); (try have hs1LE := Nat.le_of_lt hs1L); (try have hs1ME := Nat.le_of_lt hs1M))
  go_wp2
  go_ret
  exact ⟨by simp [thB, g4, *], (by repeat (first | with_reducible exact Up.refl _ | with_reducible refine Up.alloc ?_ _ | with_reducible refine Up.drew ?_ | with_reducible refine Up.drewN ?_ _ | (with_reducible refine Up.setCell ?_ (by first | omega | (simp; done) | (simp; omega)) _) | with_reducible assumption | (with_reducible refine Up.trans ?_ (by with_reducible assumption))))⟩
end Go.Proofs.Ytaealkfnhhmmcaa
