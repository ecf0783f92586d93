/- The walks of the functions on loads. No condition. -/
import Derived.Test.YtigcmhdjafglbaaJm
namespace Go.Proofs.Ytigcmhdjafglbaa
open Go.RowKit
set_option linter.unusedVariables false
/-- ScaleLoads. -/
def slP (s : Int) (R : Nat → Nat → Int) (i : Nat) : Bool := inB 0 (R i 1) 10000 && decide (R i 1 * s ≤ 10000)
def slOk (m : Nat) (s : Int) (R : Nat → Nat → Int) : Bool := inB 0 s 1000 && decide (m ≤ 6) && allN (slP s R) m
def slN (m : Nat) (s : Int) (R : Nat → Nat → Int) : Nat := if slOk m s R then m else 0
def slR (s : Int) (R : Nat → Nat → Int) (i j : Nat) : Int := if j = 1 then R i 1 * s else R i j
def ToP2 (w : World) (sz n : Nat) (f : Nat → Nat → Value) (b : Bool) (e : Ending) (w' : World) : Prop := ∃ v, e = .returned (.tuple #[v, .bool b]) ∧ Wr w' w.heap.size w'.heap.size sz v n f ∧ Up w w'
theorem slN_t {m : Nat} {s : Int} {R : Nat → Nat → Int} (h : slOk m s R = true) : slN m s R = m := by rw [slN, h]; rfl
theorem slN_f {m : Nat} {s : Int} {R : Nat → Nat → Int} (h : slOk m s R = false) : slN m s R = 0 := by rw [slN, h]; rfl
/-- An empty slice that is not nil. -/
theorem Wr.made0 (w : World) (lo hi sz g : Nat) (f : Nat → Nat → Value) (h : hi ≤ w.heap.size) : Wr w lo hi sz (.slice (some ⟨g, 0, none⟩) 0 0) 0 f := ⟨h, _, 0, rfl, Nat.le_refl _, fun h => absurd h (by omega)⟩
theorem flat3 (f : Nat → Nat → Value) (n : Nat) : flat 3 f (n + 1) = flat 3 f n ++ [f n 0, f n 1, f n 2] := by rw [flat]; rfl
theorem sl_bd {a b : Int} (h1 : inB 0 a 10000 = true) (h2 : inB 0 b 1000 = true) : 0 ≤ a ∧ a ≤ 10000 ∧ 0 ≤ b ∧ b ≤ 1000 ∧ -10000000 ≤ a * b ∧ a * b ≤ 10000000 ∧ -10000000 ≤ b * a ∧ b * a ≤ 10000000 ∧ b * a = a * b := by
  have h3 := inB_true.1 h1
  have h4 := inB_true.1 h2
  have h5 := mul_bd (a := a) (b := b) 10000 1000 (by omega) (by omega) (by omega) (by omega)
  have h6 : b * a = a * b := Int.mul_comm _ _
  omega
theorem load_info : (Try.prog.info? 104).map (fun i => (i.zero, i.size, i.bytes)) = some (some (.agg #[.int .i64 0, .int .i64 0, .int .i64 0]), 3, 24) := by kernel_rfl
set_option maxHeartbeats 1000000 in
set_option maxRecDepth 100000 in
theorem ScaleLoads_any (u : Value) (k lo hi : Nat) (R : Nat → Nat → Int) (s : Int) (w : World) (hs : Sl w lo hi 3 u k (intF R)) (hn : k ≤ 1048576) : Calls Try.prog 54 #[u, .int .i64 s] w (ToP2 w 3 (slN k s R) (intF (slR s R)) (slOk k s R)) := by
  obtain ⟨h0, A, c, rfl, hc, hx⟩ := hs
  obtain ⟨i0, hi0, hz0, hz1, hz2⟩ := info_parts load_info
  have H := Lib.hid hx
  clear hx
  cases hin : inB 0 s 1000 with
  | false =>
    have hf : slOk k s R = false := by rw [slOk, hin]; rfl
    have hN := slN_f hf
    rw [hN, hf]
    clear hN hf
    go_enter Try.func54, Try.ntmps54
    go_wp2_with (first | (go_at_call 82; (with_reducible refine (within_any _ _ _ _).mono ?_); rintro e w1 ⟨rfl, rfl⟩))
    exact bodyPost_ret (v := .tuple #[.slice none 0 0, .bool false]) (by simp only [results]; go_simp; try simp) rfl ⟨_, rfl, Wr.nil _ _ _ _ _ (Nat.le_refl _), (by repeat (first | with_reducible exact Up.refl _ | with_reducible refine Up.alloc ?_ _ | with_reducible refine Up.drew ?_ | with_reducible refine Up.drewN ?_ _ | (with_reducible refine Up.setCell ?_ (by first | omega | (simp; done) | (simp; omega)) _) | with_reducible assumption | (with_reducible refine Up.trans ?_ (by with_reducible assumption))))⟩
  | true =>
  by_cases h6 : k ≤ 6
  rotate_left
  · have hf : slOk k s R = false := by rw [slOk, hin, decide_eq_false h6]; rfl
    have hN := slN_f hf
    rw [hN, hf]
    clear hN hf
    have h7 : (6 : Int) < (k : Int) := by omega
    go_enter Try.func54, Try.ntmps54
    go_wp2_with (first | (go_at_call 82; (with_reducible refine (within_any _ _ _ _).mono ?_); rintro e w1 ⟨rfl, rfl⟩))
    exact bodyPost_ret (v := .tuple #[.slice none 0 0, .bool false]) (by simp only [results]; go_simp; try simp) rfl ⟨_, rfl, Wr.nil _ _ _ _ _ (Nat.le_refl _), (by repeat (first | with_reducible exact Up.refl _ | with_reducible refine Up.alloc ?_ _ | with_reducible refine Up.drew ?_ | with_reducible refine Up.drewN ?_ _ | (with_reducible refine Up.setCell ?_ (by first | omega | (simp; done) | (simp; omega)) _) | with_reducible assumption | (with_reducible refine Up.trans ?_ (by with_reducible assumption))))⟩
  · have h7 : ¬ (6 : Int) < (k : Int) := by omega
    have hok : slOk k s R = allN (slP s R) k := by rw [slOk, hin, decide_eq_true h6]; rfl
    have HK := Lib.hid hok
    clear hok
    obtain ⟨sN, hsN⟩ : ∃ sN, slN k s R = sN := ⟨_, rfl⟩
    obtain ⟨sB, hsB⟩ : ∃ sB, slOk k s R = sB := ⟨_, rfl⟩
    rw [hsN, hsB]
    have HN := Lib.hid hsN
    have HB := Lib.hid hsB
    clear hsN hsB
    go_enter Try.func54, Try.ntmps54
    go_wp2_with (first | (go_at_call 82; (with_reducible refine (within_any _ _ _ _).mono ?_); rintro e w1 ⟨rfl, rfl⟩))
    go_loopw [6, 19] (fun t i wr => ∃ j : Nat, i = .int .i64 (j : Int) ∧ j ≤ k ∧ Hid (wr.ownsRow w.heap.size 104 3 t j (flat 3 (intF (slR s R)) j)) ∧ Hid (allN (slP s R) j = true) ∧ Up w wr) (fun _ i _ => k - (intOf i).toNat)
    case atStart => exact ⟨0, rfl, Nat.zero_le _, World.ownsRow_nil _ _ _ _, rfl, (by repeat (first | with_reducible exact Up.refl _ | with_reducible refine Up.alloc ?_ _ | with_reducible refine Up.drew ?_ | with_reducible refine Up.drewN ?_ _ | (with_reducible refine Up.setCell ?_ (by first | omega | (simp; done) | (simp; omega)) _) | with_reducible assumption | (with_reducible refine Up.trans ?_ (by with_reducible assumption))))⟩
    case round =>
      obtain ⟨j, rfl, hj, ho, ha, hup⟩ := hrel
      by_cases hk1 : j < k
      · obtain ⟨b, o, rfl, hb1, hb2, hcs⟩ := H.out (by omega)
        have hbs2 : b < wr.heap.size := Nat.lt_of_lt_of_le (by omega) hup.size
        have hg0 : wr.cell? ⟨b, o + j * 3, none⟩ = some (.int .i64 (R j 0)) := (hup.cells.1 _ _ (by omega)).trans (by simpa [intF, Nat.add_assoc] using hcs j 0 hk1 (by omega))
        have hg1 : wr.cell? ⟨b, o + j * 3 + 1, none⟩ = some (.int .i64 (R j 1)) := (hup.cells.1 _ _ (by omega)).trans (by simpa [intF, Nat.add_assoc] using hcs j 1 hk1 (by omega))
        have hg2 : wr.cell? ⟨b, o + j * 3 + 2, none⟩ = some (.int .i64 (R j 2)) := (hup.cells.1 _ _ (by omega)).trans (by simpa [intF, Nat.add_assoc] using hcs j 2 hk1 (by omega))
        clear hcs
        have hk2 : (j : Int) < (k : Int) := by omega
        cases hW : inB 0 (R j 1) 10000 with
        | false =>
          have hp : slP s R j = false := by rw [slP, hW]; rfl
          have hf := HK.out.trans (allN_false hk1 hp)
          have e1 := slN_f hf
          rw [HN.out] at e1
          rw [HB.out] at hf
          subst e1 hf
          clear hp
          go_wp2_with (first | (go_at_call 82; (with_reducible refine (within_any _ _ _ _).mono ?_); rintro e w1 ⟨rfl, rfl⟩))
          exact bodyPost_ret (v := .tuple #[.slice none 0 0, .bool false]) (by simp only [results]; go_simp; try simp) rfl ⟨_, rfl, Wr.nil _ _ _ _ _ (Nat.le_refl _), (by repeat (first | with_reducible exact Up.refl _ | with_reducible refine Up.alloc ?_ _ | with_reducible refine Up.drew ?_ | with_reducible refine Up.drewN ?_ _ | (with_reducible refine Up.setCell ?_ (by first | omega | (simp; done) | (simp; omega)) _) | with_reducible assumption | (with_reducible refine Up.trans ?_ (by with_reducible assumption))))⟩
        | true =>
          obtain ⟨q1, q2, q3, q4, q5, q6, q7, q8, q9⟩ := sl_bd hW hin
          by_cases hP : R j 1 * s ≤ 10000
          rotate_left
          · have hp : slP s R j = false := by rw [slP, hW, decide_eq_false hP]; rfl
            have hf := HK.out.trans (allN_false hk1 hp)
            have e1 := slN_f hf
            rw [HN.out] at e1
            rw [HB.out] at hf
            subst e1 hf
            have hP2 : (10000 : Int) < s * R j 1 := by omega
            clear hp q9
            go_wp2_with (first | (go_at_call 82; (with_reducible refine (within_any _ _ _ _).mono ?_); rintro e w1 ⟨rfl, rfl⟩))
            exact bodyPost_ret (v := .tuple #[.slice none 0 0, .bool false]) (by simp only [results]; go_simp; try simp) rfl ⟨_, rfl, Wr.nil _ _ _ _ _ (Nat.le_refl _), (by repeat (first | with_reducible exact Up.refl _ | with_reducible refine Up.alloc ?_ _ | with_reducible refine Up.drew ?_ | with_reducible refine Up.drewN ?_ _ | (with_reducible refine Up.setCell ?_ (by first | omega | (simp; done) | (simp; omega)) _) | with_reducible assumption | (with_reducible refine Up.trans ?_ (by with_reducible assumption))))⟩
          · have hp : slP s R j = true := by rw [slP, hW, decide_eq_true hP]; rfl
            have HA := Lib.hid (allN_step ha.out hp)
            have hP2 : ¬ (10000 : Int) < s * R j 1 := by omega
            clear hp q9
            go_wp2_with (first | (go_at_call 82; (with_reducible refine (within_any _ _ _ _).mono ?_); rintro e w1 ⟨rfl, rfl⟩) | (at_builtin; refine wpList_append_lies _ rfl (.tmp 39) (.tmp 41) 60 rfl w.heap.size 104 i0 _ 3 24 Try.underlying60 hi0 hz0 hz1 hz2 rfl (by omega) _ _ _ rfl ((ho.out.alloc _).alloc _) ⟨wr.heap.size + 1, 0, none⟩ 1 1 [.int .i64 (R j 0), .int .i64 (R j 1 * s), .int .i64 (R j 2)] rfl rfl (by have hh := World.news_of_block (heap_alloc_new (wr.alloc (.cells #[.int .i64 (R j 0), .int .i64 (R j 1 * s), .int .i64 (R j 2)] 104)) (.cells #[.int .i64 (R j 0), .int .i64 (R j 1 * s), .int .i64 (R j 2)] 104)); simpa using hh) (by simp [Value.oneCell']) (by omega) (by simp only [maxLen]; omega) (by omega) (by have := hup.size; simp; omega) (wr.heap.size + 2) (by simp) ?_; intro g cap w2 hown hgrow hat hlt))
            have ho2 : w2.ownsRow w.heap.size 104 3 (.slice (some ⟨g, 0, none⟩) (j + 1) cap) (j + 1) (flat 3 (intF (slR s R)) (j + 1)) := by rw [flat3]; exact hown
            have hu3 : Up w w2 := up_own ((hup.alloc _).alloc _) (Nat.le_refl _) ((ho.out.alloc _).alloc _) hgrow
            have HO := Lib.hid ho2
            clear hown hgrow hat hlt ho2
            go_wp2
            exact ⟨⟨j + 1, by rfl, by omega, HO, HA, hu3⟩, by simp only [intOf]; omega⟩
      · have hkk : j = k := by omega
        subst hkk
        have hf := HK.out.trans ha.out
        have e1 := slN_t hf
        rw [HN.out] at e1
        rw [HB.out] at hf
        subst e1 hf
        go_wp2
        go_ret2
        exact ⟨_, rfl, Wr.of_own ho.out, hup⟩
set_option maxHeartbeats 1000000 in
set_option maxRecDepth 100000 in
theorem sScaleLoads_any (u : Value) (k lo hi : Nat) (R : Nat → Nat → Int) (s : Int) (w : World) (hs : Sl w lo hi 3 u k (intF R)) (hn : k ≤ 1048576) : Calls Try.prog 52 #[u, .int .i64 s] w (ToP2 w 3 (slN k s R) (intF (slR s R)) (slOk k s R)) := by
  obtain ⟨h0, A, c, rfl, hc, hx⟩ := hs
  obtain ⟨i0, hi0, hz0, hz1, hz2⟩ := info_parts load_info
  have H := Lib.hid hx
  clear hx
  obtain ⟨sN, hsN⟩ : ∃ sN, slN k s R = sN := ⟨_, rfl⟩
  obtain ⟨sB, hsB⟩ : ∃ sB, slOk k s R = sB := ⟨_, rfl⟩
  rw [hsN, hsB]
  have HN := Lib.hid hsN
  have HB := Lib.hid hsB
  clear hsN hsB
  go_enter Try.func52, Try.ntmps52
  go_wp2
  go_loopw [6, 7] (fun t i wr => ∃ j : Nat, i = .int .i64 (j : Int) ∧ j ≤ k ∧ Hid (wr.ownsRow w.heap.size 104 3 t j (flat 3 (intF (slR s R)) j)) ∧ Hid (allN (slP s R) j = true) ∧ Up w wr) (fun _ i _ => k - (intOf i).toNat)
  case atStart => exact ⟨0, rfl, Nat.zero_le _, World.ownsRow_made w #[] 0 (Nat.le_refl _) (Nat.zero_le _) rfl, rfl, (by repeat (first | with_reducible exact Up.refl _ | with_reducible refine Up.alloc ?_ _ | with_reducible refine Up.drew ?_ | with_reducible refine Up.drewN ?_ _ | (with_reducible refine Up.setCell ?_ (by first | omega | (simp; done) | (simp; omega)) _) | with_reducible assumption | (with_reducible refine Up.trans ?_ (by with_reducible assumption))))⟩
  case round =>
      obtain ⟨j, rfl, hj, ho, ha, hup⟩ := hrel
      by_cases hk1 : j < k
      · obtain ⟨b, o, rfl, hb1, hb2, hcs⟩ := H.out (by omega)
        have hbs2 : b < wr.heap.size := Nat.lt_of_lt_of_le (by omega) hup.size
        have hg0 : wr.cell? ⟨b, o + j * 3, none⟩ = some (.int .i64 (R j 0)) := (hup.cells.1 _ _ (by omega)).trans (by simpa [intF, Nat.add_assoc] using hcs j 0 hk1 (by omega))
        have hg1 : wr.cell? ⟨b, o + j * 3 + 1, none⟩ = some (.int .i64 (R j 1)) := (hup.cells.1 _ _ (by omega)).trans (by simpa [intF, Nat.add_assoc] using hcs j 1 hk1 (by omega))
        have hg2 : wr.cell? ⟨b, o + j * 3 + 2, none⟩ = some (.int .i64 (R j 2)) := (hup.cells.1 _ _ (by omega)).trans (by simpa [intF, Nat.add_assoc] using hcs j 2 hk1 (by omega))
        clear hcs
        have hk2 : (j : Int) < (k : Int) := by omega
        cases hin : inB 0 s 1000 with
        | false =>
          have hf : slOk k s R = false := by rw [slOk, hin]; rfl
          have e1 := slN_f hf
          rw [HN.out] at e1
          rw [HB.out] at hf
          subst e1 hf
          go_wp2_with (first | (go_at_call 80; (with_reducible refine (l01In_any _ _ _ _).mono ?_); rintro e w1 ⟨rfl, rfl⟩))
          exact bodyPost_ret (v := .tuple #[.slice (some ⟨wr.heap.size + 1, 0, none⟩) 0 0, .bool false]) (by simp only [results]; go_simp; try simp) rfl ⟨_, rfl, Wr.made0 _ _ _ _ _ _ (by first | omega | (simp; done) | (simp; omega)), (by repeat (first | with_reducible exact Up.refl _ | with_reducible refine Up.alloc ?_ _ | with_reducible refine Up.drew ?_ | with_reducible refine Up.drewN ?_ _ | (with_reducible refine Up.setCell ?_ (by first | omega | (simp; done) | (simp; omega)) _) | with_reducible assumption | (with_reducible refine Up.trans ?_ (by with_reducible assumption))))⟩
        | true =>
        cases hW : inB 0 (R j 1) 10000 with
        | false =>
          have hp : slP s R j = false := by rw [slP, hW]; rfl
          have hf : slOk k s R = false := by rw [slOk, allN_false hk1 hp]; simp
          have e1 := slN_f hf
          rw [HN.out] at e1
          rw [HB.out] at hf
          subst e1 hf
          clear hp
          go_wp2_with (first | (go_at_call 80; (with_reducible refine (l01In_any _ _ _ _).mono ?_); rintro e w1 ⟨rfl, rfl⟩))
          exact bodyPost_ret (v := .tuple #[.slice (some ⟨wr.heap.size + 1, 0, none⟩) 0 0, .bool false]) (by simp only [results]; go_simp; try simp) rfl ⟨_, rfl, Wr.made0 _ _ _ _ _ _ (by first | omega | (simp; done) | (simp; omega)), (by repeat (first | with_reducible exact Up.refl _ | with_reducible refine Up.alloc ?_ _ | with_reducible refine Up.drew ?_ | with_reducible refine Up.drewN ?_ _ | (with_reducible refine Up.setCell ?_ (by first | omega | (simp; done) | (simp; omega)) _) | with_reducible assumption | (with_reducible refine Up.trans ?_ (by with_reducible assumption))))⟩
        | true =>
          obtain ⟨q1, q2, q3, q4, q5, q6, q7, q8, q9⟩ := sl_bd hW hin
          by_cases hP : R j 1 * s ≤ 10000
          rotate_left
          · have hp : slP s R j = false := by rw [slP, hW, decide_eq_false hP]; rfl
            have hf : slOk k s R = false := by rw [slOk, allN_false hk1 hp]; simp
            have e1 := slN_f hf
            rw [HN.out] at e1
            rw [HB.out] at hf
            subst e1 hf
            have hP2 : (10000 : Int) < R j 1 * s := by omega
            clear hp q9
            go_wp2_with (first | (go_at_call 80; (with_reducible refine (l01In_any _ _ _ _).mono ?_); rintro e w1 ⟨rfl, rfl⟩))
            exact bodyPost_ret (v := .tuple #[.slice (some ⟨wr.heap.size + 1, 0, none⟩) 0 0, .bool false]) (by simp only [results]; go_simp; try simp) rfl ⟨_, rfl, Wr.made0 _ _ _ _ _ _ (by first | omega | (simp; done) | (simp; omega)), (by repeat (first | with_reducible exact Up.refl _ | with_reducible refine Up.alloc ?_ _ | with_reducible refine Up.drew ?_ | with_reducible refine Up.drewN ?_ _ | (with_reducible refine Up.setCell ?_ (by first | omega | (simp; done) | (simp; omega)) _) | with_reducible assumption | (with_reducible refine Up.trans ?_ (by with_reducible assumption))))⟩
          · have hp : slP s R j = true := by rw [slP, hW, decide_eq_true hP]; rfl
            have HA := Lib.hid (allN_step ha.out hp)
            have hP2 : ¬ (10000 : Int) < R j 1 * s := by omega
            clear hp q9
            go_wp2_with (first | (go_at_call 80; (with_reducible refine (l01In_any _ _ _ _).mono ?_); rintro e w1 ⟨rfl, rfl⟩) | (at_builtin; refine wpList_append_lies _ rfl (.tmp 42) (.tmp 44) 60 rfl w.heap.size 104 i0 _ 3 24 Try.underlying60 hi0 hz0 hz1 hz2 rfl (by omega) _ _ _ rfl ((ho.out.alloc _).alloc _) ⟨wr.heap.size + 1, 0, none⟩ 1 1 [.int .i64 (R j 0), .int .i64 (R j 1 * s), .int .i64 (R j 2)] rfl rfl (by have hh := World.news_of_block (heap_alloc_new (wr.alloc (.cells #[.int .i64 (R j 0), .int .i64 (R j 1 * s), .int .i64 (R j 2)] 104)) (.cells #[.int .i64 (R j 0), .int .i64 (R j 1 * s), .int .i64 (R j 2)] 104)); simpa using hh) (by simp [Value.oneCell']) (by omega) (by simp only [maxLen]; omega) (by omega) (by have := hup.size; simp; omega) (wr.heap.size + 2) (by simp) ?_; intro g cap w2 hown hgrow hat hlt))
            have ho2 : w2.ownsRow w.heap.size 104 3 (.slice (some ⟨g, 0, none⟩) (j + 1) cap) (j + 1) (flat 3 (intF (slR s R)) (j + 1)) := by rw [flat3]; exact hown
            have hu3 : Up w w2 := up_own ((hup.alloc _).alloc _) (Nat.le_refl _) ((ho.out.alloc _).alloc _) hgrow
            have HO := Lib.hid ho2
            clear hown hgrow hat hlt ho2
            go_wp2
            exact ⟨⟨j + 1, by rfl, by omega, HO, HA, hu3⟩, by simp only [intOf]; omega⟩
      · have hkk : j = k := by omega
        subst hkk
        by_cases hc6 : inB 0 s 1000 = true ∧ j ≤ 6
        · have h7 : ¬ (6 : Int) < (j : Int) := by omega
          have hin := hc6.1
          have hf : slOk j s R = true := by rw [slOk, hin, ha.out, decide_eq_true hc6.2]; rfl
          have e1 := slN_t hf
          rw [HN.out] at e1
          rw [HB.out] at hf
          subst e1 hf
          clear hc6
          go_wp2_with (first | (go_at_call 80; (with_reducible refine (l01In_any _ _ _ _).mono ?_); rintro e w1 ⟨rfl, rfl⟩))
          go_ret2
          exact ⟨_, rfl, Wr.of_own ho.out, hup⟩
        · have hf : slOk j s R = false := by
            rw [slOk]
            cases hin : inB 0 s 1000 with
            | false => rfl
            | true => rw [decide_eq_false (fun h => hc6 ⟨hin, h⟩)]; rfl
          have e1 := slN_f hf
          rw [HN.out] at e1
          rw [HB.out] at hf
          subst e1 hf
          cases hin : inB 0 s 1000 with
          | false =>
            clear hc6
            go_wp2_with (first | (go_at_call 80; (with_reducible refine (l01In_any _ _ _ _).mono ?_); rintro e w1 ⟨rfl, rfl⟩))
            exact bodyPost_ret (v := .tuple #[.slice (some ⟨wr.heap.size, 0, none⟩) 0 0, .bool false]) (by simp only [results]; go_simp; try simp) rfl ⟨_, rfl, Wr.made0 _ _ _ _ _ _ (by first | omega | (simp; done) | (simp; omega)), (by repeat (first | with_reducible exact Up.refl _ | with_reducible refine Up.alloc ?_ _ | with_reducible refine Up.drew ?_ | with_reducible refine Up.drewN ?_ _ | (with_reducible refine Up.setCell ?_ (by first | omega | (simp; done) | (simp; omega)) _) | with_reducible assumption | (with_reducible refine Up.trans ?_ (by with_reducible assumption))))⟩
          | true =>
            have h7 : (6 : Int) < (j : Int) := by
              rcases Nat.lt_or_ge 6 j with h | h
              · omega
              · exact absurd ⟨hin, h⟩ hc6
            clear hc6
            go_wp2_with (first | (go_at_call 80; (with_reducible refine (l01In_any _ _ _ _).mono ?_); rintro e w1 ⟨rfl, rfl⟩))
            exact bodyPost_ret (v := .tuple #[.slice (some ⟨wr.heap.size, 0, none⟩) 0 0, .bool false]) (by simp only [results]; go_simp; try simp) rfl ⟨_, rfl, Wr.made0 _ _ _ _ _ _ (by first | omega | (simp; done) | (simp; omega)), (by repeat (first | with_reducible exact Up.refl _ | with_reducible refine Up.alloc ?_ _ | with_reducible refine Up.drew ?_ | with_reducible refine Up.drewN ?_ _ | (with_reducible refine Up.setCell ?_ (by first | omega | (simp; done) | (simp; omega)) _) | with_reducible assumption | (with_reducible refine Up.trans ?_ (by with_reducible assumption))))⟩
end Go.Proofs.Ytigcmhdjafglbaa
