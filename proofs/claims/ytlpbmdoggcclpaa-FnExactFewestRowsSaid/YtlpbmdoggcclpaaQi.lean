/- The walk of the iterator over all proofs of four rows. No condition. -/
import Derived.Test.YtlpbmdoggcclpaaRf
import Derived.WalkMore
import Derived.Scope
namespace Go.Proofs.Ytlpbmdoggcclpaa
open Go.RowKit
set_option linter.unusedVariables false
attribute [local go_sem] Oper.semAt_some
theorem cell_lt {w : World} {b o : Nat} {v : Value} (h : w.cell? ⟨b, o, none⟩ = some v) : b < w.heap.size := by
  rcases Nat.lt_or_ge b w.heap.size with h1 | h1
  · exact h1
  · simp only [World.cell?, Array.getElem?_eq_none h1] at h
    cases h
/-- The box holds the rows. -/
def RdB (Bx : Nat) (u : Value) (k lo hi : Nat) (R : Nat → Nat → Int) (W : World) : Prop := W.cell? ⟨Bx, 0, none⟩ = some u ∧ Sl W lo hi 4 u k (intF R)
def allQ (k : Nat) (R : Nat → Nat → Int) (s : List Q4) : Prop := (k ≤ 20 ∧ allN (rowR R) k = true ∧ s = quads k) ∨ (¬ (k ≤ 20 ∧ allN (rowR R) k = true) ∧ s = [])
set_option maxHeartbeats 8000000 in
set_option maxRecDepth 100000 in
theorem proofsOf1_in (n : Nat) (hn : 1 ≤ n) (l Bx : Nat) (u : Value) (k lo hi : Nat) (R : Nat → Nat → Int) (hkk1 : k ≤ 1048576) (J : List Q4 → World → Prop) (Jx : World → Prop) (W : World) (hBx : Bx < W.heap.size)
    (hR : ∀ s W, J s W → RdB Bx u k lo hi R W) (hup2 : ∀ s W W', J s W → Up W W' → J s W') (hfail : ∀ s q W, okq k R q = false → J s W → J (s ++ [q]) W)
    (hY : ∀ s q W A c A' c' L H, J s W → okq k R q = true → TwoR W L H A c A' c' (mq k R q) (mq k R q) (intF (poP R (qL q))) (intF (poQ R (qL q))) → Bx < L → (k ≤ 20 ∧ ∃ rest, s ++ q :: rest = quads k) →
      YieldAt Fence.wide (n - 1) Try.prog l #[.agg #[.slice A (mq k R q) c, .slice A' (mq k R q) c']] W fun e W' => (e = .returned (.bool true) ∧ J (s ++ [q]) W') ∨ (e = .returned (.bool false) ∧ Jx W'))
    (h0 : J [] W) :
    CallsIn Fence.wide n Try.prog 67 #[.func (.yield l) #[] #[], .pointer (some ⟨Bx, 0, none⟩)] W fun e W' => (∃ v, e = .returned v) ∧ ((∃ s, allQ k R s ∧ J s W') ∨ Jx W') := by
  obtain ⟨hbx0, hsl0⟩ := hR _ _ h0
  have hform := hsl0.form'
  obtain ⟨Au, cu, rfl⟩ := hform
  refine callsIn_of_wp Try.func67 rfl trivial ?_ rfl
  simp only [Try.ntmps67, List.size_toArray, List.length_cons, List.length_nil, Nat.reduceAdd, Nat.reduceSub, Array.replicate_succ, Array.replicate_zero, List.push_toArray, List.append_toArray, List.nil_append, List.cons_append]
  refine wpIn_wide.2 (wp_scope_straight ((wpIn_wide (n := n)).1 ?_))
  by_cases hk20 : k ≤ 20
  rotate_left
  · have hk21 : (20 : Int) < (k : Int) := by omega
    gi_wp2
    refine ⟨trivial, ?_⟩
    gi_wp2
    (try rw [Exit.noGoto_ret])
    refine bodyPost_ret (results_none rfl _ _ _) rfl ?_
    exact ⟨⟨_, rfl⟩, .inl ⟨[], .inr ⟨fun h => hk20 h.1, rfl⟩, h0⟩⟩
  have hk21 : ¬ (20 : Int) < (k : Int) := by omega
  have hRO := rowsOk_sl _ k lo hi R W hsl0 hkk1
  cases hrows : allN (rowR R) k with
  | false =>
    rw [hrows] at hRO
    gi_wp2_with (refine ⟨trivial, ?_⟩; gi_at_call 52; refine (callsIn_wide.2 hRO).mono ?_; rintro e w1 ⟨rfl, hb1⟩)
    (try rw [Exit.noGoto_ret])
    refine bodyPost_ret (results_none rfl _ _ _) rfl ?_
    exact ⟨⟨_, rfl⟩, .inl ⟨[], .inr ⟨fun h => by rw [hrows] at h; exact absurd h.2 (by simp), rfl⟩, hup2 _ _ _ h0 hb1⟩⟩
  | true =>
    rw [hrows] at hRO
    gi_wp2_with (refine ⟨trivial, ?_⟩; gi_at_call 52; refine (callsIn_wide.2 hRO).mono ?_; rintro e w1 ⟨rfl, hb1⟩)
    refine wpIn_label ?_
    have hJ1 := hup2 _ _ _ h0 hb1
    clear hRO hbx0 hsl0 h0
    gi_wp2
    gi_loopw [20] (fun ii wr => ∃ iN : Nat, ii = .int .i64 (iN : Int) ∧ iN ≤ k ∧ Hid (∃ s, s ++ (R1q k iN (k - iN)) = quads k ∧ J s wr)) (fun ii _ => k - (intOf ii).toNat)
    case atStart => exact ⟨0, rfl, Nat.zero_le _, Lib.hid ⟨[], rfl, hJ1⟩⟩
    case round =>
      obtain ⟨iN, rfl, hik, hri⟩ := hrel
      by_cases hi1 : iN < k
      · have hi2 : (iN : Int) < (k : Int) := by omega
        gi_wp2
        gi_loopw [5] (fun kk wr => ∃ kN : Nat, kk = .int .i64 (kN : Int) ∧ iN + 1 ≤ kN ∧ kN ≤ k ∧ Hid (∃ s, s ++ (R2q k iN kN (k - kN) ++ R1q k (iN + 1) (k - (iN + 1))) = quads k ∧ J s wr)) (fun kk _ => k - (intOf kk).toNat)
        case atStart => exact ⟨iN + 1, by rfl, by omega, by omega, Lib.hid (by have h := hri.out; rw [R1q_s hi1] at h; exact h)⟩
        case round =>
          clear hri
          obtain ⟨kN, rfl, hk0, hkk0, hrk⟩ := hrel
          by_cases hk1 : kN < k
          · have hk2 : (kN : Int) < (k : Int) := by omega
            gi_wp2
            gi_loopw [6] (fun mm wr => ∃ mN : Nat, mm = .int .i64 (mN : Int) ∧ kN + 1 ≤ mN ∧ mN ≤ k ∧ Hid (∃ s, s ++ (R3q k iN kN mN (k - mN) ++ (R2q k iN (kN + 1) (k - (kN + 1)) ++ R1q k (iN + 1) (k - (iN + 1)))) = quads k ∧ J s wr)) (fun mm _ => k - (intOf mm).toNat)
            case atStart => exact ⟨kN + 1, by rfl, by omega, by omega, Lib.hid (by have h := hrk.out; rw [R2q_s hk1, List.append_assoc] at h; exact h)⟩
            case round =>
              clear hrk
              obtain ⟨mN, rfl, hm0, hmk, hrm⟩ := hrel
              by_cases hm1 : mN < k
              · have hm2 : (mN : Int) < (k : Int) := by omega
                gi_wp2
                gi_loopw [7] (fun xx wr => ∃ xN : Nat, xx = .int .i64 (xN : Int) ∧ mN + 1 ≤ xN ∧ xN ≤ k ∧ Hid (∃ s, s ++ (R4q iN kN mN xN (k - xN) ++ (R3q k iN kN (mN + 1) (k - (mN + 1)) ++ (R2q k iN (kN + 1) (k - (kN + 1)) ++ R1q k (iN + 1) (k - (iN + 1))))) = quads k ∧ J s wr)) (fun xx _ => k - (intOf xx).toNat)
                case atStart => exact ⟨mN + 1, by rfl, by omega, by omega, Lib.hid (by have h := hrm.out; rw [R3q_s hm1, List.append_assoc] at h; exact h)⟩
                case round =>
                  clear hrm
                  obtain ⟨xN, rfl, hx0, hxk, hr⟩ := hrel
                  by_cases hx1 : xN < k
                  · have hx2 : (xN : Int) < (k : Int) := by omega
                    have hr2 := hr.out
                    rw [R4q_s hx1, List.cons_append] at hr2
                    replace hr := Lib.hid hr2
                    clear hr2
                    obtain ⟨s, hsd, hJs⟩ := hr.out
                    obtain ⟨hbx, hsl⟩ := hR _ _ hJs
                    have hbl : Bx < wr.heap.size := cell_lt hbx
                    have hu0 : Up wr (wr.alloc (.cells #[.int .i64 (iN : Int), .int .i64 (kN : Int), .int .i64 (mN : Int), .int .i64 (xN : Int)] 3)) := (Up.refl wr).alloc _
                    have hSq := qL_sl wr iN kN mN xN 3
                    have HSD := Lib.hid hsd
                    clear hsd hr
                    by_cases hB : okq k R (iN, kN, mN, xN) = true
                    · have hC := fun W U l1 h1 X l2 h2 (a1 : Sl W l1 h1 4 U k (intF R)) (a2 : Sl W l2 h2 1 X 4 (intF (qL (iN, kN, mN, xN)))) => ProofOfFour_any U X k 4 l1 h1 l2 h2 R (qL (iN, kN, mN, xN)) W a1 a2 hkk1 (by omega)
                      rw [show poB k 4 R (qL (iN, kN, mN, xN)) = true from hB, show poM k 4 R (qL (iN, kN, mN, xN)) = mq k R (iN, kN, mN, xN) from rfl] at hC
                      have hYq := hY s (iN, kN, mN, xN)
                      have hmle := mq_le k R (iN, kN, mN, xN)
                      generalize hM : mq k R (iN, kN, mN, xN) = M at hYq hC hmle
                      gi_wp2_with (refine ⟨trivial, ?_⟩; gi_at_call 68; refine (callsIn_wide.2 (hC _ _ _ _ _ _ _ (hsl.up hu0) hSq)).mono ?_; intro e w3 hh; obtain ⟨A3, c3, D3, d3, rfl, T3, hb3⟩ := hh.two)
                      have hub : Up w3 (w3.alloc (.cells #[.slice A3 M c3, .slice D3 M d3] 26)) := (Up.refl w3).alloc _
                      have hJ4 := hup2 _ _ _ hJs ((hu0.trans hb3).trans hub)
                      obtain ⟨fn, tmps, assign, body, hy, hRo⟩ := hYq _ A3 c3 D3 d3 _ _ hJ4 hB (T3.up hub) (by simp; omega) ⟨hk20, _, HSD.out⟩
                      (try dsimp only at hy)
                      clear hC T3 hYq hJs hJ4 hbx hsl hSq
                      have hcell0 : (w3.alloc (.cells #[.slice A3 M c3, .slice D3 M d3] 26)).cell? ⟨w3.heap.size, 0, none⟩ = some (.slice A3 M c3) := by rw [World.cell?_alloc_mark]; rfl
                      have hcell1 : (w3.alloc (.cells #[.slice A3 M c3, .slice D3 M d3] 26)).cell? ⟨w3.heap.size, 1, none⟩ = some (.slice D3 M d3) := by rw [World.cell?_alloc_mark]; rfl
                      gi_wp2
                      rw [hy, Oper.uponIn_round]
                      refine ⟨fun _ => hn, hRo.mono ?_⟩
                      rintro e W5 (⟨rfl, hJ5⟩ | ⟨rfl, hJx5⟩)
                      · gi_wp2
                        exact ⟨⟨xN + 1, by rfl, by omega, by omega, Lib.hid ⟨_, by simpa using HSD.out, hJ5⟩⟩, by simp only [intOf]; omega⟩
                      · gi_wp2
                        (try rw [Exit.noGoto_normal])
                        go_end0
                        exact ⟨⟨_, rfl⟩, .inr hJx5⟩
                    · have hBf : okq k R (iN, kN, mN, xN) = false := by simpa using hB
                      have hC := fun W U l1 h1 X l2 h2 (a1 : Sl W l1 h1 4 U k (intF R)) (a2 : Sl W l2 h2 1 X 4 (intF (qL (iN, kN, mN, xN)))) => ProofOfFour_any U X k 4 l1 h1 l2 h2 R (qL (iN, kN, mN, xN)) W a1 a2 hkk1 (by omega)
                      rw [show poB k 4 R (qL (iN, kN, mN, xN)) = false from hBf] at hC
                      gi_wp2_with (refine ⟨trivial, ?_⟩; gi_at_call 68; refine (callsIn_wide.2 (hC _ _ _ _ _ _ _ (hsl.up hu0) hSq)).mono ?_; intro e w3 hh; obtain ⟨A3, c3, D3, d3, rfl, T3, hb3⟩ := hh.two)
                      have hJ4 := hfail _ _ _ hBf (hup2 _ _ _ hJs ((hu0.trans hb3).trans ((Up.refl w3).alloc (.cells #[.slice A3 (poM k 4 R (qL (iN, kN, mN, xN))) c3, .slice D3 (poM k 4 R (qL (iN, kN, mN, xN))) d3] 26))))
                      refine ⟨fun _ h => (by cases h), ?_⟩
                      gi_wp2
                      exact ⟨⟨xN + 1, by rfl, by omega, by omega, Lib.hid ⟨_, by simpa using HSD.out, hJ4⟩⟩, by simp only [intOf]; omega⟩
                  · have hkk : xN = k := by omega
                    have hrx := hr.out
                    rw [R4q_z hx1, List.nil_append] at hrx
                    subst hkk
                    have HRX := Lib.hid hrx
                    clear hr hrx
                    gi_wp2
                    exact ⟨⟨mN + 1, by rfl, by omega, by omega, HRX⟩, by simp only [intOf]; omega⟩
              · have hkk : mN = k := by omega
                have hrx := hrm.out
                rw [R3q_z hm1, List.nil_append] at hrx
                subst hkk
                have HRX := Lib.hid hrx
                clear hrm hrx
                gi_wp2
                exact ⟨⟨kN + 1, by rfl, by omega, by omega, HRX⟩, by simp only [intOf]; omega⟩
          · have hkk : kN = k := by omega
            have hrx := hrk.out
            rw [R2q_z hk1, List.nil_append] at hrx
            subst hkk
            have HRX := Lib.hid hrx
            clear hrk hrx
            gi_wp2
            exact ⟨⟨iN + 1, by rfl, by omega, HRX⟩, by simp only [intOf]; omega⟩
      · have hrx := hri.out
        rw [R1q_z hi1] at hrx
        have hi2 : ¬ (iN : Int) < (k : Int) := by omega
        clear hri
        gi_wp2
        obtain ⟨s, hsd, hJs⟩ := hrx
        rw [List.append_nil] at hsd
        go_end0
        exact ⟨⟨_, rfl⟩, .inl ⟨s, .inl ⟨hk20, hrows, hsd⟩, hJs⟩⟩
end Go.Proofs.Ytlpbmdoggcclpaa
