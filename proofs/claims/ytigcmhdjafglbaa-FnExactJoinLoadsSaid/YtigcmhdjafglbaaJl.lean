/- The walks of JoinLoads. No condition. -/
import Derived.Test.YtigcmhdjafglbaaLd
import Derived.Test.YtigcmhdjafglbaaApp
namespace Go.Proofs.Ytigcmhdjafglbaa
open Go.RowKit
set_option linter.unusedVariables false
def jlOk (k m : Nat) (s : Int) (R : Nat → Nat → Int) : Bool := slOk m s R && decide (k + m ≤ 6)
def jlN (k m : Nat) (s : Int) (R : Nat → Nat → Int) : Nat := if jlOk k m s R then k + m else 0
def jlR (k : Nat) (s : Int) (R F : Nat → Nat → Int) (i j : Nat) : Int := if i < k then R i j else slR s F (i - k) j
theorem jlN_t {k m : Nat} {s : Int} {R : Nat → Nat → Int} (h : jlOk k m s R = true) : jlN k m s R = k + m := by rw [jlN, h]; rfl
theorem jlN_f {k m : Nat} {s : Int} {R : Nat → Nat → Int} (h : jlOk k m s R = false) : jlN k m s R = 0 := by rw [jlN, h]; rfl
theorem jl_flat (k m : Nat) (s : Int) (R F : Nat → Nat → Int) : flat 3 (intF R) k ++ flat 3 (intF (slR s F)) m = flat 3 (intF (jlR k s R F)) (k + m) := by
  rw [flat_app]
  exact flat_congr fun i j _ _ => by simp only [intF, jlR]; split <;> rfl
set_option maxHeartbeats 1000000 in
set_option maxRecDepth 100000 in
theorem JoinLoads_any (a u : Value) (k m lo hi lo' hi' : Nat) (R F : Nat → Nat → Int) (s : Int) (w : World) (hs : Sl w lo hi 3 a k (intF R)) (hs' : Sl w lo' hi' 3 u m (intF F)) (hn : k ≤ 1048576) (hn' : m ≤ 1048576) : Calls Try.prog 59 #[a, u, .int .i64 s] w (ToP2 w 3 (jlN k m s F) (intF (jlR k s R F)) (jlOk k m s F)) := by
  obtain ⟨i0, hi0, hz0, hz1, hz2⟩ := info_parts load_info
  have hc := ScaleLoads_any u m lo' hi' F s w hs' hn'
  have HS := hs
  obtain ⟨_, A, c, rfl, hkc, hx⟩ := hs
  obtain ⟨_, A', c', rfl, hkc', hx'⟩ := hs'
  clear hx hx'
  cases hok : slOk m s F with
  | false =>
    have e1 := slN_f hok
    have hf : jlOk k m s F = false := by rw [jlOk, hok]; rfl
    have hN := jlN_f hf
    rw [hN, hf]
    rw [hok, e1] at hc
    clear hN hf e1 hok
    go_enter Try.func59, Try.ntmps59
    go_wp2_with fail
    (go_at_call 54; (with_reducible refine hc.mono ?_); rintro e w1 ⟨v1, rfl, hv1, hb1⟩)
    go_wp2
    exact bodyPost_ret (v := .tuple #[.slice none 0 0, .bool false]) (by simp only [results]; go_simp; try simp) rfl ⟨_, rfl, Wr.nil _ _ _ _ _ (Nat.le_refl _), (by repeat (first | with_reducible exact Up.refl _ | with_reducible refine Up.alloc ?_ _ | with_reducible refine Up.drew ?_ | with_reducible refine Up.drewN ?_ _ | (with_reducible refine Up.setCell ?_ (by first | omega | (simp; done) | (simp; omega)) _) | with_reducible assumption | (with_reducible refine Up.trans ?_ (by with_reducible assumption))))⟩
  | true =>
    have e1 := slN_t hok
    rw [hok, e1] at hc
    clear e1
    by_cases h6 : k + m ≤ 6
    rotate_left
    · have hf : jlOk k m s F = false := by rw [jlOk, hok, decide_eq_false h6]; rfl
      have hN := jlN_f hf
      rw [hN, hf]
      clear hN hf hok
      have h7 : (6 : Int) < (k : Int) + (m : Int) := by omega
      go_enter Try.func59, Try.ntmps59
      go_wp2_with fail
      (go_at_call 54; (with_reducible refine hc.mono ?_); rintro e w1 ⟨v1, rfl, ⟨hv0, A1, c1, rfl, hv2, hv3⟩, hb1⟩)
      clear hv3
      go_wp2
      exact bodyPost_ret (v := .tuple #[.slice none 0 0, .bool false]) (by simp only [results]; go_simp; try simp) rfl ⟨_, rfl, Wr.nil _ _ _ _ _ (Nat.le_refl _), (by repeat (first | with_reducible exact Up.refl _ | with_reducible refine Up.alloc ?_ _ | with_reducible refine Up.drew ?_ | with_reducible refine Up.drewN ?_ _ | (with_reducible refine Up.setCell ?_ (by first | omega | (simp; done) | (simp; omega)) _) | with_reducible assumption | (with_reducible refine Up.trans ?_ (by with_reducible assumption))))⟩
    · have hf : jlOk k m s F = true := by rw [jlOk, hok, decide_eq_true h6]; rfl
      have hN := jlN_t hf
      rw [hN, hf]
      clear hN hf hok
      have h7 : ¬ (6 : Int) < (k : Int) + (m : Int) := by omega
      go_enter Try.func59, Try.ntmps59
      go_wp2_with fail
      (go_at_call 54; (with_reducible refine hc.mono ?_); rintro e w1 ⟨v1, rfl, hv1, hb1⟩)
      have HV := hv1
      obtain ⟨hv0, A1, c1, rfl, hv2, hv3⟩ := hv1
      clear hv3
      go_wp2_with (first | (at_builtin; refine wpList_app _ rfl (.const (.slice none 0 0)) (.tmp 26) 60 rfl w.heap.size 104 i0 _ 3 24 Try.underlying60 hi0 hz0 hz1 hz2 rfl (by omega) (.slice none 0 0) 0 [] rfl (World.ownsRow_nil _ _ _ _) _ _ _ k (intF R) rfl (HS.up hb1) (fun _ _ => rfl) (by simp only [maxLen]; omega) (by omega) hb1.size ?_; intro v2 w2 hown2 hg2 hat2; have hu2 : Up w w2 := up_own hb1 (Nat.le_refl _) (World.ownsRow_nil w1 w.heap.size 104 3) hg2; have S2 : Sl w2 w.heap.size w1.heap.size 3 (.slice A1 m c1) m (intF (slR s F)) := (HV.sl.up (up_own (w := w1) (Up.refl w1) (Nat.le_refl _) (World.ownsRow_nil w1 w1.heap.size 104 3) hg2)); have hown3 : w2.ownsRow w.heap.size 104 3 v2 k (flat 3 (intF R) k) := by simpa using hown2) | (at_builtin; refine wpList_app _ rfl (.tmp 27) (.tmp 28) 60 rfl w.heap.size 104 i0 _ 3 24 Try.underlying60 hi0 hz0 hz1 hz2 rfl (by omega) v2 k (flat 3 (intF R) k) rfl hown3 _ _ _ m (intF (slR s F)) rfl S2 (fun _ _ => rfl) (by simp only [maxLen]; omega) (by omega) hu2.size ?_; intro v3 w3 hown4 hg3 hat3))
      have hu3 : Up w w3 := up_own hu2 (Nat.le_refl _) hown3 hg3
      rw [jl_flat] at hown4
      have hW := Wr.of_own hown4
      have HW := Lib.hid hW
      clear hW hown4 hown3 hown2 hg3 hg2 hat2 hat3
      try go_wp2
      go_ret2
      exact ⟨_, rfl, HW.out, hu3⟩
set_option maxHeartbeats 1000000 in
set_option maxRecDepth 100000 in
theorem sJoinLoads_any (a u : Value) (k m lo hi lo' hi' : Nat) (R F : Nat → Nat → Int) (s : Int) (w : World) (hs : Sl w lo hi 3 a k (intF R)) (hs' : Sl w lo' hi' 3 u m (intF F)) (hn : k ≤ 1048576) (hn' : m ≤ 1048576) : Calls Try.prog 58 #[a, u, .int .i64 s] w (ToP2 w 3 (jlN k m s F) (intF (jlR k s R F)) (jlOk k m s F)) := by
  obtain ⟨i0, hi0, hz0, hz1, hz2⟩ := info_parts load_info
  have hc := sScaleLoads_any u m lo' hi' F s w hs' hn'
  have HS := hs
  obtain ⟨_, A, c, rfl, hkc, hx⟩ := hs
  obtain ⟨_, A', c', rfl, hkc', hx'⟩ := hs'
  clear hx hx'
  cases hok : slOk m s F with
  | false =>
    have e1 := slN_f hok
    have hf : jlOk k m s F = false := by rw [jlOk, hok]; rfl
    have hN := jlN_f hf
    rw [hN, hf]
    rw [hok, e1] at hc
    clear hN hf e1 hok
    go_enter Try.func58, Try.ntmps58
    go_wp2_with fail
    (go_at_call 52; (with_reducible refine hc.mono ?_); rintro e w1 ⟨v1, rfl, hv1, hb1⟩)
    go_wp2
    exact bodyPost_ret (v := .tuple #[.slice (some ⟨w1.heap.size, 0, none⟩) 0 0, .bool false]) (by simp only [results]; go_simp; try simp) rfl ⟨_, rfl, Wr.made0 _ _ _ _ _ _ (Nat.le_refl _), (by repeat (first | with_reducible exact Up.refl _ | with_reducible refine Up.alloc ?_ _ | with_reducible refine Up.drew ?_ | with_reducible refine Up.drewN ?_ _ | (with_reducible refine Up.setCell ?_ (by first | omega | (simp; done) | (simp; omega)) _) | with_reducible assumption | (with_reducible refine Up.trans ?_ (by with_reducible assumption))))⟩
  | true =>
    have e1 := slN_t hok
    rw [hok, e1] at hc
    clear e1
    by_cases h6 : k + m ≤ 6
    rotate_left
    · have hf : jlOk k m s F = false := by rw [jlOk, hok, decide_eq_false h6]; rfl
      have hN := jlN_f hf
      rw [hN, hf]
      clear hN hf hok
      have h7 : (6 : Int) < (k : Int) + (m : Int) := by omega
      go_enter Try.func58, Try.ntmps58
      go_wp2_with fail
      (go_at_call 52; (with_reducible refine hc.mono ?_); rintro e w1 ⟨v1, rfl, ⟨hv0, A1, c1, rfl, hv2, hv3⟩, hb1⟩)
      clear hv3
      go_wp2
      exact bodyPost_ret (v := .tuple #[.slice (some ⟨w1.heap.size, 0, none⟩) 0 0, .bool false]) (by simp only [results]; go_simp; try simp) rfl ⟨_, rfl, Wr.made0 _ _ _ _ _ _ (Nat.le_refl _), (by repeat (first | with_reducible exact Up.refl _ | with_reducible refine Up.alloc ?_ _ | with_reducible refine Up.drew ?_ | with_reducible refine Up.drewN ?_ _ | (with_reducible refine Up.setCell ?_ (by first | omega | (simp; done) | (simp; omega)) _) | with_reducible assumption | (with_reducible refine Up.trans ?_ (by with_reducible assumption))))⟩
    · have hf : jlOk k m s F = true := by rw [jlOk, hok, decide_eq_true h6]; rfl
      have hN := jlN_t hf
      rw [hN, hf]
      clear hN hf hok
      have h7 : ¬ (6 : Int) < (k : Int) + (m : Int) := by omega
      go_enter Try.func58, Try.ntmps58
      go_wp2_with fail
      (go_at_call 52; (with_reducible refine hc.mono ?_); rintro e w1 ⟨v1, rfl, hv1, hb1⟩)
      have HV := hv1
      obtain ⟨hv0, A1, c1, rfl, hv2, hv3⟩ := hv1
      clear hv3
      have hmd := World.ownsRow_made w1 #[] 0 (base := w.heap.size) (e := 104) (size := 3) hb1.size (Nat.zero_le _) rfl
      have HM := Lib.hid hmd
      clear hmd
      go_wp2_with (first | (at_builtin; refine wpList_app _ rfl (.tmp 27) (.tmp 28) 60 rfl w.heap.size 104 i0 _ 3 24 Try.underlying60 hi0 hz0 hz1 hz2 rfl (by omega) (.slice (some ⟨w1.heap.size, 0, none⟩) 0 0) 0 [] rfl HM.out _ _ _ k (intF R) rfl ((HS.up hb1).up (Up.alloc (Up.refl w1) _)) (fun _ _ => rfl) (by simp only [maxLen]; omega) (by omega) (by have := hb1.size; simp; omega) ?_; intro v2 w2 hown2 hg2 hat2; have hu2 : Up w w2 := up_own (hb1.alloc _) (Nat.le_refl _) HM.out hg2; have S2 : Sl w2 w.heap.size w1.heap.size 3 (.slice A1 m c1) m (intF (slR s F)) := (HV.sl.up (up_own (w := w1) (Up.alloc (Up.refl w1) _) (Nat.le_refl _) (World.ownsRow_made w1 #[] 0 (base := w1.heap.size) (e := 104) (size := 3) (Nat.le_refl _) (Nat.zero_le _) rfl) hg2)); have hown3 : w2.ownsRow w.heap.size 104 3 v2 k (flat 3 (intF R) k) := by simpa using hown2) | (at_builtin; refine wpList_app _ rfl (.tmp 29) (.tmp 30) 60 rfl w.heap.size 104 i0 _ 3 24 Try.underlying60 hi0 hz0 hz1 hz2 rfl (by omega) v2 k (flat 3 (intF R) k) rfl hown3 _ _ _ m (intF (slR s F)) rfl S2 (fun _ _ => rfl) (by simp only [maxLen]; omega) (by omega) hu2.size ?_; intro v3 w3 hown4 hg3 hat3))
      have hu3 : Up w w3 := up_own hu2 (Nat.le_refl _) hown3 hg3
      rw [jl_flat] at hown4
      have hW := Wr.of_own hown4
      have HW := Lib.hid hW
      clear hW hown4 hown3 hown2 hg3 hg2 hat2 hat3
      try go_wp2
      go_ret2
      exact ⟨_, rfl, HW.out, hu3⟩
end Go.Proofs.Ytigcmhdjafglbaa
