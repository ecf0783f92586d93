/- The walks of HasMechanism and what it calls. No condition. -/
import Derived.Test.YtigcmhdjafglbaaRw
import Derived.Maps.OwnOps
import Derived.Maps.OwnSet
import Derived.Maps.Views
import Derived.Deep.QuietTactic
namespace Go.Proofs.Ytigcmhdjafglbaa
open Go.RowKit Go.Maps
set_option linter.unusedVariables false
/-- Joint k has not stood ahead of place k. -/
def fsB (J : Nat → Int) (k : Nat) : Bool := allN (fun i => J i != J k) k
def jnN (J : Nat → Int) (n : Nat) : Nat := cnt (fsB J) n
def kyL (J : Nat → Int) (i : Nat) : Lit := .int .i64 (J i)
def acL (J : Nat → Int) (k : Nat) : List Lit := ((List.range k).map (kyL J)).foldl addKey []
theorem acL_succ (J : Nat → Int) (k : Nat) : acL J (k + 1) = addKey (acL J k) (kyL J k) := by
  unfold acL
  rw [List.range_succ, List.map_append, List.foldl_append]
  rfl
theorem isK (n : Int) : WideAt.IsKeyLit (.int .i64 n) := by simp [WideAt.IsKeyLit]
theorem acL_any (J : Nat → Int) (k : Nat) (x : Int) : (acL J k).any (fun y => y.sameKey (.int .i64 x)) = true ↔ ∃ i, i < k ∧ J i = x := by
  induction k with
  | zero => simp [acL]
  | succ k ih =>
    rw [acL_succ, addKey]
    have hk : (kyL J k).sameKey (.int .i64 x) = true ↔ J k = x := by
      rw [WideAt.sameKey_iff (isK x), kyL]
      constructor
      · intro h; injection h
      · intro h; rw [h]
    have hstep : (∃ i, i < k + 1 ∧ J i = x) ↔ (∃ i, i < k ∧ J i = x) ∨ J k = x := by
      constructor
      · rintro ⟨i, hi, he⟩
        by_cases h : i < k
        · exact .inl ⟨i, h, he⟩
        · exact .inr (by rw [← he, show i = k from by omega])
      · rintro (⟨i, hi, he⟩ | he)
        · exact ⟨i, by omega, he⟩
        · exact ⟨k, by omega, he⟩
    rw [hstep]
    by_cases ha : (acL J k).any (fun y => y.sameKey (kyL J k)) = true
    · rw [if_pos ha]
      have hb : ∃ i, i < k ∧ J i = J k := by
        have hgen : ∀ z, (acL J k).any (fun y => y.sameKey (.int .i64 z)) = true → ∃ l ∈ acL J k, l = .int .i64 z := by
          intro z hz
          obtain ⟨l, hl, he⟩ := List.any_eq_true.1 hz
          exact ⟨l, hl, (WideAt.sameKey_iff (isK z)).1 he⟩
        obtain ⟨l, hl, he⟩ := hgen (J k) ha
        have hmem : ∀ m, ∀ l ∈ acL J m, ∃ i, i < m ∧ l = kyL J i := by
          intro m
          induction m with
          | zero => intro l hl; simp [acL] at hl
          | succ m ihm =>
            intro l hl
            rw [acL_succ, addKey] at hl
            split at hl
            · obtain ⟨i, h1, h2⟩ := ihm l hl; exact ⟨i, by omega, h2⟩
            · rcases List.mem_append.1 hl with h | h
              · obtain ⟨i, h1, h2⟩ := ihm l h; exact ⟨i, by omega, h2⟩
              · exact ⟨m, by omega, by simpa using h⟩
        obtain ⟨i, h1, h2⟩ := hmem k l hl
        rw [he, kyL] at h2
        injection h2 with _ h3
        exact ⟨i, h1, h3.symm⟩
      rw [ih]
      constructor
      · exact .inl
      · rintro (h | h)
        · exact h
        · obtain ⟨i, h1, h2⟩ := hb; exact ⟨i, h1, by rw [h2, h]⟩
    · rw [if_neg ha, List.any_append, Bool.or_eq_true, ih]
      simp only [List.any_cons, List.any_nil, Bool.or_false]
      rw [hk]
theorem fs_iff (J : Nat → Int) (k : Nat) : fsB J k = true ↔ ¬ ∃ i, i < k ∧ J i = J k := by
  constructor
  · rintro h ⟨i, hi, he⟩
    have := allN_get h hi
    simp [he] at this
  · intro h
    cases hf : fsB J k with
    | true => rfl
    | false =>
      exfalso
      apply h
      have : ∀ m, allN (fun i => J i != J k) m = false → ∃ i, i < m ∧ J i = J k := by
        intro m
        induction m with
        | zero => intro h; simp [allN] at h
        | succ m ih =>
          intro h
          rw [allN, Bool.and_eq_false_iff] at h
          rcases h with h | h
          · obtain ⟨i, h1, h2⟩ := ih h; exact ⟨i, by omega, h2⟩
          · exact ⟨m, by omega, by simpa using h⟩
      exact this k hf
theorem acL_len (J : Nat → Int) (k : Nat) : (acL J k).length = jnN J k := by
  induction k with
  | zero => rfl
  | succ k ih =>
    rw [acL_succ, addKey, jnN]
    by_cases h : ∃ i, i < k ∧ J i = J k
    · have h1 : (acL J k).any (fun y => y.sameKey (kyL J k)) = true := (acL_any J k (J k)).2 h
      have h2 : fsB J k = false := by
        cases hf : fsB J k with
        | false => rfl
        | true => exact absurd h ((fs_iff J k).1 hf)
      rw [if_pos h1, cnt_f h2, ih, jnN]
    · have h1 : ¬ (acL J k).any (fun y => y.sameKey (kyL J k)) = true := fun hh => h ((acL_any J k (J k)).1 hh)
      rw [if_neg h1, List.length_append, cnt_t ((fs_iff J k).2 h), ih, jnN]
      rfl
theorem jn_size (J : Nat → Int) (n : Nat) : size (setOf (H := Unit) (.lit (.bool true)) ((List.range n).map (kyL J))) = jnN J n := by
  rw [size_setOf _ _ (fun x hx => by obtain ⟨i, _, rfl⟩ := List.mem_map.1 hx; exact isK _), ← acL_len]
  rfl
set_option maxHeartbeats 1000000 in
set_option maxRecDepth 100000 in
theorem jointsOf_any (u : Value) (n lo hi : Nat) (J : Nat → Int) (O : Nat → Bool) (w : World) (hs : Sl w lo hi 2 u n (hgF J O)) (hn : n ≤ 1048576) (hI : ∀ i, i < n → I64 (J i)) : Calls Try.prog 78 #[u] w fun e w' => e = .returned (.int .i64 (jnN J n : Int)) ∧ Up w w' := by
  obtain ⟨h0, A, c, rfl, hc, hx⟩ := hs
  have H := Lib.hid hx
  have HI := Lib.hid hI
  clear hx hI
  have hmm := @run_makeMap Try.prog
  go_enter Try.func78, Try.ntmps78
  go_wp2
  go_loopw [9] (fun i wr => ∃ k : Nat, i = .int .i64 (k : Int) ∧ k ≤ n ∧ Hid (wr.ownsMap Try.prog 3 (plainElem (H := Unit) Try.prog 4) w.heap.size k (setOf (.lit (.bool true)) ((List.range k).map (kyL J)))) ∧ Up w wr) (fun i _ => n - (intOf i).toNat)
  case atStart => exact ⟨0, rfl, Nat.zero_le _, World.ownsMap_made _ _ _ _, (by repeat (first | with_reducible exact Up.refl _ | with_reducible refine Up.alloc ?_ _ | with_reducible refine Up.drew ?_ | with_reducible refine Up.drewN ?_ _ | (with_reducible refine Up.setCell ?_ (by first | omega | (simp; done) | (simp; omega)) _) | with_reducible assumption | (with_reducible refine Up.trans ?_ (by with_reducible assumption))))⟩
  case round =>
    obtain ⟨k, rfl, hk, hown, hup⟩ := hrel
    by_cases hk1 : k < n
    · obtain ⟨b, o, rfl, hb1, hb2, hcs⟩ := H.out (by omega)
      have hbs2 : b < wr.heap.size := Nat.lt_of_lt_of_le (by omega) hup.size
      have hg0 : wr.cell? ⟨b, o + k * 2, none⟩ = some (.int .i64 (J k)) := (hup.cells.1 _ _ (by omega)).trans (by simpa [hgF, Nat.add_assoc] using hcs k 0 hk1 (by omega))
      have hg1 : wr.cell? ⟨b, o + k * 2 + 1, none⟩ = some (.bool (O k)) := (hup.cells.1 _ _ (by omega)).trans (by simpa [hgF, Nat.add_assoc] using hcs k 1 hk1 (by omega))
      have hIk := HI.out k hk1
      have hwf : (Lit.int .i64 (J k)).wf = true := by
        obtain ⟨i1, i2⟩ := hIk
        simp [Lit.wf, IntKind.min, IntKind.max, IntKind.bits, IntKind.signed]; omega
      have hkey : keyOf Try.prog 3 (.int .i64 (J k)) = some (kyL J k) := keyOf_int_mk Try.underlying3 hwf
      clear hcs
      have hk2 : (k : Int) < (n : Int) := by omega
      go_wp2_with (at_mapUpdate; refine wpList_mapUpdate_own _ rfl _ _ _ 119 rfl 3 4 (int_keyed Try.underlying3) Try.underlying119 (plainElem (H := Unit) Try.prog 4) w.heap.size k _ rfl (hown.out.alloc _) (by unfold maxLen; omega) _ _ _ rfl rfl hkey _ [] (plainElem_bool Try.underlying4 true) ?_; intro w1 hown1 hgrow1)
      have hu1 : Up w w1 := Below.grown (hup.alloc _) hgrow1 (by have := hup.size; simp; omega) (fun j hj => by cases hj; exact Nat.le_refl _)
      have ho2 : w1.ownsMap Try.prog 3 (plainElem (H := Unit) Try.prog 4) w.heap.size (k + 1) (setOf (.lit (.bool true)) ((List.range (k + 1)).map (kyL J))) := by rw [List.range_succ, List.map_append, List.map_cons, List.map_nil, setOf_snoc]; exact hown1
      have HO := Lib.hid ho2
      clear ho2 hown1 hgrow1
      go_wp2
      exact ⟨⟨k + 1, by rfl, by omega, HO, hu1⟩, by simp only [intOf]; omega⟩
    · have hkk : k = n := by omega
      subst hkk
      have hsz := Lib.hid (jn_size J k)
      go_wp2_with (at_len; refine wpList_len_own _ rfl _ 119 rfl 3 4 Try.underlying119 _ w.heap.size k _ rfl hown.out ?_)
      go_ret
      exact ⟨by rw [← hsz.out]; rfl, hup⟩
theorem allN_succ_f {p : Nat → Bool} {q : Nat} (h : allN p q = false) : allN p (q + 1) = false := by rw [allN, h]; rfl
theorem allN_succ_n {p : Nat → Bool} {q : Nat} (h : p q = false) : allN p (q + 1) = false := by rw [allN, h]; simp
theorem jn_t {J : Nat → Int} {k : Nat} (h : allN (fun i => J i != J k) k = true) : jnN J (k + 1) = jnN J k + 1 := cnt_t (p := fsB J) h
theorem jn_f {J : Nat → Int} {k : Nat} (h : allN (fun i => J i != J k) k = false) : jnN J (k + 1) = jnN J k := cnt_f (p := fsB J) h
set_option maxHeartbeats 2000000 in
set_option maxRecDepth 100000 in
theorem l20Joints_any (u : Value) (n lo hi : Nat) (J : Nat → Int) (O : Nat → Bool) (w : World) (hs : Sl w lo hi 2 u n (hgF J O)) (hn : n ≤ 1048576) : Calls Try.prog 77 #[u] w fun e w' => e = .returned (.int .i64 (jnN J n : Int)) ∧ Up w w' := by
  obtain ⟨h0, A, c, rfl, hc, hx⟩ := hs
  have H := Lib.hid hx
  clear hx
  go_enter Try.func77, Try.ntmps77
  go_wp2
  go_loopw [3, 4] (fun t i wr => ∃ k : Nat, i = .int .i64 (k : Int) ∧ k ≤ n ∧ t = .int .i64 (jnN J k : Int) ∧ Up w wr) (fun _ i _ => n - (intOf i).toNat)
  case atStart => exact ⟨0, rfl, Nat.zero_le _, rfl, (by repeat (first | with_reducible exact Up.refl _ | with_reducible refine Up.alloc ?_ _ | with_reducible refine Up.drew ?_ | with_reducible refine Up.drewN ?_ _ | (with_reducible refine Up.setCell ?_ (by first | omega | (simp; done) | (simp; omega)) _) | with_reducible assumption | (with_reducible refine Up.trans ?_ (by with_reducible assumption))))⟩
  case round =>
    obtain ⟨k, rfl, hk, rfl, hup⟩ := hrel
    have hle : jnN J k ≤ k := cnt_le _ _
    by_cases hk1 : k < n
    · obtain ⟨b, o, rfl, hb1, hb2, hcs⟩ := H.out (by omega)
      have HC := Lib.hid hcs
      clear hcs
      have hk2 : (k : Int) < (n : Int) := by omega
      obtain ⟨wo, rfl⟩ : ∃ wo : World, wo = wr := ⟨_, rfl⟩
      go_wp2
      go_loopw [5, 6] (fun f i wr => ∃ (q : Nat) (fb : Bool), i = .int .i64 (q : Int) ∧ q ≤ k ∧ f = .bool fb ∧ Hid (allN (fun i => J i != J k) q = fb) ∧ Up wo wr) (fun _ i _ => k - (intOf i).toNat)
      case atStart => exact ⟨0, true, rfl, Nat.zero_le _, rfl, rfl, (by repeat (first | with_reducible exact Up.refl _ | with_reducible refine Up.alloc ?_ _ | with_reducible refine Up.drew ?_ | with_reducible refine Up.drewN ?_ _ | (with_reducible refine Up.setCell ?_ (by first | omega | (simp; done) | (simp; omega)) _) | with_reducible assumption | (with_reducible refine Up.trans ?_ (by with_reducible assumption))))⟩
      case round =>
        obtain ⟨q, fb, rfl, hq, rfl, hf, hup2⟩ := hrel
        have hup3 : Up w wr := hup.trans hup2
        have hbs2 : b < wr.heap.size := Nat.lt_of_lt_of_le (by omega) hup3.size
        by_cases hq1 : q < k
        · have hg0 : wr.cell? ⟨b, o + q * 2, none⟩ = some (.int .i64 (J q)) := (hup3.cells.1 _ _ (by omega)).trans (by simpa [hgF, Nat.add_assoc] using HC.out q 0 (by omega) (by omega))
          have hg1 : wr.cell? ⟨b, o + k * 2, none⟩ = some (.int .i64 (J k)) := (hup3.cells.1 _ _ (by omega)).trans (by simpa [hgF, Nat.add_assoc] using HC.out k 0 hk1 (by omega))
          have hq2 : (q : Int) < (k : Int) := by omega
          have hq3 : (q : Int) < (n : Int) := by omega
          cases fb with
          | false =>
            have HF := Lib.hid (allN_succ_f hf.out)
            go_wp2_with fail
            go_quiet (fail)
            go_wp2
            exact ⟨⟨q + 1, false, by rfl, by omega, rfl, HF, (by repeat (first | with_reducible exact Up.refl _ | with_reducible refine Up.alloc ?_ _ | with_reducible refine Up.drew ?_ | with_reducible refine Up.drewN ?_ _ | (with_reducible refine Up.setCell ?_ (by first | omega | (simp; done) | (simp; omega)) _) | with_reducible assumption | (with_reducible refine Up.trans ?_ (by with_reducible assumption))))⟩, by simp only [intOf]; omega⟩
          | true =>
            by_cases he : J q = J k
            · have HF := Lib.hid (allN_succ_n (p := fun i => J i != J k) (q := q) (by simp [he]))
              have hb0 : (J k != J k) = false := by simp
              rw [he] at hg0
              clear he
              go_wp2_with fail
              go_quiet (fail)
              go_wp2
              exact ⟨⟨q + 1, false, by rfl, by omega, rfl, HF, (by repeat (first | with_reducible exact Up.refl _ | with_reducible refine Up.alloc ?_ _ | with_reducible refine Up.drew ?_ | with_reducible refine Up.drewN ?_ _ | (with_reducible refine Up.setCell ?_ (by first | omega | (simp; done) | (simp; omega)) _) | with_reducible assumption | (with_reducible refine Up.trans ?_ (by with_reducible assumption))))⟩, by simp only [intOf]; omega⟩
            · have HF := Lib.hid (allN_step (p := fun i => J i != J k) hf.out (by simp [he]))
              have hb0 : (J q != J k) = true := by simp [he]
              clear he
              go_wp2_with fail
              go_quiet (fail)
              go_wp2
              exact ⟨⟨q + 1, true, by rfl, by omega, rfl, HF, (by repeat (first | with_reducible exact Up.refl _ | with_reducible refine Up.alloc ?_ _ | with_reducible refine Up.drew ?_ | with_reducible refine Up.drewN ?_ _ | (with_reducible refine Up.setCell ?_ (by first | omega | (simp; done) | (simp; omega)) _) | with_reducible assumption | (with_reducible refine Up.trans ?_ (by with_reducible assumption))))⟩, by simp only [intOf]; omega⟩
        · have hqq : q = k := by omega
          subst hqq
          cases fb with
          | false =>
            have HF := Lib.hid (jn_f hf.out)
            go_wp2
            exact ⟨⟨q + 1, by rfl, by omega, by rw [HF.out], (by repeat (first | with_reducible exact Up.refl _ | with_reducible refine Up.alloc ?_ _ | with_reducible refine Up.drew ?_ | with_reducible refine Up.drewN ?_ _ | (with_reducible refine Up.setCell ?_ (by first | omega | (simp; done) | (simp; omega)) _) | with_reducible assumption | (with_reducible refine Up.trans ?_ (by with_reducible assumption))))⟩, by simp only [intOf]; omega⟩
          | true =>
            have HF := Lib.hid (jn_t hf.out)
            go_wp2
            exact ⟨⟨q + 1, by rfl, by omega, by rw [HF.out]; rfl, (by repeat (first | with_reducible exact Up.refl _ | with_reducible refine Up.alloc ?_ _ | with_reducible refine Up.drew ?_ | with_reducible refine Up.drewN ?_ _ | (with_reducible refine Up.setCell ?_ (by first | omega | (simp; done) | (simp; omega)) _) | with_reducible assumption | (with_reducible refine Up.trans ?_ (by with_reducible assumption))))⟩, by simp only [intOf]; omega⟩
    · have hkk : k = n := by omega
      subst hkk
      go_wp2
      go_ret
      exact ⟨by rfl, (by repeat (first | with_reducible exact Up.refl _ | with_reducible refine Up.alloc ?_ _ | with_reducible refine Up.drew ?_ | with_reducible refine Up.drewN ?_ _ | (with_reducible refine Up.setCell ?_ (by first | omega | (simp; done) | (simp; omega)) _) | with_reducible assumption | (with_reducible refine Up.trans ?_ (by with_reducible assumption))))⟩
/-- HasMechanism. -/
def hmB (J : Nat → Int) (O : Nat → Bool) (n : Nat) : Bool := decide (3 ≤ jnN J n) && decide (2 ≤ cnt (turn O) n)
set_option maxHeartbeats 1000000 in
set_option maxRecDepth 100000 in
theorem HasMechanism_any (u : Value) (n lo hi : Nat) (J : Nat → Int) (O : Nat → Bool) (w : World) (hs : Sl w lo hi 2 u n (hgF J O)) (hn : n ≤ 1048576) (hI : ∀ i, i < n → I64 (J i)) : Calls Try.prog 25 #[u] w fun e w' => e = .returned (.bool (hmB J O n)) ∧ Up w w' := by
  by_cases h3 : 3 ≤ jnN J n
  · by_cases h2 : 2 ≤ cnt (turn O) n
    · have hr : hmB J O n = true := by simp [hmB, h3, h2]
      rw [hr]
      have h3' : (3 : Int) ≤ (jnN J n : Int) := by omega
      have h2' : (2 : Int) ≤ htI O n := by unfold htI; omega
      clear hr
      go_enter Try.func25, Try.ntmps25
      go_wp2_with fail
      (go_at_call 78; (with_reducible refine (jointsOf_any _ _ _ _ _ _ _ hs hn hI).mono ?_); rintro e w1 ⟨rfl, hb1⟩; obtain ⟨hc1, hf1⟩ := hb1.cells; have hs1 := hb1.size; (try simp at hs1); (try have hs1_0a : w.heap.size < w1.heap.size := by omega); (try have hs1_0a' : w.heap.size ≤ w1.heap.size := by omega); (try have hs1_0b : w.heap.size + 1 < w1.heap.size := by omega); (try have hs1_0b' : w.heap.size + 1 ≤ w1.heap.size := by omega); (try have hs1_0c : w.heap.size + 1 + 1 < w1.heap.size := by omega); (try have hs1_0c' : w.heap.size + 1 + 1 ≤ w1.heap.size := by omega))
      go_wp2_with fail
      (go_at_call 22; (with_reducible refine (CountTurns_any _ _ _ _ _ _ _ (hs.up (by repeat (first | with_reducible exact Up.refl _ | with_reducible refine Up.alloc ?_ _ | with_reducible refine Up.drew ?_ | with_reducible refine Up.drewN ?_ _ | (with_reducible refine Up.setCell ?_ (by first | omega | (simp; done) | (simp; omega)) _) | with_reducible assumption | (with_reducible refine Up.trans ?_ (by with_reducible assumption))))) hn).mono ?_); rintro e w2 ⟨rfl, hb2⟩; obtain ⟨hc2, hf2⟩ := hb2.cells; have hs2 := hb2.size; (try simp at hs2); (try have hs2_0a : w.heap.size < w2.heap.size := by omega); (try have hs2_0a' : w.heap.size ≤ w2.heap.size := by omega); (try have hs2_0b : w.heap.size + 1 < w2.heap.size := by omega); (try have hs2_0b' : w.heap.size + 1 ≤ w2.heap.size := by omega); (try have hs2_0c : w.heap.size + 1 + 1 < w2.heap.size := by omega); (try have hs2_0c' : w.heap.size + 1 + 1 ≤ w2.heap.size := by omega); (try have hs2_1a : w1.heap.size < w2.heap.size := by omega); (try have hs2_1a' : w1.heap.size ≤ w2.heap.size := by omega); (try have hs2_1b : w1.heap.size + 1 < w2.heap.size := by omega); (try have hs2_1b' : w1.heap.size + 1 ≤ w2.heap.size := by omega); (try have hs2_1c : w1.heap.size + 1 + 1 < w2.heap.size := by omega); (try have hs2_1c' : w1.heap.size + 1 + 1 ≤ w2.heap.size := by omega))
      go_wp2
      go_ret
      exact ⟨rfl, (by repeat (first | with_reducible exact Up.refl _ | with_reducible refine Up.alloc ?_ _ | with_reducible refine Up.drew ?_ | with_reducible refine Up.drewN ?_ _ | (with_reducible refine Up.setCell ?_ (by first | omega | (simp; done) | (simp; omega)) _) | with_reducible assumption | (with_reducible refine Up.trans ?_ (by with_reducible assumption))))⟩
    · have hr : hmB J O n = false := by simp [hmB, h2]
      rw [hr]
      have h3' : (3 : Int) ≤ (jnN J n : Int) := by omega
      have h2' : ¬ (2 : Int) ≤ htI O n := by unfold htI; omega
      have hd2 := decide_eq_false h2'
      clear hr
      go_enter Try.func25, Try.ntmps25
      go_wp2_with fail
      (go_at_call 78; (with_reducible refine (jointsOf_any _ _ _ _ _ _ _ hs hn hI).mono ?_); rintro e w1 ⟨rfl, hb1⟩; obtain ⟨hc1, hf1⟩ := hb1.cells; have hs1 := hb1.size; (try simp at hs1); (try have hs1_0a : w.heap.size < w1.heap.size := by omega); (try have hs1_0a' : w.heap.size ≤ w1.heap.size := by omega); (try have hs1_0b : w.heap.size + 1 < w1.heap.size := by omega); (try have hs1_0b' : w.heap.size + 1 ≤ w1.heap.size := by omega); (try have hs1_0c : w.heap.size + 1 + 1 < w1.heap.size := by omega); (try have hs1_0c' : w.heap.size + 1 + 1 ≤ w1.heap.size := by omega))
      go_wp2_with fail
      (go_at_call 22; (with_reducible refine (CountTurns_any _ _ _ _ _ _ _ (hs.up (by repeat (first | with_reducible exact Up.refl _ | with_reducible refine Up.alloc ?_ _ | with_reducible refine Up.drew ?_ | with_reducible refine Up.drewN ?_ _ | (with_reducible refine Up.setCell ?_ (by first | omega | (simp; done) | (simp; omega)) _) | with_reducible assumption | (with_reducible refine Up.trans ?_ (by with_reducible assumption))))) hn).mono ?_); rintro e w2 ⟨rfl, hb2⟩; obtain ⟨hc2, hf2⟩ := hb2.cells; have hs2 := hb2.size; (try simp at hs2); (try have hs2_0a : w.heap.size < w2.heap.size := by omega); (try have hs2_0a' : w.heap.size ≤ w2.heap.size := by omega); (try have hs2_0b : w.heap.size + 1 < w2.heap.size := by omega); (try have hs2_0b' : w.heap.size + 1 ≤ w2.heap.size := by omega); (try have hs2_0c : w.heap.size + 1 + 1 < w2.heap.size := by omega); (try have hs2_0c' : w.heap.size + 1 + 1 ≤ w2.heap.size := by omega); (try have hs2_1a : w1.heap.size < w2.heap.size := by omega); (try have hs2_1a' : w1.heap.size ≤ w2.heap.size := by omega); (try have hs2_1b : w1.heap.size + 1 < w2.heap.size := by omega); (try have hs2_1b' : w1.heap.size + 1 ≤ w2.heap.size := by omega); (try have hs2_1c : w1.heap.size + 1 + 1 < w2.heap.size := by omega); (try have hs2_1c' : w1.heap.size + 1 + 1 ≤ w2.heap.size := by omega))
      go_wp2
      go_ret
      exact ⟨rfl, (by repeat (first | with_reducible exact Up.refl _ | with_reducible refine Up.alloc ?_ _ | with_reducible refine Up.drew ?_ | with_reducible refine Up.drewN ?_ _ | (with_reducible refine Up.setCell ?_ (by first | omega | (simp; done) | (simp; omega)) _) | with_reducible assumption | (with_reducible refine Up.trans ?_ (by with_reducible assumption))))⟩
  · have hr : hmB J O n = false := by simp [hmB, h3]
    rw [hr]
    have h3' : ¬ (3 : Int) ≤ (jnN J n : Int) := by omega
    clear hr
    go_enter Try.func25, Try.ntmps25
    go_wp2_with fail
    (go_at_call 78; (with_reducible refine (jointsOf_any _ _ _ _ _ _ _ hs hn hI).mono ?_); rintro e w1 ⟨rfl, hb1⟩; obtain ⟨hc1, hf1⟩ := hb1.cells; have hs1 := hb1.size; (try simp at hs1); (try have hs1_0a : w.heap.size < w1.heap.size := by omega); (try have hs1_0a' : w.heap.size ≤ w1.heap.size := by omega); (try have hs1_0b : w.heap.size + 1 < w1.heap.size := by omega); (try have hs1_0b' : w.heap.size + 1 ≤ w1.heap.size := by omega); (try have hs1_0c : w.heap.size + 1 + 1 < w1.heap.size := by omega); (try have hs1_0c' : w.heap.size + 1 + 1 ≤ w1.heap.size := by omega))
    go_wp2
    go_ret
    exact ⟨rfl, (by repeat (first | with_reducible exact Up.refl _ | with_reducible refine Up.alloc ?_ _ | with_reducible refine Up.drew ?_ | with_reducible refine Up.drewN ?_ _ | (with_reducible refine Up.setCell ?_ (by first | omega | (simp; done) | (simp; omega)) _) | with_reducible assumption | (with_reducible refine Up.trans ?_ (by with_reducible assumption))))⟩
set_option maxHeartbeats 1000000 in
set_option maxRecDepth 100000 in
theorem sHasMechanism_any (u : Value) (n lo hi : Nat) (J : Nat → Int) (O : Nat → Bool) (w : World) (hs : Sl w lo hi 2 u n (hgF J O)) (hn : n ≤ 1048576) (hI : ∀ i, i < n → I64 (J i)) : Calls Try.prog 24 #[u] w fun e w' => e = .returned (.bool (hmB J O n)) ∧ Up w w' := by
  by_cases h3 : 3 ≤ jnN J n
  · by_cases h2 : 2 ≤ cnt (turn O) n
    · have hr : hmB J O n = true := by simp [hmB, h3, h2]
      rw [hr]
      have h3' : (3 : Int) ≤ (jnN J n : Int) := by omega
      have h2' : (2 : Int) ≤ htI O n := by unfold htI; omega
      clear hr
      go_enter Try.func24, Try.ntmps24
      go_wp2_with fail
      (go_at_call 77; (with_reducible refine (l20Joints_any _ _ _ _ _ _ _ hs hn).mono ?_); rintro e w1 ⟨rfl, hb1⟩; obtain ⟨hc1, hf1⟩ := hb1.cells; have hs1 := hb1.size; (try simp at hs1); (try have hs1_0a : w.heap.size < w1.heap.size := by omega); (try have hs1_0a' : w.heap.size ≤ w1.heap.size := by omega); (try have hs1_0b : w.heap.size + 1 < w1.heap.size := by omega); (try have hs1_0b' : w.heap.size + 1 ≤ w1.heap.size := by omega); (try have hs1_0c : w.heap.size + 1 + 1 < w1.heap.size := by omega); (try have hs1_0c' : w.heap.size + 1 + 1 ≤ w1.heap.size := by omega))
      go_wp2_with fail
      (go_at_call 20; (with_reducible refine (sCountTurns_any _ _ _ _ _ _ _ (hs.up (by repeat (first | with_reducible exact Up.refl _ | with_reducible refine Up.alloc ?_ _ | with_reducible refine Up.drew ?_ | with_reducible refine Up.drewN ?_ _ | (with_reducible refine Up.setCell ?_ (by first | omega | (simp; done) | (simp; omega)) _) | with_reducible assumption | (with_reducible refine Up.trans ?_ (by with_reducible assumption))))) hn).mono ?_); rintro e w2 ⟨rfl, hb2⟩; obtain ⟨hc2, hf2⟩ := hb2.cells; have hs2 := hb2.size; (try simp at hs2); (try have hs2_0a : w.heap.size < w2.heap.size := by omega); (try have hs2_0a' : w.heap.size ≤ w2.heap.size := by omega); (try have hs2_0b : w.heap.size + 1 < w2.heap.size := by omega); (try have hs2_0b' : w.heap.size + 1 ≤ w2.heap.size := by omega); (try have hs2_0c : w.heap.size + 1 + 1 < w2.heap.size := by omega); (try have hs2_0c' : w.heap.size + 1 + 1 ≤ w2.heap.size := by omega); (try have hs2_1a : w1.heap.size < w2.heap.size := by omega); (try have hs2_1a' : w1.heap.size ≤ w2.heap.size := by omega); (try have hs2_1b : w1.heap.size + 1 < w2.heap.size := by omega); (try have hs2_1b' : w1.heap.size + 1 ≤ w2.heap.size := by omega); (try have hs2_1c : w1.heap.size + 1 + 1 < w2.heap.size := by omega); (try have hs2_1c' : w1.heap.size + 1 + 1 ≤ w2.heap.size := by omega))
      go_wp2
      go_ret
      exact ⟨rfl, (by repeat (first | with_reducible exact Up.refl _ | with_reducible refine Up.alloc ?_ _ | with_reducible refine Up.drew ?_ | with_reducible refine Up.drewN ?_ _ | (with_reducible refine Up.setCell ?_ (by first | omega | (simp; done) | (simp; omega)) _) | with_reducible assumption | (with_reducible refine Up.trans ?_ (by with_reducible assumption))))⟩
    · have hr : hmB J O n = false := by simp [hmB, h2]
      rw [hr]
      have h3' : (3 : Int) ≤ (jnN J n : Int) := by omega
      have h2' : ¬ (2 : Int) ≤ htI O n := by unfold htI; omega
      have hd2 := decide_eq_false h2'
      clear hr
      go_enter Try.func24, Try.ntmps24
      go_wp2_with fail
      (go_at_call 77; (with_reducible refine (l20Joints_any _ _ _ _ _ _ _ hs hn).mono ?_); rintro e w1 ⟨rfl, hb1⟩; obtain ⟨hc1, hf1⟩ := hb1.cells; have hs1 := hb1.size; (try simp at hs1); (try have hs1_0a : w.heap.size < w1.heap.size := by omega); (try have hs1_0a' : w.heap.size ≤ w1.heap.size := by omega); (try have hs1_0b : w.heap.size + 1 < w1.heap.size := by omega); (try have hs1_0b' : w.heap.size + 1 ≤ w1.heap.size := by omega); (try have hs1_0c : w.heap.size + 1 + 1 < w1.heap.size := by omega); (try have hs1_0c' : w.heap.size + 1 + 1 ≤ w1.heap.size := by omega))
      go_wp2_with fail
      (go_at_call 20; (with_reducible refine (sCountTurns_any _ _ _ _ _ _ _ (hs.up (by repeat (first | with_reducible exact Up.refl _ | with_reducible refine Up.alloc ?_ _ | with_reducible refine Up.drew ?_ | with_reducible refine Up.drewN ?_ _ | (with_reducible refine Up.setCell ?_ (by first | omega | (simp; done) | (simp; omega)) _) | with_reducible assumption | (with_reducible refine Up.trans ?_ (by with_reducible assumption))))) hn).mono ?_); rintro e w2 ⟨rfl, hb2⟩; obtain ⟨hc2, hf2⟩ := hb2.cells; have hs2 := hb2.size; (try simp at hs2); (try have hs2_0a : w.heap.size < w2.heap.size := by omega); (try have hs2_0a' : w.heap.size ≤ w2.heap.size := by omega); (try have hs2_0b : w.heap.size + 1 < w2.heap.size := by omega); (try have hs2_0b' : w.heap.size + 1 ≤ w2.heap.size := by omega); (try have hs2_0c : w.heap.size + 1 + 1 < w2.heap.size := by omega); (try have hs2_0c' : w.heap.size + 1 + 1 ≤ w2.heap.size := by omega); (try have hs2_1a : w1.heap.size < w2.heap.size := by omega); (try have hs2_1a' : w1.heap.size ≤ w2.heap.size := by omega); (try have hs2_1b : w1.heap.size + 1 < w2.heap.size := by omega); (try have hs2_1b' : w1.heap.size + 1 ≤ w2.heap.size := by omega); (try have hs2_1c : w1.heap.size + 1 + 1 < w2.heap.size := by omega); (try have hs2_1c' : w1.heap.size + 1 + 1 ≤ w2.heap.size := by omega))
      go_wp2
      go_ret
      exact ⟨rfl, (by repeat (first | with_reducible exact Up.refl _ | with_reducible refine Up.alloc ?_ _ | with_reducible refine Up.drew ?_ | with_reducible refine Up.drewN ?_ _ | (with_reducible refine Up.setCell ?_ (by first | omega | (simp; done) | (simp; omega)) _) | with_reducible assumption | (with_reducible refine Up.trans ?_ (by with_reducible assumption))))⟩
  · have hr : hmB J O n = false := by simp [hmB, h3]
    rw [hr]
    have h3' : ¬ (3 : Int) ≤ (jnN J n : Int) := by omega
    clear hr
    go_enter Try.func24, Try.ntmps24
    go_wp2_with fail
    (go_at_call 77; (with_reducible refine (l20Joints_any _ _ _ _ _ _ _ hs hn).mono ?_); rintro e w1 ⟨rfl, hb1⟩; obtain ⟨hc1, hf1⟩ := hb1.cells; have hs1 := hb1.size; (try simp at hs1); (try have hs1_0a : w.heap.size < w1.heap.size := by omega); (try have hs1_0a' : w.heap.size ≤ w1.heap.size := by omega); (try have hs1_0b : w.heap.size + 1 < w1.heap.size := by omega); (try have hs1_0b' : w.heap.size + 1 ≤ w1.heap.size := by omega); (try have hs1_0c : w.heap.size + 1 + 1 < w1.heap.size := by omega); (try have hs1_0c' : w.heap.size + 1 + 1 ≤ w1.heap.size := by omega))
    go_wp2
    go_ret
    exact ⟨rfl, (by repeat (first | with_reducible exact Up.refl _ | with_reducible refine Up.alloc ?_ _ | with_reducible refine Up.drew ?_ | with_reducible refine Up.drewN ?_ _ | (with_reducible refine Up.setCell ?_ (by first | omega | (simp; done) | (simp; omega)) _) | with_reducible assumption | (with_reducible refine Up.trans ?_ (by with_reducible assumption))))⟩
end Go.Proofs.Ytigcmhdjafglbaa
