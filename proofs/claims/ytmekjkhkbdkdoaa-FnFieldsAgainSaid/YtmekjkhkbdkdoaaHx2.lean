/- The walks of DecodeHex. No condition. -/
import Derived.Test.YtmekjkhkbdkdoaaHx
namespace Go.Proofs.Ytmekjkhkbdkdoaa
open Go.RowKit
set_option linter.unusedVariables false
theorem own_upB {a b : World} {base size n : Nat} {e : TypeId} {v : Value} {xs : List Value} (h : a.ownsRow base e size v n xs) (hu : Up a b) : b.ownsRow base e size v n xs := by
  refine ⟨h.1, ?_⟩
  rcases h.2 with h1 | ⟨g, cap, cur, h1, h2, h3, h4⟩
  · exact .inl h1
  · have hlt : g < a.heap.size := by
      rcases Nat.lt_or_ge g a.heap.size with hlt | hge
      · exact hlt
      · rw [Array.getElem?_eq_none hge] at h3; cases h3
    exact .inr ⟨g, cap, cur, h1, h2, (Below.block hu g hlt).trans h3, h4⟩
theorem built_up {T e : TypeId} {B b : Nat} {bs : List Value} {w w' : World} (h : Lib.IsBuilder T e B b bs w) (hu : Up w w') : Lib.IsBuilder T e B b bs w' := by
  have H : ∀ p, Lib.BuilderAt T e B b p bs w → Lib.BuilderAt T e B b p bs w' := by
    intro p h
    have hlt := h.lt
    obtain ⟨hB, v, hbk, ho, hne⟩ := h
    exact ⟨hB, v, (Below.block hu b hlt).trans hbk, own_upB ho hu, hne⟩
  exact h.elim (fun h => .inl (H _ h)) (fun h => .inr (H _ h))
theorem dhV_bytes (s : ByteArray) (k : Nat) : dhV s k = Lib.byteCells (dhL s k) := rfl
theorem dhC_le {s : ByteArray} {k : Nat} (h : dhO s k = true) : dhC s k ≤ 255 ∧ (16 * hxD (bat s (2 * k)) + hxD (bat s (2 * k + 1))) = (dhC s k : Int) := by
  simp only [dhO, Bool.and_eq_true, decide_eq_true_eq] at h
  have h1 := hxD_bd (bat s (2 * k))
  have h2 := hxD_bd (bat s (2 * k + 1))
  unfold dhC
  omega
theorem hx_index (c : Nat) (h : c ≤ 255) : Lib.indexByte (⟨#[48, 49, 50, 51, 52, 53, 54, 55, 56, 57, 97, 98, 99, 100, 101, 102]⟩ : ByteArray).data.toList (c : Int).toNat.toUInt8 = hxD c := hxD_index c h
theorem l01Value_any (b : Nat) (hb : b ≤ 255) (w : World) : Calls Try.prog 25 #[.int .u8 (b : Int)] w fun e w' => e = .returned (.int .i64 (hxD b)) ∧ w = w' := by
  by_cases h1 : 48 ≤ b ∧ b ≤ 57
  · obtain ⟨h1, h2⟩ := h1
    have e : hxD b = (b : Int) - 48 := by unfold hxD; rw [if_pos ⟨h1, h2⟩]
    rw [e]
    have k1 : (48 : Int) ≤ (b : Int) := by omega
    have k2 : (b : Int) ≤ 57 := by omega
    go_enter Try.func25, Try.ntmps25
    go_wp2
    all_goals (go_ret; exact ⟨rfl, rfl⟩)
  · by_cases h2 : 97 ≤ b ∧ b ≤ 102
    · have e : hxD b = (b : Int) - 97 + 10 := by unfold hxD; rw [if_neg h1, if_pos h2]; omega
      rw [e]
      obtain ⟨h3, h4⟩ := h2
      have k1 : (48 : Int) ≤ (b : Int) := by omega
      have k2 : ¬ (b : Int) ≤ 57 := by omega
      have k3 : (97 : Int) ≤ (b : Int) := by omega
      have k4 : (b : Int) ≤ 102 := by omega
      clear h1
      go_enter Try.func25, Try.ntmps25
      go_wp2
      all_goals (go_ret; exact ⟨rfl, rfl⟩)
    · have e : hxD b = -1 := by unfold hxD; rw [if_neg h1, if_neg h2]
      rw [e]
      by_cases q1 : b < 48
      · have k1 : ¬ (48 : Int) ≤ (b : Int) := by omega
        have k3 : ¬ (97 : Int) ≤ (b : Int) := by omega
        clear h1 h2
        go_enter Try.func25, Try.ntmps25
        go_wp2
        all_goals (go_ret; exact ⟨rfl, rfl⟩)
      · by_cases q2 : b < 97
        · have k1 : (48 : Int) ≤ (b : Int) := by omega
          have k2 : ¬ (b : Int) ≤ 57 := by omega
          have k3 : ¬ (97 : Int) ≤ (b : Int) := by omega
          clear h1 h2
          go_enter Try.func25, Try.ntmps25
          go_wp2
          all_goals (go_ret; exact ⟨rfl, rfl⟩)
        · have k1 : (48 : Int) ≤ (b : Int) := by omega
          have k2 : ¬ (b : Int) ≤ 57 := by omega
          have k3 : (97 : Int) ≤ (b : Int) := by omega
          have k4 : ¬ (b : Int) ≤ 102 := by omega
          clear h1 h2
          go_enter Try.func25, Try.ntmps25
          go_wp2
          all_goals (go_ret; exact ⟨rfl, rfl⟩)
set_option maxHeartbeats 1000000 in
set_option maxRecDepth 100000 in
theorem sDecodeHex_any (s : ByteArray) (w : World) : Calls Try.prog 10 #[.string s] w fun e w' => e = .returned (.tuple #[.string ⟨(dhR s).toArray⟩, .bool (dhB s)]) ∧ Up w w' := by
  obtain ⟨i0, hi, hz0, hz1, hz2⟩ := info_parts u8_info
  by_cases hs : s.size ≤ 40000
  rotate_left
  · obtain ⟨b1, b2⟩ := dh_f2 hs
    rw [b1, b2]
    have hs1 : 40000 < s.size := by omega
    go_enter Try.func10, Try.ntmps10
    go_wp2
    exact bodyPost_ret (v := .tuple #[.string ⟨#[]⟩, .bool false]) (by simp only [results]; go_simp; try simp) rfl ⟨rfl, (by repeat (first | with_reducible exact Up.refl _ | with_reducible refine Up.alloc ?_ _ | with_reducible refine Up.drew ?_ | with_reducible refine Up.drewN ?_ _ | (with_reducible refine Up.setCell ?_ (by first | omega | (simp; done) | (simp; omega)) _) | with_reducible assumption | (with_reducible refine Up.trans ?_ (by with_reducible assumption))))⟩
  have hs1 : ¬ 40000 < s.size := by omega
  have hmod : ((s.size : Int)).tmod 2 = ((s.size % 2 : Nat) : Int) := by rw [Int.tmod_eq_emod_of_nonneg (by omega)]; omega
  by_cases hev : s.size % 2 = 0
  rotate_left
  · obtain ⟨b1, b2⟩ := dh_f1 hev
    rw [b1, b2]
    have hne : ((s.size : Int) % 2 != 0) = true := by rw [bne_iff_ne]; omega
    go_enter Try.func10, Try.ntmps10
    go_wp2
    exact bodyPost_ret (v := .tuple #[.string ⟨#[]⟩, .bool false]) (by simp only [results]; go_simp; try simp) rfl ⟨rfl, (by repeat (first | with_reducible exact Up.refl _ | with_reducible refine Up.alloc ?_ _ | with_reducible refine Up.drew ?_ | with_reducible refine Up.drewN ?_ _ | (with_reducible refine Up.setCell ?_ (by first | omega | (simp; done) | (simp; omega)) _) | with_reducible assumption | (with_reducible refine Up.trans ?_ (by with_reducible assumption))))⟩
  obtain ⟨n, hn⟩ : ∃ n, s.size = 2 * n := ⟨s.size / 2, by omega⟩
  have hmod2 : (s.size : Int) % 2 = 0 := by omega
  have hn2 : s.size / 2 = n := by omega
  have hn3 : n ≤ 20000 := by omega
  have HN := Lib.hid hn
  clear hn
  go_enter Try.func10, Try.ntmps10
  go_wp2
  go_loopw [4, 5] (fun v i wr => ∃ k : Nat, i = .int .i64 ((2 * k : Nat) : Int) ∧ k ≤ n ∧ Hid (wr.ownsRow w.heap.size 5 1 v k (dhV s k)) ∧ Hid (dhA s k = true) ∧ Up w wr) (fun _ i _ => s.size - (intOf i).toNat)
  case atStart => exact ⟨0, rfl, Nat.zero_le _, World.ownsRow_made w #[] 0 (Nat.le_refl _) (Nat.zero_le _) rfl, rfl, (by repeat (first | with_reducible exact Up.refl _ | with_reducible refine Up.alloc ?_ _ | with_reducible refine Up.drew ?_ | with_reducible refine Up.drewN ?_ _ | (with_reducible refine Up.setCell ?_ (by first | omega | (simp; done) | (simp; omega)) _) | with_reducible assumption | (with_reducible refine Up.trans ?_ (by with_reducible assumption))))⟩
  case round =>
    obtain ⟨k, rfl, hk, ho, hA, hup⟩ := hrel
    have hnn := HN.out
    by_cases hk1 : k < n
    · have hj1 : 2 * k < s.size := by omega
      have hj2 : 2 * k + 1 < s.size := by omega
      have hB1 := bat_at hj1
      have hB2 := bat_at hj2
      have hC1 := bat_le s (2 * k)
      have hC2 := bat_le s (2 * k + 1)
      have hD1 := hxD_bd (bat s (2 * k))
      have hD2 := hxD_bd (bat s (2 * k + 1))
      generalize hX : bat s (2 * k) = X at *
      generalize hY : bat s (2 * k + 1) = Y at *
      have HX := Lib.hid hX
      have HY := Lib.hid hY
      clear hX hY
      have e1 : ((2 * k : Nat) : Int) + 1 = ((2 * k + 1 : Nat) : Int) := by omega
      clear hnn
      go_wp2_with fail
      (go_at_call 25; (with_reducible refine (l01Value_any _ hC1 _).mono ?_); rintro e w1 ⟨rfl, rfl⟩)
      go_wp2_with fail
      (go_at_call 25; (with_reducible refine (l01Value_any _ hC2 _).mono ?_); rintro e w2 ⟨rfl, rfl⟩)
      have hlen := dhV_length s k
      by_cases hO : dhO s k = true
      · obtain ⟨hle, hcc⟩ := dhC_le hO
        rw [HX.out, HY.out] at hcc
        have hp1 : 0 ≤ hxD X := by simp only [dhO, HX.out, Bool.and_eq_true, decide_eq_true_eq] at hO; exact hO.1
        have hp2 : 0 ≤ hxD Y := by simp only [dhO, HY.out, Bool.and_eq_true, decide_eq_true_eq] at hO; exact hO.2
        have hdd := dhV_succ s k hle
        have hA1 := Lib.hid (dhA_in hA.out hO)
        generalize hxD X = P at *
        generalize hxD Y = Q at *
        clear hA hO HX HY
        go_wp2_with (at_builtin; refine wpList_append_lies _ rfl (.tmp 39) (.tmp 45) 30 rfl w.heap.size 5 i0 (.int .u8 0) 1 1 Try.underlying30 hi hz0 hz1 hz2 rfl (by omega) _ _ _ rfl (ho.out.alloc _) ⟨wr.heap.size, 0, none⟩ 1 1 [.int .u8 (dhC s k : Int)] rfl rfl (World.news_of_block (heap_alloc_new wr _)) (by simp [Value.oneCell']) (by omega) (by simp only [maxLen]; omega) (by omega) (by have := hup.size; simp; omega) (wr.heap.size + 1) (by simp) ?_; intro g cap w2 hown hgrow hat hlt)
        have hu1 : Up w w2 := Up.own (Up.alloc hup _) (ho.out.alloc _) hgrow
        have hown2 : w2.ownsRow w.heap.size 5 1 (.slice (some ⟨g, 0, none⟩) (k + 1) cap) (k + 1) (dhV s (k + 1)) := by rw [hdd]; exact hown
        have HO := Lib.hid hown2
        clear hown hgrow hat hlt hown2
        go_wp2
        exact ⟨⟨k + 1, by rfl, by omega, HO, hA1, hu1⟩, by simp only [intOf]; omega⟩
      · have hOf : dhO s k = false := by simpa using hO
        obtain ⟨b1, b2⟩ := dh_f3 (s := s) (dhA_out (by rw [hn2]; exact hk1) hOf)
        have HB := Lib.hid (And.intro b1 b2)
        have hOf2 : 0 ≤ hxD X → hxD Y < 0 := by
          intro h
          simp only [dhO, HX.out, HY.out, decide_eq_true h, Bool.true_and, decide_eq_false_iff_not] at hOf
          omega
        clear hO hOf b1 b2
        generalize hxD X = P at *
        generalize hxD Y = Q at *
        by_cases hP : P < 0
        · clear hOf2
          go_wp2
          exact bodyPost_ret (v := .tuple #[.string ⟨#[]⟩, .bool false]) (by simp only [results]; go_simp; try simp) rfl ⟨by rw [HB.out.1, HB.out.2], hup⟩
        · have hQ : Q < 0 := hOf2 (by omega)
          clear hOf2
          go_wp2
          exact bodyPost_ret (v := .tuple #[.string ⟨#[]⟩, .bool false]) (by simp only [results]; go_simp; try simp) rfl ⟨by rw [HB.out.1, HB.out.2], hup⟩
    · have hkk : k = n := by omega
      subst hkk
      obtain ⟨b1, b2⟩ := dh_t hev hs (by rw [hn2]; exact hA.out)
      have HB := Lib.hid (And.intro b1 b2)
      clear b1 b2
      have hcv := conv_own (l := dhL s k) ho.out
      go_wp2
      exact bodyPost_ret (v := .tuple #[.string ⟨(dhL s k).toArray⟩, .bool true]) (by simp only [results]; go_simp; try simp) rfl ⟨by rw [HB.out.1, HB.out.2, hn2], (by repeat (first | with_reducible exact Up.refl _ | with_reducible refine Up.alloc ?_ _ | with_reducible refine Up.drew ?_ | with_reducible refine Up.drewN ?_ _ | (with_reducible refine Up.setCell ?_ (by first | omega | (simp; done) | (simp; omega)) _) | with_reducible assumption | (with_reducible refine Up.trans ?_ (by with_reducible assumption))))⟩
theorem hxS_index (X : Nat) (hX : X ≤ 255) (w : World) : Calls Try.prog 26 #[.string ⟨#[48, 49, 50, 51, 52, 53, 54, 55, 56, 57, 97, 98, 99, 100, 101, 102]⟩, .int .u8 (X : Int)] w fun e w' => e = .returned (.int .i64 (hxD X)) ∧ w = w' := by
  have h := IndexByte_any ⟨#[48, 49, 50, 51, 52, 53, 54, 55, 56, 57, 97, 98, 99, 100, 101, 102]⟩ (X : Int) w
  rw [hx_index X hX] at h
  exact h
set_option maxHeartbeats 1000000 in
set_option maxRecDepth 100000 in
theorem DecodeHex_any (s : ByteArray) (w : World) : Calls Try.prog 11 #[.string s] w fun e w' => e = .returned (.tuple #[.string ⟨(dhR s).toArray⟩, .bool (dhB s)]) ∧ Up w w' := by
  have hmod : ((s.size : Int)).tmod 2 = ((s.size % 2 : Nat) : Int) := by rw [Int.tmod_eq_emod_of_nonneg (by omega)]; omega
  by_cases hev : s.size % 2 = 0
  rotate_left
  · obtain ⟨b1, b2⟩ := dh_f1 hev
    rw [b1, b2]
    have hne : ((s.size : Int) % 2 != 0) = true := by rw [bne_iff_ne]; omega
    go_enter Try.func11, Try.ntmps11
    go_wp2
    exact bodyPost_ret (v := .tuple #[.string ⟨#[]⟩, .bool false]) (by simp only [results]; go_simp; try simp) rfl ⟨rfl, (by repeat (first | with_reducible exact Up.refl _ | with_reducible refine Up.alloc ?_ _ | with_reducible refine Up.drew ?_ | with_reducible refine Up.drewN ?_ _ | (with_reducible refine Up.setCell ?_ (by first | omega | (simp; done) | (simp; omega)) _) | with_reducible assumption | (with_reducible refine Up.trans ?_ (by with_reducible assumption))))⟩
  have hmod2 : (s.size : Int) % 2 = 0 := by omega
  by_cases hs : s.size ≤ 40000
  rotate_left
  · obtain ⟨b1, b2⟩ := dh_f2 hs
    rw [b1, b2]
    have hs1 : 40000 < s.size := by omega
    go_enter Try.func11, Try.ntmps11
    go_wp2
    exact bodyPost_ret (v := .tuple #[.string ⟨#[]⟩, .bool false]) (by simp only [results]; go_simp; try simp) rfl ⟨rfl, (by repeat (first | with_reducible exact Up.refl _ | with_reducible refine Up.alloc ?_ _ | with_reducible refine Up.drew ?_ | with_reducible refine Up.drewN ?_ _ | (with_reducible refine Up.setCell ?_ (by first | omega | (simp; done) | (simp; omega)) _) | with_reducible assumption | (with_reducible refine Up.trans ?_ (by with_reducible assumption))))⟩
  have hs1 : ¬ 40000 < s.size := by omega
  obtain ⟨n, hn⟩ : ∃ n, s.size = 2 * n := ⟨s.size / 2, by omega⟩
  have hn2 : s.size / 2 = n := by omega
  have hn3 : n ≤ 20000 := by omega
  have HN := Lib.hid hn
  clear hn
  go_enter Try.func11, Try.ntmps11
  go_wp2
  go_loopw [5] (fun i wr => ∃ k : Nat, i = .int .i64 ((2 * k : Nat) : Int) ∧ k ≤ n ∧ Hid (Lib.IsBuilder 37 5 w.heap.size w.heap.size (dhV s k) wr) ∧ Hid (dhA s k = true) ∧ Up w wr) (fun i _ => s.size - (intOf i).toNat)
  case atStart => exact ⟨0, rfl, Nat.zero_le _, Lib.fresh_isBuilder _ _ w, rfl, (by repeat (first | with_reducible exact Up.refl _ | with_reducible refine Up.alloc ?_ _ | with_reducible refine Up.drew ?_ | with_reducible refine Up.drewN ?_ _ | (with_reducible refine Up.setCell ?_ (by first | omega | (simp; done) | (simp; omega)) _) | with_reducible assumption | (with_reducible refine Up.trans ?_ (by with_reducible assumption))))⟩
  case round =>
    obtain ⟨k, rfl, hk, ho, hA, hup⟩ := hrel
    have hnn := HN.out
    by_cases hk1 : k < n
    · have hj1 : 2 * k < s.size := by omega
      have hj2 : 2 * k + 1 < s.size := by omega
      have hB1 := bat_at hj1
      have hB2 := bat_at hj2
      have hC1 := bat_le s (2 * k)
      have hC2 := bat_le s (2 * k + 1)
      have hD1 := hxD_bd (bat s (2 * k))
      have hD2 := hxD_bd (bat s (2 * k + 1))
      generalize hX : bat s (2 * k) = X at *
      generalize hY : bat s (2 * k + 1) = Y at *
      have HX := Lib.hid hX
      have HY := Lib.hid hY
      clear hX hY
      have e1 : ((2 * k : Nat) : Int) + 1 = ((2 * k + 1 : Nat) : Int) := by omega
      have hlen := dhV_length s k
      clear hnn
      have hr1 : 2 * (k : Int) < (s.size : Int) := by omega
      have hr2 : 2 * (k : Int) + 1 < (s.size : Int) := by omega
      have hr3 : (0 : Int) ≤ 2 * (k : Int) := by omega
      have hr4 : (0 : Int) ≤ 2 * (k : Int) + 1 := by omega
      have hr5 : (0 : Int) ≤ 2 * (k : Int) + 1 ∧ 2 * (k : Int) + 1 < (s.size : Int) := by omega
      have hr6 : (0 : Int) ≤ 2 * (k : Int) ∧ 2 * (k : Int) < (s.size : Int) := by omega
      have hw1 := IntWalk.i64_in (2 * (k : Int) + 1) (by omega)
      have hI1 : ∀ h, (s[(2 * (k : Int)).toNat]'h).toNat = X := fun h => by rw [← hB1]; congr 2
      have hI2 : ∀ h, (s[(2 * (k : Int) + 1).toNat]'h).toNat = Y := fun h => by rw [← hB2]; congr 2
      go_wp2_with fail
      (refine wp_region_up (by kernel_rfl) (by kernel_rfl) ?_; (repeat (refine wpQuiet_step (fun K hK => ?_); go_simp; first | (refine hK _ ?_; clear hK K) | (apply Exists.intro; refine ⟨fun wq hwq => ?_, hK _ ?_⟩; (obtain ⟨hcq, hfq⟩ := hwq.cells; (try go_simp); first | done | rfl | exact ⟨rfl, rfl⟩ | (first | (go_at_call 26; (try simp only [hI1, hI2]); with_reducible exact up_of_same hwq (hxS_index X hC1 _)) | (go_at_call 26; (try simp only [hI1, hI2]); with_reducible exact up_of_same hwq (hxS_index Y hC2 _)))); clear hK K))); refine wpQuiet_nil ?_; intro w1 hb1; obtain ⟨hc1, hf1⟩ := hb1.cells; have hl1 := hb1.lt; have hle1 := hb1.le; have hs1 := hb1.size; (try simp at hs1); (try have hs1a : wr.heap.size < w1.heap.size := by omega); (try have hs1aa : wr.heap.size ≤ w1.heap.size := by omega); (try have hs1b : wr.heap.size + 1 < w1.heap.size := by omega); (try have hs1bb : wr.heap.size + 1 ≤ w1.heap.size := by omega); (try have hs1c : wr.heap.size + 1 + 1 < w1.heap.size := by omega); (try have hs1cc : wr.heap.size + 1 + 1 ≤ w1.heap.size := by omega); (try have hs1d : wr.heap.size + 1 + 1 + 1 < w1.heap.size := by omega); (try have hs1dd : wr.heap.size + 1 + 1 + 1 ≤ w1.heap.size := by omega); (try have hs1L := Nat.lt_of_succ_le hs1); (try have hs1M := Nat.lt_of_succ_lt hs1L); (try have hs1N := Nat.lt_of_succ_lt hs1M); (try have hs1LE := Nat.le_of_lt hs1L); (try have hs1ME := Nat.le_of_lt hs1M))
      have hu1 := hup.trans hb1
      have ho1 := Lib.hid (built_up ho.out hb1)
      clear ho hup hb1 hc1 hf1 hl1 hle1
      by_cases hO : dhO s k = true
      · obtain ⟨hle, hcc⟩ := dhC_le hO
        rw [HX.out, HY.out] at hcc
        have hp1 : 0 ≤ hxD X := by simp only [dhO, HX.out, Bool.and_eq_true, decide_eq_true_eq] at hO; exact hO.1
        have hp2 : 0 ≤ hxD Y := by simp only [dhO, HY.out, Bool.and_eq_true, decide_eq_true_eq] at hO; exact hO.2
        have hdd := dhV_succ s k hle
        have hA1 := Lib.hid (dhA_in hA.out hO)
        have hor := hx_or (hxD X) (hxD Y) hp1 hD1.2 hp2 hD2.2
        rw [hcc] at hor
        generalize hxD X = P at *
        generalize hxD Y = Q at *
        clear hA hO HX HY
        go_wp2_with fail
        (go_at_call 23; (with_reducible refine (WriteByte_any _ _ _ _ _ ho1.out (by omega) hu1.size).mono ?_); rintro e w2 ⟨rfl, h2, hb2⟩)
        have hu2 := hu1.trans_below hb2
        have hI2 : Hid (Lib.IsBuilder 37 5 w.heap.size w.heap.size (dhV s (k + 1)) w2) := Lib.hid (.inr (by rw [hdd]; exact h2))
        clear h2 hu1 ho1
        go_wp2
        exact ⟨⟨k + 1, by rfl, by omega, hI2, hA1, hu2⟩, by simp only [intOf]; omega⟩
      · have hOf : dhO s k = false := by simpa using hO
        obtain ⟨b1, b2⟩ := dh_f3 (s := s) (dhA_out (by rw [hn2]; exact hk1) hOf)
        have HB := Lib.hid (And.intro b1 b2)
        have hOf2 : 0 ≤ hxD X → hxD Y < 0 := by
          intro h
          simp only [dhO, HX.out, HY.out, decide_eq_true h, Bool.true_and, decide_eq_false_iff_not] at hOf
          omega
        clear hO hOf b1 b2
        generalize hxD X = P at *
        generalize hxD Y = Q at *
        by_cases hP : P < 0
        · clear hOf2
          go_wp2
          exact bodyPost_ret (v := .tuple #[.string ⟨#[]⟩, .bool false]) (by simp only [results]; go_simp; try simp) rfl ⟨by rw [HB.out.1, HB.out.2], hu1⟩
        · have hQ : Q < 0 := hOf2 (by omega)
          clear hOf2
          go_wp2
          exact bodyPost_ret (v := .tuple #[.string ⟨#[]⟩, .bool false]) (by simp only [results]; go_simp; try simp) rfl ⟨by rw [HB.out.1, HB.out.2], hu1⟩
    · have hkk : k = n := by omega
      subst hkk
      obtain ⟨b1, b2⟩ := dh_t hev hs (by rw [hn2]; exact hA.out)
      have HB := Lib.hid (And.intro b1 b2)
      clear b1 b2
      have hI := ho.out
      rw [dhV_bytes] at hI
      go_wp2_with fail
      (go_at_call 24; (with_reducible refine (String_any _ _ _ _ hI hup.size).mono ?_); rintro e w1 ⟨rfl, hb1⟩)
      go_wp2
      exact bodyPost_ret (v := .tuple #[.string ⟨(dhL s k).toArray⟩, .bool true]) (by simp only [results]; go_simp; try simp) rfl ⟨by rw [HB.out.1, HB.out.2, hn2], hup.trans_below hb1⟩
theorem law_DecodeHex (s : ByteArray) (w : World) (h1 : s.size ≤ maxLen) : Calls Try.prog 4 #[.string s] w fun e w' => e = .returned (.bool true) ∧ Up w w' := by
  by_cases hbig : 1048576 < s.size
  · go_enter Try.func4, Try.ntmps4
    go_wp2
    go_ret
    exact ⟨rfl, (by repeat (first | with_reducible exact Up.refl _ | with_reducible refine Up.alloc ?_ _ | with_reducible refine Up.drew ?_ | with_reducible refine Up.drewN ?_ _ | (with_reducible refine Up.setCell ?_ (by first | omega | (simp; done) | (simp; omega)) _) | with_reducible assumption | (with_reducible refine Up.trans ?_ (by with_reducible assumption))))⟩
  go_enter Try.func4, Try.ntmps4
  go_wp2_with fail
  (go_at_call 10; (with_reducible refine (sDecodeHex_any _ _).mono ?_); rintro e w1 ⟨rfl, hb1⟩; obtain ⟨hc1, hf1⟩ := hb1.cells; have hs1 := hb1.size; (try simp at hs1); (try have hs1_0a : w.heap.size < w1.heap.size := by omega); (try have hs1_0a' : w.heap.size ≤ w1.heap.size := by omega); (try have hs1_0b : w.heap.size + 1 < w1.heap.size := by omega); (try have hs1_0b' : w.heap.size + 1 ≤ w1.heap.size := by omega); (try have hs1_0c : w.heap.size + 1 + 1 < w1.heap.size := by omega); (try have hs1_0c' : w.heap.size + 1 + 1 ≤ w1.heap.size := by omega))
  go_wp2_with fail
  (go_at_call 11; (with_reducible refine (DecodeHex_any _ _).mono ?_); rintro e w2 ⟨rfl, hb2⟩; obtain ⟨hc2, hf2⟩ := hb2.cells; have hs2 := hb2.size; (try simp at hs2); (try have hs2_0a : w.heap.size < w2.heap.size := by omega); (try have hs2_0a' : w.heap.size ≤ w2.heap.size := by omega); (try have hs2_0b : w.heap.size + 1 < w2.heap.size := by omega); (try have hs2_0b' : w.heap.size + 1 ≤ w2.heap.size := by omega); (try have hs2_0c : w.heap.size + 1 + 1 < w2.heap.size := by omega); (try have hs2_0c' : w.heap.size + 1 + 1 ≤ w2.heap.size := by omega); (try have hs2_1a : w1.heap.size < w2.heap.size := by omega); (try have hs2_1a' : w1.heap.size ≤ w2.heap.size := by omega); (try have hs2_1b : w1.heap.size + 1 < w2.heap.size := by omega); (try have hs2_1b' : w1.heap.size + 1 ≤ w2.heap.size := by omega); (try have hs2_1c : w1.heap.size + 1 + 1 < w2.heap.size := by omega); (try have hs2_1c' : w1.heap.size + 1 + 1 ≤ w2.heap.size := by omega))
  go_wp2
  go_ret
  exact ⟨rfl, (by repeat (first | with_reducible exact Up.refl _ | with_reducible refine Up.alloc ?_ _ | with_reducible refine Up.drew ?_ | with_reducible refine Up.drewN ?_ _ | (with_reducible refine Up.setCell ?_ (by first | omega | (simp; done) | (simp; omega)) _) | with_reducible assumption | (with_reducible refine Up.trans ?_ (by with_reducible assumption))))⟩
end Go.Proofs.Ytmekjkhkbdkdoaa
