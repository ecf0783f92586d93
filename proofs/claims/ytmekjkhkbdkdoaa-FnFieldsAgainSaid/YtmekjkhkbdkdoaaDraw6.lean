/- The walk of the draw of a line of fields. No condition. -/
import Derived.Test.YtmekjkhkbdkdoaaDraw5
import Derived.Test.YtmekjkhkbdkdoaaHtx
import Derived.Test.YtmekjkhkbdkdoaaTs
namespace Go.Proofs.Ytmekjkhkbdkdoaa
open Go.RowKit
set_option linter.unusedVariables false
theorem conv_one (wx : World) (z : Int) (h : 0 ≤ z) (h2 : z ≤ 255) : (convert 30 9 (.slice (some ⟨wx.heap.size, 0, none⟩) 1 1)).run Try.prog (wx.alloc (.cells #[.int .u8 z] 5)) = .ok (.string ⟨[UInt8.ofNat z.toNat].toArray⟩) (wx.alloc (.cells #[.int .u8 z] 5)) := by
  exact Go.run_convert_bytes_back (P := Try.prog) _ 30 9 5 ⟨wx.heap.size, 0, none⟩ 1 [UInt8.ofNat z.toNat] (by go_simp) (by go_simp) (by go_simp) (fun j hj => by
    have hj0 : j = 0 := by simpa using hj
    subst hj0
    rw [show (⟨wx.heap.size, 0, none⟩ : Addr).add 0 = ⟨wx.heap.size, 0, none⟩ from by simp [Addr.add], World.cell?_alloc_mark]
    have : (([UInt8.ofNat z.toNat] : List UInt8)[0].toNat : Int) = z := by
      show ((UInt8.ofNat z.toNat).toNat : Int) = z
      rw [byte_of _ (by omega), Int.toNat_of_nonneg h]
    rw [this]
    rfl)
def piT (m : Nat) (L : List (List UInt8)) (v : Value) : Prop := ∃ i, i < m ∧ v = .string ⟨(L.getD i []).toArray⟩
set_option maxRecDepth 100000 in
theorem l01Pick_any (c : Nat) (u : Value) (m lo hi : Nat) (L : List (List UInt8)) (w w0 : World) (hs : Sl w lo hi 1 u m (txtF L)) (hd : hi ≤ c ∨ c + 1 ≤ lo) (hm : 0 < m) (hm2 : m ≤ 1048576) (hc : Cur w c) (h0 : w0.heap.size ≤ c) (hu : Up w0 w) : Calls Try.prog 33 #[.pointer (some ⟨c, 0, none⟩), u] w (DrP w w0 c (piT m L)) := by
  have HS := hs
  obtain ⟨_, A, cp, rfl, hcp, hx⟩ := hs
  clear hx
  go_enter Try.func33, Try.ntmps33
  go_wp2_with fail
  (go_at_call 31; (with_reducible refine (l01Below_any _ _ _ _ (i64_k (by omega) (by omega)) hc h0 hu).mono ?_); rintro e w1 ⟨_, rfl, ⟨x1, rfl, hx1, hy1⟩, hC1, hD1, hU1⟩)
  obtain ⟨i, rfl⟩ : ∃ i : Nat, x1 = (i : Int) := ⟨x1.toNat, by omega⟩
  have hi1 : i < m := by omega
  have hi2 : (i : Int) < (m : Int) := by omega
  obtain ⟨hz, A', c', hv, _, hx⟩ := HS.off hD1.1 hd
  cases hv
  obtain ⟨b, o, rfl, hb1, hb2, hcs⟩ := hx hm
  have hg := Sl.txt hcs hi1
  clear hcs hx hy1
  go_wp2
  go_ret
  exact ⟨_, rfl, ⟨i, hi1, rfl⟩, hC1, hD1, hU1⟩
def pkT : List (List UInt8) := [[32], [32, 32], [9], [10], [127], [233]]
theorem pkT_len (i : Nat) : (pkT.getD i []).length ≤ 2 := by
  have h : ∀ i : Fin 6, (pkT.getD i.val []).length ≤ 2 := by decide
  by_cases hi : i < 6
  · exact h ⟨i, hi⟩
  · rw [List.getD_eq_getElem?_getD, List.getElem?_eq_none (by simp [pkT]; omega)]; simp
def pkC : Array Value := #[.string ⟨#[32]⟩, .string ⟨#[32, 32]⟩, .string ⟨#[9]⟩, .string ⟨#[10]⟩, .string ⟨#[127]⟩, .string ⟨#[233]⟩]
theorem pkT_sl (w : World) : Sl (w.alloc (.cells #[.string ⟨#[32]⟩, .string ⟨#[32, 32]⟩, .string ⟨#[9]⟩, .string ⟨#[10]⟩, .string ⟨#[127]⟩, .string ⟨#[233]⟩] 9)) w.heap.size (w.heap.size + 1) 1 (.slice (some ⟨w.heap.size, 0, none⟩) 6 6) 6 (txtF pkT) := by
  refine ⟨by simp, _, 6, rfl, by omega, fun _ => ⟨w.heap.size, 0, rfl, Nat.le_refl _, by omega, fun i j hi hj => ?_⟩⟩
  have hj0 : j = 0 := by omega
  subst hj0
  rw [show 0 + (i * 1 + 0) = i from by omega, World.cell?_alloc_mark]
  have h : ∀ i : Fin 6, pkC[i.val]? = some (txtF pkT i.val 0) := by
    intro i
    match i with
    | ⟨0, _⟩ | ⟨1, _⟩ | ⟨2, _⟩ | ⟨3, _⟩ | ⟨4, _⟩ | ⟨5, _⟩ => rfl
  exact h ⟨i, hi⟩
set_option maxHeartbeats 4000000 in
set_option maxRecDepth 100000 in
theorem DrawSplitFields_any (u : Value) (n lo hi : Nat) (B : Nat → Int) (w : World) (hs : Sl w lo hi 1 u n (bytF B)) (hn : n ≤ 1048576) (hB : ∀ i, i < n → 0 ≤ B i ∧ B i ≤ 255) : Calls Try.prog 20 #[u] w (DtP 20001 w) := by
  go_enter Try.func20, Try.ntmps20
  go_wp2_with fail
  (go_at_call 28; (with_reducible refine (l01New_any _ _ _ _ _ _ hs hn hB).mono ?_); rintro e w1 ⟨c, rfl, h0, hC1, hU1⟩)
  go_wp2_with fail
  (go_at_call 31; (with_reducible refine (l01Below_any _ _ _ w (i64_k (by omega) (by omega)) hC1 h0 hU1).mono ?_); rintro e w2 ⟨_, rfl, ⟨x2, rfl, hx2, hy2⟩, hC2, hD2, hU2⟩)
  have hx9 : x2 ≤ 8 := by omega
  clear hy2
  go_wp2_with fail
  (go_at_call 29; (with_reducible refine (l01Once_any _ _ _ w (i64_k (by omega) (by omega)) hC2 h0 hU2).mono ?_); rintro e w3 ⟨_, rfl, ⟨b, rfl⟩, hC3, hD3, hU3⟩)
  clear hC1 hU1 hC2 hU2 hD2 hD3 hs hB
  cases b with
  | true =>
    go_wp2_with fail
    (go_at_call 31; (with_reducible refine (l01Below_any _ _ _ w (i64_k (by omega) (by omega)) hC3 h0 hU3).mono ?_); rintro e w4 ⟨_, rfl, ⟨x4, rfl, hx4, hy4⟩, hC4, hD4, hU4⟩)
    have hx5 : x4 ≤ 1 := by omega
    clear hy4 hD4 hC3 hU3
    go_wp2
    go_loopw [5, 6] (fun s i wr => ∃ (k : Nat) (ls : List UInt8), i = .int .i64 (k : Int) ∧ k ≤ 25 ∧ s = .string ⟨ls.toArray⟩ ∧ ls.length ≤ 8 * k ∧ Cur wr c ∧ Up w wr) (fun _ i _ => 26 - (intOf i).toNat)
    case atStart => exact ⟨0, [], rfl, by omega, rfl, by simp, hC4, hU4⟩
    case round =>
      obtain ⟨k, ls, rfl, hk, rfl, hls, hC, hU⟩ := hrel
      by_cases hkn : (k : Int) < 24 + x4
      · by_cases hk0 : k = 0
        · subst hk0
          go_wp2_with fail
          (go_at_call 29; (with_reducible refine (l01Once_any _ _ _ w (i64_k (by omega) (by omega)) hC h0 hU).mono ?_); rintro e wo ⟨_, rfl, ⟨bo, rfl⟩, hCo, hDo, hUo⟩)
          cases bo with
          | true =>
            go_wp2_with fail
            (go_at_call 31; (with_reducible refine (l01Below_any _ _ _ w (i64_k (by omega) (by omega)) hCo h0 hUo).mono ?_); rintro e wc ⟨_, rfl, ⟨xc, rfl, hxc, hyc⟩, hCc, hDc, hUc⟩)
            go_wp2_with fail
            (go_at_call 31; (with_reducible refine (l01Below_any _ _ _ w (i64_k (by omega) (by omega)) hCc h0 hUc).mono ?_); rintro e wd ⟨_, rfl, ⟨xd, rfl, hxd, hyd⟩, hCd, hDd, hUd⟩)
            have hxc2 : xc ≤ 1 := by omega
            have hxd2 : xd ≤ 2 := by omega
            have hprod : 0 ≤ xc * xd ∧ xc * xd ≤ 2 := by
              rcases (show xc = 0 ∨ xc = 1 by omega) with rfl | rfl <;> omega
            obtain ⟨hpr1, hpr2⟩ := hprod
            clear hDc hDd hyc hyd hCc hUc
            generalize hP : xc * xd = P at *
            go_wp2_with fail
            (go_at_call 30; (with_reducible refine (l01Long_32 (1 + P) (1 + P).toNat _ (by omega) (by omega)).mono ?_); rintro e wf ⟨lf, rfl, hlf, hbf⟩)
            have hCf := hCd.up hbf
            have hUf := hUd.trans hbf
            have hap := ba_app ls lf
            have hcap : ¬ 9223372036854775807 < ls.length + lf.length := by omega
            clear hP
            go_wp2
            go_loopw [5, 7] (fun s j wr => ∃ (m : Nat) (l : List UInt8), j = .int .i64 (m : Int) ∧ m ≤ 5 ∧ s = .string ⟨l.toArray⟩ ∧ l.length ≤ 8 * 0 + 3 + m ∧ Cur wr c ∧ Up w wr) (fun _ j _ => 6 - (intOf j).toNat)
            case atStart => exact ⟨0, ls ++ lf, rfl, by omega, rfl, by simp; omega, hCf, hUf⟩
            case round =>
              clear hCo hUo hCf hUf hCd hUd hbf hC hU hDo
              obtain ⟨m, l, rfl, hm, rfl, hl, hC, hU⟩ := hrel
              go_wp2_with fail
              (go_at_call 31; (with_reducible refine (l01Below_any _ _ _ w (i64_k (by omega) (by omega)) hC h0 hU).mono ?_); rintro e wa ⟨_, rfl, ⟨xa, rfl, hxa, hya⟩, hCa, hDa, hUa⟩)
              clear hC hU hDa
              by_cases hmx : (m : Int) ≤ xa
              · have hm5 : m < 5 := by omega
                go_wp2_with fail
                (go_at_call 31; (with_reducible refine (l01Below_any _ _ _ w (i64_k (by omega) (by omega)) hCa h0 hUa).mono ?_); rintro e wb ⟨_, rfl, ⟨xb, rfl, hxb, hyb⟩, hCb, hDb, hUb⟩)
                clear hCa hUa hDb
                have hcv := conv_one wb (33 + xb) (by omega) (by omega)
                have hap := ba_app l [UInt8.ofNat (33 + xb).toNat]
                have hcap : ¬ 9223372036854775807 < l.length + 1 := by omega
                have hw8 : IntKind.u8.wrap (33 + xb) = 33 + xb := by simp only [IntKind.wrap, IntKind.bits, IntKind.signed]; simp; omega
                go_wp2
                exact ⟨⟨m + 1, l ++ [UInt8.ofNat (33 + xb).toNat], by rfl, by omega, rfl, by simp; omega, hCb.up (Up.alloc (Up.refl wb) _), hUb.alloc _⟩, by simp only [intOf]; omega⟩
              · go_wp2
                exact ⟨⟨0 + 1, l, by rfl, by omega, rfl, by omega, hCa, hUa⟩, by simp only [intOf]; omega⟩
          | false =>
            go_wp2
            go_loopw [5, 7] (fun s j wr => ∃ (m : Nat) (l : List UInt8), j = .int .i64 (m : Int) ∧ m ≤ 5 ∧ s = .string ⟨l.toArray⟩ ∧ l.length ≤ 8 * 0 + 3 + m ∧ Cur wr c ∧ Up w wr) (fun _ j _ => 6 - (intOf j).toNat)
            case atStart => exact ⟨0, ls, rfl, by omega, rfl, by omega, hCo, hUo⟩
            case round =>
              clear hC hU hDo
              obtain ⟨m, l, rfl, hm, rfl, hl, hC, hU⟩ := hrel
              go_wp2_with fail
              (go_at_call 31; (with_reducible refine (l01Below_any _ _ _ w (i64_k (by omega) (by omega)) hC h0 hU).mono ?_); rintro e wa ⟨_, rfl, ⟨xa, rfl, hxa, hya⟩, hCa, hDa, hUa⟩)
              clear hC hU hDa
              by_cases hmx : (m : Int) ≤ xa
              · have hm5 : m < 5 := by omega
                go_wp2_with fail
                (go_at_call 31; (with_reducible refine (l01Below_any _ _ _ w (i64_k (by omega) (by omega)) hCa h0 hUa).mono ?_); rintro e wb ⟨_, rfl, ⟨xb, rfl, hxb, hyb⟩, hCb, hDb, hUb⟩)
                clear hCa hUa hDb
                have hcv := conv_one wb (33 + xb) (by omega) (by omega)
                have hap := ba_app l [UInt8.ofNat (33 + xb).toNat]
                have hcap : ¬ 9223372036854775807 < l.length + 1 := by omega
                have hw8 : IntKind.u8.wrap (33 + xb) = 33 + xb := by simp only [IntKind.wrap, IntKind.bits, IntKind.signed]; simp; omega
                go_wp2
                exact ⟨⟨m + 1, l ++ [UInt8.ofNat (33 + xb).toNat], by rfl, by omega, rfl, by simp; omega, hCb.up (Up.alloc (Up.refl wb) _), hUb.alloc _⟩, by simp only [intOf]; omega⟩
              · go_wp2
                exact ⟨⟨0 + 1, l, by rfl, by omega, rfl, by omega, hCa, hUa⟩, by simp only [intOf]; omega⟩
        · have hkp : (0 : Int) < (k : Int) := by omega
          go_wp2_with fail
          (go_at_call 31; (with_reducible refine (l01Below_any _ _ _ w (i64_k (by omega) (by omega)) hC h0 hU).mono ?_); rintro e wc ⟨_, rfl, ⟨xc, rfl, hxc, hyc⟩, hCc, hDc, hUc⟩)
          go_wp2_with fail
          (go_at_call 31; (with_reducible refine (l01Below_any _ _ _ w (i64_k (by omega) (by omega)) hCc h0 hUc).mono ?_); rintro e wd ⟨_, rfl, ⟨xd, rfl, hxd, hyd⟩, hCd, hDd, hUd⟩)
          have hxc2 : xc ≤ 1 := by omega
          have hxd2 : xd ≤ 2 := by omega
          have hprod : 0 ≤ xc * xd ∧ xc * xd ≤ 2 := by
            rcases (show xc = 0 ∨ xc = 1 by omega) with rfl | rfl <;> omega
          obtain ⟨hpr1, hpr2⟩ := hprod
          clear hDc hDd hyc hyd hCc hUc
          generalize hP : xc * xd = P at *
          go_wp2_with fail
          (go_at_call 30; (with_reducible refine (l01Long_32 (1 + P) (1 + P).toNat _ (by omega) (by omega)).mono ?_); rintro e wf ⟨lf, rfl, hlf, hbf⟩)
          have hCf := hCd.up hbf
          have hUf := hUd.trans hbf
          have hap := ba_app ls lf
          have hcap : ¬ 9223372036854775807 < ls.length + lf.length := by omega
          clear hP
          go_wp2
          go_loopw [5, 7] (fun s j wr => ∃ (m : Nat) (l : List UInt8), j = .int .i64 (m : Int) ∧ m ≤ 5 ∧ s = .string ⟨l.toArray⟩ ∧ l.length ≤ 8 * k + 3 + m ∧ Cur wr c ∧ Up w wr) (fun _ j _ => 6 - (intOf j).toNat)
          case atStart => exact ⟨0, ls ++ lf, rfl, by omega, rfl, by simp; omega, hCf, hUf⟩
          case round =>
            clear hC hU hCf hUf hCd hUd hbf
            obtain ⟨m, l, rfl, hm, rfl, hl, hC, hU⟩ := hrel
            go_wp2_with fail
            (go_at_call 31; (with_reducible refine (l01Below_any _ _ _ w (i64_k (by omega) (by omega)) hC h0 hU).mono ?_); rintro e wa ⟨_, rfl, ⟨xa, rfl, hxa, hya⟩, hCa, hDa, hUa⟩)
            clear hC hU hDa
            by_cases hmx : (m : Int) ≤ xa
            · have hm5 : m < 5 := by omega
              go_wp2_with fail
              (go_at_call 31; (with_reducible refine (l01Below_any _ _ _ w (i64_k (by omega) (by omega)) hCa h0 hUa).mono ?_); rintro e wb ⟨_, rfl, ⟨xb, rfl, hxb, hyb⟩, hCb, hDb, hUb⟩)
              clear hCa hUa hDb
              have hcv := conv_one wb (33 + xb) (by omega) (by omega)
              have hap := ba_app l [UInt8.ofNat (33 + xb).toNat]
              have hcap : ¬ 9223372036854775807 < l.length + 1 := by omega
              have hw8 : IntKind.u8.wrap (33 + xb) = 33 + xb := by simp only [IntKind.wrap, IntKind.bits, IntKind.signed]; simp; omega
              go_wp2
              exact ⟨⟨m + 1, l ++ [UInt8.ofNat (33 + xb).toNat], by rfl, by omega, rfl, by simp; omega, hCb.up (Up.alloc (Up.refl wb) _), hUb.alloc _⟩, by simp only [intOf]; omega⟩
            · go_wp2
              exact ⟨⟨k + 1, l, by rfl, by omega, rfl, by omega, hCa, hUa⟩, by simp only [intOf]; omega⟩
      · go_wp2_with fail
        (go_at_call 31; (with_reducible refine (l01Below_any _ _ _ w (i64_k (by omega) (by omega)) hC h0 hU).mono ?_); rintro e wg ⟨_, rfl, ⟨xg, rfl, hxg, hyg⟩, hCg, hDg, hUg⟩)
        clear hC hU hDg
        have hl200 : ls.length ≤ 200 := by omega
        by_cases hg0 : xg = 0
        · subst hg0
          go_wp2_with fail
          (go_at_call 33; (with_reducible refine (l01Pick_any c _ 6 wg.heap.size (wg.heap.size + 1) pkT _ w (pkT_sl wg) (.inr (Nat.succ_le_of_lt hCg.lt)) (by omega) (by omega) (hCg.up (Up.alloc (Up.refl wg) _)) h0 (hUg.alloc _)).mono ?_); rintro e wh ⟨_, rfl, ⟨i, hi, rfl⟩, hCh, hDh, hUh⟩)
          have hpl := pkT_len i
          generalize pkT.getD i [] = X at *
          have hap := ba_app ls X
          have hcap : ¬ 9223372036854775807 < ls.length + X.length := by omega
          go_wp2
          exact bodyPost_ret (v := .string ⟨(ls ++ X).toArray⟩) (by simp only [results]; go_simp; try simp) rfl ⟨_, rfl, by simp; omega, hUh⟩
        · have hg0' : (xg == 0) = false := by rw [beq_eq_false_iff_ne]; exact hg0
          by_cases hg1 : xg = 1
          · subst hg1
            have hl600 : (ls.length : Int) < 600 := by omega
            go_wp2_with fail
            (go_at_call 31; (with_reducible refine (l01Below_any _ _ _ w (i64_k (by omega) (by omega)) hCg h0 hUg).mono ?_); rintro e wi ⟨_, rfl, ⟨xi, rfl, hxi, hyi⟩, hCi, hDi, hUi⟩)
            have hxi2 : xi ≤ 1 := by omega
            clear hyi
            go_wp2_with fail
            (go_at_call 30; (with_reducible refine (l01Long_32 (600 - (ls.length : Int) + xi) (600 - (ls.length : Int) + xi).toNat _ (by omega) (by omega)).mono ?_); rintro e wj ⟨lj, rfl, hlj, hbj⟩)
            have hap := ba_app ls lj
            have hcap : ¬ 9223372036854775807 < ls.length + lj.length := by omega
            go_wp2
            exact bodyPost_ret (v := .string ⟨(ls ++ lj).toArray⟩) (by simp only [results]; go_simp; try simp) rfl ⟨_, rfl, by simp; omega, hUi.trans hbj⟩
          · have hg1' : (xg == 1) = false := by rw [beq_eq_false_iff_ne]; exact hg1
            go_wp2
            exact bodyPost_ret (v := .string ⟨ls.toArray⟩) (by simp only [results]; go_simp; try simp) rfl ⟨_, rfl, by omega, hUg⟩
  | false =>
    go_wp2
    go_loopw [5, 6] (fun s i wr => ∃ (k : Nat) (ls : List UInt8), i = .int .i64 (k : Int) ∧ k ≤ 25 ∧ s = .string ⟨ls.toArray⟩ ∧ ls.length ≤ 8 * k ∧ Cur wr c ∧ Up w wr) (fun _ i _ => 26 - (intOf i).toNat)
    case atStart => exact ⟨0, [], rfl, by omega, rfl, by simp, hC3, hU3⟩
    case round =>
      obtain ⟨k, ls, rfl, hk, rfl, hls, hC, hU⟩ := hrel
      by_cases hkn : (k : Int) < x2
      · by_cases hk0 : k = 0
        · subst hk0
          go_wp2_with fail
          (go_at_call 29; (with_reducible refine (l01Once_any _ _ _ w (i64_k (by omega) (by omega)) hC h0 hU).mono ?_); rintro e wo ⟨_, rfl, ⟨bo, rfl⟩, hCo, hDo, hUo⟩)
          cases bo with
          | true =>
            go_wp2_with fail
            (go_at_call 31; (with_reducible refine (l01Below_any _ _ _ w (i64_k (by omega) (by omega)) hCo h0 hUo).mono ?_); rintro e wc ⟨_, rfl, ⟨xc, rfl, hxc, hyc⟩, hCc, hDc, hUc⟩)
            go_wp2_with fail
            (go_at_call 31; (with_reducible refine (l01Below_any _ _ _ w (i64_k (by omega) (by omega)) hCc h0 hUc).mono ?_); rintro e wd ⟨_, rfl, ⟨xd, rfl, hxd, hyd⟩, hCd, hDd, hUd⟩)
            have hxc2 : xc ≤ 1 := by omega
            have hxd2 : xd ≤ 2 := by omega
            have hprod : 0 ≤ xc * xd ∧ xc * xd ≤ 2 := by
              rcases (show xc = 0 ∨ xc = 1 by omega) with rfl | rfl <;> omega
            obtain ⟨hpr1, hpr2⟩ := hprod
            clear hDc hDd hyc hyd hCc hUc
            generalize hP : xc * xd = P at *
            go_wp2_with fail
            (go_at_call 30; (with_reducible refine (l01Long_32 (1 + P) (1 + P).toNat _ (by omega) (by omega)).mono ?_); rintro e wf ⟨lf, rfl, hlf, hbf⟩)
            have hCf := hCd.up hbf
            have hUf := hUd.trans hbf
            have hap := ba_app ls lf
            have hcap : ¬ 9223372036854775807 < ls.length + lf.length := by omega
            clear hP
            go_wp2
            go_loopw [5, 7] (fun s j wr => ∃ (m : Nat) (l : List UInt8), j = .int .i64 (m : Int) ∧ m ≤ 5 ∧ s = .string ⟨l.toArray⟩ ∧ l.length ≤ 8 * 0 + 3 + m ∧ Cur wr c ∧ Up w wr) (fun _ j _ => 6 - (intOf j).toNat)
            case atStart => exact ⟨0, ls ++ lf, rfl, by omega, rfl, by simp; omega, hCf, hUf⟩
            case round =>
              clear hCo hUo hCf hUf hCd hUd hbf hC hU hDo
              obtain ⟨m, l, rfl, hm, rfl, hl, hC, hU⟩ := hrel
              go_wp2_with fail
              (go_at_call 31; (with_reducible refine (l01Below_any _ _ _ w (i64_k (by omega) (by omega)) hC h0 hU).mono ?_); rintro e wa ⟨_, rfl, ⟨xa, rfl, hxa, hya⟩, hCa, hDa, hUa⟩)
              clear hC hU hDa
              by_cases hmx : (m : Int) ≤ xa
              · have hm5 : m < 5 := by omega
                go_wp2_with fail
                (go_at_call 31; (with_reducible refine (l01Below_any _ _ _ w (i64_k (by omega) (by omega)) hCa h0 hUa).mono ?_); rintro e wb ⟨_, rfl, ⟨xb, rfl, hxb, hyb⟩, hCb, hDb, hUb⟩)
                clear hCa hUa hDb
                have hcv := conv_one wb (33 + xb) (by omega) (by omega)
                have hap := ba_app l [UInt8.ofNat (33 + xb).toNat]
                have hcap : ¬ 9223372036854775807 < l.length + 1 := by omega
                have hw8 : IntKind.u8.wrap (33 + xb) = 33 + xb := by simp only [IntKind.wrap, IntKind.bits, IntKind.signed]; simp; omega
                go_wp2
                exact ⟨⟨m + 1, l ++ [UInt8.ofNat (33 + xb).toNat], by rfl, by omega, rfl, by simp; omega, hCb.up (Up.alloc (Up.refl wb) _), hUb.alloc _⟩, by simp only [intOf]; omega⟩
              · go_wp2
                exact ⟨⟨0 + 1, l, by rfl, by omega, rfl, by omega, hCa, hUa⟩, by simp only [intOf]; omega⟩
          | false =>
            go_wp2
            go_loopw [5, 7] (fun s j wr => ∃ (m : Nat) (l : List UInt8), j = .int .i64 (m : Int) ∧ m ≤ 5 ∧ s = .string ⟨l.toArray⟩ ∧ l.length ≤ 8 * 0 + 3 + m ∧ Cur wr c ∧ Up w wr) (fun _ j _ => 6 - (intOf j).toNat)
            case atStart => exact ⟨0, ls, rfl, by omega, rfl, by omega, hCo, hUo⟩
            case round =>
              clear hC hU hDo
              obtain ⟨m, l, rfl, hm, rfl, hl, hC, hU⟩ := hrel
              go_wp2_with fail
              (go_at_call 31; (with_reducible refine (l01Below_any _ _ _ w (i64_k (by omega) (by omega)) hC h0 hU).mono ?_); rintro e wa ⟨_, rfl, ⟨xa, rfl, hxa, hya⟩, hCa, hDa, hUa⟩)
              clear hC hU hDa
              by_cases hmx : (m : Int) ≤ xa
              · have hm5 : m < 5 := by omega
                go_wp2_with fail
                (go_at_call 31; (with_reducible refine (l01Below_any _ _ _ w (i64_k (by omega) (by omega)) hCa h0 hUa).mono ?_); rintro e wb ⟨_, rfl, ⟨xb, rfl, hxb, hyb⟩, hCb, hDb, hUb⟩)
                clear hCa hUa hDb
                have hcv := conv_one wb (33 + xb) (by omega) (by omega)
                have hap := ba_app l [UInt8.ofNat (33 + xb).toNat]
                have hcap : ¬ 9223372036854775807 < l.length + 1 := by omega
                have hw8 : IntKind.u8.wrap (33 + xb) = 33 + xb := by simp only [IntKind.wrap, IntKind.bits, IntKind.signed]; simp; omega
                go_wp2
                exact ⟨⟨m + 1, l ++ [UInt8.ofNat (33 + xb).toNat], by rfl, by omega, rfl, by simp; omega, hCb.up (Up.alloc (Up.refl wb) _), hUb.alloc _⟩, by simp only [intOf]; omega⟩
              · go_wp2
                exact ⟨⟨0 + 1, l, by rfl, by omega, rfl, by omega, hCa, hUa⟩, by simp only [intOf]; omega⟩
        · have hkp : (0 : Int) < (k : Int) := by omega
          go_wp2_with fail
          (go_at_call 31; (with_reducible refine (l01Below_any _ _ _ w (i64_k (by omega) (by omega)) hC h0 hU).mono ?_); rintro e wc ⟨_, rfl, ⟨xc, rfl, hxc, hyc⟩, hCc, hDc, hUc⟩)
          go_wp2_with fail
          (go_at_call 31; (with_reducible refine (l01Below_any _ _ _ w (i64_k (by omega) (by omega)) hCc h0 hUc).mono ?_); rintro e wd ⟨_, rfl, ⟨xd, rfl, hxd, hyd⟩, hCd, hDd, hUd⟩)
          have hxc2 : xc ≤ 1 := by omega
          have hxd2 : xd ≤ 2 := by omega
          have hprod : 0 ≤ xc * xd ∧ xc * xd ≤ 2 := by
            rcases (show xc = 0 ∨ xc = 1 by omega) with rfl | rfl <;> omega
          obtain ⟨hpr1, hpr2⟩ := hprod
          clear hDc hDd hyc hyd hCc hUc
          generalize hP : xc * xd = P at *
          go_wp2_with fail
          (go_at_call 30; (with_reducible refine (l01Long_32 (1 + P) (1 + P).toNat _ (by omega) (by omega)).mono ?_); rintro e wf ⟨lf, rfl, hlf, hbf⟩)
          have hCf := hCd.up hbf
          have hUf := hUd.trans hbf
          have hap := ba_app ls lf
          have hcap : ¬ 9223372036854775807 < ls.length + lf.length := by omega
          clear hP
          go_wp2
          go_loopw [5, 7] (fun s j wr => ∃ (m : Nat) (l : List UInt8), j = .int .i64 (m : Int) ∧ m ≤ 5 ∧ s = .string ⟨l.toArray⟩ ∧ l.length ≤ 8 * k + 3 + m ∧ Cur wr c ∧ Up w wr) (fun _ j _ => 6 - (intOf j).toNat)
          case atStart => exact ⟨0, ls ++ lf, rfl, by omega, rfl, by simp; omega, hCf, hUf⟩
          case round =>
            clear hC hU hCf hUf hCd hUd hbf
            obtain ⟨m, l, rfl, hm, rfl, hl, hC, hU⟩ := hrel
            go_wp2_with fail
            (go_at_call 31; (with_reducible refine (l01Below_any _ _ _ w (i64_k (by omega) (by omega)) hC h0 hU).mono ?_); rintro e wa ⟨_, rfl, ⟨xa, rfl, hxa, hya⟩, hCa, hDa, hUa⟩)
            clear hC hU hDa
            by_cases hmx : (m : Int) ≤ xa
            · have hm5 : m < 5 := by omega
              go_wp2_with fail
              (go_at_call 31; (with_reducible refine (l01Below_any _ _ _ w (i64_k (by omega) (by omega)) hCa h0 hUa).mono ?_); rintro e wb ⟨_, rfl, ⟨xb, rfl, hxb, hyb⟩, hCb, hDb, hUb⟩)
              clear hCa hUa hDb
              have hcv := conv_one wb (33 + xb) (by omega) (by omega)
              have hap := ba_app l [UInt8.ofNat (33 + xb).toNat]
              have hcap : ¬ 9223372036854775807 < l.length + 1 := by omega
              have hw8 : IntKind.u8.wrap (33 + xb) = 33 + xb := by simp only [IntKind.wrap, IntKind.bits, IntKind.signed]; simp; omega
              go_wp2
              exact ⟨⟨m + 1, l ++ [UInt8.ofNat (33 + xb).toNat], by rfl, by omega, rfl, by simp; omega, hCb.up (Up.alloc (Up.refl wb) _), hUb.alloc _⟩, by simp only [intOf]; omega⟩
            · go_wp2
              exact ⟨⟨k + 1, l, by rfl, by omega, rfl, by omega, hCa, hUa⟩, by simp only [intOf]; omega⟩
      · go_wp2_with fail
        (go_at_call 31; (with_reducible refine (l01Below_any _ _ _ w (i64_k (by omega) (by omega)) hC h0 hU).mono ?_); rintro e wg ⟨_, rfl, ⟨xg, rfl, hxg, hyg⟩, hCg, hDg, hUg⟩)
        clear hC hU hDg
        have hl200 : ls.length ≤ 200 := by omega
        by_cases hg0 : xg = 0
        · subst hg0
          go_wp2_with fail
          (go_at_call 33; (with_reducible refine (l01Pick_any c _ 6 wg.heap.size (wg.heap.size + 1) pkT _ w (pkT_sl wg) (.inr (Nat.succ_le_of_lt hCg.lt)) (by omega) (by omega) (hCg.up (Up.alloc (Up.refl wg) _)) h0 (hUg.alloc _)).mono ?_); rintro e wh ⟨_, rfl, ⟨i, hi, rfl⟩, hCh, hDh, hUh⟩)
          have hpl := pkT_len i
          generalize pkT.getD i [] = X at *
          have hap := ba_app ls X
          have hcap : ¬ 9223372036854775807 < ls.length + X.length := by omega
          go_wp2
          exact bodyPost_ret (v := .string ⟨(ls ++ X).toArray⟩) (by simp only [results]; go_simp; try simp) rfl ⟨_, rfl, by simp; omega, hUh⟩
        · have hg0' : (xg == 0) = false := by rw [beq_eq_false_iff_ne]; exact hg0
          by_cases hg1 : xg = 1
          · subst hg1
            have hl600 : (ls.length : Int) < 600 := by omega
            go_wp2_with fail
            (go_at_call 31; (with_reducible refine (l01Below_any _ _ _ w (i64_k (by omega) (by omega)) hCg h0 hUg).mono ?_); rintro e wi ⟨_, rfl, ⟨xi, rfl, hxi, hyi⟩, hCi, hDi, hUi⟩)
            have hxi2 : xi ≤ 1 := by omega
            clear hyi
            go_wp2_with fail
            (go_at_call 30; (with_reducible refine (l01Long_32 (600 - (ls.length : Int) + xi) (600 - (ls.length : Int) + xi).toNat _ (by omega) (by omega)).mono ?_); rintro e wj ⟨lj, rfl, hlj, hbj⟩)
            have hap := ba_app ls lj
            have hcap : ¬ 9223372036854775807 < ls.length + lj.length := by omega
            go_wp2
            exact bodyPost_ret (v := .string ⟨(ls ++ lj).toArray⟩) (by simp only [results]; go_simp; try simp) rfl ⟨_, rfl, by simp; omega, hUi.trans hbj⟩
          · have hg1' : (xg == 1) = false := by rw [beq_eq_false_iff_ne]; exact hg1
            go_wp2
            exact bodyPost_ret (v := .string ⟨ls.toArray⟩) (by simp only [results]; go_simp; try simp) rfl ⟨_, rfl, by omega, hUg⟩
end Go.Proofs.Ytmekjkhkbdkdoaa
