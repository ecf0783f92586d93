/- The walks of marks on slices of texts, of their check and of comparisons. No condition. -/
import Derived.Test.YtmekjkhkbdkdoaaSf2
import Derived.Test.YtmekjkhkbdkdoaaFmt2
namespace Go.Proofs.Ytmekjkhkbdkdoaa
open Go.RowKit
set_option linter.unusedVariables false
theorem Sl.txt {w : World} {b o k n : Nat} {L : List (List UInt8)} (h : ∀ i j, i < n → j < 1 → w.cell? ⟨b, o + (i * 1 + j), none⟩ = some (txtF L i j)) (hk : k < n) : w.cell? ⟨b, o + k, none⟩ = some (.string ⟨(L.getD k []).toArray⟩) := by simpa [txtF] using h k 0 hk (by omega)
theorem Fl.setS {w : World} {g q m : Nat} {f : Nat → Nat → Value} {u : Value} (h : Fl w g 1 q m f) (hqm : q < m) (hu : u = f q 0) : Fl (w.setCell ⟨g, q, none⟩ u) g 1 (q + 1) m f := h.set q 0 (by omega) (by omega) hqm hu
/-- The mark k. -/
def mtT (k : Nat) : List UInt8 := 109 :: decN k
def mkS (k i j : Nat) : Value := .string ⟨(mtT (k + i)).toArray⟩
def MkT (w w0 : World) (lo hi : Nat) (v : Value) (n k : Nat) (r : Int) (e : Ending) (w' : World) : Prop :=
  e = .returned (.int .i64 r) ∧ Wr w' lo hi 1 v n (mkS k) ∧ Chg lo hi w w' ∧ Up w0 w'
theorem getc_t {o : Option Value} (h : o.isSome = true) : ∃ c, o = some c := Option.isSome_iff_exists.1 h
theorem convF (wx : World) (r : Nat) (h : r < 10) : (convert 30 9 (.slice (some ⟨wx.heap.size, 0, none⟩) 1 1)).run Try.prog (wx.alloc (.cells #[.int .u8 (48 + (r : Int))] 5)) = .ok (.string ⟨[hexF r].toArray⟩) (wx.alloc (.cells #[.int .u8 (48 + (r : Int))] 5)) := by
  rw [← figI_lt h]
  exact Go.run_convert_bytes_back (P := Try.prog) _ 30 9 5 ⟨wx.heap.size, 0, none⟩ 1 [hexF r] (by go_simp) (by go_simp) (by go_simp) (fun j hj => by
    have hj0 : j = 0 := by simpa using hj
    subst hj0
    rw [show (⟨wx.heap.size, 0, none⟩ : Addr).add 0 = ⟨wx.heap.size, 0, none⟩ from by simp [Addr.add], World.cell?_alloc_mark]
    rfl)
set_option maxHeartbeats 1000000 in
set_option maxRecDepth 100000 in
theorem markText_any (n : Int) (N : Nat) (w : World) (hn : n = (N : Int)) (hN : N ≤ 9223372036854775807) : Calls Try.prog 27 #[.int .i64 n] w fun e w' => e = .returned (.string ⟨(mtT N).toArray⟩) ∧ Up w w' := by
  by_cases h0 : N = 0
  · subst h0
    obtain rfl : n = 0 := by omega
    clear hn hN
    rw [show mtT 0 = [109, 48] from by rw [mtT, decN_lt (by omega)]; rfl]
    go_enter Try.func27, Try.ntmps27
    go_wp2
    exact bodyPost_ret (v := .string ⟨#[109, 48]⟩) (by simp only [results]; go_simp; try simp) rfl ⟨rfl, (by repeat (first | with_reducible exact Up.refl _ | with_reducible refine Up.alloc ?_ _ | with_reducible refine Up.drew ?_ | with_reducible refine Up.drewN ?_ _ | (with_reducible refine Up.setCell ?_ (by first | omega | (simp; done) | (simp; omega)) _) | with_reducible assumption | (with_reducible refine Up.trans ?_ (by with_reducible assumption))))⟩
  have hNb : N ≤ 9223372036854775808 := by omega
  have hpos : ¬ n ≤ 0 := by omega
  have HN := Lib.hid hn
  clear hn
  go_enter Try.func27, Try.ntmps27
  go_wp2
  go_loopw [0, 3] (fun a s wr => ∃ (M : Nat) (acc : List UInt8), a = .int .i64 ((M : Int)) ∧ s = .string ⟨acc.toArray⟩ ∧ Hid (M ≤ N ∧ decN N = decZ M ++ acc) ∧ Up w wr) (fun a _ _ => (intOf a).natAbs)
  case atStart => exact ⟨N, [], by rw [HN.out], rfl, ⟨Nat.le_refl _, by rw [decZ_pos h0]; simp⟩, (by repeat (first | with_reducible exact Up.refl _ | with_reducible refine Up.alloc ?_ _ | with_reducible refine Up.drew ?_ | with_reducible refine Up.drewN ?_ _ | (with_reducible refine Up.setCell ?_ (by first | omega | (simp; done) | (simp; omega)) _) | with_reducible assumption | (with_reducible refine Up.trans ?_ (by with_reducible assumption))))⟩
  case round =>
    obtain ⟨M, acc, rfl, rfl, hd, hup⟩ := hrel
    have hM : M ≤ 9223372036854775807 := Nat.le_trans hd.out.1 hN
    by_cases hq : M = 0
    · subst hq
      have hcat : decN N = acc := by have := hd.out.2; rw [decZ_zero] at this; exact this
      obtain ⟨hcap, hcap'⟩ := cap_of hNb hd.out.2
      have hap := ba_app [109] acc
      go_wp2
      exact bodyPost_ret (v := .string ⟨(mtT N).toArray⟩) (by rw [mtT, hcat]; simp only [results]; go_simp; try simp) rfl ⟨rfl, (by repeat (first | with_reducible exact Up.refl _ | with_reducible refine Up.alloc ?_ _ | with_reducible refine Up.drew ?_ | with_reducible refine Up.drewN ?_ _ | (with_reducible refine Up.setCell ?_ (by first | omega | (simp; done) | (simp; omega)) _) | with_reducible assumption | (with_reducible refine Up.trans ?_ (by with_reducible assumption))))⟩
    · have hst := decZ_step hq
      obtain ⟨r, hr⟩ : ∃ r : Nat, r = M % 10 := ⟨_, rfl⟩
      have hr1 : ((M : Int)).tmod 10 = (r : Int) := by rw [hr]; exact tmodP _
      have hr6 : ((M : Int)) % 10 = (r : Int) := by omega
      have hr2 : ((M : Int)).tdiv 10 = ((M / 10 : Nat) : Int) := tdivP _
      have hr3 : r < 10 := by omega
      obtain ⟨hcap, hcap'⟩ := cap_of hNb hd.out.2
      have hr4 : (r : Int) < 10 := by omega
      have hr5 : (0 : Int) ≤ (r : Int) := by omega
      have hM0 : 0 < M := by omega
      have HR := Lib.hid hr
      have hcv := convF wr r hr3
      have hap := ba_app [hexF r] acc
      clear hr
      go_wp2
      case roundEnd =>
        refine ⟨⟨M / 10, hexF r :: acc, ?_, ?_, ⟨?_, ?_⟩, (by repeat (first | with_reducible exact Up.refl _ | with_reducible refine Up.alloc ?_ _ | with_reducible refine Up.drew ?_ | with_reducible refine Up.drewN ?_ _ | (with_reducible refine Up.setCell ?_ (by first | omega | (simp; done) | (simp; omega)) _) | with_reducible assumption | (with_reducible refine Up.trans ?_ (by with_reducible assumption))))⟩, ?_⟩
        · first | rfl | (simp; done) | (simp; omega)
        · simp
        · exact Nat.le_trans (Nat.div_le_self _ _) hd.out.1
        · rw [hd.out.2, hst, HR.out]; simp
        · simp only [intOf]; omega
set_option maxRecDepth 100000 in
theorem eqStringS_same (v v' : Value) (n lo hi lo' hi' : Nat) (L : List (List UInt8)) (w : World) (hs : Sl w lo hi 1 v n (txtF L)) (hs' : Sl w lo' hi' 1 v' n (txtF L)) (hn : n ≤ 1048576) :
    Calls Try.prog 14 #[v, v'] w fun e w' => e = .returned (.bool true) ∧ Up w w' := by
  obtain ⟨h0, A, c, rfl, hc, h⟩ := hs
  obtain ⟨h0', A', c', rfl, hc', h'⟩ := hs'
  have H := Lib.hid h
  have H' := Lib.hid h'
  clear h h'
  go_enter Try.func14, Try.ntmps14
  go_wp2
  go_loopw [5] (fun i wr => ∃ k : Nat, i = .int .i64 (k : Int) ∧ k ≤ n ∧ Up w wr) (fun i _ => n - (intOf i).toNat)
  case atStart => exact ⟨0, rfl, Nat.zero_le _, (by repeat (first | with_reducible exact Up.refl _ | with_reducible refine Up.alloc ?_ _ | with_reducible refine Up.drew ?_ | with_reducible refine Up.drewN ?_ _ | (with_reducible refine Up.setCell ?_ (by first | omega | (simp; done) | (simp; omega)) _) | with_reducible assumption | (with_reducible refine Up.trans ?_ (by with_reducible assumption))))⟩
  case round =>
    obtain ⟨k, rfl, hk, hup⟩ := hrel
    by_cases hk1 : k < n
    · obtain ⟨b, o, rfl, hb1, hb2, hcs⟩ := H.out (by omega)
      obtain ⟨b', o', rfl, hb1', hb2', hcs'⟩ := H'.out (by omega)
      have hbs2 : b < wr.heap.size := Nat.lt_of_lt_of_le (by omega) hup.size
      have hbs2' : b' < wr.heap.size := Nat.lt_of_lt_of_le (by omega) hup.size
      have hg0 : wr.cell? ⟨b, o + k, none⟩ = some (.string ⟨(L.getD k []).toArray⟩) := (hup.cells.1 _ _ (by omega)).trans (Sl.txt hcs hk1)
      have hq0 : wr.cell? ⟨b', o' + k, none⟩ = some (.string ⟨(L.getD k []).toArray⟩) := (hup.cells.1 _ _ (by omega)).trans (Sl.txt hcs' hk1)
      have hk2 : (k : Int) < (n : Int) := by omega
      generalize L.getD k [] = X at *
      clear hcs hcs'
      go_wp2_with fail
      (refine wp_region_up (by kernel_rfl) (by kernel_rfl) ?_; (repeat (refine wpQuiet_step (fun K hK => ?_); go_simp; first | (refine hK _ ?_; clear hK K) | (apply Exists.intro; refine ⟨fun wq hwq => ?_, hK _ ?_⟩; (obtain ⟨hcq, hfq⟩ := hwq.cells; (try go_simp); first | done | rfl | exact ⟨rfl, rfl⟩ | fail); clear hK K))); refine wpQuiet_nil ?_; intro w1 hb1; obtain ⟨hc1, hf1⟩ := hb1.cells; have hl1 := hb1.lt; have hle1 := hb1.le; have hs1 := hb1.size; (try simp at hs1); (try have hs1a : wr.heap.size < w1.heap.size := by omega); (try have hs1aa : wr.heap.size ≤ w1.heap.size := by omega); (try have hs1b : wr.heap.size + 1 < w1.heap.size := by omega); (try have hs1bb : wr.heap.size + 1 ≤ w1.heap.size := by omega); (try have hs1c : wr.heap.size + 1 + 1 < w1.heap.size := by omega); (try have hs1cc : wr.heap.size + 1 + 1 ≤ w1.heap.size := by omega); (try have hs1d : wr.heap.size + 1 + 1 + 1 < w1.heap.size := by omega); (try have hs1dd : wr.heap.size + 1 + 1 + 1 ≤ w1.heap.size := by omega); (try have hs1L := Nat.lt_of_succ_le hs1); (try have hs1M := Nat.lt_of_succ_lt hs1L); (try have hs1N := Nat.lt_of_succ_lt hs1M); (try have hs1LE := Nat.le_of_lt hs1L); (try have hs1ME := Nat.le_of_lt hs1M))
      go_wp2
      exact ⟨⟨k + 1, by rfl, by omega, (by repeat (first | with_reducible exact Up.refl _ | with_reducible refine Up.alloc ?_ _ | with_reducible refine Up.drew ?_ | with_reducible refine Up.drewN ?_ _ | (with_reducible refine Up.setCell ?_ (by first | omega | (simp; done) | (simp; omega)) _) | with_reducible assumption | (with_reducible refine Up.trans ?_ (by with_reducible assumption))))⟩, by simp only [intOf]; omega⟩
    · have hkk : k = n := by omega
      subst hkk
      go_wp2
      go_ret
      exact ⟨rfl, (by repeat (first | with_reducible exact Up.refl _ | with_reducible refine Up.alloc ?_ _ | with_reducible refine Up.drew ?_ | with_reducible refine Up.drewN ?_ _ | (with_reducible refine Up.setCell ?_ (by first | omega | (simp; done) | (simp; omega)) _) | with_reducible assumption | (with_reducible refine Up.trans ?_ (by with_reducible assumption))))⟩
set_option maxRecDepth 100000 in
theorem sameTexts_same (v v' : Value) (n lo hi lo' hi' : Nat) (L : List (List UInt8)) (w : World) (hs : Sl w lo hi 1 v n (txtF L)) (hs' : Sl w lo' hi' 1 v' n (txtF L)) (hn : n ≤ 1048576) :
    Calls Try.prog 21 #[v, v'] w fun e w' => e = .returned (.bool true) ∧ Up w w' := by
  obtain ⟨h0, A, c, rfl, hc, h⟩ := hs
  obtain ⟨h0', A', c', rfl, hc', h'⟩ := hs'
  have H := Lib.hid h
  have H' := Lib.hid h'
  clear h h'
  go_enter Try.func21, Try.ntmps21
  go_wp2
  go_loopw [5] (fun i wr => ∃ k : Nat, i = .int .i64 (k : Int) ∧ k ≤ n ∧ Up w wr) (fun i _ => n - (intOf i).toNat)
  case atStart => exact ⟨0, rfl, Nat.zero_le _, (by repeat (first | with_reducible exact Up.refl _ | with_reducible refine Up.alloc ?_ _ | with_reducible refine Up.drew ?_ | with_reducible refine Up.drewN ?_ _ | (with_reducible refine Up.setCell ?_ (by first | omega | (simp; done) | (simp; omega)) _) | with_reducible assumption | (with_reducible refine Up.trans ?_ (by with_reducible assumption))))⟩
  case round =>
    obtain ⟨k, rfl, hk, hup⟩ := hrel
    by_cases hk1 : k < n
    · obtain ⟨b, o, rfl, hb1, hb2, hcs⟩ := H.out (by omega)
      obtain ⟨b', o', rfl, hb1', hb2', hcs'⟩ := H'.out (by omega)
      have hbs2 : b < wr.heap.size := Nat.lt_of_lt_of_le (by omega) hup.size
      have hbs2' : b' < wr.heap.size := Nat.lt_of_lt_of_le (by omega) hup.size
      have hg0 : wr.cell? ⟨b, o + k, none⟩ = some (.string ⟨(L.getD k []).toArray⟩) := (hup.cells.1 _ _ (by omega)).trans (Sl.txt hcs hk1)
      have hq0 : wr.cell? ⟨b', o' + k, none⟩ = some (.string ⟨(L.getD k []).toArray⟩) := (hup.cells.1 _ _ (by omega)).trans (Sl.txt hcs' hk1)
      have hk2 : (k : Int) < (n : Int) := by omega
      generalize L.getD k [] = X at *
      clear hcs hcs'
      go_wp2_with fail
      (refine wp_region_up (by kernel_rfl) (by kernel_rfl) ?_; (repeat (refine wpQuiet_step (fun K hK => ?_); go_simp; first | (refine hK _ ?_; clear hK K) | (apply Exists.intro; refine ⟨fun wq hwq => ?_, hK _ ?_⟩; (obtain ⟨hcq, hfq⟩ := hwq.cells; (try go_simp); first | done | rfl | exact ⟨rfl, rfl⟩ | fail); clear hK K))); refine wpQuiet_nil ?_; intro w1 hb1; obtain ⟨hc1, hf1⟩ := hb1.cells; have hl1 := hb1.lt; have hle1 := hb1.le; have hs1 := hb1.size; (try simp at hs1); (try have hs1a : wr.heap.size < w1.heap.size := by omega); (try have hs1aa : wr.heap.size ≤ w1.heap.size := by omega); (try have hs1b : wr.heap.size + 1 < w1.heap.size := by omega); (try have hs1bb : wr.heap.size + 1 ≤ w1.heap.size := by omega); (try have hs1c : wr.heap.size + 1 + 1 < w1.heap.size := by omega); (try have hs1cc : wr.heap.size + 1 + 1 ≤ w1.heap.size := by omega); (try have hs1d : wr.heap.size + 1 + 1 + 1 < w1.heap.size := by omega); (try have hs1dd : wr.heap.size + 1 + 1 + 1 ≤ w1.heap.size := by omega); (try have hs1L := Nat.lt_of_succ_le hs1); (try have hs1M := Nat.lt_of_succ_lt hs1L); (try have hs1N := Nat.lt_of_succ_lt hs1M); (try have hs1LE := Nat.le_of_lt hs1L); (try have hs1ME := Nat.le_of_lt hs1M))
      go_wp2
      exact ⟨⟨k + 1, by rfl, by omega, (by repeat (first | with_reducible exact Up.refl _ | with_reducible refine Up.alloc ?_ _ | with_reducible refine Up.drew ?_ | with_reducible refine Up.drewN ?_ _ | (with_reducible refine Up.setCell ?_ (by first | omega | (simp; done) | (simp; omega)) _) | with_reducible assumption | (with_reducible refine Up.trans ?_ (by with_reducible assumption))))⟩, by simp only [intOf]; omega⟩
    · have hkk : k = n := by omega
      subst hkk
      go_wp2
      go_ret
      exact ⟨rfl, (by repeat (first | with_reducible exact Up.refl _ | with_reducible refine Up.alloc ?_ _ | with_reducible refine Up.drew ?_ | with_reducible refine Up.drewN ?_ _ | (with_reducible refine Up.setCell ?_ (by first | omega | (simp; done) | (simp; omega)) _) | with_reducible assumption | (with_reducible refine Up.trans ?_ (by with_reducible assumption))))⟩
set_option maxHeartbeats 1000000 in
set_option maxRecDepth 100000 in
theorem markStringS_any (v : Value) (n lo hi : Nat) (f : Nat → Nat → Value) (m : Nat) (w w0 : World) (hs : Wr w lo hi 1 v n f) (hn : n ≤ 1048576) (hm1 : m ≤ 100000000) (hu : Up w0 w) (hlo : w0.heap.size ≤ lo) :
    Calls Try.prog 15 #[v, .int .i64 (m : Int)] w (MkT w w0 lo hi v n m ((m : Int) + (n : Int))) := by
  obtain ⟨h0, A, c, rfl, hc, h⟩ := hs
  have H := Lib.hid h
  clear h
  go_enter Try.func15, Try.ntmps15
  go_wp2
  go_loopw [1, 5] (fun t i wr => ∃ k : Nat, i = .int .i64 (k : Int) ∧ k ≤ n ∧ t = .int .i64 ((m : Int) + (k : Int)) ∧ Hid (0 < n → ∃ g, A = some ⟨g, 0, none⟩ ∧ lo ≤ g ∧ g < hi ∧ Fl wr g 1 k (n * 1) (mkS m)) ∧ Chg lo hi w wr ∧ Up w0 wr) (fun _ i _ => n - (intOf i).toNat)
  case atStart =>
    refine ⟨0, rfl, Nat.zero_le _, by simp, ?_, Chg.refl _ _ _, hu⟩
    intro hn0
    obtain ⟨g, hg1, hg2, hg3, hg4, hg5⟩ := H.out hn0
    exact ⟨g, hg1, hg2, hg3, Wr.fl (by omega) (by omega) hg4 hg5⟩
  case round =>
    obtain ⟨k, rfl, hk, rfl, hW, hC, hup⟩ := hrel
    by_cases hk1 : k < n
    · obtain ⟨g, rfl, h1, h2, hF⟩ := hW.out (by omega)
      clear hW
      have hk2 : (k : Int) < (n : Int) := by omega
      have HF0 := Lib.hid hF
      clear hF
      go_wp2_with fail
      (go_at_call 27; (with_reducible refine (markText_any _ (m + k) _ (by omega) (by omega)).mono ?_); rintro e w1 ⟨rfl, hb1⟩)
      have hF1 := HF0.out.up hb1
      obtain ⟨p0, hp0⟩ := getc_t (hF1.2.1 k (by omega))
      have hfr : ∀ x, w1.frozen? ⟨g, x, none⟩ = false := hF1.2.2.1
      have hC1 := hC.up hb1
      have hU1 := hup.trans hb1
      have F2 := hF1.setS (u := .string ⟨(mtT (m + k)).toArray⟩) (by omega) (by simp [mkS])
      have C2 := hC1.setCell (p := ⟨g, k, none⟩) h1 h2 (.string ⟨(mtT (m + k)).toArray⟩)
      have U2 := hU1.setCell (p := ⟨g, k, none⟩) (Nat.le_trans hlo h1) (.string ⟨(mtT (m + k)).toArray⟩)
      have HF := Lib.hid F2
      have HC := Lib.hid C2
      have HU := Lib.hid U2
      clear F2 C2 U2 hF1 hC1 hU1 hC hup HF0
      go_wp2
      exact ⟨⟨k + 1, by rfl, by omega, (by first | rfl | (congr 1; omega)), fun _ => ⟨g, rfl, h1, h2, HF.out⟩, HC.out, HU.out⟩, by simp only [intOf]; omega⟩
    · have hkk : k = n := by omega
      subst hkk
      go_wp2
      go_ret
      refine ⟨by rfl, ?_, hC, hup⟩
      refine ⟨Nat.le_trans h0 hC.1, A, c, rfl, hc, fun hn0 => ?_⟩
      obtain ⟨g, rfl, h1, h2, hF⟩ := hW.out hn0
      obtain ⟨_, A', c', hv, _, hx⟩ := Fl.wr2 (c := c) (hF.cast (Nat.mul_one k).symm) h1 h2 (Nat.le_trans h0 hC.1) hc
      cases hv
      exact hx hn0
set_option maxHeartbeats 1000000 in
set_option maxRecDepth 100000 in
theorem heldStringS_any (v : Value) (n lo hi : Nat) (m : Nat) (w : World) (hs : Sl w lo hi 1 v n (mkS m)) (hn : n ≤ 1048576) (hm1 : m ≤ 100000000) :
    Calls Try.prog 16 #[v, .int .i64 (m : Int)] w fun e w' => e = .returned (.int .i64 ((m : Int) + (n : Int))) ∧ Up w w' := by
  obtain ⟨h0, A, c, rfl, hc, h⟩ := hs
  have H := Lib.hid h
  clear h
  go_enter Try.func16, Try.ntmps16
  go_wp2
  go_loopw [1, 5] (fun t i wr => ∃ k : Nat, i = .int .i64 (k : Int) ∧ k ≤ n ∧ t = .int .i64 ((m : Int) + (k : Int)) ∧ Up w wr) (fun _ i _ => n - (intOf i).toNat)
  case atStart => exact ⟨0, rfl, Nat.zero_le _, by simp, (by repeat (first | with_reducible exact Up.refl _ | with_reducible refine Up.alloc ?_ _ | with_reducible refine Up.drew ?_ | with_reducible refine Up.drewN ?_ _ | (with_reducible refine Up.setCell ?_ (by first | omega | (simp; done) | (simp; omega)) _) | with_reducible assumption | (with_reducible refine Up.trans ?_ (by with_reducible assumption))))⟩
  case round =>
    obtain ⟨k, rfl, hk, rfl, hup⟩ := hrel
    by_cases hk1 : k < n
    · obtain ⟨b, o, rfl, h1, h2, hcs⟩ := H.out (by omega)
      have hbs2 : b < wr.heap.size := Nat.lt_of_lt_of_le (by omega) hup.size
      have hg0 : wr.cell? ⟨b, o + k, none⟩ = some (.string ⟨(mtT (m + k)).toArray⟩) := (hup.cells.1 _ _ (by omega)).trans (by simpa [mkS] using hcs k 0 hk1 (by omega))
      have hk2 : (k : Int) < (n : Int) := by omega
      clear hcs
      go_wp2_with fail
      (refine wp_region_up (by kernel_rfl) (by kernel_rfl) ?_; (repeat (refine wpQuiet_step (fun K hK => ?_); go_simp; first | (refine hK _ ?_; clear hK K) | (apply Exists.intro; refine ⟨fun wq hwq => ?_, hK _ ?_⟩; (obtain ⟨hcq, hfq⟩ := hwq.cells; (try go_simp); first | done | rfl | exact ⟨rfl, rfl⟩ | (go_at_call 27; exact up_of hwq (markText_any _ (m + k) _ (by omega) (by omega)))); clear hK K))); refine wpQuiet_nil ?_; intro w1 hb1; obtain ⟨hc1, hf1⟩ := hb1.cells; have hl1 := hb1.lt; have hle1 := hb1.le; have hs1 := hb1.size; (try simp at hs1); (try have hs1a : wr.heap.size < w1.heap.size := by omega); (try have hs1aa : wr.heap.size ≤ w1.heap.size := by omega); (try have hs1b : wr.heap.size + 1 < w1.heap.size := by omega); (try have hs1bb : wr.heap.size + 1 ≤ w1.heap.size := by omega); (try have hs1c : wr.heap.size + 1 + 1 < w1.heap.size := by omega); (try have hs1cc : wr.heap.size + 1 + 1 ≤ w1.heap.size := by omega); (try have hs1d : wr.heap.size + 1 + 1 + 1 < w1.heap.size := by omega); (try have hs1dd : wr.heap.size + 1 + 1 + 1 ≤ w1.heap.size := by omega); (try have hs1L := Nat.lt_of_succ_le hs1); (try have hs1M := Nat.lt_of_succ_lt hs1L); (try have hs1N := Nat.lt_of_succ_lt hs1M); (try have hs1LE := Nat.le_of_lt hs1L); (try have hs1ME := Nat.le_of_lt hs1M))
      go_wp2
      exact ⟨⟨k + 1, by rfl, by omega, (by first | rfl | (congr 1; omega)), (by repeat (first | with_reducible exact Up.refl _ | with_reducible refine Up.alloc ?_ _ | with_reducible refine Up.drew ?_ | with_reducible refine Up.drewN ?_ _ | (with_reducible refine Up.setCell ?_ (by first | omega | (simp; done) | (simp; omega)) _) | with_reducible assumption | (with_reducible refine Up.trans ?_ (by with_reducible assumption))))⟩, by simp only [intOf]; omega⟩
    · have hkk : k = n := by omega
      subst hkk
      go_wp2
      go_ret
      exact ⟨by rfl, (by repeat (first | with_reducible exact Up.refl _ | with_reducible refine Up.alloc ?_ _ | with_reducible refine Up.drew ?_ | with_reducible refine Up.drewN ?_ _ | (with_reducible refine Up.setCell ?_ (by first | omega | (simp; done) | (simp; omega)) _) | with_reducible assumption | (with_reducible refine Up.trans ?_ (by with_reducible assumption))))⟩
end Go.Proofs.Ytmekjkhkbdkdoaa
