/- The walks of the draws of texts. No condition. -/
import Derived.Test.YtmekjkhkbdkdoaaDraw3
import Derived.Test.YtmekjkhkbdkdoaaSf
namespace Go.Proofs.Ytmekjkhkbdkdoaa
open Go.RowKit
set_option linter.unusedVariables false
theorem mk_u8 (W : World) (n : Nat) (hn : n ≤ 1048576) : (Instr.makeSlice 30 (.int .i64 (n : Int)) (.int .i64 (n : Int))).run Try.prog W = .ok (.slice (some ⟨W.heap.size, 0, none⟩) n n) (W.alloc (.cells (madeCells (Value.cells (.int .u8 0)) (n * 1)) 5)) := by
  obtain ⟨i0, hi0, hz0, hz1, hz2⟩ := info_parts u8_info
  have := run_mkN (P := Try.prog) 30 5 i0 (.int .u8 0) Try.underlying30 hi0 hz0 n (by rw [hz2]; omega) (by omega) W
  rw [hz1] at this
  exact this
/-- A text of n bytes. -/
def lgV (n : Nat) (v : Value) : Prop := ∃ l : List UInt8, v = .string ⟨l.toArray⟩ ∧ l.length = n
def LgP (w : World) (n : Nat) (e : Ending) (w' : World) : Prop := ∃ l : List UInt8, e = .returned (.string ⟨l.toArray⟩) ∧ l.length = n ∧ Up w w'
def ltV (n : Nat) (v : Value) : Prop := ∃ l : List UInt8, v = .string ⟨l.toArray⟩ ∧ l.length ≤ n
def oneF (x : Int) (i j : Nat) : Value := .int .u8 x
set_option maxHeartbeats 1000000 in
set_option maxRecDepth 100000 in
theorem l01Long_any (m : Int) (n : Nat) (x : Nat) (w : World) (hm : m = (n : Int)) (hn : n ≤ 1048576) (hx : x ≤ 255) : Calls Try.prog 30 #[.int .i64 m, .int .u8 (x : Int)] w (LgP w n) := by
  subst hm
  have hmk := fun W => mk_u8 W n hn
  have hcells : ∀ wr : World, Fl wr w.heap.size 1 (n * 1) (n * 1) (oneF (x : Int)) → (convert 30 9 (.slice (some ⟨w.heap.size, 0, none⟩) n n)).run Try.prog wr = .ok (.string ⟨(List.replicate n (UInt8.ofNat x)).toArray⟩) wr := by
    intro wr hF
    have := Go.run_convert_bytes_back (P := Try.prog) wr 30 9 5 ⟨w.heap.size, 0, none⟩ n (List.replicate n (UInt8.ofNat x)) (by go_simp) (by go_simp) (by go_simp) (fun j hj => by
      have hjn : j < n := by simpa using hj
      have := hF.2.2.2 j 0 (by omega) (by omega)
      rw [show j * 1 + 0 = j from by omega] at this
      rw [show (⟨w.heap.size, 0, none⟩ : Addr).add j = ⟨w.heap.size, j, none⟩ from by simp [Addr.add]; omega, this, List.getElem_replicate, byte_of _ hx]
      rfl)
    simpa using this
  go_enter Try.func30, Try.ntmps30
  go_wp2
  go_loopw [6] (fun i wr => ∃ k : Nat, i = .int .i64 (k : Int) ∧ k ≤ n ∧ Hid (Fl wr w.heap.size 1 k (n * 1) (oneF (x : Int))) ∧ Up w wr) (fun i _ => n - (intOf i).toNat)
  case atStart => exact ⟨0, rfl, Nat.zero_le _, (by have h := Fl.made w #[.int .u8 0] 5 1 (n * 1) (oneF (x : Int)); simp only [Nat.mul_one] at h ⊢; exact h), (by repeat (first | with_reducible exact Up.refl _ | with_reducible refine Up.alloc ?_ _ | with_reducible refine Up.drew ?_ | with_reducible refine Up.drewN ?_ _ | (with_reducible refine Up.setCell ?_ (by first | omega | (simp; done) | (simp; omega)) _) | with_reducible assumption | (with_reducible refine Up.trans ?_ (by with_reducible assumption))))⟩
  case round =>
    obtain ⟨k, rfl, hk, hF, hup⟩ := hrel
    by_cases hk1 : k < n
    · have hk2 : (k : Int) < (n : Int) := by omega
      obtain ⟨p0, hp0⟩ := Option.isSome_iff_exists.1 (hF.out.2.1 k (by omega))
      have hfr : ∀ o, wr.frozen? ⟨w.heap.size, o, none⟩ = false := hF.out.2.2.1
      have F2 := hF.out.set (u := .int .u8 (x : Int)) k 0 (by omega) (by omega) (by omega) (by simp [oneF])
      have HF := Lib.hid F2
      clear F2 hF
      go_wp2
      exact ⟨⟨k + 1, by rfl, by omega, HF, (by repeat (first | with_reducible exact Up.refl _ | with_reducible refine Up.alloc ?_ _ | with_reducible refine Up.drew ?_ | with_reducible refine Up.drewN ?_ _ | (with_reducible refine Up.setCell ?_ (by first | omega | (simp; done) | (simp; omega)) _) | with_reducible assumption | (with_reducible refine Up.trans ?_ (by with_reducible assumption))))⟩, by simp only [intOf]; omega⟩
    · have hkk : k = n := by omega
      subst hkk
      have hcv := hcells wr (hF.out.cast (Nat.mul_one k).symm)
      go_wp2
      exact bodyPost_ret (v := .string ⟨(List.replicate k (UInt8.ofNat x)).toArray⟩) (by simp only [results]; go_simp; try simp) rfl ⟨_, rfl, by simp, (by repeat (first | with_reducible exact Up.refl _ | with_reducible refine Up.alloc ?_ _ | with_reducible refine Up.drew ?_ | with_reducible refine Up.drewN ?_ _ | (with_reducible refine Up.setCell ?_ (by first | omega | (simp; done) | (simp; omega)) _) | with_reducible assumption | (with_reducible refine Up.trans ?_ (by with_reducible assumption))))⟩
theorem l01Long_200 (m : Int) (n : Nat) (w : World) (hm : m = (n : Int)) (hn : n ≤ 1048576) : Calls Try.prog 30 #[.int .i64 m, .int .u8 200] w (LgP w n) := l01Long_any m n 200 w hm hn (by omega)
theorem l01Long_32 (m : Int) (n : Nat) (w : World) (hm : m = (n : Int)) (hn : n ≤ 1048576) : Calls Try.prog 30 #[.int .i64 m, .int .u8 32] w (LgP w n) := l01Long_any m n 32 w hm hn (by omega)
theorem Up.trans_le {a b c : World} {n : Nat} (h : Up a b) (k : Below n b c) (hn : a.heap.size ≤ n) : Up a c := Below.trans h (Below.mono k hn)
theorem Below.cf {n : Nat} {a b : World} (h : Below n a b) (x o : Nat) (hx : x < n) : b.cell? ⟨x, o, none⟩ = a.cell? ⟨x, o, none⟩ ∧ b.frozen? ⟨x, o, none⟩ = a.frozen? ⟨x, o, none⟩ := ⟨Below.cell h (p := ⟨x, o, none⟩) hx, Below.frozen h (p := ⟨x, o, none⟩) hx⟩
theorem Cur.below {a b : World} {c n : Nat} (h : Cur a c) (k : Below n a b) (hc : c < n) : Cur b c := by
  obtain ⟨A, m, cp, i, hh, B, lo, hi, q0, q1, q2, qf, ql, qh, qn, qi, qI, qs, qB⟩ := h
  have hs : Sl b lo hi 1 (.slice A m cp) m (bytF B) := by
    obtain ⟨z, A', c', hv, hcp, hx⟩ := qs
    refine ⟨Nat.le_trans z k.size, A', c', hv, hcp, fun hn => ?_⟩
    obtain ⟨bb, o, rfl, h1, h2, h3⟩ := hx hn
    exact ⟨bb, o, rfl, h1, h2, fun i j hi hj => ((Below.cf k bb _ (by omega)).1).trans (h3 i j hi hj)⟩
  exact ⟨A, m, cp, i, hh, B, lo, hi, (Below.cf k c 0 hc).1.trans q0, (Below.cf k c 1 hc).1.trans q1, (Below.cf k c 2 hc).1.trans q2, fun x => (Below.cf k c x hc).2.trans (qf x), Nat.lt_of_lt_of_le ql k.size, qh, qn, qi, qI, hs, qB⟩
theorem ChB.below {c n : Nat} {w a b : World} (h : ChB c w a) (k : Below n a b) (hn : w.heap.size ≤ n) : ChB c w b :=
  ⟨⟨Nat.le_trans h.1.1 k.size, fun x o hx hd => by
    obtain ⟨h1, h2⟩ := h.1.2 x o hx hd
    obtain ⟨k1, k2⟩ := Below.cf k x o (by omega)
    exact ⟨k1.trans h1, k2.trans h2⟩⟩, fun x hx hc => (Below.block k x (by omega)).trans (h.2 x hx hc)⟩
set_option maxHeartbeats 1000000 in
set_option maxRecDepth 100000 in
theorem l01Text_any (c : Nat) (m : Int) (w w0 : World) (hm : I64 m) (hc : Cur w c) (h0 : w0.heap.size ≤ c) (hu : Up w0 w) : Calls Try.prog 32 #[.pointer (some ⟨c, 0, none⟩), .int .i64 m] w (DrP w w0 c (ltV 5000)) := by
  obtain ⟨i0, hi, hz0, hz1, hz2⟩ := info_parts u8_info
  have hlt := hc.lt
  by_cases hb : 5000 < m
  · skip
    go_enter Try.func32, Try.ntmps32
    go_wp2
    go_loopw [5, 6] (fun v i wr => ∃ (k : Nat) (l : List UInt8), i = .int .i64 (k : Int) ∧ k ≤ 5000 ∧ l.length = k ∧ Hid (wr.ownsRow w.heap.size 5 1 v k (l.map (fun c => Value.int .u8 (c.toNat : Int)))) ∧ Cur wr c ∧ ChB c w wr ∧ Up w0 wr) (fun _ i _ => 5000 - (intOf i).toNat)
    case atStart => exact ⟨0, [], rfl, Nat.zero_le _, rfl, World.ownsRow_made w #[] 0 (Nat.le_refl _) (Nat.zero_le _) rfl, hc.up (Up.alloc (Up.refl w) _), (ChB.refl c w).up (Up.alloc (Up.refl w) _), hu.alloc _⟩
    case round =>
      obtain ⟨k, l, rfl, hk, hl, ho, hC, hD, hU⟩ := hrel
      by_cases hk1 : (k : Int) < 5000
      · have hsz : w.heap.size ≤ wr.heap.size := hD.1.1
        go_wp2_with fail
        (go_at_call 36; (with_reducible refine (l01Byte_any _ _ _ hC h0 hU).mono ?_); rintro e w1 ⟨_, rfl, ⟨x, rfl, hx1, hx2⟩, hC1, hD1, hU1⟩)
        have ho1 := Lib.hid (hD1.own ho.out hlt)
        have hD2 := hD.trans hD1
        have hsz1 : w.heap.size ≤ w1.heap.size := hD2.1.1
        have hll : (l.map (fun c => Value.int .u8 (c.toNat : Int))).length = k := by simp [hl]
        clear ho hC hD hU hD1
        have hw8 : IntKind.u8.wrap x = x := by simp only [IntKind.wrap, IntKind.bits, IntKind.signed]; simp; omega
        go_wp2_with (at_builtin; refine wpList_append_lies _ rfl (.tmp 15) (.tmp 19) 30 rfl w.heap.size 5 i0 (.int .u8 0) 1 1 Try.underlying30 hi hz0 hz1 hz2 rfl (by omega) _ _ _ rfl (ho1.out.alloc _) ⟨w1.heap.size, 0, none⟩ 1 1 [.int .u8 x] rfl rfl (World.news_of_block (heap_alloc_new w1 _)) (by simp [Value.oneCell']) (by omega) (by simp only [maxLen]; omega) (by omega) (by simp; omega) (w1.heap.size + 1) (by simp) ?_; intro g cap w2 hown hgrow hat hlt2)
        have hb12 : Below w.heap.size (w1.alloc (.cells #[.int .u8 x] 5)) w2 := Below.grown (Below.refl _ _) hgrow (by simp; omega) (fun k hk => ((ho1.out.alloc (.cells #[.int .u8 x] 5)).lt k hk).1)
        have hC2 : Cur w2 c := (hC1.up (Up.alloc (Up.refl w1) _)).below hb12 hlt
        have hD3 : ChB c w w2 := (hD2.up (Up.alloc (Up.refl w1) _)).below hb12 (Nat.le_refl _)
        have hU2 : Up w0 w2 := (hU1.alloc _).trans_le hb12 (by omega)
        have ho2 : w2.ownsRow w.heap.size 5 1 (.slice (some ⟨g, 0, none⟩) (k + 1) cap) (k + 1) ((l ++ [UInt8.ofNat x.toNat]).map (fun c => Value.int .u8 (c.toNat : Int))) := by
          rw [List.map_append, List.map_cons, List.map_nil, byte_of _ (by omega), Int.toNat_of_nonneg hx1]
          exact hown
        have HO := Lib.hid ho2
        clear hown hgrow hat hlt2 ho2
        go_wp2
        exact ⟨⟨k + 1, l ++ [UInt8.ofNat x.toNat], by rfl, by omega, by simp [hl], HO, hC2, hD3, hU2⟩, by simp only [intOf]; omega⟩
      · have hcv := conv_own (l := l) ho.out
        go_wp2
        exact bodyPost_ret (v := .string ⟨l.toArray⟩) (by simp only [results]; go_simp; try simp) rfl ⟨_, rfl, ⟨l, rfl, by omega⟩, hC, hD, hU⟩
  · skip
    go_enter Try.func32, Try.ntmps32
    go_wp2
    go_loopw [5, 6] (fun v i wr => ∃ (k : Nat) (l : List UInt8), i = .int .i64 (k : Int) ∧ k ≤ 5000 ∧ l.length = k ∧ Hid (wr.ownsRow w.heap.size 5 1 v k (l.map (fun c => Value.int .u8 (c.toNat : Int)))) ∧ Cur wr c ∧ ChB c w wr ∧ Up w0 wr) (fun _ i _ => 5000 - (intOf i).toNat)
    case atStart => exact ⟨0, [], rfl, Nat.zero_le _, rfl, World.ownsRow_made w #[] 0 (Nat.le_refl _) (Nat.zero_le _) rfl, hc.up (Up.alloc (Up.refl w) _), (ChB.refl c w).up (Up.alloc (Up.refl w) _), hu.alloc _⟩
    case round =>
      obtain ⟨k, l, rfl, hk, hl, ho, hC, hD, hU⟩ := hrel
      by_cases hk1 : (k : Int) < m
      · have hsz : w.heap.size ≤ wr.heap.size := hD.1.1
        go_wp2_with fail
        (go_at_call 36; (with_reducible refine (l01Byte_any _ _ _ hC h0 hU).mono ?_); rintro e w1 ⟨_, rfl, ⟨x, rfl, hx1, hx2⟩, hC1, hD1, hU1⟩)
        have ho1 := Lib.hid (hD1.own ho.out hlt)
        have hD2 := hD.trans hD1
        have hsz1 : w.heap.size ≤ w1.heap.size := hD2.1.1
        have hll : (l.map (fun c => Value.int .u8 (c.toNat : Int))).length = k := by simp [hl]
        clear ho hC hD hU hD1
        have hw8 : IntKind.u8.wrap x = x := by simp only [IntKind.wrap, IntKind.bits, IntKind.signed]; simp; omega
        go_wp2_with (at_builtin; refine wpList_append_lies _ rfl (.tmp 15) (.tmp 19) 30 rfl w.heap.size 5 i0 (.int .u8 0) 1 1 Try.underlying30 hi hz0 hz1 hz2 rfl (by omega) _ _ _ rfl (ho1.out.alloc _) ⟨w1.heap.size, 0, none⟩ 1 1 [.int .u8 x] rfl rfl (World.news_of_block (heap_alloc_new w1 _)) (by simp [Value.oneCell']) (by omega) (by simp only [maxLen]; omega) (by omega) (by simp; omega) (w1.heap.size + 1) (by simp) ?_; intro g cap w2 hown hgrow hat hlt2)
        have hb12 : Below w.heap.size (w1.alloc (.cells #[.int .u8 x] 5)) w2 := Below.grown (Below.refl _ _) hgrow (by simp; omega) (fun k hk => ((ho1.out.alloc (.cells #[.int .u8 x] 5)).lt k hk).1)
        have hC2 : Cur w2 c := (hC1.up (Up.alloc (Up.refl w1) _)).below hb12 hlt
        have hD3 : ChB c w w2 := (hD2.up (Up.alloc (Up.refl w1) _)).below hb12 (Nat.le_refl _)
        have hU2 : Up w0 w2 := (hU1.alloc _).trans_le hb12 (by omega)
        have ho2 : w2.ownsRow w.heap.size 5 1 (.slice (some ⟨g, 0, none⟩) (k + 1) cap) (k + 1) ((l ++ [UInt8.ofNat x.toNat]).map (fun c => Value.int .u8 (c.toNat : Int))) := by
          rw [List.map_append, List.map_cons, List.map_nil, byte_of _ (by omega), Int.toNat_of_nonneg hx1]
          exact hown
        have HO := Lib.hid ho2
        clear hown hgrow hat hlt2 ho2
        go_wp2
        exact ⟨⟨k + 1, l ++ [UInt8.ofNat x.toNat], by rfl, by omega, by simp [hl], HO, hC2, hD3, hU2⟩, by simp only [intOf]; omega⟩
      · have hcv := conv_own (l := l) ho.out
        go_wp2
        exact bodyPost_ret (v := .string ⟨l.toArray⟩) (by simp only [results]; go_simp; try simp) rfl ⟨_, rfl, ⟨l, rfl, by omega⟩, hC, hD, hU⟩
end Go.Proofs.Ytmekjkhkbdkdoaa
