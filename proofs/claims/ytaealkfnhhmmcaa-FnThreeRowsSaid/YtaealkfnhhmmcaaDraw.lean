/- The walks of the draws: a cursor stays a cursor, the number is in its range. No condition. -/
import Derived.Test.YtaealkfnhhmmcaaInt
import Derived.Test.YtaealkfnhhmmcaaClo
import Derived.Laws.BitsAllLaws
namespace Go.Proofs.Ytaealkfnhhmmcaa
open Go.RowKit
set_option linter.unusedVariables false
/-- The cells of bytes. -/
def bytF (B : Nat → Int) (i j : Nat) : Value := .int .u8 (B i)
/-- Block c is a cursor over bytes that lie below base. -/
def Cur (w : World) (c : Nat) : Prop :=
  ∃ (A : Option Addr) (n cp i : Nat) (h : Int) (B : Nat → Int) (lo hi : Nat), w.cell? ⟨c, 0, none⟩ = some (.slice A n cp) ∧ w.cell? ⟨c, 1, none⟩ = some (.int .i64 (i : Int)) ∧ w.cell? ⟨c, 2, none⟩ = some (.int .i64 h) ∧ (∀ x, w.frozen? ⟨c, x, none⟩ = false) ∧
    c < w.heap.size ∧ hi ≤ c ∧ n ≤ 1048576 ∧ i ≤ n ∧ I64 h ∧ Sl w lo hi 1 (.slice A n cp) n (bytF B) ∧ ∀ i, i < n → 0 ≤ B i ∧ B i ≤ 255
/-- Block c alone has turned. -/
def ChB (c : Nat) (w w' : World) : Prop := Chg c (c + 1) w w' ∧ ∀ b, b < w.heap.size → b ≠ c → w'.heap[b]? = w.heap[b]?
theorem ChB.refl (c : Nat) (w : World) : ChB c w w := ⟨Chg.refl _ _ w, fun _ _ _ => rfl⟩
theorem ChB.trans {c : Nat} {a b d : World} (h : ChB c a b) (k : ChB c b d) : ChB c a d := ⟨h.1.trans k.1, fun x hx hc => (k.2 x (Nat.lt_of_lt_of_le hx h.1.1) hc).trans (h.2 x hx hc)⟩
theorem ChB.up {c : Nat} {a b d : World} (h : ChB c a b) (k : Up b d) : ChB c a d := ⟨h.1.up k, fun x hx hc => (Below.block k x (Nat.lt_of_lt_of_le hx h.1.1)).trans (h.2 x hx hc)⟩
theorem ChB.setCell {c : Nat} {a b : World} (h : ChB c a b) (o : Nat) (u : Value) : ChB c a (b.setCell ⟨c, o, none⟩ u) :=
  ⟨h.1.setCell (p := ⟨c, o, none⟩) (Nat.le_refl _) (Nat.lt_succ_self _) u, fun x hx hc => by
    have := h.2 x hx hc
    rw [← this]
    simp only [World.setCell, Array.getElem?_modify]
    rw [if_neg (fun e => hc e.symm)]⟩
theorem ChB.own {c : Nat} {a b : World} {base size n : Nat} {e : TypeId} {v : Value} {xs : List Value} (h : ChB c a b) (ho : a.ownsRow base e size v n xs) (hc : c < base) : b.ownsRow base e size v n xs := by
  refine ⟨ho.1, ?_⟩
  rcases ho.2 with h1 | ⟨g, cap, cur, h1, h2, h3, h4⟩
  · exact .inl h1
  · have hlt : g < a.heap.size := by
      rcases Nat.lt_or_ge g a.heap.size with hlt | hge
      · exact hlt
      · rw [Array.getElem?_eq_none hge] at h3; cases h3
    exact .inr ⟨g, cap, cur, h1, h2, (h.2 g hlt (by omega)).trans h3, h4⟩
/-- What a draw ends in. -/
def DrP (w w0 : World) (c : Nat) (p : Value → Prop) (e : Ending) (w' : World) : Prop := ∃ v, e = .returned v ∧ p v ∧ Cur w' c ∧ ChB c w w' ∧ Up w0 w'
def byV (v : Value) : Prop := ∃ x : Int, v = .int .i64 x ∧ 0 ≤ x ∧ x ≤ 255
theorem and255 (x : Int) : 0 ≤ bits .and .i64 x 255 ∧ bits .and .i64 x 255 ≤ 255 := by
  have h : bits .and .i64 x 255 = IntKind.i64.wrap ((BitVec.ofInt 64 x &&& BitVec.ofInt 64 255).toNat : Int) := rfl
  have h1 : (BitVec.ofInt 64 x &&& BitVec.ofInt 64 255).toNat ≤ 255 := by
    rw [BitVec.toNat_and]
    exact Nat.le_trans Nat.and_le_right (by decide)
  rw [h, IntKind.wrap_i64]
  omega
set_option maxHeartbeats 1000000 in
set_option maxRecDepth 100000 in
theorem l01Byte_any (c : Nat) (w w0 : World) (hc : Cur w c) (h0 : w0.heap.size ≤ c) (hu : Up w0 w) : Calls Try.prog 72 #[.pointer (some ⟨c, 0, none⟩)] w (DrP w w0 c byV) := by
  obtain ⟨A, n, cp, i, h, B, lo, hi, q0, q1, q2, qf, ql, qh, qn, qi, qI, qs, qB⟩ := hc
  obtain ⟨_, A', c', hv, hcp, hx⟩ := qs
  cases hv
  have H := Lib.hid hx
  have HB := Lib.hid qB
  clear hx qB
  go_enter Try.func72, Try.ntmps72
  go_wp2_with fail
  have hI1 : I64 (wrap64 (wrap64 (h * 6364136223846793005) + 1442695040888963407)) := I64.of_wf (wrap64_wf _)
  generalize wrap64 (wrap64 (h * 6364136223846793005) + 1442695040888963407) = H1 at hI1 ⊢
  have r0 : (w.setCell ⟨c, 2, none⟩ (.int .i64 H1)).cell? ⟨c, 0, none⟩ = some (.slice A n cp) := (World.cell?_setCell_other _ _ _ _ (by simp)).trans q0
  have r1 : (w.setCell ⟨c, 2, none⟩ (.int .i64 H1)).cell? ⟨c, 1, none⟩ = some (.int .i64 (i : Int)) := (World.cell?_setCell_other _ _ _ _ (by simp)).trans q1
  have r2 : (w.setCell ⟨c, 2, none⟩ (.int .i64 H1)).cell? ⟨c, 2, none⟩ = some (.int .i64 H1) := World.cell?_setCell_same' _ _ _ (by rw [q2]; rfl)
  have rf : ∀ x, (w.setCell ⟨c, 2, none⟩ (.int .i64 H1)).frozen? ⟨c, x, none⟩ = false := fun x => by rw [World.frozen?_setCell]; exact qf x
  have rC : ChB c w (w.setCell ⟨c, 2, none⟩ (.int .i64 H1)) := (ChB.refl c w).setCell _ _
  have rU : Up w0 (w.setCell ⟨c, 2, none⟩ (.int .i64 H1)) := hu.setCell h0 _
  have rS : Sl (w.setCell ⟨c, 2, none⟩ (.int .i64 H1)) lo hi 1 (.slice A n cp) n (bytF B) := Sl.off ⟨by omega, A, cp, rfl, hcp, H.out⟩ rC.1 (.inl qh)
  have rl : c < (w.setCell ⟨c, 2, none⟩ (.int .i64 H1)).heap.size := by simpa [World.setCell] using ql
  generalize w.setCell ⟨c, 2, none⟩ (.int .i64 H1) = wn at r0 r1 r2 rf rC rU rS rl ⊢
  clear q0 q1 q2 qf H
  (refine wp_region_up (by kernel_rfl) (by kernel_rfl) ?_; (repeat (refine wpQuiet_step (fun K hK => ?_); go_simp; first | (refine hK _ ?_; clear hK K) | (apply Exists.intro; refine ⟨fun wq hwq => ?_, hK _ ?_⟩; (obtain ⟨hcq, hfq⟩ := hwq.cells; (try go_simp); first | done | rfl | exact ⟨rfl, rfl⟩ | fail); clear hK K))); refine wpQuiet_nil ?_; intro w1 hb1; obtain ⟨hc1, hf1⟩ := hb1.cells; have hl1 := hb1.lt; have hle1 := hb1.le; have hs1 := hb1.size; (try simp at hs1); (try have hs1a : wn.heap.size < w1.heap.size := by omega); (try have hs1aa : wn.heap.size ≤ w1.heap.size := by omega); (try have hs1b : wn.heap.size + 1 < w1.heap.size := by omega); (try have hs1bb : wn.heap.size + 1 ≤ w1.heap.size := by omega); (try have hs1c : wn.heap.size + 1 + 1 < w1.heap.size := by omega); (try have hs1cc : wn.heap.size + 1 + 1 ≤ w1.heap.size := by omega); (try have hs1d : wn.heap.size + 1 + 1 + 1 < w1.heap.size := by omega); (try have hs1dd : wn.heap.size + 1 + 1 + 1 ≤ w1.heap.size := by omega); (try have hs1L := Nat.lt_of_succ_le hs1); (try have hs1M := Nat.lt_of_succ_lt hs1L); (try have hs1N := Nat.lt_of_succ_lt hs1M); (try have hs1LE := Nat.le_of_lt hs1L); (try have hs1ME := Nat.le_of_lt hs1M))
  have hi1 := hI1.1
  have hi2 := hI1.2
  go_wp2_with fail
  have hX := and255 (bits .xor .i64 (H1 / 8589934592) (H1 / 35184372088832))
  generalize bits .and .i64 (bits .xor .i64 (H1 / 8589934592) (H1 / 35184372088832)) 255 = X at hX ⊢
  obtain ⟨hX1, hX2⟩ := hX
  have p0 := (hb1.cells.1 c 0 rl).trans r0
  have p1 := (hb1.cells.1 c 1 rl).trans r1
  have p2 := (hb1.cells.1 c 2 rl).trans r2
  have pf : ∀ x, w1.frozen? ⟨c, x, none⟩ = false := fun x => (hb1.cells.2 c x rl).trans (rf x)
  have pC := rC.up hb1
  have pU := rU.trans hb1
  have pS := rS.up hb1
  have pl : c < w1.heap.size := Nat.lt_of_lt_of_le rl hb1.size
  obtain ⟨wp, rfl⟩ : ∃ wp : World, wp = w1 := ⟨_, rfl⟩
  clear r0 r1 r2 rf rC rU rS hf1 hc1 hb1
  by_cases hin : i < n
  rotate_left
  · have hd : decide ((i : Int) < (n : Int)) = false := decide_eq_false (by omega)
    have hd2 : ¬ (i : Int) < (n : Int) := by omega
    (refine wp_region_up (by kernel_rfl) (by kernel_rfl) ?_; (repeat (refine wpQuiet_step (fun K hK => ?_); go_simp; first | (refine hK _ ?_; clear hK K) | (apply Exists.intro; refine ⟨fun wq hwq => ?_, hK _ ?_⟩; (obtain ⟨hcq, hfq⟩ := hwq.cells; (try go_simp); first | done | rfl | exact ⟨rfl, rfl⟩ | fail); clear hK K))); refine wpQuiet_nil ?_; intro w1 hb1; obtain ⟨hc1, hf1⟩ := hb1.cells; have hl1 := hb1.lt; have hle1 := hb1.le; have hs1 := hb1.size; (try simp at hs1); (try have hs1a : wp.heap.size < w1.heap.size := by omega); (try have hs1aa : wp.heap.size ≤ w1.heap.size := by omega); (try have hs1b : wp.heap.size + 1 < w1.heap.size := by omega); (try have hs1bb : wp.heap.size + 1 ≤ w1.heap.size := by omega); (try have hs1c : wp.heap.size + 1 + 1 < w1.heap.size := by omega); (try have hs1cc : wp.heap.size + 1 + 1 ≤ w1.heap.size := by omega); (try have hs1d : wp.heap.size + 1 + 1 + 1 < w1.heap.size := by omega); (try have hs1dd : wp.heap.size + 1 + 1 + 1 ≤ w1.heap.size := by omega); (try have hs1L := Nat.lt_of_succ_le hs1); (try have hs1M := Nat.lt_of_succ_lt hs1L); (try have hs1N := Nat.lt_of_succ_lt hs1M); (try have hs1LE := Nat.le_of_lt hs1L); (try have hs1ME := Nat.le_of_lt hs1M))
    go_wp2
    go_ret
    exact ⟨_, rfl, ⟨X, rfl, hX1, hX2⟩, ⟨A, n, cp, i, H1, B, lo, hi, (hb1.cells.1 c 0 pl).trans p0, (hb1.cells.1 c 1 pl).trans p1, (hb1.cells.1 c 2 pl).trans p2, fun x => (hb1.cells.2 c x pl).trans (pf x), Nat.lt_of_lt_of_le pl hb1.size, qh, qn, qi, ⟨hi1, hi2⟩, pS.up hb1, HB.out⟩, pC.up hb1, pU.trans hb1⟩
  · have hd : (i : Int) < (n : Int) := by omega
    (refine wp_region_up (by kernel_rfl) (by kernel_rfl) ?_; (repeat (refine wpQuiet_step (fun K hK => ?_); go_simp; first | (refine hK _ ?_; clear hK K) | (apply Exists.intro; refine ⟨fun wq hwq => ?_, hK _ ?_⟩; (obtain ⟨hcq, hfq⟩ := hwq.cells; (try go_simp); first | done | rfl | exact ⟨rfl, rfl⟩ | fail); clear hK K))); refine wpQuiet_nil ?_; intro w1 hb1; obtain ⟨hc1, hf1⟩ := hb1.cells; have hl1 := hb1.lt; have hle1 := hb1.le; have hs1 := hb1.size; (try simp at hs1); (try have hs1a : wp.heap.size < w1.heap.size := by omega); (try have hs1aa : wp.heap.size ≤ w1.heap.size := by omega); (try have hs1b : wp.heap.size + 1 < w1.heap.size := by omega); (try have hs1bb : wp.heap.size + 1 ≤ w1.heap.size := by omega); (try have hs1c : wp.heap.size + 1 + 1 < w1.heap.size := by omega); (try have hs1cc : wp.heap.size + 1 + 1 ≤ w1.heap.size := by omega); (try have hs1d : wp.heap.size + 1 + 1 + 1 < w1.heap.size := by omega); (try have hs1dd : wp.heap.size + 1 + 1 + 1 ≤ w1.heap.size := by omega); (try have hs1L := Nat.lt_of_succ_le hs1); (try have hs1M := Nat.lt_of_succ_lt hs1L); (try have hs1N := Nat.lt_of_succ_lt hs1M); (try have hs1LE := Nat.le_of_lt hs1L); (try have hs1ME := Nat.le_of_lt hs1M))
    have k0 := (hb1.cells.1 c 0 pl).trans p0
    have k1 := (hb1.cells.1 c 1 pl).trans p1
    have k2 := (hb1.cells.1 c 2 pl).trans p2
    have kf : ∀ x, w1.frozen? ⟨c, x, none⟩ = false := fun x => (hb1.cells.2 c x pl).trans (pf x)
    have kC := pC.up hb1
    have kU := pU.trans hb1
    have kS := pS.up hb1
    have kl : c < w1.heap.size := Nat.lt_of_lt_of_le pl hb1.size
    obtain ⟨wk, rfl⟩ : ∃ wk : World, wk = w1 := ⟨_, rfl⟩
    have hx2 := kS
    obtain ⟨hkn, A2, c2, hv2, hcp2, hx2⟩ := hx2
    cases hv2
    obtain ⟨b, o, rfl, hb1', hb2', hcs⟩ := hx2 (by omega)
    have gB : wk.cell? ⟨b, o + i, none⟩ = some (.int .u8 (B i)) := by simpa [bytF] using hcs i 0 hin (by omega)
    have hbs : b < wk.heap.size := by omega
    obtain ⟨hB1, hB2⟩ := HB.out i hin
    clear p0 p1 p2 pf pC pU pS hf1 hc1 hb1 hx2 hcs
    go_wp2_with fail
    (refine wp_region_up (by kernel_rfl) (by kernel_rfl) ?_; (repeat (refine wpQuiet_step (fun K hK => ?_); go_simp; first | (refine hK _ ?_; clear hK K) | (apply Exists.intro; refine ⟨fun wq hwq => ?_, hK _ ?_⟩; (obtain ⟨hcq, hfq⟩ := hwq.cells; (try go_simp); first | done | rfl | exact ⟨rfl, rfl⟩ | fail); clear hK K))); refine wpQuiet_nil ?_; intro w1 hb1; obtain ⟨hc1, hf1⟩ := hb1.cells; have hl1 := hb1.lt; have hle1 := hb1.le; have hs1 := hb1.size; (try simp at hs1); (try have hs1a : wk.heap.size < w1.heap.size := by omega); (try have hs1aa : wk.heap.size ≤ w1.heap.size := by omega); (try have hs1b : wk.heap.size + 1 < w1.heap.size := by omega); (try have hs1bb : wk.heap.size + 1 ≤ w1.heap.size := by omega); (try have hs1c : wk.heap.size + 1 + 1 < w1.heap.size := by omega); (try have hs1cc : wk.heap.size + 1 + 1 ≤ w1.heap.size := by omega); (try have hs1d : wk.heap.size + 1 + 1 + 1 < w1.heap.size := by omega); (try have hs1dd : wk.heap.size + 1 + 1 + 1 ≤ w1.heap.size := by omega); (try have hs1L := Nat.lt_of_succ_le hs1); (try have hs1M := Nat.lt_of_succ_lt hs1L); (try have hs1N := Nat.lt_of_succ_lt hs1M); (try have hs1LE := Nat.le_of_lt hs1L); (try have hs1ME := Nat.le_of_lt hs1M))
    go_wp2_with fail
    have hY := and255 (IntKind.i64.wrap (X + IntKind.i64.wrap (B i)))
    generalize bits .and .i64 (IntKind.i64.wrap (X + IntKind.i64.wrap (B i))) 255 = Y at hY ⊢
    obtain ⟨hY1, hY2⟩ := hY
    have hd1 : (i : Int) < 1048576 := by omega
    have m0 := (hb1.cells.1 c 0 kl).trans k0
    have m1 := (hb1.cells.1 c 1 kl).trans k1
    have m2 := (hb1.cells.1 c 2 kl).trans k2
    have mf : ∀ x, w1.frozen? ⟨c, x, none⟩ = false := fun x => (hb1.cells.2 c x kl).trans (kf x)
    have mC := kC.up hb1
    have mU := kU.trans hb1
    have mS := kS.up hb1
    have ml : c < w1.heap.size := Nat.lt_of_lt_of_le kl hb1.size
    obtain ⟨wz, rfl⟩ : ∃ wz : World, wz = w1 := ⟨_, rfl⟩
    clear k0 k1 k2 kf kC kU kS hf1 hc1 hb1 gB
    go_wp2
    go_ret
    refine ⟨_, rfl, ⟨Y, rfl, hY1, hY2⟩, ⟨some ⟨b, o, none⟩, n, cp, i + 1, H1, B, lo, hi, (World.cell?_setCell_other _ _ _ _ (by simp)).trans m0, ?_, (World.cell?_setCell_other _ _ _ _ (by simp)).trans m2, fun x => by rw [World.frozen?_setCell]; exact mf x, by simpa [World.setCell] using ml, qh, qn, by omega, ⟨hi1, hi2⟩, ?_, HB.out⟩, mC.setCell _ _, mU.setCell h0 _⟩
    · rw [World.cell?_setCell_same' _ _ _ (by rw [m1]; rfl)]
      rfl
    · exact mS.off ((Chg.refl c (c + 1) wz).setCell (p := ⟨c, 1, none⟩) (Nat.le_refl _) (by simp) _) (.inl qh)
end Go.Proofs.Ytaealkfnhhmmcaa
