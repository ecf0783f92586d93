/- A proof in a box whose two rows lie in two ranges apart; marks and their check. No condition. -/
import Derived.Test.YtlpbmdoggcclpaaPr2
namespace Go.Proofs.Ytlpbmdoggcclpaa
open Go.RowKit
set_option linter.unusedVariables false
/-- Two rows in L .. H, apart. -/
def TwoR (w : World) (L H : Nat) (A : Option Addr) (c : Nat) (A' : Option Addr) (c' n m : Nat) (f g : Nat → Nat → Value) : Prop :=
  ∃ lo1 hi1 lo2 hi2, Wr w lo1 hi1 1 (.slice A n c) n f ∧ Wr w lo2 hi2 1 (.slice A' m c') m g ∧ L ≤ lo1 ∧ hi1 ≤ H ∧ L ≤ lo2 ∧ hi2 ≤ H ∧ (hi1 ≤ lo2 ∨ hi2 ≤ lo1)
section
variable {w w' : World} {b L H c c' n m : Nat} {A A' : Option Addr} {f g : Nat → Nat → Value}
theorem TwoR.up (h : TwoR w L H A c A' c' n m f g) (hu : Up w w') : TwoR w' L H A c A' c' n m f g := by
  obtain ⟨l1, h1, l2, h2, W1, W2, r⟩ := h
  exact ⟨l1, h1, l2, h2, W1.up hu, W2.up hu, r⟩
theorem TwoR.off {l2 h2 : Nat} (h : TwoR w L H A c A' c' n m f g) (hc : Chg l2 h2 w w') (hd : H ≤ l2 ∨ h2 ≤ L) : TwoR w' L H A c A' c' n m f g := by
  obtain ⟨p1, q1, p2, q2, W1, W2, a1, a2, a3, a4, a5⟩ := h
  exact ⟨p1, q1, p2, q2, W1.off hc (by omega), W2.off hc (by omega), a1, a2, a3, a4, a5⟩
theorem TwoR.sls (h : TwoR w L H A c A' c' n m f g) : ∃ lo1 hi1 lo2 hi2, Sl w lo1 hi1 1 (.slice A n c) n f ∧ Sl w lo2 hi2 1 (.slice A' m c') m g ∧ L ≤ lo1 ∧ hi1 ≤ H ∧ L ≤ lo2 ∧ hi2 ≤ H := by
  obtain ⟨l1, h1, l2, h2, W1, W2, a1, a2, a3, a4, _⟩ := h
  exact ⟨l1, h1, l2, h2, W1.sl, W2.sl, a1, a2, a3, a4⟩
end
def MpG (w w0 : World) (L H : Nat) (A : Option Addr) (c : Nat) (A' : Option Addr) (c' n m : Nat) (k r : Int) (e : Ending) (w' : World) : Prop :=
  e = .returned (.int .i64 r) ∧ TwoR w' L H A c A' c' n m (mkF 1 k) (mkF 1 (k + (n : Int))) ∧ Chg L H w w' ∧ Up w0 w'
set_option maxRecDepth 100000 in
theorem markProof_gen (A A' : Option Addr) (c c' n m L H : Nat) (f g : Nat → Nat → Value) (k : Int) (w w0 : World) (hs : TwoR w L H A c A' c' n m f g) (hn : n ≤ 1048576) (hm : m ≤ 1048576) (hk : 0 ≤ k) (hk1 : k ≤ 50000000) (hu : Up w0 w) (hlo : w0.heap.size ≤ L) :
    Calls Try.prog 15 #[.agg #[.slice A n c, .slice A' m c'], .int .i64 k] w (MpG w w0 L H A c A' c' n m k (k + (n : Int) + (m : Int))) := by
  obtain ⟨lo1, hi1, lo2, hi2, W1, W2, a1, a2, a3, a4, a5⟩ := hs
  have hh1 : hi1 ≤ w.heap.size := W1.1
  have hh2 : hi2 ≤ w.heap.size := W2.1
  have hup0 : Up w (w.alloc (.cells #[.slice A n c, .slice A' m c'] 26)) := (by repeat (first | with_reducible exact Up.refl _ | with_reducible refine Up.alloc ?_ _ | with_reducible refine Up.drew ?_ | with_reducible refine Up.drewN ?_ _ | (with_reducible refine Up.setCell ?_ (by first | omega | (simp; done) | (simp; omega)) _) | with_reducible assumption | (with_reducible refine Up.trans ?_ (by with_reducible assumption))))
  have q0 : (w.alloc (.cells #[.slice A n c, .slice A' m c'] 26)).cell? ⟨w.heap.size, 1, none⟩ = some (.slice A' m c') := by rw [World.cell?_alloc_mark]; rfl
  have hz : w.heap.size < (w.alloc (.cells #[.slice A n c, .slice A' m c'] 26)).heap.size := by simp
  go_enter Try.func15, Try.ntmps15
  go_wp2_with fail
  (go_at_call 46; (with_reducible refine (markIntS_any _ _ _ _ _ _ _ w0 (W1.up hup0) hn hk (by omega) (hu.trans hup0) (by omega)).mono ?_); rintro e w1 ⟨rfl, hv1, hm1, hb1⟩)
  have q1 := (hm1.2 w.heap.size 1 hz (.inr (by omega))).1.trans q0
  have hl1 : w.heap.size < w1.heap.size := Nat.lt_of_lt_of_le hz hm1.1
  have hs1 := (W2.up hup0).off hm1 (by omega)
  clear q0
  go_wp2_with fail
  (go_at_call 46; (with_reducible refine (markIntS_any _ _ _ _ _ _ _ w0 hs1 hm (by omega) (by omega) hb1 (by omega)).mono ?_); rintro e w2 ⟨rfl, hv2, hm2, hb2⟩)
  have hv3 := hv1.off hm2 (by omega)
  have hC := Chg.of_up hup0 ((hm1.wide a1 a2).trans (hm2.wide a3 a4))
  go_wp2
  go_ret
  exact ⟨rfl, ⟨lo1, hi1, lo2, hi2, hv3, hv2, a1, a2, a3, a4, a5⟩, hC, hb2⟩
theorem heldProof_gen (A A' : Option Addr) (c c' n m L H : Nat) (k : Int) (w : World) (hs : TwoR w L H A c A' c' n m (mkF 1 k) (mkF 1 (k + (n : Int)))) (hn : n ≤ 1048576) (hm : m ≤ 1048576) (hk : 0 ≤ k) (hk1 : k ≤ 50000000) :
    Calls Try.prog 16 #[.agg #[.slice A n c, .slice A' m c'], .int .i64 k] w fun e w' => e = .returned (.int .i64 (k + (n : Int) + (m : Int))) ∧ Up w w' := by
  obtain ⟨lo1, hi1, lo2, hi2, W1, W2, _⟩ := hs
  have hup0 : Up w (w.alloc (.cells #[.slice A n c, .slice A' m c'] 26)) := (by repeat (first | with_reducible exact Up.refl _ | with_reducible refine Up.alloc ?_ _ | with_reducible refine Up.drew ?_ | with_reducible refine Up.drewN ?_ _ | (with_reducible refine Up.setCell ?_ (by first | omega | (simp; done) | (simp; omega)) _) | with_reducible assumption | (with_reducible refine Up.trans ?_ (by with_reducible assumption))))
  have e1 : ¬ (k + (n : Int) < 0) := by omega
  have e2 : ¬ (k + (n : Int) + (m : Int) < 0) := by omega
  have S1 := W1.sl.up hup0
  have S2 := W2.sl.up hup0
  go_enter Try.func16, Try.ntmps16
  go_wp2_with fail
  (go_at_call 47; (with_reducible refine (heldIntS_any _ _ _ _ _ _ S1 hn hk (by omega)).mono ?_); rintro e wx ⟨rfl, rfl⟩)
  go_wp2_with fail
  (go_at_call 47; (with_reducible refine (heldIntS_any _ _ _ _ _ _ S2 hm (by omega) (by omega)).mono ?_); rintro e wx ⟨rfl, rfl⟩)
  go_wp2
  go_ret
  exact ⟨rfl, (by repeat (first | with_reducible exact Up.refl _ | with_reducible refine Up.alloc ?_ _ | with_reducible refine Up.drew ?_ | with_reducible refine Up.drewN ?_ _ | (with_reducible refine Up.setCell ?_ (by first | omega | (simp; done) | (simp; omega)) _) | with_reducible assumption | (with_reducible refine Up.trans ?_ (by with_reducible assumption))))⟩
theorem eqProof_two (A A' B B' : Option Addr) (c c' d d' n m L H L2 H2 : Nat) (P F : Nat → Nat → Int) (w : World) (hs : TwoR w L H A c A' c' n m (intF P) (intF F)) (ht : TwoR w L2 H2 B d B' d' n m (intF P) (intF F)) (hn : n ≤ 1048576) (hm : m ≤ 1048576) :
    Calls Try.prog 12 #[.agg #[.slice A n c, .slice A' m c'], .agg #[.slice B n d, .slice B' m d']] w fun e w' => e = .returned (.bool true) ∧ Up w w' := by
  obtain ⟨_, _, _, _, W1, W2, _⟩ := hs
  obtain ⟨_, _, _, _, V1, V2, _⟩ := ht
  exact eqProof_same _ _ _ _ _ _ _ _ _ _ _ _ _ _ _ _ _ W1.sl W2.sl V1.sl V2.sl hn hm
end Go.Proofs.Ytlpbmdoggcclpaa
