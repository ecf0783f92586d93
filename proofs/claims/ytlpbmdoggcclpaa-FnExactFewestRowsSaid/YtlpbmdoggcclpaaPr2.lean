/- The walks of marks and of their check on proofs; a proof in a box. No condition. -/
import Derived.Test.YtlpbmdoggcclpaaPr
namespace Go.Proofs.Ytlpbmdoggcclpaa
open Go.RowKit
set_option linter.unusedVariables false
/-- Block b holds a proof: two slices, their rows from lo on, from mid on, below hi. -/
def PB (w : World) (b lo mid hi : Nat) (A : Option Addr) (c : Nat) (A' : Option Addr) (c' n m : Nat) (f g : Nat → Nat → Value) : Prop :=
  w.cell? ⟨b, 0, none⟩ = some (.slice A n c) ∧ w.cell? ⟨b, 1, none⟩ = some (.slice A' m c') ∧ Wr w lo mid 1 (.slice A n c) n f ∧ Wr w mid hi 1 (.slice A' m c') m g ∧ b < w.heap.size ∧ lo ≤ mid ∧ mid ≤ hi
section
variable {w w' : World} {b lo mid hi c c' n m : Nat} {A A' : Option Addr} {f g : Nat → Nat → Value}
theorem PB.up (h : PB w b lo mid hi A c A' c' n m f g) (hu : Up w w') : PB w' b lo mid hi A c A' c' n m f g :=
  ⟨(hu.cells.1 _ _ h.2.2.2.2.1).trans h.1, (hu.cells.1 _ _ h.2.2.2.2.1).trans h.2.1, h.2.2.1.up hu, h.2.2.2.1.up hu, Nat.lt_of_lt_of_le h.2.2.2.2.1 hu.size, h.2.2.2.2.2⟩
theorem PB.off {l2 h2 : Nat} (h : PB w b lo mid hi A c A' c' n m f g) (hc : Chg l2 h2 w w') (hd : hi ≤ l2 ∨ h2 ≤ lo) (hb : b < l2 ∨ h2 ≤ b) : PB w' b lo mid hi A c A' c' n m f g := by
  obtain ⟨q0, q1, s0, s1, hl, k1, k2⟩ := h
  exact ⟨(hc.2 _ _ hl hb).1.trans q0, (hc.2 _ _ hl hb).1.trans q1, s0.off hc (by omega), s1.off hc (by omega), Nat.lt_of_lt_of_le hl hc.1, k1, k2⟩
theorem PB.a0 (h : PB w b lo mid hi A c A' c' n m f g) : w.cell? ⟨b, 0, none⟩ = some (.slice A n c) := h.1
theorem PB.a1 (h : PB w b lo mid hi A c A' c' n m f g) : w.cell? ⟨b, 1, none⟩ = some (.slice A' m c') := h.2.1
theorem PB.s0 (h : PB w b lo mid hi A c A' c' n m f g) : Sl w lo mid 1 (.slice A n c) n f := h.2.2.1.sl
theorem PB.s1 (h : PB w b lo mid hi A c A' c' n m f g) : Sl w mid hi 1 (.slice A' m c') m g := h.2.2.2.1.sl
theorem PB.lt (h : PB w b lo mid hi A c A' c' n m f g) : b < w.heap.size := h.2.2.2.2.1
theorem PB.w0 (h : PB w b lo mid hi A c A' c' n m f g) : Wr w lo mid 1 (.slice A n c) n f := h.2.2.1
theorem PB.w1 (h : PB w b lo mid hi A c A' c' n m f g) : Wr w mid hi 1 (.slice A' m c') m g := h.2.2.2.1
theorem PB.k0 (h : PB w b lo mid hi A c A' c' n m f g) : lo ≤ mid := h.2.2.2.2.2.1
theorem PB.k1 (h : PB w b lo mid hi A c A' c' n m f g) : mid ≤ hi := h.2.2.2.2.2.2
theorem PB.new {t : TypeId} (h0 : Wr w lo mid 1 (.slice A n c) n f) (h1 : Wr w mid hi 1 (.slice A' m c') m g) (k1 : lo ≤ mid) (k2 : mid ≤ hi) : PB (w.alloc (.cells #[.slice A n c, .slice A' m c'] t)) w.heap.size lo mid hi A c A' c' n m f g :=
  ⟨by rw [World.cell?_alloc_mark]; rfl, by rw [World.cell?_alloc_mark]; rfl, h0.up (Up.alloc (Up.refl w) _), h1.up (Up.alloc (Up.refl w) _), by simp, k1, k2⟩
theorem Wr.form {sz : Nat} {v : Value} (h : Wr w lo hi sz v n f) : ∃ A c, v = .slice A n c := by
  obtain ⟨_, A, c, rfl, _⟩ := h
  exact ⟨A, c, rfl⟩
end
/-- What marking a proof ends in. -/
def MpP (w w0 : World) (lo mid hi : Nat) (a b : Value) (n m : Nat) (k r : Int) (e : Ending) (w' : World) : Prop :=
  e = .returned (.int .i64 r) ∧ Wr w' lo mid 1 a n (mkF 1 k) ∧ Wr w' mid hi 1 b m (mkF 1 (k + (n : Int))) ∧ Chg lo hi w w' ∧ Up w0 w'
theorem Chg.wide {l1 h1 l2 h2 : Nat} {a b : World} (h : Chg l1 h1 a b) (hl : l2 ≤ l1) (hh : h1 ≤ h2) : Chg l2 h2 a b := ⟨h.1, fun x o hx hd => h.2 x o hx (by omega)⟩
theorem Chg.of_up {a b c : World} {lo hi : Nat} (hu : Up a b) (h : Chg lo hi b c) : Chg lo hi a c := ⟨Nat.le_trans hu.size h.1, fun x o hx hd => ⟨(h.2 x o (Nat.lt_of_lt_of_le hx hu.size) hd).1.trans (hu.cells.1 x o hx), (h.2 x o (Nat.lt_of_lt_of_le hx hu.size) hd).2.trans (hu.cells.2 x o hx)⟩⟩
set_option maxRecDepth 100000 in
theorem markProof_any (A A' : Option Addr) (c c' n m lo mid hi : Nat) (f g : Nat → Nat → Value) (k : Int) (w w0 : World) (hs : Wr w lo mid 1 (.slice A n c) n f) (hs' : Wr w mid hi 1 (.slice A' m c') m g) (h1 : lo ≤ mid) (h2 : mid ≤ hi) (hn : n ≤ 1048576) (hm : m ≤ 1048576) (hk : 0 ≤ k) (hk1 : k ≤ 50000000) (hu : Up w0 w) (hlo : w0.heap.size ≤ lo) :
    Calls Try.prog 15 #[.agg #[.slice A n c, .slice A' m c'], .int .i64 k] w (MpP w w0 lo mid hi (.slice A n c) (.slice A' m c') n m k (k + (n : Int) + (m : Int))) := by
  have hhi : hi ≤ w.heap.size := hs'.1
  have hup0 : Up w (w.alloc (.cells #[.slice A n c, .slice A' m c'] 26)) := (by repeat (first | with_reducible exact Up.refl _ | with_reducible refine Up.alloc ?_ _ | with_reducible refine Up.drew ?_ | with_reducible refine Up.drewN ?_ _ | (with_reducible refine Up.setCell ?_ (by first | omega | (simp; done) | (simp; omega)) _) | with_reducible assumption | (with_reducible refine Up.trans ?_ (by with_reducible assumption))))
  have q0 : (w.alloc (.cells #[.slice A n c, .slice A' m c'] 26)).cell? ⟨w.heap.size, 1, none⟩ = some (.slice A' m c') := by rw [World.cell?_alloc_mark]; rfl
  have hz : w.heap.size < (w.alloc (.cells #[.slice A n c, .slice A' m c'] 26)).heap.size := by simp
  go_enter Try.func15, Try.ntmps15
  go_wp2_with fail
  (go_at_call 46; (with_reducible refine (markIntS_any _ _ _ _ _ _ _ w0 (hs.up hup0) hn hk (by omega) (hu.trans hup0) hlo).mono ?_); rintro e w1 ⟨rfl, hv1, hm1, hb1⟩)
  have q1 := (hm1.2 w.heap.size 1 hz (.inr (by omega))).1.trans q0
  have hl1 : w.heap.size < w1.heap.size := Nat.lt_of_lt_of_le hz hm1.1
  have hs1 := (hs'.up hup0).off hm1 (.inr (Nat.le_refl _))
  clear q0
  go_wp2_with fail
  (go_at_call 46; (with_reducible refine (markIntS_any _ _ _ _ _ _ _ w0 hs1 hm (by omega) (by omega) hb1 (by omega)).mono ?_); rintro e w2 ⟨rfl, hv2, hm2, hb2⟩)
  have hv3 := hv1.off hm2 (.inl (Nat.le_refl _))
  have hC := Chg.of_up hup0 ((hm1.wide (Nat.le_refl lo) h2).trans (hm2.wide h1 (Nat.le_refl hi)))
  go_wp2
  go_ret
  exact ⟨rfl, hv3, hv2, hC, hb2⟩
set_option maxRecDepth 100000 in
theorem heldProof_any (A A' : Option Addr) (c c' n m lo mid hi : Nat) (k : Int) (w : World) (hs : Sl w lo mid 1 (.slice A n c) n (mkF 1 k)) (hs' : Sl w mid hi 1 (.slice A' m c') m (mkF 1 (k + (n : Int)))) (hn : n ≤ 1048576) (hm : m ≤ 1048576) (hk : 0 ≤ k) (hk1 : k ≤ 50000000) :
    Calls Try.prog 16 #[.agg #[.slice A n c, .slice A' m c'], .int .i64 k] w fun e w' => e = .returned (.int .i64 (k + (n : Int) + (m : Int))) ∧ Up w w' := by
  have hup0 : Up w (w.alloc (.cells #[.slice A n c, .slice A' m c'] 26)) := (by repeat (first | with_reducible exact Up.refl _ | with_reducible refine Up.alloc ?_ _ | with_reducible refine Up.drew ?_ | with_reducible refine Up.drewN ?_ _ | (with_reducible refine Up.setCell ?_ (by first | omega | (simp; done) | (simp; omega)) _) | with_reducible assumption | (with_reducible refine Up.trans ?_ (by with_reducible assumption))))
  have e1 : ¬ (k + (n : Int) < 0) := by omega
  have e2 : ¬ (k + (n : Int) + (m : Int) < 0) := by omega
  go_enter Try.func16, Try.ntmps16
  go_wp2_with fail
  (go_at_call 47; (with_reducible refine (heldIntS_any _ _ _ _ _ _ (hs.up hup0) hn hk (by omega)).mono ?_); rintro e wx ⟨rfl, rfl⟩)
  go_wp2_with fail
  (go_at_call 47; (with_reducible refine (heldIntS_any _ _ _ _ _ _ (hs'.up hup0) hm (by omega) (by omega)).mono ?_); rintro e wx ⟨rfl, rfl⟩)
  go_wp2
  go_ret
  exact ⟨rfl, (by repeat (first | with_reducible exact Up.refl _ | with_reducible refine Up.alloc ?_ _ | with_reducible refine Up.drew ?_ | with_reducible refine Up.drewN ?_ _ | (with_reducible refine Up.setCell ?_ (by first | omega | (simp; done) | (simp; omega)) _) | with_reducible assumption | (with_reducible refine Up.trans ?_ (by with_reducible assumption))))⟩
end Go.Proofs.Ytlpbmdoggcclpaa
