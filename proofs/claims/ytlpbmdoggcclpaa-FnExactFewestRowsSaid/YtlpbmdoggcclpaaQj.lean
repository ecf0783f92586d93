/- The walk of the program's FewestRows: a range over an iterator. No condition. -/
import Derived.Test.YtlpbmdoggcclpaaQi
import Derived.Shelf.Abstract
namespace Go.Proofs.Ytlpbmdoggcclpaa
open Go.RowKit Go.Shelf
set_option linter.unusedVariables false
attribute [local go_sem] Oper.semAt_some
theorem Up.put {l : Nat} {w a : World} (h : Up w a) (o : Obj) (hl : w.heap.size ≤ l) : Up w (a.putObj l o) :=
  ⟨h.os, h.tape, h.output, by have := h.size; simpa using this, fun k hk => (World.putObj_heap_other (by omega)).trans (h.block k hk)⟩
/-- From w on nothing old has turned; of what lay at the loop's start, block c alone. -/
def IB (w w1 : World) (c : Nat) (W : World) : Prop := Up w W ∧ w1.heap.size ≤ W.heap.size ∧ ∀ b, b < w1.heap.size → b ≠ c → W.heap[b]? = w1.heap[b]?
theorem IB.up {w w1 : World} {c : Nat} {W W' : World} (h : IB w w1 c W) (hu : Up W W') : IB w w1 c W' :=
  ⟨h.1.trans hu, Nat.le_trans h.2.1 hu.size, fun b hb hc => (Below.block hu b (Nat.lt_of_lt_of_le hb h.2.1)).trans (h.2.2 b hb hc)⟩
theorem IB.put {w w1 : World} {c l : Nat} {W : World} (h : IB w w1 c W) (o : Obj) (hw : w.heap.size ≤ w1.heap.size) (hl : w1.heap.size ≤ l) : IB w w1 c (W.putObj l o) :=
  ⟨h.1.put o (by omega), by have := h.2.1; simpa using this, fun b hb hc => (World.putObj_heap_other (by omega)).trans (h.2.2 b hb hc)⟩
theorem IB.set {w w1 : World} {c o : Nat} {W : World} (h : IB w w1 c W) (hc : w.heap.size ≤ c) (u : Value) : IB w w1 c (W.setCell ⟨c, o, none⟩ u) :=
  ⟨h.1.setCell (p := ⟨c, o, none⟩) hc u, by have := h.2.1; simpa [World.setCell] using this, fun b hb hne => by
    have := h.2.2 b hb hne
    rw [← this]
    simp only [World.setCell, Array.getElem?_modify]
    rw [if_neg (fun e => hne e.symm)]⟩
theorem KL.refl (l : Nat) (W : World) : KL l W W := ⟨Nat.le_refl _, fun _ _ => rfl⟩
theorem KL.trans {l : Nat} {a b c : World} (h : KL l a b) (k : KL l b c) : KL l a c := ⟨Nat.le_trans h.1 k.1, fun x hx => (k.2 x hx).trans (h.2 x hx)⟩
theorem KL.set {l c o : Nat} {W : World} (hc : c + 1 < l) (u : Value) : KL l W (W.setCell ⟨c, o, none⟩ u) :=
  ⟨by simp [World.setCell], fun b hb => by
    simp only [World.setCell, Array.getElem?_modify]
    rw [if_neg (by omega)]⟩
def VqP (B k : Nat) (R : Nat → Nat → Int) (q : Q4) (W : World) (v : Value) : Prop :=
  okq k R q = true ∧ ∃ A c A' c' L H, v = .agg #[.slice A (mq k R q) c, .slice A' (mq k R q) c'] ∧ TwoR W L H A c A' c' (mq k R q) (mq k R q) (intF (poP R (qL q))) (intF (poQ R (qL q))) ∧ B < L
def frN (k : Nat) (R : Nat → Nat → Int) (s : List Q4) : Nat := (frL k R s).foldl frF 0
theorem frN_f {k : Nat} {R : Nat → Nat → Int} {q : Q4} (h : okq k R q = false) (s : List Q4) : frN k R (s ++ [q]) = frN k R s := by rw [frN, frL_f h]; rfl
theorem frN_t {k : Nat} {R : Nat → Nat → Int} {q : Q4} (h : okq k R q = true) (s : List Q4) : frN k R (s ++ [q]) = frF (frN k R s) (mq k R q) := by rw [frN, frL_t h, List.foldl_append]; rfl
theorem frN_all {k : Nat} {R : Nat → Nat → Int} {s : List Q4} (h : allQ k R s) : frN k R s = frV k R := by
  rcases h with ⟨h1, h2, rfl⟩ | ⟨h1, rfl⟩
  · rw [frV, if_pos h1]; rfl
  · rw [frV]
    split
    · rename_i hk
      rw [frL_none (fun h => h1 ⟨hk, h⟩)]; rfl
    · rfl
/-- The variable 'least' lies in block w.heap.size. -/
def IFr (w w1 : World) (k : Nat) (R : Nat → Nat → Int) (s : List Q4) (W : World) : Prop :=
  IB w w1 w.heap.size W ∧ W.cell? ⟨w.heap.size, 0, none⟩ = some (.int .i64 (frN k R s : Int)) ∧ W.frozen? ⟨w.heap.size, 0, none⟩ = false
theorem IFr.up {w w1 : World} {k : Nat} {R : Nat → Nat → Int} {s : List Q4} {W W' : World} (h : IFr w w1 k R s W) (hu : Up W W') : IFr w w1 k R s W' := by
  have hl := cell_lt h.2.1
  exact ⟨h.1.up hu, (hu.cells.1 _ _ hl).trans h.2.1, (hu.cells.2 _ _ hl).trans h.2.2⟩
theorem IFr.put {w w1 : World} {k l : Nat} {R : Nat → Nat → Int} {s : List Q4} {W : World} (h : IFr w w1 k R s W) (o : Obj) (hw : w.heap.size < w1.heap.size) (hl : w1.heap.size ≤ l) : IFr w w1 k R s (W.putObj l o) := by
  have e : (W.putObj l o).heap[w.heap.size]? = W.heap[w.heap.size]? := World.putObj_heap_other (by omega)
  exact ⟨h.1.put o (by omega) hl, (World.cell?_of_block e).trans h.2.1, (World.frozen?_of_block e).trans h.2.2⟩
theorem proofsOf_any (A : Option Addr) (n c : Nat) (w : World) : Calls Try.prog 43 #[.slice A n c] w fun e w' => e = .returned (.func (.func 67) #[] #[.pointer (some ⟨w.heap.size, 0, none⟩)]) ∧ w' = w.alloc (.cells #[.slice A n c] 29) := by
  go_enter Try.func43, Try.ntmps43
  go_wp2
  go_ret
  exact ⟨rfl, rfl⟩
set_option maxHeartbeats 8000000 in
set_option maxRecDepth 100000 in
theorem FewestRows_any (u : Value) (k lo hi : Nat) (R : Nat → Nat → Int) (w : World) (hs : Sl w lo hi 4 u k (intF R)) (hkk1 : k ≤ 1048576) :
    Calls Try.prog 18 #[u] w fun e w' => e = .returned (.int .i64 (frV k R : Int)) ∧ Up w w' := by
  obtain ⟨Au, cu, rfl⟩ := hs.form'
  refine (callsIn_wide (n := 3)).1 ?_
  refine callsIn_of_wp_marks Try.func18 rfl trivial ?_ rfl
  simp only [Try.ntmps18, List.size_toArray, List.length_cons, List.length_nil, Nat.reduceAdd, Nat.reduceSub, Array.replicate_succ, Array.replicate_zero, List.push_toArray, List.append_toArray, List.nil_append, List.cons_append]
  gi_wp2_with (refine ⟨trivial, ?_⟩; gi_at_call 43; refine (callsIn_wide.2 (proofsOf_any _ _ _ _)).mono ?_; rintro e w' ⟨rfl, rfl⟩)
  obtain ⟨w1, hw1⟩ : ∃ w1, (w.alloc (.cells #[.int .i64 0] 3)).alloc (.cells #[.slice Au k cu] 29) = w1 := ⟨_, rfl⟩
  have hz1 : w1.heap.size = w.heap.size + 2 := by rw [← hw1]; simp
  have hu1 : Up w w1 := by rw [← hw1]; exact ((Up.refl w).alloc _).alloc _
  have hb0 : w1.cell? ⟨w.heap.size, 0, none⟩ = some (.int .i64 0) := by rw [← hw1, World.cell?_alloc_lt _ _ _ (by simp), World.cell?_alloc_mark]; rfl
  have hf0 : w1.frozen? ⟨w.heap.size, 0, none⟩ = false := by
    have hbk : w1.heap[w.heap.size]? = some (.cells #[.int .i64 0] 3 (0, 0)) := by rw [← hw1]; exact (Below.heap_alloc _ _ _ (by simp)).trans (heap_alloc_new w _)
    simp only [World.frozen?, hbk]; simp
  have hbx : w1.cell? ⟨w.heap.size + 1, 0, none⟩ = some (.slice Au k cu) := by rw [← hw1, show w.heap.size + 1 = (w.alloc (.cells #[.int .i64 0] 3)).heap.size from by simp, World.cell?_alloc_mark]; rfl
  rw [hw1]
  refine rangeF rfl (by omega) (gf := 67) (lb := #[.pointer (some ⟨w.heap.size + 1, 0, none⟩)]) rfl trivial (enters_of Try.func67 (by kernel_rfl) rfl)
    (IFr w w1 k R) (fun _ => False) (fun s W W' h hu => h.up hu) (fun s W l o hl h => h.put o (by omega) hl) (fun _ _ _ _ _ _ h => h.elim)
    ⟨⟨hu1, Nat.le_refl _, fun _ _ _ => rfl⟩, hb0, hf0⟩ (VqP (w.heap.size + 1) k R) (fun s q => k ≤ 20 ∧ ∃ rest, s ++ q :: rest = quads k) (fun q => okq k R q = false) (allQ k R) (fun s q W hq h => ⟨h.1, by rw [frN_f hq]; exact h.2.1, h.2.2⟩)
    ?hit rfl ?round ?done ?stop
  case hit =>
    intro l J Jx W hJI hJup hJf hJy h0
    refine proofsOf1_in _ (by omega) l (w.heap.size + 1) (.slice Au k cu) k lo hi R hkk1 J Jx W (by have := (hJI _ _ h0).1.2.1; omega) (fun s W h => ?_) hJup hJf (fun s q W A c A' c' L H hj hq ht hbl hr => hJy s q W _ hj hr ⟨hq, A, c, A', c', L, H, rfl, ht, by omega⟩) h0
    have hI := hJI _ _ h
    exact ⟨(World.cell?_of_block (hI.1.2.2 (w.heap.size + 1) (by omega) (by omega))).trans hbx, hs.up hI.1.1⟩
  case round =>
    intro l s q W v hl hlt hI hnx hv
    obtain ⟨hq, A, c, A', c', L, H, rfl, ht, hBL⟩ := hv
    gi_wp2
    refine ⟨Up.alloc (Up.refl W) _, fun W2 hI2 hC hsz => ?_⟩
    have e0 : W2.cell? ⟨W.heap.size, 0, none⟩ = some (.slice A (mq k R q) c) := (hC.2 _ 0 (by simp) (.inr (Nat.zero_le _))).1.trans (by rw [World.cell?_alloc_mark]; rfl)
    have hM := mq_le k R q
    have hT := frN_t hq s
    have hz2 := hI.1.2.1
    obtain ⟨hIB, hc0, hfz⟩ := hI2
    have hset := World.cell?_setCell_same' W2 ⟨w.heap.size, 0, none⟩ (.int .i64 (mq k R q : Int)) (by rw [hc0]; rfl)
    have hKs := KL.set (l := l) (c := w.heap.size) (o := 0) (W := W2) (by omega) (.int .i64 (mq k R q : Int))
    have hIs := hIB.set (o := 0) (Nat.le_refl _) (.int .i64 (mq k R q : Int))
    generalize mq k R q = M at *
    generalize frN k R s = N at *
    have HT := Lib.hid hT
    clear hT hC hnx ht hI
    by_cases h0 : N = 0
    · subst h0
      gi_wp2
      exact ⟨hKs, hIs, by rw [HT.out, frF, if_pos (.inl rfl)]; exact hset, by rw [World.frozen?_setCell]; exact hfz⟩
    · have hz : ((N : Int) == 0) = false := by rw [beq_eq_false_iff_ne]; omega
      by_cases hm : M < N
      · have hm2 : (M : Int) < (N : Int) := by omega
        gi_wp2
        exact ⟨hKs, hIs, by rw [HT.out, frF, if_pos (.inr hm)]; exact hset, by rw [World.frozen?_setCell]; exact hfz⟩
      · have hm2 : ¬ (M : Int) < (N : Int) := by omega
        gi_wp2
        exact ⟨KL.refl _ _, hIB, by rw [HT.out, frF, if_neg (by omega)]; exact hc0, hfz⟩
  case done =>
    intro D s W hD hS hI hK
    have hcell := hI.2.1
    rw [frN_all hS] at hcell
    gi_wp2
    refine ⟨by simp, .inl ⟨_, _, rfl, run_takeDeferred hK, ?_⟩⟩
    exact ⟨_, results_tmp rfl _ _ _, rfl, hI.1.1.put _ (by omega)⟩
  case stop =>
    intro D W _ h _
    exact h.elim
theorem chg_putD {W : World} {l : Nat} {d : Option (List Deferred)} {d' : Option (List Deferred)} (h : W.heap[l]? = some (.deferred d)) : Chg 0 0 W (W.putObj l (.deferred d')) := by
  have hl : l < W.heap.size := (Array.getElem?_eq_some_iff.1 h).1
  refine ⟨by simp, fun b o hb _ => ?_⟩
  by_cases e : b = l
  · subst e
    have h2 : (W.putObj b (.deferred d')).heap[b]? = some (.deferred d') := World.putObj_heap_same hl
    constructor
    · simp only [World.cell?, h, h2]
    · simp only [World.frozen?, h, h2]
  · have h2 : (W.putObj l (.deferred d')).heap[b]? = W.heap[b]? := World.putObj_heap_other e
    constructor
    · simp only [World.cell?, h2]
    · simp only [World.frozen?, h2]
theorem fp_all {k : Nat} {R : Nat → Nat → Int} {s : List Q4} (h : allQ k R s) (hf : ∀ x ∈ s, okq k R x = false) : fpO k R = none := by
  rcases h with ⟨h1, h2, rfl⟩ | ⟨h1, rfl⟩
  · exact fp_miss hf
  · by_cases hk : k ≤ 20
    · refine fp_miss fun x _ => ?_
      cases hx : okq k R x with
      | false => rfl
      | true => exact absurd ⟨hk, okq_rows hx⟩ h1
    · rw [fpO, if_neg hk]
/-- The first proof lies in the result's block. -/
def FnX (w : World) (k : Nat) (R : Nat → Nat → Int) (W : World) : Prop :=
  ∃ (q : Q4) (A : Option Addr) (c : Nat) (A' : Option Addr) (c' L H : Nat), fpO k R = some q ∧ Up w W ∧ w.heap.size + 3 ≤ W.heap.size ∧ W.cell? ⟨w.heap.size, 0, none⟩ = some (.slice A (mq k R q) c) ∧ W.cell? ⟨w.heap.size, 1, none⟩ = some (.slice A' (mq k R q) c') ∧ W.cell? ⟨w.heap.size + 1, 0, none⟩ = some (.bool true) ∧
    TwoR W L H A c A' c' (mq k R q) (mq k R q) (intF (poP R (qL q))) (intF (poQ R (qL q))) ∧ w.heap.size ≤ L
theorem FnX.chg {w W W' : World} {k : Nat} {R : Nat → Nat → Int} (h : FnX w k R W) (hc : Chg 0 0 W W') (hu : Up w W') : FnX w k R W' := by
  obtain ⟨q, A, c, A', c', L, H, h1, h2, h3, h4, h5, h6, h7, h8⟩ := h
  have e := fun b o (hb : b < W.heap.size) => (hc.2 b o hb (.inr (Nat.zero_le _))).1
  exact ⟨q, A, c, A', c', L, H, h1, hu, Nat.le_trans h3 hc.1, (e _ _ (by omega)).trans h4, (e _ _ (by omega)).trans h5, (e _ _ (by omega)).trans h6, h7.off hc (.inr (Nat.zero_le _)), h8⟩
set_option maxHeartbeats 8000000 in
set_option maxRecDepth 100000 in
theorem FindProof_any (u : Value) (k lo hi : Nat) (R : Nat → Nat → Int) (w : World) (hs : Sl w lo hi 4 u k (intF R)) (hkk1 : k ≤ 1048576) :
    Calls Try.prog 11 #[u] w (PrG w (fpM k R) (fpM k R) (intF (fpP k R)) (intF (fpF k R)) (fpB k R)) := by
  obtain ⟨Au, cu, rfl⟩ := hs.form'
  refine (callsIn_wide (n := 3)).1 ?_
  refine callsIn_of_wp_marks Try.func11 rfl trivial ?_ rfl
  simp only [Try.ntmps11, List.size_toArray, List.length_cons, List.length_nil, Nat.reduceAdd, Nat.reduceSub, Array.replicate_succ, Array.replicate_zero, List.push_toArray, List.append_toArray, List.nil_append, List.cons_append]
  gi_wp2_with (refine ⟨trivial, ?_⟩; gi_at_call 43; refine (callsIn_wide.2 (proofsOf_any _ _ _ _)).mono ?_; rintro e w' ⟨rfl, rfl⟩)
  obtain ⟨w1, hw1⟩ : ∃ w1, ((w.alloc (.cells #[.slice none 0 0, .slice none 0 0] 26)).alloc (.cells #[.bool false] 4)).alloc (.cells #[.slice Au k cu] 29) = w1 := ⟨_, rfl⟩
  have hz1 : w1.heap.size = w.heap.size + 3 := by rw [← hw1]; simp
  have hu1 : Up w w1 := by rw [← hw1]; exact (((Up.refl w).alloc _).alloc _).alloc _
  have hb0 : w1.heap[w.heap.size]? = some (.cells #[.slice none 0 0, .slice none 0 0] 26 (0, 0)) := by rw [← hw1]; exact (Below.heap_alloc _ _ _ (by simp; omega)).trans ((Below.heap_alloc _ _ _ (by simp)).trans (heap_alloc_new w _))
  have hb1 : w1.heap[w.heap.size + 1]? = some (.cells #[.bool false] 4 (0, 0)) := by
    rw [← hw1]
    have := heap_alloc_new (w.alloc (.cells #[.slice none 0 0, .slice none 0 0] 26)) (.cells #[.bool false] 4)
    simp only [World.size_alloc] at this
    exact (Below.heap_alloc _ _ _ (by simp)).trans this
  have hbx : w1.cell? ⟨w.heap.size + 2, 0, none⟩ = some (.slice Au k cu) := by rw [← hw1, show w.heap.size + 2 = ((w.alloc (.cells #[.slice none 0 0, .slice none 0 0] 26)).alloc (.cells #[.bool false] 4)).heap.size from by simp, World.cell?_alloc_mark]; rfl
  rw [hw1]
  refine rangeF rfl (by omega) (gf := 67) (lb := #[.pointer (some ⟨w.heap.size + 2, 0, none⟩)]) rfl trivial (enters_of Try.func67 (by kernel_rfl) rfl)
    (fun s W => Up w1 W ∧ ∀ x ∈ s, okq k R x = false) (FnX w k R) (fun s W W' h hu => ⟨h.1.trans hu, h.2⟩) (fun s W l o hl h => ⟨h.1.put o hl, h.2⟩) (fun W l r r' hl hr h => h.chg (chg_put hr) (by obtain ⟨_, _, _, _, _, _, _, _, h2, _⟩ := h; exact h2.put _ (by omega)))
    ⟨Up.refl _, by simp⟩ (VqP (w.heap.size + 1) k R) (fun s q => k ≤ 20 ∧ ∃ rest, s ++ q :: rest = quads k) (fun q => okq k R q = false) (allQ k R) (fun s q W hq h => ⟨h.1, fun x hx => by
      rw [List.mem_append] at hx
      rcases hx with hx | hx
      · exact h.2 x hx
      · simp at hx; rw [hx]; exact hq⟩)
    ?hit rfl ?round ?done ?stop
  case hit =>
    intro l J Jx W hJI hJup hJf hJy h0
    refine proofsOf1_in _ (by omega) l (w.heap.size + 2) (.slice Au k cu) k lo hi R hkk1 J Jx W (by have := (hJI _ _ h0).1.size; omega) (fun s W h => ?_) hJup hJf (fun s q W A c A' c' L H hj hq ht hbl hr => hJy s q W _ hj hr ⟨hq, A, c, A', c', L, H, rfl, ht, by omega⟩) h0
    have hI := hJI _ _ h
    exact ⟨(hI.1.cells.1 _ _ (by omega)).trans hbx, (hs.up hu1).up hI.1⟩
  case round =>
    intro l s q W v hl hlt hI hnx hv
    obtain ⟨hq, A, c, A', c', L, H, rfl, ht, hBL⟩ := hv
    gi_wp2
    refine ⟨Up.alloc (Up.refl W) _, fun W2 hI2 hC hsz => ?_⟩
    have e0 : W2.cell? ⟨W.heap.size, 0, none⟩ = some (.slice A (mq k R q) c) := (hC.2 _ 0 (by simp) (.inr (Nat.zero_le _))).1.trans (by rw [World.cell?_alloc_mark]; rfl)
    have e1 : W2.cell? ⟨W.heap.size, 1, none⟩ = some (.slice A' (mq k R q) c') := (hC.2 _ 1 (by simp) (.inr (Nat.zero_le _))).1.trans (by rw [World.cell?_alloc_mark]; rfl)
    have hz2 := hI2.1.size
    have k0 : W2.heap[w.heap.size]? = some (.cells #[.slice none 0 0, .slice none 0 0] 26 (0, 0)) := (Below.block hI2.1 _ (by omega)).trans hb0
    have k1 : W2.heap[w.heap.size + 1]? = some (.cells #[.bool false] 4 (0, 0)) := (Below.block hI2.1 _ (by omega)).trans hb1
    have c0 : W2.cell? ⟨w.heap.size, 0, none⟩ = some (.slice none 0 0) := by simp only [World.cell?, k0]; rfl
    have c1 : W2.cell? ⟨w.heap.size, 1, none⟩ = some (.slice none 0 0) := by simp only [World.cell?, k0]; rfl
    have d0 : W2.cell? ⟨w.heap.size + 1, 0, none⟩ = some (.bool false) := by simp only [World.cell?, k1]; rfl
    have f0 : ∀ x, W2.frozen? ⟨w.heap.size, x, none⟩ = false := fun x => by simp only [World.frozen?, k0]; simp
    have f1 : ∀ x, W2.frozen? ⟨w.heap.size + 1, x, none⟩ = false := fun x => by simp only [World.frozen?, k1]; simp
    obtain ⟨hk20, rest, hrest⟩ := hnx
    have hO := fp_hit hk20 hrest hI.2 hq
    have hT2 := (ht.up (Up.alloc (Up.refl W) (.cells #[.slice A (mq k R q) c, .slice A' (mq k R q) c'] 26))).off hC (.inr (Nat.zero_le _))
    have hU2 := hu1.trans hI2.1
    obtain ⟨W3, hW3⟩ : ∃ W3, ((W2.setCell ⟨w.heap.size, 0, none⟩ (.slice A (mq k R q) c)).setCell ⟨w.heap.size, 1, none⟩ (.slice A' (mq k R q) c')).setCell ⟨w.heap.size + 1, 0, none⟩ (.bool true) = W3 := ⟨_, rfl⟩
    have hU3 : Up w W3 := by rw [← hW3]; exact ((hU2.setCell (p := ⟨w.heap.size, 0, none⟩) (Nat.le_refl _) _).setCell (p := ⟨w.heap.size, 1, none⟩) (Nat.le_refl _) _).setCell (p := ⟨w.heap.size + 1, 0, none⟩) (by simp) _
    have hC3 : Chg w.heap.size (w.heap.size + 2) W2 W3 := by rw [← hW3]; exact (((Chg.refl _ _ W2).setCell (p := ⟨w.heap.size, 0, none⟩) (Nat.le_refl _) (by simp) _).setCell (p := ⟨w.heap.size, 1, none⟩) (Nat.le_refl _) (by simp) _).setCell (p := ⟨w.heap.size + 1, 0, none⟩) (by simp) (by simp) _
    have hK3 : KL l W2 W3 := by rw [← hW3]; exact ((KL.set (by omega) _).trans (KL.set (by omega) _)).trans (KL.set (by omega) _)
    have x0 : W3.cell? ⟨w.heap.size, 0, none⟩ = some (.slice A (mq k R q) c) := by
      rw [← hW3, World.cell?_setCell_other _ _ _ _ (by simp), World.cell?_setCell_other _ _ _ _ (by simp)]
      exact World.cell?_setCell_same' _ _ _ (by rw [c0]; rfl)
    have x1 : W3.cell? ⟨w.heap.size, 1, none⟩ = some (.slice A' (mq k R q) c') := by
      rw [← hW3, World.cell?_setCell_other _ _ _ _ (by simp)]
      exact World.cell?_setCell_same' _ _ _ (by rw [World.cell?_setCell_other _ _ _ _ (by simp), c1]; rfl)
    have x2 : W3.cell? ⟨w.heap.size + 1, 0, none⟩ = some (.bool true) := by
      rw [← hW3]
      exact World.cell?_setCell_same' _ _ _ (by rw [World.cell?_setCell_other _ _ _ _ (by simp), World.cell?_setCell_other _ _ _ _ (by simp), d0]; rfl)
    have hX3 : FnX w k R W3 := ⟨q, A, c, A', c', L, H, hO, hU3, by have := hC3.1; omega, x0, x1, x2, hT2.off hC3 (.inr (by omega)), by omega⟩
    clear x0 x1 x2 hC3 hU3 hT2 hO
    generalize mq k R q = M at *
    gi_wp2
    (try rw [hW3])
    exact ⟨hK3, hX3⟩
  case done =>
    intro D s W hD hS hI hK
    have hO := fp_all hS hI.2
    have hz2 := hI.1.size
    have k0 : W.heap[w.heap.size]? = some (.cells #[.slice none 0 0, .slice none 0 0] 26 (0, 0)) := (Below.block hI.1 _ (by omega)).trans hb0
    have k1 : W.heap[w.heap.size + 1]? = some (.cells #[.bool false] 4 (0, 0)) := (Below.block hI.1 _ (by omega)).trans hb1
    have c0 : W.cell? ⟨w.heap.size, 0, none⟩ = some (.slice none 0 0) := by simp only [World.cell?, k0]; rfl
    have c1 : W.cell? ⟨w.heap.size, 1, none⟩ = some (.slice none 0 0) := by simp only [World.cell?, k0]; rfl
    have d0 : W.cell? ⟨w.heap.size + 1, 0, none⟩ = some (.bool false) := by simp only [World.cell?, k1]; rfl
    have f0 : ∀ x, W.frozen? ⟨w.heap.size, x, none⟩ = false := fun x => by simp only [World.frozen?, k0]; simp
    have f1 : ∀ x, W.frozen? ⟨w.heap.size + 1, x, none⟩ = false := fun x => by simp only [World.frozen?, k1]; simp
    have hU := hu1.trans hI.1
    obtain ⟨W3, hW3⟩ : ∃ W3, ((W.setCell ⟨w.heap.size, 0, none⟩ (.slice none 0 0)).setCell ⟨w.heap.size, 1, none⟩ (.slice none 0 0)).setCell ⟨w.heap.size + 1, 0, none⟩ (.bool false) = W3 := ⟨_, rfl⟩
    have hU3 : Up w W3 := by rw [← hW3]; exact ((hU.setCell (p := ⟨w.heap.size, 0, none⟩) (Nat.le_refl _) _).setCell (p := ⟨w.heap.size, 1, none⟩) (Nat.le_refl _) _).setCell (p := ⟨w.heap.size + 1, 0, none⟩) (by simp) _
    have hK3 : W3.heap[D]? = some (.deferred (some [])) := by
      rw [← hW3]
      have hk : KL D W (((W.setCell ⟨w.heap.size, 0, none⟩ (.slice none 0 0)).setCell ⟨w.heap.size, 1, none⟩ (.slice none 0 0)).setCell ⟨w.heap.size + 1, 0, none⟩ (.bool false)) := ((KL.set (by omega) _).trans (KL.set (by omega) _)).trans (KL.set (by omega) _)
      exact (hk.2 D (.inl rfl)).trans hK
    have x0 : W3.cell? ⟨w.heap.size, 0, none⟩ = some (.slice none 0 0) := by
      rw [← hW3, World.cell?_setCell_other _ _ _ _ (by simp), World.cell?_setCell_other _ _ _ _ (by simp)]
      exact World.cell?_setCell_same' _ _ _ (by rw [c0]; rfl)
    have x1 : W3.cell? ⟨w.heap.size, 1, none⟩ = some (.slice none 0 0) := by
      rw [← hW3, World.cell?_setCell_other _ _ _ _ (by simp)]
      exact World.cell?_setCell_same' _ _ _ (by rw [World.cell?_setCell_other _ _ _ _ (by simp), c1]; rfl)
    have x2 : W3.cell? ⟨w.heap.size + 1, 0, none⟩ = some (.bool false) := by
      rw [← hW3]
      exact World.cell?_setCell_same' _ _ _ (by rw [World.cell?_setCell_other _ _ _ _ (by simp), World.cell?_setCell_other _ _ _ _ (by simp), d0]; rfl)
    have hc := chg_putD (d' := none) hK3
    have hz3 := hU3.size
    have hlD : D < W3.heap.size := (Array.getElem?_eq_some_iff.1 hK3).1
    have y0 := (hc.2 w.heap.size 0 (by omega) (.inr (Nat.zero_le _))).1.trans x0
    have y1 := (hc.2 w.heap.size 1 (by omega) (.inr (Nat.zero_le _))).1.trans x1
    have y2 := (hc.2 (w.heap.size + 1) 0 (by omega) (.inr (Nat.zero_le _))).1.trans x2
    have hU4 : Up w (W3.putObj D (.deferred none)) := hU3.put _ (by omega)
    obtain ⟨e1, e2, e3, e4⟩ := fp_none hO
    gi_wp2
    (try rw [hW3])
    refine ⟨by simp, .inl ⟨_, _, rfl, run_takeDeferred hK3, ?_⟩⟩
    clear hW3 x0 x1 x2 hc
    generalize W3.putObj D (.deferred none) = W4 at *
    refine ⟨.tuple #[.agg #[.slice none 0 0, .slice none 0 0], .bool false], ?_, ?_⟩
    · simp only [results]; go_simp; try simp
    · rw [e1, e2, e3, e4]
      exact PrG.zero _ _ hU4
  case stop =>
    intro D W hD hX hK
    obtain ⟨q, A, c, A', c', L, H, h1, h2, h3, h4, h5, h6, h7, h8⟩ := hX
    have hc := chg_putD (d' := none) hK
    have y0 := (hc.2 w.heap.size 0 (by omega) (.inr (Nat.zero_le _))).1.trans h4
    have y1 := (hc.2 w.heap.size 1 (by omega) (.inr (Nat.zero_le _))).1.trans h5
    have y2 := (hc.2 (w.heap.size + 1) 0 (by omega) (.inr (Nat.zero_le _))).1.trans h6
    have hU4 : Up w (W.putObj D (.deferred none)) := h2.put _ (by omega)
    have hT4 := h7.off hc (.inr (Nat.zero_le _))
    obtain ⟨e1, e2, e3, e4⟩ := fp_some h1
    gi_wp2
    refine ⟨by simp, .inl ⟨_, _, rfl, run_takeDeferred hK, ?_⟩⟩
    clear hK hc h4 h5 h6 h7 h2 h3
    generalize W.putObj D (.deferred none) = W4 at *
    refine ⟨.tuple #[.agg #[.slice A (mq k R q) c, .slice A' (mq k R q) c'], .bool true], ?_, ?_⟩
    · generalize mq k R q = M at *
      simp only [results]; go_simp; try simp
    · rw [e1, e2, e3, e4]
      exact PrG.of_two hT4 h8 hU4
end Go.Proofs.Ytlpbmdoggcclpaa
