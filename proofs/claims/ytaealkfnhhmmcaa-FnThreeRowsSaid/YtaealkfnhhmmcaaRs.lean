/- What a worker of CornersOf leaves; cornersFrom as a worker's call. No condition. -/
import Derived.Test.YtaealkfnhhmmcaaTl
namespace Go.Proofs.Ytaealkfnhhmmcaa
open Sim Go.Conc Go.ConcN Go.RowKit
set_option linter.unusedVariables false
theorem cell_cells {w : World} {b o : Nat} {cs : Array Value} {e : TypeId} {f : Nat × Nat} (h : w.heap[b]? = some (.cells cs e f)) : w.cell? ⟨b, o, none⟩ = cs[o]? := by simp [World.cell?, h]
theorem cell_heap {w w' : World} {b o : Nat} (h : w'.heap[b]? = w.heap[b]?) : w'.cell? ⟨b, o, none⟩ = w.cell? ⟨b, o, none⟩ := by simp [World.cell?, h]
theorem int_of_vr {ρ : BR} {k : IntKind} {n : Int} {y : Value} (h : VR ρ (.int k n) y) : y = .int k n := by cases h; rfl
theorem vr_dup {ρ : BR} {x y : Value} (h : VR ρ x y) : VR (idS fun c => ∃ b, ρ b c) y y := by
  induction h with
  | bool b => exact .bool b
  | int k n => exact .int k n
  | str s => exact .str s
  | ptr0 => exact .ptr0
  | ptr b c o s h => exact .ptr c c o s ⟨rfl, _, h⟩
  | slice0 n m => exact .slice0 n m
  | slice b c o s n m h => exact .slice c c o s n m ⟨rfl, _, h⟩
  | nilFunc => exact .nilFunc
  | nilIface => exact .nilIface
  | func f => exact .func f
  | agg cs ds h hv ih =>
    refine .agg ds ds rfl fun i x y hx hy => ?_
    rw [hx] at hy
    cases hy
    have hlt : i < cs.size := by have := (Array.getElem?_eq_some_iff.1 hx).1; omega
    exact ih i _ x (Array.getElem?_eq_getElem hlt) hx
  | tuple cs ds h hv ih =>
    refine .tuple ds ds rfl fun i x y hx hy => ?_
    rw [hx] at hy
    cases hy
    have hlt : i < cs.size := by have := (Array.getElem?_eq_some_iff.1 hx).1; omega
    exact ih i _ x (Array.getElem?_eq_getElem hlt) hx
theorem ar_dup {ρ : BR} {cs ds : Array Value} (h : AR ρ cs ds) : AR (idS fun c => ∃ b, ρ b c) ds ds := by
  refine ⟨rfl, fun i x y hx hy => ?_⟩
  rw [hx] at hy
  cases hy
  have hlt : i < cs.size := by have := (Array.getElem?_eq_some_iff.1 hx).1; have := h.1; omega
  exact vr_dup (h.2 i _ x (Array.getElem?_eq_getElem hlt) hx)
theorem or_dup {lk : Prop} {ρ : BR} {x y : Option Obj} (h : OR lk ρ x y) : OR False (idS fun c => ∃ b, ρ b c) y y := by
  rcases h with ⟨cs, ds, e, f, f', h1, h2, h3, h4, h5⟩ | ⟨b, c, o, s, l, h1, h2, h3⟩
  · exact .inl ⟨ds, ds, e, f', f', h2, h2, ar_dup h3, ⟨.inr rfl, fun o a b => ⟨a, b⟩⟩, fun h => h.elim⟩
  · exact .inr ⟨c, c, o, s, l, h2, h2, rfl, _, h3⟩
/-- A slice of integers on the other side. -/
theorem sl_thru {G : Nat} {Lk : Nat → Prop} {ρ : BR} {wv wc : World} {v v' : Value} {n sz : Nat} {f : Nat → Nat → Int} (hw : WR G Lk ρ wv wc) (hv : VR ρ v v') (hs : Sl wv 0 wv.heap.size sz v n (intF f)) (hz : 0 < sz) : Sl wc 0 wc.heap.size sz v' n (intF f) := by
  obtain ⟨h0, A, c, rfl, hc, hx⟩ := hs
  cases hv with
  | slice0 _ _ => exact ⟨Nat.le_refl _, none, c, rfl, hc, fun h => by obtain ⟨b, o, e, _⟩ := hx h; cases e⟩
  | slice b y o s _ _ hb =>
    refine ⟨Nat.le_refl _, _, c, rfl, hc, fun h => ?_⟩
    obtain ⟨b', o', e, _, hlt, hcs⟩ := hx h
    cases e
    rcases hw.obj _ _ hb with ⟨cs, ds, e, f1, f2, h1, h2, h3, _⟩ | ⟨b, c, o, s, l, h1, h2, h3⟩
    · refine ⟨y, _, rfl, Nat.zero_le _, (Array.getElem?_eq_some_iff.1 h2).1, fun i j hi hj => ?_⟩
      have hh := hcs i j hi hj
      rw [cell_cells h1] at hh
      rw [cell_cells h2]
      have hl := (Array.getElem?_eq_some_iff.1 hh).1
      have hl2 : o + (i * sz + j) < ds.size := by have := h3.1; omega
      rw [Array.getElem?_eq_getElem hl2, int_of_vr (h3.2 _ _ _ hh (Array.getElem?_eq_getElem hl2))]
      rfl
    · have hh := hcs 0 0 h hz
      simp [World.cell?, h1] at hh
/-- What a worker leaves: a slice of its list, and blocks that name no others. -/
def ResF (Ls : Nat → List T4) (i : Nat) (v : Value) (K : Nat → Prop) (w : World) : Prop :=
  (∃ Si : Nat → Prop, (∀ b, Si b → K b) ∧ (∀ b, Si b → OR False (idS Si) w.heap[b]? w.heap[b]?) ∧ (∀ b, Si b → (b < Try.prog.globals.size ↔ b < Try.prog.globals.size)) ∧ VR (idS Si) v v) ∧ (∃ A l c, v = .slice A l c) ∧ Sl w 0 w.heap.size 4 v (Ls i).length (thF (Ls i))
theorem resF_slice {Ls : Nat → List T4} : ∀ (i : Nat) (v : Value) (K : Nat → Prop) (w : World), ResF Ls i v K w → ∃ A l c, v = .slice A l c := fun _ _ _ _ h => h.2.1
theorem resF_kn {Ls : Nat → List T4} : ∀ (i : Nat) (v : Value) (K : Nat → Prop) (w w' : World), Kn K w w' → ResF Ls i v K w → ResF Ls i v K w' := by
  rintro i v K w w' hk ⟨⟨Si, h1, h2, h3, h4⟩, hs, hsl⟩
  refine ⟨⟨Si, h1, fun b hb => by rw [hk.keep b (h1 b hb)]; exact h2 b hb, h3, h4⟩, hs, ?_⟩
  obtain ⟨h0, A, c, rfl, hc, hx⟩ := hsl
  refine ⟨Nat.le_refl _, A, c, rfl, hc, fun h => ?_⟩
  obtain ⟨b, o, rfl, hlo, hlt, hcs⟩ := hx h
  have hb : Si b := by cases h4 with | slice _ _ _ _ _ _ h => exact h.2
  exact ⟨b, o, rfl, hlo, Nat.lt_of_lt_of_le hlt hk.size, fun i j hi hj => (cell_heap (hk.keep b (h1 b hb))).trans (hcs i j hi hj)⟩
/-- What a lone call leaves, told of the heap alone. -/
def RhS (L : List T4) (v : Value) (h : Array Obj) : Prop := ∃ wx : World, wx.heap = h ∧ (∃ A l c, v = .slice A l c) ∧ Sl wx 0 wx.heap.size 4 v L.length (thF L)
theorem sl_heap {w w' : World} {sz n : Nat} {v : Value} {f : Nat → Nat → Value} (e : w.heap = w'.heap) (h : Sl w 0 w.heap.size sz v n f) : Sl w' 0 w'.heap.size sz v n f := by
  obtain ⟨h0, A, c, rfl, hc, hx⟩ := h
  refine ⟨Nat.le_refl _, A, c, rfl, hc, fun h => ?_⟩
  obtain ⟨b, o, rfl, hlo, hlt, hcs⟩ := hx h
  exact ⟨b, o, rfl, hlo, by rw [← e]; exact hlt, fun i j hi hj => (cell_heap (by rw [e])).trans (hcs i j hi hj)⟩
theorem resF_of {Ls : Nat → List T4} {j : Nat} : ∀ (K' : Nat → Prop) (ρ : BR) (v v' : Value) (wv' wc' : World) (Lk : Nat → Prop), RhS (Ls j) v wv'.heap → VR ρ v v' → WR Try.prog.globals.size Lk ρ wv' wc' → (∀ x y, ρ x y → K' y) → ResF Ls j v' K' wc' := by
  rintro K' ρ v v' wv' wc' Lk ⟨wx, hx, ⟨A, l, c, rfl⟩, hsl⟩ hv hw hK
  refine ⟨⟨fun y => ∃ x, ρ x y, fun b ⟨x, hb⟩ => hK x b hb, fun b ⟨x, hb⟩ => or_dup (hw.obj x b hb), fun _ _ => Iff.rfl, vr_dup hv⟩, ?_, sl_thru hw hv (sl_heap hx hsl) (by omega)⟩
  cases hv with
  | slice0 _ _ => exact ⟨_, _, _, rfl⟩
  | slice _ _ _ _ _ _ _ => exact ⟨_, _, _, rfl⟩
/-- The rows' block: integers alone. -/
def IntB (w : World) (A : Nat) : Prop := ∃ cs e f, w.heap[A]? = some (.cells cs e f) ∧ ∀ (i : Nat) x, cs[i]? = some x → ∃ k m, x = Value.int k m
theorem intB_ar {ρ : BR} {cs : Array Value} (h : ∀ (i : Nat) x, cs[i]? = some x → ∃ k m, x = Value.int k m) : AR ρ cs cs := by
  refine ⟨rfl, fun i x y hx hy => ?_⟩
  rw [hx] at hy
  cases hy
  obtain ⟨k, m, rfl⟩ := h i x hx
  exact .int k m
set_option maxRecDepth 100000 in
theorem workF {w : World} {Wg C n F Bi Br A o c j : Nat} {R : Nat → Nat → Int} (hj : j < n) (hn : n ≤ 20) (hCW : C ≠ Wg) (hG : Try.prog.globals.size ≤ w.heap.size) (hA : IntB w A) (hsl : Sl w 0 w.heap.size 4 (.slice (some ⟨A, o, none⟩) n c) n (intF R))
    (cF : w.cell? ⟨F, 0, none⟩ = some (.slice (some ⟨C, 0, none⟩) n n)) (cI : w.cell? ⟨Bi, 0, none⟩ = some (.int .i64 j)) (cB : w.cell? ⟨Br, 0, none⟩ = some (.slice (some ⟨A, o, none⟩) n c)) (hF : F < w.heap.size) (hBi : Bi < w.heap.size) (hBr : Br < w.heap.size) :
    ∃ m, Co Try.prog false (fun b => b < w.heap.size) (AtStore Try.prog link.tWg Wg C n (ResF (cf R n)) j) m (fun b => b = Br ∨ b = Bi ∨ b = F ∨ b = A) (born Try.prog (call22 Wg Br Bi F)) w := by
  obtain ⟨cs, e, f, hh, hi⟩ := hA
  have hAl := (Array.getElem?_eq_some_iff.1 hh).1
  have hwvA : (w.heap.setIfInBounds A (.cells cs e (0, max cs.size f.2)))[A]? = some (.cells cs e (0, max cs.size f.2)) := by simp [hAl]
  have hslv : ∀ T, Sl (wt { w with heap := w.heap.setIfInBounds A (.cells cs e (0, max cs.size f.2)) } T) 0 w.heap.size 4 (.slice (some ⟨A, o, none⟩) n c) n (intF R) := fun T => by
    obtain ⟨h0, A', c', e', hc, hx⟩ := hsl
    cases e'
    refine ⟨by simp [wt], _, _, rfl, hc, fun h => ?_⟩
    obtain ⟨b, o, e, hlo, hlt, hcs⟩ := hx h
    cases e
    refine ⟨A, o, rfl, hlo, hlt, fun i j hi hj => ?_⟩
    have h1 := hcs i j hi hj
    rw [cell_cells hh] at h1
    rw [cell_cells (w := wt { w with heap := w.heap.setIfInBounds A (.cells cs e (0, max cs.size f.2)) } T) (b := A) hwvA]
    exact h1
  have hargs : AR (fun b c => b = A ∧ c = A) #[.slice (some ⟨A, o, none⟩) n c, .int .i64 (j : Int)] #[.slice (some ⟨A, o, none⟩) n c, .int .i64 (j : Int)] := by
    refine ⟨rfl, fun i x y hx hy => ?_⟩
    rw [hx] at hy
    cases hy
    match i with
    | 0 => cases hx; exact .slice A A o none n c ⟨rfl, rfl⟩
    | 1 => cases hx; exact .int _ _
    | k + 2 => simp at hx
  have hwv : WR Try.prog.globals.size (fun _ => False) (fun b c => b = A ∧ c = A) { w with heap := w.heap.setIfInBounds A (.cells cs e (0, max cs.size f.2)) } { w with heap := w.heap.setIfInBounds A (.cells cs e (0, max cs.size f.2)) } :=
    ⟨fun b c c' h1 h2 => h1.2.trans h2.2.symm, fun b b' c h1 h2 => h1.1.trans h2.1.symm, fun b c h => by obtain ⟨rfl, rfl⟩ := h; exact .inl ⟨cs, cs, e, _, _, hwvA, hwvA, intB_ar hi, ⟨.inr rfl, fun o a b => ⟨a, b⟩⟩, fun h => h.elim⟩, fun c h => h.elim, fun b c h => by obtain ⟨rfl, rfl⟩ := h; exact Iff.rfl, Nat.le_trans hG (by simp), Nat.le_trans hG (by simp)⟩
  obtain ⟨nc, hnc⟩ := ln_call ok_set (f := 33) (by decide) hargs hwv (Rh := RhS (cf R n j)) (fun T => (cornersFrom_any _ n j 0 w.heap.size R _ (hslv T) hn hj).mono (by
    rintro e' w' ⟨v, rfl, hW, hu⟩
    have hsl' := hW.sl
    obtain ⟨_, A', c', rfl, _⟩ := hW
    exact ⟨_, rfl, w', rfl, ⟨_, _, _, rfl⟩, hsl'.wide (Nat.zero_le _) (Nat.le_refl _) (Nat.le_refl _)⟩))
  refine worker22 (A := A) hj hCW cF cI cB resF_slice resF_kn (low := w.heap.size) (ρ0 := fun b c => b = A ∧ c = A) (wv := { w with heap := w.heap.setIfInBounds A (.cells cs e (0, max cs.size f.2)) }) ?_ (fun b c h => h.2) hargs hnc (fun b hb => ?_) (fun K' ρ v v' wv' wc' h1 h2 h3 h4 => resF_of K' ρ v v' wv' wc' _ h1 h2 h3 h4)
  · refine ⟨fun b c c' h1 h2 => h1.2.trans h2.2.symm, fun b b' c h1 h2 => h1.1.trans h2.1.symm, fun b c h => ?_, fun c h => h, fun b c h => by obtain ⟨rfl, rfl⟩ := h; exact Iff.rfl, Nat.le_trans hG (by simp), hG⟩
    obtain ⟨rfl, rfl⟩ := h
    refine .inl ⟨cs, cs, e, _, f, hwvA, hh, intB_ar hi, ⟨.inl hAl, fun o h1 h2 => ⟨Nat.zero_le _, ?_⟩⟩, fun _ o ho => ⟨Nat.zero_le _, ?_⟩⟩
    · show o < max cs.size f.2
      omega
    · show o < max cs.size f.2
      omega
  · rcases hb with rfl | rfl | rfl | rfl
    · exact hBr
    · exact hBi
    · exact hF
    · exact hAl
end Go.Proofs.Ytaealkfnhhmmcaa
