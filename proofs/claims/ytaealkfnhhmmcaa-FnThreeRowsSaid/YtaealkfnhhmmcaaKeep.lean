/- Plain lemmas on worlds: what a region that draws its order keeps. No condition. -/
import Derived.Test.YtaealkfnhhmmcaaBase
import Derived.Deep.RegionHeld3
namespace Go.Proofs.Ytaealkfnhhmmcaa
open Go.RowKit
/-- What a cell holds, whatever that is. -/
def getc (w : World) (b o : Nat) : Value := (w.cell? ⟨b, o, none⟩).getD undef
theorem getc_of {w : World} {b o : Nat} (h : (w.cell? ⟨b, o, none⟩).isSome = true) : w.cell? ⟨b, o, none⟩ = some (getc w b o) := by
  obtain ⟨v, hv⟩ := Option.isSome_iff_exists.1 h
  rw [getc, hv]; rfl
/-- What is kept in a region that ends in a store into block r: the newer blocks read as in W; block r has m cells that may be written. -/
theorem keep_up {W a b : World} {r m : Nat} (hr : r < W.heap.size) (h : (∀ k o, k ≠ r → k < W.heap.size → a.cell? ⟨k, o, none⟩ = W.cell? ⟨k, o, none⟩) ∧ W.heap.size ≤ a.heap.size ∧ (∀ o, o < m → a.cell? ⟨r, o, none⟩ = some (getc a r o)) ∧ ∀ o, a.frozen? ⟨r, o, none⟩ = false) (hu : Up a b) :
    (∀ k o, k ≠ r → k < W.heap.size → b.cell? ⟨k, o, none⟩ = W.cell? ⟨k, o, none⟩) ∧ W.heap.size ≤ b.heap.size ∧ (∀ o, o < m → b.cell? ⟨r, o, none⟩ = some (getc b r o)) ∧ ∀ o, b.frozen? ⟨r, o, none⟩ = false := by
  obtain ⟨h1, h2, h3, h4⟩ := h
  obtain ⟨hc, hf⟩ := hu.cells
  have hra : r < a.heap.size := Nat.lt_of_lt_of_le hr h2
  exact ⟨fun k o k1 k2 => (hc k o (Nat.lt_of_lt_of_le k2 h2)).trans (h1 k o k1 k2), Nat.le_trans h2 hu.size, fun o ho => getc_of (by rw [hc _ _ hra, h3 o ho]; rfl), fun o => (hf _ _ hra).trans (h4 o)⟩
theorem keep_set {W a : World} {r m : Nat} {p : Addr} {v : Value} (h : (∀ k o, k ≠ r → k < W.heap.size → a.cell? ⟨k, o, none⟩ = W.cell? ⟨k, o, none⟩) ∧ W.heap.size ≤ a.heap.size ∧ (∀ o, o < m → a.cell? ⟨r, o, none⟩ = some (getc a r o)) ∧ ∀ o, a.frozen? ⟨r, o, none⟩ = false) (hp : p.block = r) :
    (∀ k o, k ≠ r → k < W.heap.size → (a.setCell p v).cell? ⟨k, o, none⟩ = W.cell? ⟨k, o, none⟩) ∧ W.heap.size ≤ (a.setCell p v).heap.size ∧ (∀ o, o < m → (a.setCell p v).cell? ⟨r, o, none⟩ = some (getc (a.setCell p v) r o)) ∧ ∀ o, (a.setCell p v).frozen? ⟨r, o, none⟩ = false := by
  obtain ⟨h1, h2, h3, h4⟩ := h
  refine ⟨fun k o k1 k2 => (World.cell?_setCell_other _ _ _ _ (by rintro rfl; simp at hp; exact k1 hp)).trans (h1 k o k1 k2), by simpa [World.setCell] using h2, fun o ho => getc_of ?_, fun o => by rw [World.frozen?_setCell]; exact h4 o⟩
  obtain ⟨v', hv'⟩ := cell?_setCell_some (w := a) (p := p) (x := v) (h3 o ho)
  rw [hv']; rfl
theorem keep_drew {W a : World} {r m : Nat} (h : (∀ k o, k ≠ r → k < W.heap.size → a.cell? ⟨k, o, none⟩ = W.cell? ⟨k, o, none⟩) ∧ W.heap.size ≤ a.heap.size ∧ (∀ o, o < m → a.cell? ⟨r, o, none⟩ = some (getc a r o)) ∧ ∀ o, a.frozen? ⟨r, o, none⟩ = false) :
    (∀ k o, k ≠ r → k < W.heap.size → a.drew.cell? ⟨k, o, none⟩ = W.cell? ⟨k, o, none⟩) ∧ W.heap.size ≤ a.drew.heap.size ∧ (∀ o, o < m → a.drew.cell? ⟨r, o, none⟩ = some (getc a.drew r o)) ∧ ∀ o, a.drew.frozen? ⟨r, o, none⟩ = false := h
theorem keep_start {W : World} {r m : Nat} (h3 : ∀ o, o < m → (W.cell? ⟨r, o, none⟩).isSome = true) (h4 : ∀ o, W.frozen? ⟨r, o, none⟩ = false) :
    (∀ k o, k ≠ r → k < W.heap.size → W.cell? ⟨k, o, none⟩ = W.cell? ⟨k, o, none⟩) ∧ W.heap.size ≤ W.heap.size ∧ (∀ o, o < m → W.cell? ⟨r, o, none⟩ = some (getc W r o)) ∧ ∀ o, W.frozen? ⟨r, o, none⟩ = false :=
  ⟨fun _ _ _ _ => rfl, Nat.le_refl _, fun o ho => getc_of (h3 o ho), h4⟩
theorem kp_set {w w0 : World} {p : Addr} {v : Value} (h : (∀ b o, b < w0.heap.size → w.cell? ⟨b, o, none⟩ = w0.cell? ⟨b, o, none⟩) ∧ w0.heap.size ≤ w.heap.size) (hp : w0.heap.size ≤ p.block) : (∀ b o, b < w0.heap.size → (w.setCell p v).cell? ⟨b, o, none⟩ = w0.cell? ⟨b, o, none⟩) ∧ w0.heap.size ≤ (w.setCell p v).heap.size :=
  ⟨fun b o hb => (World.cell?_setCell_other _ _ _ _ (by rintro rfl; simp at hp; omega)).trans (h.1 b o hb), by simpa [World.setCell] using h.2⟩
theorem kp_alloc {w w0 : World} (h : (∀ b o, b < w0.heap.size → w.cell? ⟨b, o, none⟩ = w0.cell? ⟨b, o, none⟩) ∧ w0.heap.size ≤ w.heap.size) (ob : Obj) : (∀ b o, b < w0.heap.size → (w.alloc ob).cell? ⟨b, o, none⟩ = w0.cell? ⟨b, o, none⟩) ∧ w0.heap.size ≤ (w.alloc ob).heap.size :=
  ⟨fun b o hb => (World.cell?_alloc_lt w _ _ (by simp; omega)).trans (h.1 b o hb), by simp; omega⟩
theorem kp_drew {w w0 : World} (h : (∀ b o, b < w0.heap.size → w.cell? ⟨b, o, none⟩ = w0.cell? ⟨b, o, none⟩) ∧ w0.heap.size ≤ w.heap.size) : (∀ b o, b < w0.heap.size → w.drew.cell? ⟨b, o, none⟩ = w0.cell? ⟨b, o, none⟩) ∧ w0.heap.size ≤ w.drew.heap.size := h
theorem kp_up {w w' w0 : World} (h : (∀ b o, b < w0.heap.size → w.cell? ⟨b, o, none⟩ = w0.cell? ⟨b, o, none⟩) ∧ w0.heap.size ≤ w.heap.size) (hu : Up w w') : (∀ b o, b < w0.heap.size → w'.cell? ⟨b, o, none⟩ = w0.cell? ⟨b, o, none⟩) ∧ w0.heap.size ≤ w'.heap.size :=
  ⟨fun b o hb => (hu.cells.1 b o (Nat.lt_of_lt_of_le hb h.2)).trans (h.1 b o hb), Nat.le_trans h.2 hu.size⟩
theorem kp_start (w : World) : (∀ b o, b < w.heap.size → w.cell? ⟨b, o, none⟩ = w.cell? ⟨b, o, none⟩) ∧ w.heap.size ≤ w.heap.size := ⟨fun _ _ _ => rfl, Nat.le_refl _⟩
theorem ite_min (x y : Int) : (if y < x then y else x) = min x y := by rw [Int.min_def]; split <;> split <;> omega
theorem ite_max (x y : Int) : (if x < y then y else x) = max x y := by rw [Int.max_def]; split <;> split <;> omega
end Go.Proofs.Ytaealkfnhhmmcaa
