/- How the arguments of the laws read: slices of structs of integers, structs of slices. No condition. -/
import Derived.Test.YtaealkfnhhmmcaaOpen
import Derived.Test.YtaealkfnhhmmcaaSl
import Derived.Deep.Slices
import Derived.Deep.Fields
import Derived.ChangeSame
namespace Go.Proofs.Ytaealkfnhhmmcaa
open Go.RowKit Go.WideShapes Go.ChangeShapes Go.Joins Go.Deep
set_option linter.unusedVariables false

section
variable {H : Type} {enc : TypeId × Value → H} {P : Program} {w : World} {base : Nat} {spare : Nat → Bool} {held : Bool}
/-- A slice of elements, opened: at each index the element's cells and its own reading. -/
theorem sl_open {t e : TypeId} {sz fuel : Nat} {v : Value} {x : DataW H × List MemPlace} (ht : P.underlying t = some (.slice e)) (hC : P.cellsOf e = sz) (hz : 0 < sz) (h : DataW.trod enc P w base spare held fuel t [v] = some x) :
    ∃ (n : Nat) (C : Nat → List Value), n ≤ maxLen ∧ Sl w 0 w.heap.size sz v n (fun i j => (C i).getD j undef) ∧ ∀ i, i < n → (C i).length = sz ∧ ∃ m y, DataW.trod enc P w base spare held m e (C i) = some y := by
  rcases open_slice ht h with ⟨h0, _⟩ | ⟨a, len, cap, m, k, D, Pl, hcs, _, hl, hm, hmm, _, hi⟩
  · simp at h0
    subst h0
    exact ⟨0, fun _ => [], by simp [maxLen], Sl.nil _ _ _ _ _ (Nat.le_refl _), fun i hi => by omega⟩
  · simp at hcs
    subst hcs
    have hlm : len ≤ m := by rw [hmm]; split <;> omega
    obtain ⟨C, hC2⟩ := choose_lt (α := List Value) hi
    refine ⟨len, C, Nat.le_trans hl hm, ⟨Nat.le_refl _, some a, cap, rfl, hl, fun hn => ?_⟩, fun i hi => ?_⟩
    · obtain ⟨b, o, s⟩ := a
      have each : ∀ i j, i < len → j < sz → w.cell? ((⟨b, o, s⟩ : Addr).add (i * sz + j)) = some ((C i).getD j undef) := fun i j hi hj => by
        obtain ⟨h1, _⟩ := hC2 i (by omega)
        obtain ⟨_, h3, h4⟩ := World.cells?_some h1
        have := h4 j (by omega)
        rw [hC, Go.Deep.add_add] at this
        rw [this, List.getD, List.getElem?_eq_getElem (by omega)]
        rfl
      have h00 := each 0 0 hn hz
      have hs : s = none := by simpa [Addr.add] using World.cell?_spot h00
      subst hs
      refine ⟨b, o, rfl, Nat.zero_le _, ?_, fun i j hi hj => by rw [← add_plain]; exact each i j hi hj⟩
      have := World.block_lt_of_cell? _ _ h00
      simpa [Addr.add] using this
    · obtain ⟨h1, h2⟩ := hC2 i (by omega)
      obtain ⟨_, h3, _⟩ := World.cells?_some h1
      exact ⟨by rw [h3, hC], k, _, h2⟩
/-- A struct's cells, a field at a time. -/
theorem fields_open {e : TypeId} {fs : Array Field} {m : Nat} {cs : List Value} {y : DataW H × List MemPlace} (he : P.underlying e = some (.struct fs)) (hone : oneCellFields P fs = true) (hC : P.cellsOf e = fs.size) (hl : cs.length = fs.size)
    (h : DataW.trod enc P w base spare held m e cs = some y) (j : Nat) (f : Field) (hj : fs[j]? = some f) : ∃ k z, DataW.trod enc P w base spare held k f.type [cs.getD j undef] = some z := by
  obtain ⟨ys, n', _, _, _, hyl, hf⟩ := DataW.trod_struct he h
  obtain ⟨ho, hk⟩ := hone_of hone j f hj
  have hjl : j < fs.size := (Array.getElem?_eq_some_iff.1 hj).1
  have h1 := hf j f hj
  rw [ho, hk] at h1
  have h2 : (cs.drop j).take 1 = [cs.getD j undef] := by
    rw [List.drop_eq_getElem_cons (by omega), List.getD, List.getElem?_eq_getElem (by omega)]
    rfl
  rw [h2] at h1
  exact ⟨_, _, h1.trans (List.getElem?_eq_getElem (by omega))⟩
/-- The cells of integers. -/
def intF (R : Nat → Nat → Int) (i j : Nat) : Value := .int .i64 (R i j)
theorem ints_open {t e T : TypeId} {fs : Array Field} {fuel : Nat} {v : Value} {x : DataW H × List MemPlace} (ht : P.underlying t = some (.slice e)) (he : P.underlying e = some (.struct fs)) (hone : oneCellFields P fs = true) (hC : P.cellsOf e = fs.size) (hz : 0 < fs.size)
    (hT : P.underlying T = some (.int .i64)) (hall : ∀ (j : Nat) (f : Field), fs[j]? = some f → f.type = T) (h : DataW.trod enc P w base spare held fuel t [v] = some x) :
    ∃ (n : Nat) (R : Nat → Nat → Int), n ≤ maxLen ∧ Sl w 0 w.heap.size fs.size v n (intF R) ∧ ∀ i j, i < n → j < fs.size → I64 (R i j) := by
  obtain ⟨n, C, hn, hs, hc⟩ := sl_open ht hC hz h
  have each : ∀ i j, i < n → j < fs.size → ∃ a, (C i).getD j undef = .int .i64 a ∧ I64 a := fun i j hi hj => by
    obtain ⟨hl, m, y, hy⟩ := hc i hi
    obtain ⟨k, z, hk⟩ := fields_open he hone hC hl hy j _ (Array.getElem?_eq_getElem hj)
    rw [hall j _ (Array.getElem?_eq_getElem hj)] at hk
    obtain ⟨a, e0, _, wa⟩ := DataW.trod_int hT hk
    simp at e0
    exact ⟨a, by rw [List.getD, e0], .of_wf wa⟩
  refine ⟨n, fun i j => intOf ((C i).getD j undef), hn, hs.congr fun i j hi hj => ?_, fun i j hi hj => ?_⟩
  · obtain ⟨a, h1, _⟩ := each i j hi hj
    simp only [intF]
    rw [h1]; rfl
  · obtain ⟨a, h1, h2⟩ := each i j hi hj
    simp only []; rw [h1]; exact h2
theorem ints1_open {t e : TypeId} {fuel : Nat} {v : Value} {x : DataW H × List MemPlace} (ht : P.underlying t = some (.slice e)) (hC : P.cellsOf e = 1) (hT : P.underlying e = some (.int .i64)) (h : DataW.trod enc P w base spare held fuel t [v] = some x) :
    ∃ (n : Nat) (R : Nat → Nat → Int), n ≤ maxLen ∧ Sl w 0 w.heap.size 1 v n (intF R) ∧ ∀ i j, i < n → j < 1 → I64 (R i j) := by
  obtain ⟨n, C, hn, hs, hc⟩ := sl_open ht hC (by omega) h
  have each : ∀ i j, i < n → j < 1 → ∃ a, (C i).getD j undef = .int .i64 a ∧ I64 a := fun i j hi hj => by
    obtain ⟨hl, m, y, hy⟩ := hc i hi
    obtain ⟨a, e0, _, wa⟩ := DataW.trod_int hT hy
    have : j = 0 := by omega
    subst this
    rw [e0]
    exact ⟨a, rfl, .of_wf wa⟩
  refine ⟨n, fun i j => intOf ((C i).getD j undef), hn, hs.congr fun i j hi hj => ?_, fun i j hi hj => ?_⟩
  · obtain ⟨a, h1, _⟩ := each i j hi hj
    simp only [intF]
    rw [h1]; rfl
  · obtain ⟨a, h1, h2⟩ := each i j hi hj
    simp only []; rw [h1]; exact h2
/-- The cells of hinges. -/
def hgF (J : Nat → Int) (O : Nat → Bool) (i j : Nat) : Value := if j = 0 then .int .i64 (J i) else .bool (O i)
end
section
variable {H : Type} {enc : TypeId × Value → H} {w : World} {base : Nat} {spare : Nat → Bool} {held : Bool} {v : Value} {d : DataW H} {p : List MemPlace}
set_option maxRecDepth 100000 in
theorem open_Ints {r : Reach} {b0 : Nat} (hv : Value.okWide Try.prog w r b0 35 v) (h : DataW.Trod enc Try.prog w base spare held 35 v d p) :
    ∃ (n : Nat) (R : Nat → Nat → Int), n ≤ maxLen ∧ Sl w 0 w.heap.size 1 v n (intF R) ∧ ∀ i j, i < n → j < 1 → I64 (R i j) := by
  obtain ⟨A, l, c, rfl⟩ := okWide_slice Try.underlying35 hv
  obtain ⟨fuel, hf⟩ := h
  obtain ⟨n, R, h1, h2, h3⟩ := ints1_open Try.underlying35 (by kernel_rfl) Try.underlying3 hf
  exact ⟨n, R, h1, h2, h3⟩
end
end Go.Proofs.Ytaealkfnhhmmcaa
