/- Plain lemmas on slices in memory: a slice that reads as a family of cells, what keeps it, what a row of the call's own reads as. No condition. -/
import Derived.Test.YtaealkfnhhmmcaaKeep
import Derived.Deep.AppendLies
import Derived.Deep.RegionHeld3
import Derived.OwnWalk
import Derived.Laws.MakeOwn
import Derived.Laws.Entries
namespace Go.Proofs.Ytaealkfnhhmmcaa
open Go.RowKit
/-- The slice v reads as n elements of sz cells each: element i's cell j holds f i j; its block lies from lo to below hi. -/
def Sl (w : World) (lo hi sz : Nat) (v : Value) (n : Nat) (f : Nat → Nat → Value) : Prop :=
  hi ≤ w.heap.size ∧ ∃ A c, v = .slice A n c ∧ n ≤ c ∧ (0 < n → ∃ b o, A = some ⟨b, o, none⟩ ∧ lo ≤ b ∧ b < hi ∧ ∀ i j, i < n → j < sz → w.cell? ⟨b, o + (i * sz + j), none⟩ = some (f i j))
/-- .. and its block may be written. -/
def Wr (w : World) (lo hi sz : Nat) (v : Value) (n : Nat) (f : Nat → Nat → Value) : Prop :=
  hi ≤ w.heap.size ∧ ∃ A c, v = .slice A n c ∧ n ≤ c ∧ (0 < n → ∃ b, A = some ⟨b, 0, none⟩ ∧ lo ≤ b ∧ b < hi ∧ (∀ i j, i < n → j < sz → w.cell? ⟨b, i * sz + j, none⟩ = some (f i j)) ∧ ∀ o, w.frozen? ⟨b, o, none⟩ = false)
/-- Blocks outside lo .. hi are as they were. -/
def Chg (lo hi : Nat) (w w' : World) : Prop :=
  w.heap.size ≤ w'.heap.size ∧ ∀ b o, b < w.heap.size → (b < lo ∨ hi ≤ b) → w'.cell? ⟨b, o, none⟩ = w.cell? ⟨b, o, none⟩ ∧ w'.frozen? ⟨b, o, none⟩ = w.frozen? ⟨b, o, none⟩
section
variable {w w' : World} {lo hi sz n : Nat} {v : Value} {f g : Nat → Nat → Value}
theorem Wr.sl (h : Wr w lo hi sz v n f) : Sl w lo hi sz v n f := by
  obtain ⟨h0, A, c, rfl, hc, h⟩ := h
  refine ⟨h0, A, c, rfl, hc, fun hn => ?_⟩
  obtain ⟨b, rfl, h1, h2, h3, _⟩ := h hn
  exact ⟨b, 0, rfl, h1, h2, fun i j hi hj => by simpa using h3 i j hi hj⟩
theorem Sl.up (h : Sl w lo hi sz v n f) (hu : Up w w') : Sl w' lo hi sz v n f := by
  obtain ⟨h0, A, c, rfl, hc, h⟩ := h
  refine ⟨Nat.le_trans h0 hu.size, A, c, rfl, hc, fun hn => ?_⟩
  obtain ⟨b, o, rfl, h1, h2, h3⟩ := h hn
  exact ⟨b, o, rfl, h1, h2, fun i j hi hj => (hu.cells.1 _ _ (by omega)).trans (h3 i j hi hj)⟩
theorem Wr.up (h : Wr w lo hi sz v n f) (hu : Up w w') : Wr w' lo hi sz v n f := by
  obtain ⟨h0, A, c, rfl, hc, h⟩ := h
  refine ⟨Nat.le_trans h0 hu.size, A, c, rfl, hc, fun hn => ?_⟩
  obtain ⟨b, rfl, h1, h2, h3, h4⟩ := h hn
  exact ⟨b, rfl, h1, h2, fun i j hi hj => (hu.cells.1 _ _ (by omega)).trans (h3 i j hi hj), fun o => (hu.cells.2 _ _ (by omega)).trans (h4 o)⟩
theorem Sl.off {l2 h2 : Nat} (h : Sl w lo hi sz v n f) (hu : Chg l2 h2 w w') (hd : hi ≤ l2 ∨ h2 ≤ lo) : Sl w' lo hi sz v n f := by
  obtain ⟨h0, A, c, rfl, hc, h⟩ := h
  refine ⟨Nat.le_trans h0 hu.1, A, c, rfl, hc, fun hn => ?_⟩
  obtain ⟨b, o, rfl, h1, h2, h3⟩ := h hn
  exact ⟨b, o, rfl, h1, h2, fun i j hi hj => (hu.2 _ _ (by omega) (by omega)).1.trans (h3 i j hi hj)⟩
theorem Wr.off {l2 h2 : Nat} (h : Wr w lo hi sz v n f) (hu : Chg l2 h2 w w') (hd : hi ≤ l2 ∨ h2 ≤ lo) : Wr w' lo hi sz v n f := by
  obtain ⟨h0, A, c, rfl, hc, h⟩ := h
  refine ⟨Nat.le_trans h0 hu.1, A, c, rfl, hc, fun hn => ?_⟩
  obtain ⟨b, rfl, h1, h2, h3, h4⟩ := h hn
  exact ⟨b, rfl, h1, h2, fun i j hi hj => (hu.2 _ _ (by omega) (by omega)).1.trans (h3 i j hi hj), fun o => (hu.2 _ _ (by omega) (by omega)).2.trans (h4 o)⟩
theorem Sl.congr (h : Sl w lo hi sz v n f) (e : ∀ i j, i < n → j < sz → f i j = g i j) : Sl w lo hi sz v n g := by
  obtain ⟨h0, A, c, rfl, hc, h⟩ := h
  refine ⟨h0, A, c, rfl, hc, fun hn => ?_⟩
  obtain ⟨b, o, rfl, h1, h2, h3⟩ := h hn
  exact ⟨b, o, rfl, h1, h2, fun i j hi hj => by rw [h3 i j hi hj, e i j hi hj]⟩
theorem Wr.congr (h : Wr w lo hi sz v n f) (e : ∀ i j, i < n → j < sz → f i j = g i j) : Wr w lo hi sz v n g := by
  obtain ⟨h0, A, c, rfl, hc, h⟩ := h
  refine ⟨h0, A, c, rfl, hc, fun hn => ?_⟩
  obtain ⟨b, rfl, h1, h2, h3, h4⟩ := h hn
  exact ⟨b, rfl, h1, h2, fun i j hi hj => by rw [h3 i j hi hj, e i j hi hj], h4⟩
theorem Sl.nil (w : World) (lo hi sz : Nat) (f : Nat → Nat → Value) (h : hi ≤ w.heap.size) : Sl w lo hi sz (.slice none 0 0) 0 f := ⟨h, none, 0, rfl, Nat.le_refl _, fun h => absurd h (by omega)⟩
theorem Wr.nil (w : World) (lo hi sz : Nat) (f : Nat → Nat → Value) (h : hi ≤ w.heap.size) : Wr w lo hi sz (.slice none 0 0) 0 f := ⟨h, none, 0, rfl, Nat.le_refl _, fun h => absurd h (by omega)⟩
theorem Sl.wide {l2 h2 : Nat} (h : Sl w lo hi sz v n f) (hl : l2 ≤ lo) (hh : hi ≤ h2) (hx : h2 ≤ w.heap.size) : Sl w l2 h2 sz v n f := by
  obtain ⟨h0, A, c, rfl, hc, h⟩ := h
  refine ⟨by omega, A, c, rfl, hc, fun hn => ?_⟩
  obtain ⟨b, o, rfl, h1, h2, h3⟩ := h hn
  exact ⟨b, o, rfl, by omega, by omega, h3⟩
theorem Wr.wide {l2 h2 : Nat} (h : Wr w lo hi sz v n f) (hl : l2 ≤ lo) (hh : hi ≤ h2) (hx : h2 ≤ w.heap.size) : Wr w l2 h2 sz v n f := by
  obtain ⟨h0, A, c, rfl, hc, h⟩ := h
  refine ⟨by omega, A, c, rfl, hc, fun hn => ?_⟩
  obtain ⟨b, rfl, h1, h2, h3, h4⟩ := h hn
  exact ⟨b, rfl, by omega, by omega, h3, h4⟩
end
theorem Chg.refl (lo hi : Nat) (w : World) : Chg lo hi w w := ⟨Nat.le_refl _, fun _ _ _ _ => ⟨rfl, rfl⟩⟩
theorem Chg.trans {lo hi : Nat} {a b c : World} (h : Chg lo hi a b) (k : Chg lo hi b c) : Chg lo hi a c :=
  ⟨Nat.le_trans h.1 k.1, fun x o hx hd => ⟨(k.2 x o (Nat.lt_of_lt_of_le hx h.1) hd).1.trans (h.2 x o hx hd).1, (k.2 x o (Nat.lt_of_lt_of_le hx h.1) hd).2.trans (h.2 x o hx hd).2⟩⟩
theorem Chg.up {lo hi : Nat} {a b c : World} (h : Chg lo hi a b) (k : Up b c) : Chg lo hi a c :=
  ⟨Nat.le_trans h.1 k.size, fun x o hx hd => ⟨(k.cells.1 x o (Nat.lt_of_lt_of_le hx h.1)).trans (h.2 x o hx hd).1, (k.cells.2 x o (Nat.lt_of_lt_of_le hx h.1)).trans (h.2 x o hx hd).2⟩⟩
theorem Chg.drew {lo hi : Nat} {a b : World} (h : Chg lo hi a b) : Chg lo hi a b.drew := h
theorem Chg.drewN {lo hi : Nat} {a b : World} (h : Chg lo hi a b) (n : Nat) : Chg lo hi a (b.drewN n) := h
theorem Chg.setCell {lo hi : Nat} {a b : World} (h : Chg lo hi a b) {p : Addr} (h1 : lo ≤ p.block) (h2 : p.block < hi) (u : Value) : Chg lo hi a (b.setCell p u) :=
  ⟨by simpa [World.setCell] using h.1, fun x o hx hd => ⟨(World.cell?_setCell_other _ _ _ _ (by rintro rfl; simp at h1 h2; omega)).trans (h.2 x o hx hd).1, by rw [World.frozen?_setCell]; exact (h.2 x o hx hd).2⟩⟩
theorem Chg.empty {lo hi : Nat} {a b : World} (h : Chg lo hi a b) (h2 : hi ≤ lo) : Chg 0 0 a b := ⟨h.1, fun x o hx _ => h.2 x o hx (by omega)⟩

/-- The cells of n elements, one behind the other. -/
def flat (sz : Nat) (f : Nat → Nat → Value) : Nat → List Value
  | 0 => []
  | n + 1 => flat sz f n ++ (List.range sz).map (f n)
theorem flat_length (sz : Nat) (f : Nat → Nat → Value) (n : Nat) : (flat sz f n).length = n * sz := by
  induction n with
  | zero => simp [flat]
  | succ n ih => simp [flat, ih, Nat.succ_mul]
theorem flat_get (sz : Nat) (f : Nat → Nat → Value) (n i j : Nat) (hi : i < n) (hj : j < sz) : (flat sz f n)[i * sz + j]? = some (f i j) := by
  induction n with
  | zero => omega
  | succ n ih =>
    rw [flat]
    by_cases h : i < n
    · have hlt : i * sz + j < n * sz := by
        have : (i + 1) * sz ≤ n * sz := Nat.mul_le_mul_right _ h
        rw [Nat.succ_mul] at this
        omega
      rw [List.getElem?_append_left (by rw [flat_length]; exact hlt)]
      exact ih h
    · have : i = n := by omega
      subst this
      rw [List.getElem?_append_right (by rw [flat_length]; omega), flat_length]
      simp [hj]
theorem flat_congr {sz : Nat} {f g : Nat → Nat → Value} {n : Nat} (h : ∀ i j, i < n → j < sz → f i j = g i j) : flat sz f n = flat sz g n := by
  induction n with
  | zero => rfl
  | succ n ih =>
    rw [flat, flat, ih (fun i j hi hj => h i j (by omega) hj)]
    congr 1
    exact List.map_congr_left fun j hj => h n j (by omega) (List.mem_range.1 hj)
/-- What a row of the call's own reads as. -/
theorem Wr.of_own {w : World} {base sz n : Nat} {e : TypeId} {v : Value} {f : Nat → Nat → Value} (h : w.ownsRow base e sz v n (flat sz f n)) : Wr w base w.heap.size sz v n f := by
  rcases Nat.eq_zero_or_pos n with h0 | h0
  · subst h0
    rcases h.2 with ⟨rfl, _⟩ | ⟨g, cap, cur, rfl, _⟩
    · exact Wr.nil _ _ _ _ _ (Nat.le_refl _)
    · exact ⟨Nat.le_refl _, _, cap, rfl, Nat.zero_le _, fun h => absurd h (by omega)⟩
  · have h' := h
    rcases h.2 with ⟨_, h1⟩ | ⟨g, cap, cur, rfl, h2, h3, h4, _⟩
    · omega
    · have hlt : g < w.heap.size := by
        rcases Nat.lt_or_ge g w.heap.size with hlt | hge
        · exact hlt
        · rw [Array.getElem?_eq_none hge] at h3; cases h3
      exact ⟨Nat.le_refl _, _, cap, rfl, h4, fun _ => ⟨g, rfl, h2, hlt, fun i j hi hj => by have := h'.cells (g := g) rfl (i * sz + j) _ (flat_get sz f n i j hi hj); rw [Go.WideShapes.add_plain] at this; simpa using this, fun o => by simp [World.frozen?, h3]⟩⟩
/-- Block g is a row of m cells of the call's own; its first q cells hold f, element by element. -/
def Fl (w : World) (g sz q m : Nat) (f : Nat → Nat → Value) : Prop :=
  g < w.heap.size ∧ (∀ o, o < m → (w.cell? ⟨g, o, none⟩).isSome = true) ∧ (∀ o, w.frozen? ⟨g, o, none⟩ = false) ∧ ∀ i j, j < sz → i * sz + j < q → w.cell? ⟨g, i * sz + j, none⟩ = some (f i j)
theorem Fl.made (w : World) (cs : Array Value) (e : TypeId) (sz m : Nat) (f : Nat → Nat → Value) : Fl (w.alloc (.cells (madeCells cs m) e)) w.heap.size sz 0 m f := by
  have hb := heap_alloc_new w (.cells (madeCells cs m) e)
  refine ⟨by simp, fun o ho => ?_, fun o => by simp only [World.frozen?, hb]; simp, fun i j _ h => by omega⟩
  simp only [World.cell?, hb]
  simp [size_madeCells, ho]
theorem Fl.up {w w' : World} {g sz q m : Nat} {f : Nat → Nat → Value} (h : Fl w g sz q m f) (hu : Up w w') : Fl w' g sz q m f :=
  ⟨Nat.lt_of_lt_of_le h.1 hu.size, fun o ho => by rw [hu.cells.1 _ _ h.1]; exact h.2.1 o ho, fun o => (hu.cells.2 _ _ h.1).trans (h.2.2.1 o), fun i j hj hq => (hu.cells.1 _ _ h.1).trans (h.2.2.2 i j hj hq)⟩
theorem elem_eq {sz i j i' j' : Nat} (hj : j < sz) (hj' : j' < sz) (h : i * sz + j = i' * sz + j') : i = i' ∧ j = j' := by
  have hz : 0 < sz := by omega
  have h1 : (i * sz + j) / sz = i := by rw [Nat.mul_comm, Nat.mul_add_div hz, Nat.div_eq_of_lt hj, Nat.add_zero]
  have h2 : (i' * sz + j') / sz = i' := by rw [Nat.mul_comm, Nat.mul_add_div hz, Nat.div_eq_of_lt hj', Nat.add_zero]
  have : i = i' := by rw [← h1, ← h2, h]
  subst this
  exact ⟨rfl, by omega⟩
theorem Fl.set {w : World} {g sz q m : Nat} {f : Nat → Nat → Value} {u : Value} (h : Fl w g sz q m f) (i j : Nat) (hj : j < sz) (hq : q = i * sz + j) (hqm : q < m) (hu : u = f i j) : Fl (w.setCell ⟨g, q, none⟩ u) g sz (q + 1) m f := by
  subst hu
  refine ⟨by simpa [World.setCell] using h.1, fun o ho => ?_, fun o => by rw [World.frozen?_setCell]; exact h.2.2.1 o, fun i' j' hj' hq' => ?_⟩
  · obtain ⟨x, hx⟩ := Option.isSome_iff_exists.1 (h.2.1 o ho)
    obtain ⟨v', hv'⟩ := cell?_setCell_some (w := w) (p := ⟨g, q, none⟩) (x := f i j) hx
    rw [hv']; rfl
  · by_cases he : i' * sz + j' = q
    · obtain ⟨rfl, rfl⟩ := elem_eq hj' hj (he.trans hq)
      rw [he]
      exact World.cell?_setCell_same' _ _ _ (h.2.1 q hqm)
    · rw [World.cell?_setCell_other _ _ _ _ (by intro h; injection h with _ h; exact he h.symm)]
      exact h.2.2.2 i' j' hj' (by omega)
theorem Fl.cast {w : World} {g sz q q' m : Nat} {f : Nat → Nat → Value} (h : Fl w g sz q m f) (e : q = q') : Fl w g sz q' m f := e ▸ h
theorem Fl.wr {w : World} {g sz n : Nat} {f : Nat → Nat → Value} {lo : Nat} (h : Fl w g sz (n * sz) (n * sz) f) (hlo : lo ≤ g) : Wr w lo w.heap.size sz (.slice (some ⟨g, 0, none⟩) n n) n f :=
  ⟨Nat.le_refl _, _, _, rfl, Nat.le_refl _, fun _ => ⟨g, rfl, hlo, h.1, fun i j hi hj => h.2.2.2 i j hj (by
    have : (i + 1) * sz ≤ n * sz := Nat.mul_le_mul_right _ hi
    rw [Nat.succ_mul] at this
    omega), h.2.2.1⟩⟩
theorem run_mkN {P : Program} (t e : TypeId) (i : TypeInfo) (z : Value) (ht : P.underlying t = some (.slice e)) (hi : P.info? e = some i) (hz : i.zero = some z) (n : Nat) (hb : i.bytes * n ≤ 281474976710656) (hn : n ≤ 9223372036854775807) (w : World) :
    (Instr.makeSlice t (.int .i64 (n : Int)) (.int .i64 (n : Int))).run P w = .ok (.slice (some ⟨w.heap.size, 0, none⟩) n n) (w.alloc (.cells (madeCells z.cells (n * i.size)) e)) := by
  have h : (i.bytes : Int) * (n : Int) ≤ 281474976710656 := by
    have h : ((i.bytes * n : Nat) : Int) ≤ 281474976710656 := by omega
    rwa [Int.natCast_mul] at h
  have hr := run_make (P := P) w t e i z ht hi hz .i64 .i64 n n (by omega) (by omega) h (by omega)
  simp only [Int.toNat_natCast] at hr
  exact hr
/-- What a copy ends in: a new slice that reads alike. -/
def ToP (w : World) (sz n : Nat) (f : Nat → Nat → Value) (e : Ending) (w' : World) : Prop := ∃ v, e = .returned v ∧ Wr w' w.heap.size w'.heap.size sz v n f ∧ Up w w'
/-- What is left of the purse. -/
def szI (left : Int) (n : Nat) : Int := if left - (n : Int) < 0 then -1 else left - (n : Int)
/-- Marks: one number a cell, from k on. -/
def mkF (sz : Nat) (k : Int) (i j : Nat) : Value := .int .i64 (k + (i : Int) * (sz : Int) + (j : Int))
def MkP (w w0 : World) (lo hi sz : Nat) (v : Value) (n : Nat) (k r : Int) (e : Ending) (w' : World) : Prop :=
  e = .returned (.int .i64 r) ∧ Wr w' lo hi sz v n (mkF sz k) ∧ Chg lo hi w w' ∧ Up w0 w'
theorem Wr.fl {w : World} {sz n g : Nat} {f f' : Nat → Nat → Value} (hz : 0 < sz) (hg : g < w.heap.size) (h3 : ∀ i j, i < n → j < sz → w.cell? ⟨g, i * sz + j, none⟩ = some (f i j)) (h4 : ∀ o, w.frozen? ⟨g, o, none⟩ = false) : Fl w g sz 0 (n * sz) f' := by
  refine ⟨hg, fun o ho => ?_, h4, fun i j _ h => by omega⟩
  have h1 : o / sz < n := Nat.div_lt_of_lt_mul (by rw [Nat.mul_comm]; exact ho)
  have h2 : o % sz < sz := Nat.mod_lt _ hz
  have := h3 (o / sz) (o % sz) h1 h2
  rw [Nat.mul_comm, Nat.div_add_mod] at this
  rw [this]; rfl
theorem Fl.wr2 {w : World} {g sz n c : Nat} {f : Nat → Nat → Value} {lo hi : Nat} (h : Fl w g sz (n * sz) (n * sz) f) (hlo : lo ≤ g) (hhi : g < hi) (hw : hi ≤ w.heap.size) (hc : n ≤ c) : Wr w lo hi sz (.slice (some ⟨g, 0, none⟩) n c) n f :=
  ⟨hw, _, _, rfl, hc, fun _ => ⟨g, rfl, hlo, hhi, fun i j hi hj => h.2.2.2 i j hj (by
    have : (i + 1) * sz ≤ n * sz := Nat.mul_le_mul_right _ hi
    rw [Nat.succ_mul] at this
    omega), h.2.2.1⟩⟩
end Go.Proofs.Ytaealkfnhhmmcaa
