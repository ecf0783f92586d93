/- Plain lemmas for the walk of the draw of a proof. No condition. -/
import Derived.Test.YtchldcjieijkaaaDrawB
import Derived.Test.YtchldcjieijkaaaDraw9
import Derived.Deep.AppendLies
namespace Go.Proofs.Ytchldcjieijkaaa
open Go.RowKit
set_option linter.unusedVariables false
def four (w : World) (p : Nat) (a b c d : Int) : Prop := w.cell? ⟨p, 0, none⟩ = some (.int .i64 a) ∧ w.cell? ⟨p, 1, none⟩ = some (.int .i64 b) ∧ w.cell? ⟨p, 2, none⟩ = some (.int .i64 c) ∧ w.cell? ⟨p, 3, none⟩ = some (.int .i64 d)
theorem pk_alloc4 {W : World} {b1 : Nat} {a b c d : Value} (o : Obj) (hp1 : b1 < W.heap.size) (h : W.cell? ⟨b1, 0, none⟩ = some a ∧ W.cell? ⟨b1, 1, none⟩ = some b ∧ W.cell? ⟨b1, 2, none⟩ = some c ∧ W.cell? ⟨b1, 3, none⟩ = some d) :
    (W.alloc o).cell? ⟨b1, 0, none⟩ = some a ∧ (W.alloc o).cell? ⟨b1, 1, none⟩ = some b ∧ (W.alloc o).cell? ⟨b1, 2, none⟩ = some c ∧ (W.alloc o).cell? ⟨b1, 3, none⟩ = some d := by
  have hu : Up W (W.alloc o) := Up.alloc (Up.refl W) _
  obtain ⟨h1, h2, h3, h4⟩ := h
  exact ⟨(hu.cells.1 _ 0 hp1).trans h1, (hu.cells.1 _ 1 hp1).trans h2, (hu.cells.1 _ 2 hp1).trans h3, (hu.cells.1 _ 3 hp1).trans h4⟩
/-- Behind the second row: its box, the cursor, what stood. -/
def L3P (c : Nat) (w2 w0 : World) (s0 s1 s2 s3 : Int) (p : Value) (wr : World) : Prop :=
  ∃ b, p = .pointer (some ⟨b, 0, none⟩) ∧ w2.heap.size ≤ b ∧ b < wr.heap.size ∧ wr.cell? ⟨b, 0, none⟩ = some (.int .i64 s0) ∧ wr.cell? ⟨b, 1, none⟩ = some (.int .i64 s1) ∧ wr.cell? ⟨b, 2, none⟩ = some (.int .i64 s2) ∧ wr.cell? ⟨b, 3, none⟩ = some (.int .i64 s3) ∧ (∀ x, wr.frozen? ⟨b, x, none⟩ = false) ∧ Cur wr c ∧ ChB c w2 wr ∧ Up w0 wr
theorem L3P.new {c : Nat} {w2 w0 w5 : World} {s0 s1 s2 s3 : Int} (hC : Cur w5 c) (hD : ChB c w2 w5) (hU : Up w0 w5) : L3P c w2 w0 s0 s1 s2 s3 (.pointer (some ⟨w5.heap.size, 0, none⟩)) (w5.alloc (.cells #[.int .i64 s0, .int .i64 s1, .int .i64 s2, .int .i64 s3] 41)) := by
  have hu : Up w5 (w5.alloc (.cells #[.int .i64 s0, .int .i64 s1, .int .i64 s2, .int .i64 s3] 41)) := Up.alloc (Up.refl w5) _
  obtain ⟨g0, g1, g2, g3, gf, gl⟩ := four_at (heap_alloc_new w5 (.cells #[.int .i64 s0, .int .i64 s1, .int .i64 s2, .int .i64 s3] 41))
  exact ⟨_, rfl, hD.1.1, gl, g0, g1, g2, g3, gf, hC.up hu, hD.up hu, hU.trans hu⟩
theorem four_set {w : World} {b : Nat} {x0 x1 x2 x3 : Value} (v0 v1 v2 v3 : Value) (h0 : w.cell? ⟨b, 0, none⟩ = some x0) (h1 : w.cell? ⟨b, 1, none⟩ = some x1) (h2 : w.cell? ⟨b, 2, none⟩ = some x2) (h3 : w.cell? ⟨b, 3, none⟩ = some x3) :
    ((((w.setCell ⟨b, 0, none⟩ v0).setCell ⟨b, 1, none⟩ v1).setCell ⟨b, 2, none⟩ v2).setCell ⟨b, 3, none⟩ v3).cell? ⟨b, 0, none⟩ = some v0 ∧ ((((w.setCell ⟨b, 0, none⟩ v0).setCell ⟨b, 1, none⟩ v1).setCell ⟨b, 2, none⟩ v2).setCell ⟨b, 3, none⟩ v3).cell? ⟨b, 1, none⟩ = some v1 ∧ ((((w.setCell ⟨b, 0, none⟩ v0).setCell ⟨b, 1, none⟩ v1).setCell ⟨b, 2, none⟩ v2).setCell ⟨b, 3, none⟩ v3).cell? ⟨b, 2, none⟩ = some v2 ∧ ((((w.setCell ⟨b, 0, none⟩ v0).setCell ⟨b, 1, none⟩ v1).setCell ⟨b, 2, none⟩ v2).setCell ⟨b, 3, none⟩ v3).cell? ⟨b, 3, none⟩ = some v3 := by
  refine ⟨?_, ?_, ?_, ?_⟩ <;> go_simp
theorem L3P.old {c : Nat} {w2 w0 w5 : World} {s0 s1 s2 s3 : Int} {x0 x1 x2 x3 : Value} (hC : Cur w5 c) (hD : ChB c w2 w5) (hU : Up w0 w5) (hc : c < w2.heap.size) (h0 : w0.heap.size ≤ c) (u0 : w5.cell? ⟨w2.heap.size, 0, none⟩ = some x0) (u1 : w5.cell? ⟨w2.heap.size, 1, none⟩ = some x1) (u2 : w5.cell? ⟨w2.heap.size, 2, none⟩ = some x2) (u3 : w5.cell? ⟨w2.heap.size, 3, none⟩ = some x3) (uf : ∀ x, w5.frozen? ⟨w2.heap.size, x, none⟩ = false) (ul : w2.heap.size < w5.heap.size) :
    L3P c w2 w0 s0 s1 s2 s3 (.pointer (some ⟨w2.heap.size, 0, none⟩)) ((((w5.setCell ⟨w2.heap.size, 0, none⟩ (.int .i64 s0)).setCell ⟨w2.heap.size, 1, none⟩ (.int .i64 s1)).setCell ⟨w2.heap.size, 2, none⟩ (.int .i64 s2)).setCell ⟨w2.heap.size, 3, none⟩ (.int .i64 s3)) := by
  obtain ⟨g0, g1, g2, g3⟩ := four_set (.int .i64 s0) (.int .i64 s1) (.int .i64 s2) (.int .i64 s3) u0 u1 u2 u3
  exact ⟨_, rfl, Nat.le_refl _, by simpa [World.setCell] using ul, g0, g1, g2, g3, fun x => by simp only [World.frozen?_setCell]; exact uf x, hC.far4 hc _ _ _ _, hD.far4 (Nat.le_refl _) _ _ _ _, hU.far4 (by omega) _ _ _ _⟩
/-- Behind the two rows are made: the factor, the second row's box. -/
def L4P (c : Nat) (w2 w0 : World) (b : Nat) (p : Value) (wr : World) : Prop :=
  ∃ f s0 s1 s2 s3 : Int, p = .int .i64 f ∧ b < wr.heap.size ∧ wr.cell? ⟨b, 0, none⟩ = some (.int .i64 s0) ∧ wr.cell? ⟨b, 1, none⟩ = some (.int .i64 s1) ∧ wr.cell? ⟨b, 2, none⟩ = some (.int .i64 s2) ∧ wr.cell? ⟨b, 3, none⟩ = some (.int .i64 s3) ∧ Cur wr c ∧ ChB c w2 wr ∧ Up w0 wr
theorem pk8_alloc {W : World} {p r : Nat} {a b c d x y z t : Value} (o : Obj) (hp : p < W.heap.size) (hr : r < W.heap.size) (h : W.cell? ⟨p, 0, none⟩ = some a ∧ W.cell? ⟨p, 1, none⟩ = some b ∧ W.cell? ⟨p, 2, none⟩ = some c ∧ W.cell? ⟨p, 3, none⟩ = some d ∧ W.cell? ⟨r, 0, none⟩ = some x ∧ W.cell? ⟨r, 1, none⟩ = some y ∧ W.cell? ⟨r, 2, none⟩ = some z ∧ W.cell? ⟨r, 3, none⟩ = some t) :
    (W.alloc o).cell? ⟨p, 0, none⟩ = some a ∧ (W.alloc o).cell? ⟨p, 1, none⟩ = some b ∧ (W.alloc o).cell? ⟨p, 2, none⟩ = some c ∧ (W.alloc o).cell? ⟨p, 3, none⟩ = some d ∧ (W.alloc o).cell? ⟨r, 0, none⟩ = some x ∧ (W.alloc o).cell? ⟨r, 1, none⟩ = some y ∧ (W.alloc o).cell? ⟨r, 2, none⟩ = some z ∧ (W.alloc o).cell? ⟨r, 3, none⟩ = some t := by
  have hu : Up W (W.alloc o) := Up.alloc (Up.refl W) _
  obtain ⟨h1, h2, h3, h4, h5, h6, h7, h8⟩ := h
  exact ⟨(hu.cells.1 _ 0 hp).trans h1, (hu.cells.1 _ 1 hp).trans h2, (hu.cells.1 _ 2 hp).trans h3, (hu.cells.1 _ 3 hp).trans h4, (hu.cells.1 _ 0 hr).trans h5, (hu.cells.1 _ 1 hr).trans h6, (hu.cells.1 _ 2 hr).trans h7, (hu.cells.1 _ 3 hr).trans h8⟩
theorem four_new (w : World) (C1 C2 C3 C4 : Array Value) (t1 t2 t3 t4 : TypeId) (w6 : World) (h : (((w.alloc (.cells C1 t1)).alloc (.cells C2 t2)).alloc (.cells C3 t3)).alloc (.cells C4 t4) = w6) :
    w6.heap[w.heap.size]? = some (.cells C1 t1 (0, 0)) ∧ w6.heap[w.heap.size + 1]? = some (.cells C2 t2 (0, 0)) ∧ w6.heap[w.heap.size + 1 + 1]? = some (.cells C3 t3 (0, 0)) ∧ w6.heap[w.heap.size + 1 + 1 + 1]? = some (.cells C4 t4 (0, 0)) := by
  subst h
  have n1 := heap_alloc_new w (.cells C1 t1)
  have n2 := heap_alloc_new (w.alloc (.cells C1 t1)) (.cells C2 t2)
  have n3 := heap_alloc_new ((w.alloc (.cells C1 t1)).alloc (.cells C2 t2)) (.cells C3 t3)
  have n4 := heap_alloc_new (((w.alloc (.cells C1 t1)).alloc (.cells C2 t2)).alloc (.cells C3 t3)) (.cells C4 t4)
  simp only [World.size_alloc] at n2 n3 n4
  exact ⟨((Below.heap_alloc _ _ _ (by simp only [World.size_alloc]; omega)).trans ((Below.heap_alloc _ _ _ (by simp only [World.size_alloc]; omega)).trans (Below.heap_alloc _ _ _ (by simp only [World.size_alloc]; omega)))).trans n1, ((Below.heap_alloc _ _ _ (by simp only [World.size_alloc]; omega)).trans (Below.heap_alloc _ _ _ (by simp only [World.size_alloc]; omega))).trans n2, (Below.heap_alloc _ _ _ (by simp only [World.size_alloc]; omega)).trans n3, n4⟩
theorem sl_heap (L : List Int) (sz n : Nat) (hL : L.length = n * sz) (w : World) (b : Nat) (t : TypeId) (C : Array Value) (hC : C = (L.map fun x => Value.int .i64 x).toArray) (h : w.heap[b]? = some (.cells C t (0, 0))) : Sl w b (b + 1) sz (.slice (some ⟨b, 0, none⟩) n n) n (intF fun i j => L.getD (i * sz + j) 0) := by
  have hb : b < w.heap.size := by
    rcases Nat.lt_or_ge b w.heap.size with q | q
    · exact q
    · rw [Array.getElem?_eq_none q] at h; cases h
  refine ⟨hb, _, n, rfl, Nat.le_refl _, fun _ => ⟨b, 0, rfl, Nat.le_refl _, Nat.lt_succ_self _, fun i j hi hj => ?_⟩⟩
  have hlt : i * sz + j < L.length := by
    rw [hL]
    have h1 : (i + 1) * sz ≤ n * sz := Nat.mul_le_mul_right _ hi
    rw [Nat.succ_mul] at h1
    omega
  have e : w.cell? ⟨b, 0 + (i * sz + j), none⟩ = C[i * sz + j]? := by
    rw [Nat.zero_add]
    simp only [World.cell?, h]
    try rfl
  rw [e, hC]
  simp [intF, List.getD_eq_getElem?_getD, hlt]
/-- What the draw of a proof ends in. -/
def L5P (w0 : World) (e : Ending) (w' : World) : Prop :=
  ∃ (x y z : Value) (m : Nat) (R P F : Nat → Nat → Int) (l1 h1 l2 h2 l3 h3 : Nat), e = .returned (.tuple #[x, .agg #[y, z]]) ∧ Sl w' l1 h1 4 x 3 (intF R) ∧ Sl w' l2 h2 1 y 2 (intF P) ∧ Sl w' l3 h3 1 z m (intF F) ∧ m ≤ 3 ∧ w0.heap.size ≤ l1 ∧ w0.heap.size ≤ l2 ∧ w0.heap.size ≤ l3 ∧ Up w0 w'
theorem two_at {w : World} {p : Nat} {a b : Value} {t : TypeId} (hk : w.heap[p]? = some (.cells #[a, b] t (0, 0))) :
    w.cell? ⟨p, 0, none⟩ = some a ∧ w.cell? ⟨p, 1, none⟩ = some b ∧ (∀ x, w.frozen? ⟨p, x, none⟩ = false) ∧ p < w.heap.size := by
  refine ⟨?_, ?_, fun x => ?_, ?_⟩
  · simp only [World.cell?, hk]; rfl
  · simp only [World.cell?, hk]; rfl
  · simp only [World.frozen?, hk]; simp
  · rcases Nat.lt_or_ge p w.heap.size with q | q
    · exact q
    · rw [Array.getElem?_eq_none q] at hk; cases hk
theorem pk2_set {W : World} {b1 : Nat} {p : Addr} {v a b : Value} (hp1 : p.block ≠ b1) (h : W.cell? ⟨b1, 0, none⟩ = some a ∧ W.cell? ⟨b1, 1, none⟩ = some b) :
    (W.setCell p v).cell? ⟨b1, 0, none⟩ = some a ∧ (W.setCell p v).cell? ⟨b1, 1, none⟩ = some b := by
  have e : ∀ o, (W.setCell p v).cell? ⟨b1, o, none⟩ = W.cell? ⟨b1, o, none⟩ := fun o => World.cell?_setCell_other _ _ _ _ (by intro h; exact hp1 (by rw [h]))
  rw [e, e]
  exact h
theorem pk2_drew {W : World} {b1 : Nat} {a b : Value} (h : W.cell? ⟨b1, 0, none⟩ = some a ∧ W.cell? ⟨b1, 1, none⟩ = some b) :
    W.drew.cell? ⟨b1, 0, none⟩ = some a ∧ W.drew.cell? ⟨b1, 1, none⟩ = some b := h
/-- Behind the switch: the proof's box, the result's box, the rows and the two slices. -/
def SwP (B0 b8 : Nat) (w0 : World) (x : Value) (wr : World) : Prop :=
  ∃ (A2 A3 : Option Addr) (c2 c3 m : Nat) (R P F : Nat → Nat → Int) (l1 h1 l2 h2 l3 h3 : Nat),
    wr.cell? ⟨b8, 0, none⟩ = some (.slice A2 2 c2) ∧ wr.cell? ⟨b8, 1, none⟩ = some (.slice A3 m c3) ∧ wr.cell? ⟨B0, 0, none⟩ = some (.slice none 0 0) ∧ wr.cell? ⟨B0, 1, none⟩ = some (.slice none 0 0) ∧ (∀ x, wr.frozen? ⟨B0, x, none⟩ = false) ∧ b8 < wr.heap.size ∧ B0 < wr.heap.size ∧
    Sl wr l1 h1 4 x 3 (intF R) ∧ Sl wr l2 h2 1 (.slice A2 2 c2) 2 (intF P) ∧ Sl wr l3 h3 1 (.slice A3 m c3) m (intF F) ∧ m ≤ 3 ∧ B0 < l1 ∧ B0 < l2 ∧ B0 < l3 ∧ Up w0 wr
theorem pk2_alloc {W : World} {b1 : Nat} {a b : Value} (o : Obj) (hp1 : b1 < W.heap.size) (h : W.cell? ⟨b1, 0, none⟩ = some a ∧ W.cell? ⟨b1, 1, none⟩ = some b) :
    (W.alloc o).cell? ⟨b1, 0, none⟩ = some a ∧ (W.alloc o).cell? ⟨b1, 1, none⟩ = some b := by
  have hu : Up W (W.alloc o) := Up.alloc (Up.refl W) _
  exact ⟨(hu.cells.1 _ 0 hp1).trans h.1, (hu.cells.1 _ 1 hp1).trans h.2⟩
theorem heap_set {w : World} {b : Nat} {C : Array Value} {t : TypeId} {z : Nat × Nat} (o : Nat) (v : Value) (h : w.heap[b]? = some (.cells C t z)) : (w.setCell ⟨b, o, none⟩ v).heap[b]? = some (.cells (C.setIfInBounds o v) t z) := by
  simp [World.setCell, Array.getElem?_modify, h]
theorem heap_far {w : World} {p : Addr} {b : Nat} (v : Value) (h : p.block ≠ b) : (w.setCell p v).heap[b]? = w.heap[b]? := by
  simp only [World.setCell, Array.getElem?_modify]
  rw [if_neg h]
theorem chg_grow {a b : World} {r : Nat} (h : a.grownBy b (some r)) : Chg r (r + 1) a b :=
  ⟨h.size, fun x o hx hd => by
    have hbk := h.block x hx (by simp; omega)
    exact ⟨World.cell?_of_block hbk, World.frozen?_of_block hbk⟩⟩
theorem sl_own {w : World} {base : Nat} {e : TypeId} {g n cap : Nat} {xs : List Value} (L : List Int) (h : w.ownsRow base e 1 (.slice (some ⟨g, 0, none⟩) n cap) n xs) (hx : xs = L.map fun x => Value.int .i64 x) (hn : 0 < n) (p : Addr) (v : Value) (hp : p.block ≠ g) :
    Sl (w.setCell p v) g (g + 1) 1 (.slice (some ⟨g, 0, none⟩) n cap) n (intF fun i j => L.getD (i * 1 + j) 0) := by
  obtain ⟨hl, ⟨_, h0⟩ | ⟨g', cap', cur, hv, hb, hg, hnc, hcm, hsz, htk⟩⟩ := h
  · omega
  · cases hv
    have hlt : g < w.heap.size := by
      rcases Nat.lt_or_ge g w.heap.size with q | q
      · exact q
      · rw [Array.getElem?_eq_none q] at hg; cases hg
    refine ⟨by simp [World.setCell]; omega, _, cap, rfl, hnc, fun _ => ⟨g, 0, rfl, Nat.le_refl _, Nat.lt_succ_self _, fun i j hi hj => ?_⟩⟩
    have hj0 : j = 0 := by omega
    subst hj0
    have hLl : L.length = n := by rw [hx, List.length_map] at hl; omega
    have e1 : (w.setCell p v).cell? ⟨g, 0 + (i * 1 + 0), none⟩ = cur[i]? := by
      rw [World.cell?_setCell_other _ _ _ _ (by intro h; exact hp (by rw [h]))]
      simp only [World.cell?, hg, Nat.zero_add, Nat.mul_one, Nat.add_zero]
      try rfl
    have e2 : cur[i]? = xs[i]? := by
      rw [← htk, List.getElem?_take, if_pos (by omega)]
      simp
    rw [e1, e2, hx]
    simp [intF, List.getD_eq_getElem?_getD, hLl, hi]
theorem four_of {w : World} {p : Nat} {C : Array Value} {t : TypeId} (a b c d : Value) (hk : w.heap[p]? = some (.cells C t (0, 0))) (h0 : C[0]? = some a) (h1 : C[1]? = some b) (h2 : C[2]? = some c) (h3 : C[3]? = some d) :
    w.cell? ⟨p, 0, none⟩ = some a ∧ w.cell? ⟨p, 1, none⟩ = some b ∧ w.cell? ⟨p, 2, none⟩ = some c ∧ w.cell? ⟨p, 3, none⟩ = some d ∧ (∀ x, w.frozen? ⟨p, x, none⟩ = false) := by
  refine ⟨?_, ?_, ?_, ?_, fun x => ?_⟩
  · simp only [World.cell?, hk]; exact h0
  · simp only [World.cell?, hk]; exact h1
  · simp only [World.cell?, hk]; exact h2
  · simp only [World.cell?, hk]; exact h3
  · simp only [World.frozen?, hk]; simp
theorem up_ownC {w a b : World} {base size n : Nat} {e : TypeId} {v : Value} {xs : List Value} (h : Up w a) (hb : w.heap.size ≤ base) (ho : a.ownsRow base e size v n xs) (hg : a.grownBy b v.ownBlock) : Up w b :=
  Below.grown h hg h.size (fun k hk => Nat.le_trans hb (ho.lt k hk).1)
theorem SwP.of {w0 wr : World} {n5 B0 : Nat} {CR CP CF : Array Value} {tR tP tF tB t0 : TypeId} (LR LP LF : List Int) (m : Nat)
    (kR : wr.heap[n5]? = some (.cells CR tR (0, 0))) (kP : wr.heap[n5 + 1]? = some (.cells CP tP (0, 0))) (kF : wr.heap[n5 + 1 + 1]? = some (.cells CF tF (0, 0)))
    (kB : wr.heap[n5 + 1 + 1 + 1]? = some (.cells #[.slice (some ⟨n5 + 1, 0, none⟩) 2 2, .slice (some ⟨n5 + 1 + 1, 0, none⟩) 2 2] tB (0, 0))) (kk : wr.heap[B0]? = some (.cells #[.slice none 0 0, .slice none 0 0] t0 (0, 0)))
    (hR : CR = (LR.map fun x => Value.int .i64 x).toArray) (hP : CP = (LP.map fun x => Value.int .i64 x).toArray) (hF : CF = (LF.map fun x => Value.int .i64 x).toArray) (lR : LR.length = 12) (lP : LP.length = 2) (lF : LF.length = 2)
    (hlt : B0 < n5) (hU : Up w0 wr) : SwP B0 (n5 + 1 + 1 + 1) w0 (.slice (some ⟨n5, 0, none⟩) 3 3) wr := by
  obtain ⟨b0, b1, bf, bl⟩ := two_at kB
  obtain ⟨o0, o1, of', ol⟩ := two_at kk
  exact ⟨_, _, _, _, 2, _, _, _, _, _, _, _, _, _, b0, b1, o0, o1, of', bl, ol, sl_heap LR 4 3 lR wr _ _ _ hR kR, sl_heap LP 1 2 lP wr _ _ _ hP kP, sl_heap LF 1 2 lF wr _ _ _ hF kF, by omega, hlt, by omega, by omega, hU⟩
end Go.Proofs.Ytchldcjieijkaaa
