/- The walks of drawn arches and loads and of the rows of an arch. No condition. -/
import Derived.Test.YtaealkfnhhmmcaaTg
import Derived.Test.YtaealkfnhhmmcaaApp
import Derived.Test.YtaealkfnhhmmcaaRs
import Derived.BigRegion
import Derived.Deep.RegionLaw
import Derived.Test.YtaealkfnhhmmcaaSc
/- The walks of a copy of an arch and of a drawn arch. No condition. -/
namespace Go.Proofs.Ytaealkfnhhmmcaa
open Go.RowKit
set_option linter.unusedVariables false
theorem joint_info : (Try.prog.info? 69).map (fun i => (i.zero, i.size, i.bytes)) = some (some (.agg #[.int .i64 0, .int .i64 0, .int .i64 0, .int .i64 0]), 4, 32) := by kernel_rfl
def CoP (w : World) (n : Nat) (e : Ending) (w' : World) : Prop := ∃ v, e = .returned (.agg #[v]) ∧ ArP w w' n v ∧ Up w w'
set_option maxHeartbeats 4000000 in
set_option maxRecDepth 100000 in
theorem l06Copy_any (u : Value) (n lo hi : Nat) (R : Nat → Nat → Int) (w : World) (hs : Sl w lo hi 4 u n (intF R)) (hn0 : 1 ≤ n) (hn : n ≤ 8) : Calls Try.prog 74 #[.agg #[u]] w (CoP w n) := by
  have HS := Lib.hid hs
  obtain ⟨h0, A, c, rfl, hc, hx⟩ := hs
  clear hx
  obtain ⟨i0, hi0, hz0, hz1, hz2⟩ := info_parts joint_info
  have hown0 : (((w.alloc (.cells #[.slice A n c] 40)).alloc (.cells #[.slice none 0 0] 40)).alloc (.cells #[] 69)).ownsRow (w.heap.size + 1 + 1) 69 4 (.slice (some ⟨w.heap.size + 1 + 1, 0, none⟩) 0 0) 0 [] := by
    have hh := World.ownsRow_made (base := w.heap.size + 1 + 1) (e := 69) (size := 4) ((w.alloc (.cells #[.slice A n c] 40)).alloc (.cells #[.slice none 0 0] 40)) #[] 0 (by simp) (Nat.zero_le _) rfl
    simpa using hh
  have HO := Lib.hid hown0
  clear hown0
  go_enter Try.func74, Try.ntmps74
  go_wp2_with (at_builtin; refine wpList_app _ rfl (.tmp 3) (.tmp 5) 38 rfl (w.heap.size + 1 + 1) 69 i0 _ 4 32 Try.underlying38 hi0 hz0 hz1 hz2 rfl (by omega) (.slice (some ⟨w.heap.size + 1 + 1, 0, none⟩) 0 0) 0 [] rfl HO.out _ _ _ n (intF R) rfl (HS.out.up (by repeat (first | with_reducible exact Up.refl _ | with_reducible refine Up.alloc ?_ _ | with_reducible refine Up.drew ?_ | with_reducible refine Up.drewN ?_ _ | (with_reducible refine Up.setCell ?_ (by first | omega | (simp; done) | (simp; omega)) _) | with_reducible assumption | (with_reducible refine Up.trans ?_ (by with_reducible assumption))))) (fun _ _ => rfl) (by unfold maxLen; omega) (by omega) (by simp) ?_; intro v2 w2 hown2 hg2 hat2; have hu2 : Up ((w.alloc (.cells #[.slice A n c] 40)).alloc (.cells #[.slice none 0 0] 40)) w2 := up_own (Up.alloc (Up.refl _) _) (by simp) HO.out hg2; have hown3 : w2.ownsRow (w.heap.size + 1 + 1) 69 4 v2 n (flat 4 (intF R) n) := (by simpa using hown2); have hX := Wr.of_own hown3; have HX := Lib.hid hX; obtain ⟨_, A4, c4, rfl, _, hxx⟩ := hX; have r0 : w2.cell? ⟨w.heap.size + 1, 0, none⟩ = some (.slice none 0 0) := (hu2.cells.1 _ 0 (by simp)).trans (by go_simp); have rf : ∀ o, w2.frozen? ⟨w.heap.size + 1, o, none⟩ = false := (fun o => (hu2.cells.2 _ o (by simp)).trans (by go_simp)); have rs : w.heap.size + 1 < w2.heap.size := Nat.lt_of_lt_of_le (by simp) hu2.size; clear hxx hown2 hown3 hg2 hat2)
  have huw : Up w w2 := Up.trans (Up.alloc (Up.alloc (Up.refl w) _) _) hu2
  have hF := (HX.out.off ((Chg.refl (w.heap.size + 1) (w.heap.size + 1 + 1) w2).setCell (p := ⟨w.heap.size + 1, 0, none⟩) (Nat.le_refl _) (Nat.lt_succ_self _) (.slice A4 n c4)) (.inr (Nat.le_refl _))).wide (l2 := w.heap.size) (h2 := (w2.setCell ⟨w.heap.size + 1, 0, none⟩ (.slice A4 n c4)).heap.size) (by omega) (by simp) (Nat.le_refl _)
  exact bodyPost_ret (v := .agg #[.slice A4 n c4]) (by simp only [results]; go_simp; try simp) rfl ⟨_, rfl, ⟨_, _, R, rfl, hF⟩, huw.setCell (by simp) _⟩
end Go.Proofs.Ytaealkfnhhmmcaa
/- The walk of a drawn arch. No condition. -/
namespace Go.Proofs.Ytaealkfnhhmmcaa
open Go.RowKit
set_option linter.unusedVariables false
/-- A box that holds an arch, and its joints' block from lo to below hi. -/
def Bx (m : Nat) (W : World) (b n : Nat) (A : Option Addr) (cc lo hi : Nat) : Prop :=
  W.cell? ⟨b, 0, none⟩ = some (.slice A n cc) ∧ (∀ o, W.frozen? ⟨b, o, none⟩ = false) ∧ b < W.heap.size ∧ m ≤ b ∧ m ≤ lo ∧ (hi ≤ b ∨ b + 1 ≤ lo) ∧ ∃ F, Wr W lo hi 4 (.slice A n cc) n (intF F)
theorem Bx.draw {m c : Nat} {W W' : World} {b n : Nat} {A : Option Addr} {cc lo hi : Nat} (h : Bx m W b n A cc lo hi) (hc : c < m) (hd : ChB c W W') : Bx m W' b n A cc lo hi := by
  obtain ⟨h1, h2, h3, h4, h5, h6, F, h7⟩ := h
  exact ⟨(hd.1.2 b 0 h3 (.inr (by omega))).1.trans h1, fun o => (hd.1.2 b o h3 (.inr (by omega))).2.trans (h2 o), Nat.lt_of_lt_of_le h3 hd.1.1, h4, h5, h6, F, h7.off hd.1 (.inr (by omega))⟩
theorem Bx.up {m : Nat} {W W' : World} {b n : Nat} {A : Option Addr} {cc lo hi : Nat} (h : Bx m W b n A cc lo hi) (hu : Up W W') : Bx m W' b n A cc lo hi := by
  obtain ⟨h1, h2, h3, h4, h5, h6, F, h7⟩ := h
  exact ⟨(hu.cells.1 b 0 h3).trans h1, fun o => (hu.cells.2 b o h3).trans (h2 o), Nat.lt_of_lt_of_le h3 hu.size, h4, h5, h6, F, h7.up hu⟩
theorem Bx.far {m : Nat} {W : World} {b n : Nat} {A : Option Addr} {cc lo hi : Nat} (h : Bx m W b n A cc lo hi) {g o : Nat} (hb : g ≠ b) (hg : g < lo ∨ hi ≤ g) (u : Value) : Bx m (W.setCell ⟨g, o, none⟩ u) b n A cc lo hi := by
  obtain ⟨h1, h2, h3, h4, h5, h6, F, h7⟩ := h
  refine ⟨(World.cell?_setCell_other _ _ _ _ (by intro e; injection e with e; exact hb (by first | exact e | exact e.symm))).trans h1, fun o' => by rw [World.frozen?_setCell]; exact h2 o', by simpa [World.setCell] using h3, h4, h5, h6, F, ?_⟩
  exact h7.off ((Chg.refl g (g + 1) W).setCell (p := ⟨g, o, none⟩) (Nat.le_refl _) (Nat.lt_succ_self _) u) (by omega)
theorem wr_setInt {W : World} {lo hi n cc g : Nat} {F : Nat → Nat → Int} (h : Wr W lo hi 4 (.slice (some ⟨g, 0, none⟩) n cc) n (intF F)) {i j : Nat} (hin : i < n) (hj : j < 4) (x : Int) : Wr (W.setCell ⟨g, i * 4 + j, none⟩ (.int .i64 x)) lo hi 4 (.slice (some ⟨g, 0, none⟩) n cc) n (intF fun a b => if a = i ∧ b = j then x else F a b) := by
  obtain ⟨h0, A, c, e, hc, hx⟩ := h
  cases e
  refine ⟨by simpa [World.setCell] using h0, _, _, rfl, hc, fun hn => ?_⟩
  obtain ⟨b, e1, hb1, hb2, hcs, hf⟩ := hx hn
  cases e1
  refine ⟨g, rfl, hb1, hb2, fun a k ha hk => ?_, fun o => by rw [World.frozen?_setCell]; exact hf o⟩
  by_cases he : a = i ∧ k = j
  · obtain ⟨rfl, rfl⟩ := he
    rw [World.cell?_setCell_same' _ _ _ (by rw [hcs a k ha hk]; rfl)]
    simp [intF]
  · refine (World.cell?_setCell_other _ _ _ _ ?_).trans ?_
    · intro e
      injection e with _ e _
      exact he (by omega)
    · rw [hcs a k ha hk]
      simp [intF, he]
theorem Bx.store {m : Nat} {W : World} {b n g : Nat} {cc lo hi : Nat} (h : Bx m W b n (some ⟨g, 0, none⟩) cc lo hi) (hg1 : lo ≤ g) (hg2 : g < hi) {i j : Nat} (hin : i < n) (hj : j < 4) (x : Int) : Bx m (W.setCell ⟨g, i * 4 + j, none⟩ (.int .i64 x)) b n (some ⟨g, 0, none⟩) cc lo hi := by
  obtain ⟨h1, h2, h3, h4, h5, h6, F, h7⟩ := h
  refine ⟨(World.cell?_setCell_other _ _ _ _ (by intro e; injection e with e; omega)).trans h1, fun o' => by rw [World.frozen?_setCell]; exact h2 o', by simpa [World.setCell] using h3, h4, h5, h6, _, wr_setInt h7 hin hj x⟩
theorem Bx.put {m : Nat} {W : World} {b n b2 n2 : Nat} {A A2 : Option Addr} {cc lo hi c2 lo2 hi2 : Nat} (h : Bx m W b n A cc lo hi) (k : Bx m W b2 n2 A2 c2 lo2 hi2) (hb : b + 1 ≤ lo2) : Bx m (W.setCell ⟨b, 0, none⟩ (.slice A2 n2 c2)) b n2 A2 c2 lo2 hi2 := by
  obtain ⟨h1, h2, h3, h4, _, _, _, _⟩ := h
  obtain ⟨_, _, _, _, h5, _, F, h7⟩ := k
  exact ⟨World.cell?_setCell_same' _ _ _ (by rw [h1]; rfl), fun o' => by rw [World.frozen?_setCell]; exact h2 o', by simpa [World.setCell] using h3, h4, h5, .inr hb, F, h7.off ((Chg.refl b (b + 1) W).setCell (p := ⟨b, 0, none⟩) (Nat.le_refl _) (Nat.lt_succ_self _) _) (.inr hb)⟩
/-- The result's cell. -/
def Pc (m : Nat) (W : World) : Prop := W.cell? ⟨m, 0, none⟩ = some (.slice none 0 0) ∧ (∀ o, W.frozen? ⟨m, o, none⟩ = false) ∧ m < W.heap.size
theorem Pc.draw {m c : Nat} {W W' : World} (h : Pc m W) (hc : c < m) (hd : ChB c W W') : Pc m W' :=
  ⟨(hd.1.2 m 0 h.2.2 (.inr hc)).1.trans h.1, fun o => (hd.1.2 m o h.2.2 (.inr hc)).2.trans (h.2.1 o), Nat.lt_of_lt_of_le h.2.2 hd.1.1⟩
theorem Pc.up {m : Nat} {W W' : World} (h : Pc m W) (hu : Up W W') : Pc m W' :=
  ⟨(hu.cells.1 m 0 h.2.2).trans h.1, fun o => (hu.cells.2 m o h.2.2).trans (h.2.1 o), Nat.lt_of_lt_of_le h.2.2 hu.size⟩
theorem Pc.far {m g o : Nat} {W : World} (h : Pc m W) (hg : m < g) (u : Value) : Pc m (W.setCell ⟨g, o, none⟩ u) :=
  ⟨(World.cell?_setCell_other _ _ _ _ (by intro e; injection e with e; omega)).trans h.1, fun o' => by rw [World.frozen?_setCell]; exact h.2.1 o', by simpa [World.setCell] using h.2.2⟩
/-- What l06Arch ends in. -/
def DaP (w w0 : World) (c : Nat) (e : Ending) (w' : World) : Prop := ∃ v n, e = .returned (.agg #[v]) ∧ 3 ≤ n ∧ n ≤ 6 ∧ ArP w w' n v ∧ Cur w' c ∧ ChB c w w' ∧ Up w0 w'
set_option maxHeartbeats 4000000 in
set_option maxRecDepth 100000 in
theorem l06Arch_any (c : Nat) (w w0 : World) (hc : Cur w c) (h0 : w0.heap.size ≤ c) (hu : Up w0 w) : Calls Try.prog 42 #[.pointer (some ⟨c, 0, none⟩)] w (DaP w w0 c) := by
  have hcl := hc.lt
  have hlw := hu.size
  have hu1 : Up w (w.alloc (.cells #[.slice none 0 0] 40)) := Up.alloc (Up.refl w) _
  have hp1 : Pc w.heap.size (w.alloc (.cells #[.slice none 0 0] 40)) := ⟨by simp [World.cell?_alloc_mark], fun o => by go_simp, by simp⟩
  go_enter Try.func42, Try.ntmps42
  go_wp2_with fail
  (go_at_call 40; (with_reducible refine (l01Below_any _ _ _ w0 (i64_k (by omega) (by omega)) (hc.up hu1) h0 (hu.trans hu1)).mono ?_); rintro e w1 ⟨_, rfl, ⟨x1, rfl, _, _⟩, hC1, hD1, hU1⟩)
  go_wp2_with fail
  (go_at_call 45; (with_reducible refine (l06Shape_any _ _).mono ?_); rintro e w2 ⟨v2, n2, rfl, hn3, hn6, ⟨A2, c2, F2, rfl, hW2⟩, hb2⟩)
  go_wp2_with fail
  obtain ⟨w3, hw3⟩ : ∃ w3 : World, w3 = w2.alloc (.cells #[.slice A2 n2 c2] 40) := ⟨_, rfl⟩
  obtain ⟨b3, hb3⟩ : ∃ b3 : Nat, b3 = w2.heap.size := ⟨_, rfl⟩
  have hu23 : Up w2 w3 := by rw [hw3]; exact (by repeat (first | with_reducible exact Up.refl _ | with_reducible refine Up.alloc ?_ _ | with_reducible refine Up.drew ?_ | with_reducible refine Up.drewN ?_ _ | (with_reducible refine Up.setCell ?_ (by first | omega | (simp; done) | (simp; omega)) _) | with_reducible assumption | (with_reducible refine Up.trans ?_ (by with_reducible assumption))))
  have hz1 := hD1.1.1
  simp only [World.size_alloc] at hz1
  have hz2 := hb2.size
  have hB3 : Bx (w.heap.size + 1) w3 b3 n2 A2 c2 w1.heap.size w2.heap.size := by
    rw [hw3, hb3]
    exact ⟨by simp [World.cell?_alloc_mark], fun o => by go_simp, by simp, by omega, by omega, .inl (Nat.le_refl _), F2, hW2.up (Up.alloc (Up.refl _) _)⟩
  have hP3 : Pc w.heap.size w3 := ((hp1.draw hcl hD1).up hb2).up hu23
  have hC3 : Cur w3 c := hC1.up (hb2.trans hu23)
  have hD3 : ChB c w w3 := (((ChB.refl c w).up hu1).trans hD1).up (hb2.trans hu23)
  have hU3 : Up w0 w3 := hU1.trans (hb2.trans hu23)
  have hl3 : w.heap.size < b3 := by rw [hb3]; omega
  have hz3 : b3 < w3.heap.size := by rw [hw3, hb3]; simp
  rw [← hw3, ← hb3]
  clear hw3 hW2 hb2 hC1 hD1 hU1 hu23 hu1 hp1 hc hu hlw
  (go_at_call 40; (with_reducible refine (l01Below_any _ _ _ w0 (i64_k (by omega) (by omega)) hC3 h0 hU3).mono ?_); rintro e w4 ⟨_, rfl, ⟨x4, rfl, hx4, hy4⟩, hC4, hD4, hU4⟩)
  have hB4 := hB3.draw (by omega) hD4
  have hP4 := hP3.draw hcl hD4
  have hD04 := hD3.trans hD4
  have hz4 := hD4.1.1
  obtain ⟨q, hq⟩ : ∃ q : Nat, x4 = (q : Int) := ⟨x4.toNat, by omega⟩
  subst hq
  have hq5 : q ≤ 5 := by omega
  have hst : Hid (∃ A n cc lo hi, 3 ≤ n ∧ n ≤ 6 ∧ Bx (w.heap.size + 1) w4 b3 n A cc lo hi) := Lib.hid ⟨_, _, _, _, _, hn3, hn6, hB4⟩
  clear hB3 hP3 hC3 hD3 hU3 hB4 hD4 hx4 hy4 hn3 hn6 hb3 hz2 hz1
  go_wp2
  go_loopw [4] (fun k wr => ∃ q : Nat, k = .int .i64 (q : Int) ∧ q ≤ 5 ∧ Hid (∃ A n cc lo hi, 3 ≤ n ∧ n ≤ 6 ∧ Bx (w.heap.size + 1) wr b3 n A cc lo hi) ∧ Pc w.heap.size wr ∧ Cur wr c ∧ ChB c w wr ∧ Up w0 wr) (fun k _ => (intOf k).toNat)
  case atStart => exact ⟨q, rfl, hq5, hst, hP4, hC4, hD04, hU4⟩
  case round =>
    clear hst hP4 hC4 hD04 hU4 hz4 hz3 w3 w4
    obtain ⟨k, rfl, hk5, ho, hP, hC, hD, hU⟩ := hrel
    obtain ⟨A, n, cc, lo, hi, hn3, hn6, hB⟩ := ho.out
    obtain ⟨a0, af, al, am, aq, ad, F, aw⟩ := hB
    by_cases hk : 0 < k
    · have hk2 : (0 : Int) < (k : Int) := by omega
      have hhi : hi ≤ wr.heap.size := aw.1
      have hB : Bx (w.heap.size + 1) wr b3 n A cc lo hi := ⟨a0, af, al, am, aq, ad, F, aw⟩
      go_wp2_with fail
      (go_at_call 74; (with_reducible refine (l06Copy_any _ _ _ _ _ _ aw.sl (by omega) (by omega)).mono ?_); rintro e w5 ⟨v5, rfl, ⟨A5, c5, F5, rfl, hW5⟩, hb5⟩)
      obtain ⟨g5, hA5, hg1, hg2⟩ : ∃ g5, A5 = some ⟨g5, 0, none⟩ ∧ wr.heap.size ≤ g5 ∧ g5 < w5.heap.size := by
        obtain ⟨_, _, _, e1, _, hx5⟩ := hW5
        obtain ⟨g5, e2, h1, h2, _⟩ := hx5 (by omega)
        cases e1
        exact ⟨g5, e2, h1, h2⟩
      subst hA5
      go_wp2_with fail
      obtain ⟨w6, hw6⟩ : ∃ w6 : World, w6 = w5.alloc (.cells #[.slice (some ⟨g5, 0, none⟩) n c5] 40) := ⟨_, rfl⟩
      obtain ⟨b5, hbb⟩ : ∃ b5 : Nat, b5 = w5.heap.size := ⟨_, rfl⟩
      have hu56 : Up w5 w6 := by rw [hw6]; exact (by repeat (first | with_reducible exact Up.refl _ | with_reducible refine Up.alloc ?_ _ | with_reducible refine Up.drew ?_ | with_reducible refine Up.drewN ?_ _ | (with_reducible refine Up.setCell ?_ (by first | omega | (simp; done) | (simp; omega)) _) | with_reducible assumption | (with_reducible refine Up.trans ?_ (by with_reducible assumption))))
      have hz5 := hb5.size
      have hX6 : Bx (w.heap.size + 1) w6 b5 n (some ⟨g5, 0, none⟩) c5 wr.heap.size w5.heap.size := by
        rw [hw6, hbb]
        exact ⟨by simp [World.cell?_alloc_mark], fun o => by go_simp, by simp, by have := hP.2.2; omega, hP.2.2, .inl (Nat.le_refl _), F5, hW5.up (Up.alloc (Up.refl _) _)⟩
      have hB6 := hB.up (hb5.trans hu56)
      have hP6 := hP.up (hb5.trans hu56)
      have hC6 := hC.up (hb5.trans hu56)
      have hD6 := hD.up (hb5.trans hu56)
      have hU6 := hU.trans (hb5.trans hu56)
      have hlb : wr.heap.size ≤ b5 := by rw [hbb]; exact hz5
      have hgb : g5 < b5 := by rw [hbb]; exact hg2
      have hz0 := hP.2.2
      rw [← hw6, ← hbb]
      clear hw6 hbb hu56 hb5 hW5 hB hP hC hD hU a0 af aw ho hz5
      (go_at_call 40; (with_reducible refine (l01Below_any _ _ _ w0 (i64_k (by omega) (by omega)) hC6 h0 hU6).mono ?_); rintro e w7 ⟨_, rfl, ⟨i, rfl, hi0, hi1⟩, hC7, hD7, hU7⟩)
      have hX7 := hX6.draw (by omega) hD7
      have hB7 := hB6.draw (by omega) hD7
      have hP7 := hP6.draw hcl hD7
      have hD07 := hD6.trans hD7
      clear hX6 hB6 hP6 hD6 hD7 hC6 hU6
      go_wp2_with fail
      (go_at_call 40; (with_reducible refine (l01Below_any _ _ _ w0 (i64_k (by omega) (by omega)) hC7 h0 hU7).mono ?_); rintro e w8 ⟨_, rfl, ⟨dx, rfl, _, _⟩, hC8, hD8, hU8⟩)
      have hX8 := hX7.draw (by omega) hD8
      have hB8 := hB7.draw (by omega) hD8
      have hP8 := hP7.draw hcl hD8
      have hD08 := hD07.trans hD8
      clear hX7 hB7 hP7 hD07 hD8 hC7 hU7
      go_wp2_with fail
      (go_at_call 40; (with_reducible refine (l01Below_any _ _ _ w0 (i64_k (by omega) (by omega)) hC8 h0 hU8).mono ?_); rintro e w9 ⟨_, rfl, ⟨dy, rfl, _, _⟩, hC9, hD9, hU9⟩)
      have hX9 := hX8.draw (by omega) hD9
      have hB9 := hB8.draw (by omega) hD9
      have hP9 := hP8.draw hcl hD9
      have hD09 := hD08.trans hD9
      clear hX8 hB8 hP8 hD08 hD9 hC8 hU8
      go_wp2_with fail
      (go_at_call 75; (with_reducible refine (l01Once_any _ _ _ w0 (i64_k (by omega) (by omega)) hC9 h0 hU9).mono ?_); rintro e wa ⟨_, rfl, ⟨bb, rfl⟩, hCa, hDa, hUa⟩)
      have hXa := hX9.draw (by omega) hDa
      have hBa := hB9.draw (by omega) hDa
      have hPa := hP9.draw hcl hDa
      have hD0a := hD09.trans hDa
      clear hX9 hB9 hP9 hD09 hDa hC9 hU9
      obtain ⟨iN, hiN⟩ : ∃ iN : Nat, i = (iN : Int) := ⟨i.toNat, by omega⟩
      subst hiN
      have hi2 : iN < n := by omega
      have hi3 : (iN : Int) < (n : Int) := by omega
      have HXa := Lib.hid hXa
      obtain ⟨xc, xf, xl, _, _, _, Fx, xw⟩ := hXa
      obtain ⟨q0, q1, q2, q3, qf⟩ : wa.cell? ⟨g5, iN * 4, none⟩ = some (.int .i64 (Fx iN 0)) ∧ wa.cell? ⟨g5, iN * 4 + 1, none⟩ = some (.int .i64 (Fx iN 1)) ∧ wa.cell? ⟨g5, iN * 4 + 2, none⟩ = some (.int .i64 (Fx iN 2)) ∧ wa.cell? ⟨g5, iN * 4 + 3, none⟩ = some (.int .i64 (Fx iN 3)) ∧ ∀ o, wa.frozen? ⟨g5, o, none⟩ = false := by
        obtain ⟨_, _, _, e1, _, hx5⟩ := xw
        obtain ⟨g, e2, _, _, h3, h4⟩ := hx5 (by omega)
        cases e1
        cases e2
        exact ⟨h3 iN 0 hi2 (by omega), h3 iN 1 hi2 (by omega), h3 iN 2 hi2 (by omega), h3 iN 3 hi2 (by omega), h4⟩
      have HBa := Lib.hid hBa
      have HPa := Lib.hid hPa
      have HCa := Lib.hid hCa
      have HDa := Lib.hid hD0a
      have HUa := Lib.hid hUa
      clear xw hBa hPa hCa hD0a hUa
      cases bb with
      | true =>
        go_wp2_with fail
        go_region
        go_wp2_with fail
        obtain ⟨W, hW⟩ : ∃ W : World, W = ((wa.setCell ⟨g5, iN * 4, none⟩ (.int .i64 (wrap64 (Fx iN 0 + (dx - 1))))).setCell ⟨g5, iN * 4 + 1, none⟩ (.int .i64 (wrap64 (Fx iN 1 + (dy - 1))))).drew := ⟨_, rfl⟩
        have hBw : Bx (w.heap.size + 1) W b3 n A cc lo hi := by rw [hW]; exact (HBa.out.far (g := g5) (o := iN * 4) (by omega) (.inr (by omega)) _).far (g := g5) (o := iN * 4 + 1) (by omega) (.inr (by omega)) _
        have hXw : Bx (w.heap.size + 1) W b5 n (some ⟨g5, 0, none⟩) c5 wr.heap.size w5.heap.size := by rw [hW]; exact (HXa.out.store hg1 hg2 (i := iN) (j := 0) hi2 (by omega) _).store hg1 hg2 (i := iN) (j := 1) hi2 (by omega) _
        have hPw : Pc w.heap.size W := by rw [hW]; exact (HPa.out.far (by omega) _).far (by omega) _
        have hCw : Cur W c := by rw [hW]; exact ((HCa.out.far (p := g5) (by omega) _).far (p := g5) (by omega) _).up (Up.drew (Up.refl _))
        have hDw : ChB c w W := by rw [hW]; exact ((HDa.out.far (p := g5) (by omega) _).far (p := g5) (by omega) _).up (Up.drew (Up.refl _))
        have hUw : Up w0 W := by rw [hW]; exact Up.drew ((HUa.out.setCell (p := ⟨g5, iN * 4, none⟩) (by simp; omega) _).setCell (p := ⟨g5, iN * 4 + 1, none⟩) (by simp; omega) _)
        rw [← hW]
        clear hW HBa HXa HPa HCa HDa HUa q0 q1 q2 q3 qf xc xf xl
        obtain ⟨xc, xf, xl, _, _, _, Fy, xw⟩ := hXw
        (go_at_call 46; (with_reducible refine (ArchOk_any _ _ _ _ _ _ xw.sl (by omega)).mono ?_); rintro e wb ⟨⟨ok, rfl, _⟩, hbb⟩)
        have hXb : Bx (w.heap.size + 1) wb b5 n (some ⟨g5, 0, none⟩) c5 wr.heap.size w5.heap.size := Bx.up ⟨xc, xf, xl, by omega, by omega, .inl (by omega), Fy, xw⟩ hbb
        have hBb := hBw.up hbb
        have hPb := hPw.up hbb
        have hCb := hCw.up hbb
        have hDb := hDw.up hbb
        have hUb := hUw.trans hbb
        have hkk : ((k - 1 : Nat) : Int) = (k : Int) - 1 := by omega
        clear hBw hPw hCw hDw hUw hbb xc xf xl xw
        cases ok with
        | true =>
          have yc := hXb.1
          have y0 := hBb.1
          have yf := hBb.2.1
          have hBn := Lib.hid (hBb.put hXb (by omega))
          have HPb := Lib.hid (hPb.far (o := 0) (g := b3) (by omega) (.slice (some ⟨g5, 0, none⟩) n c5))
          have HCb := Lib.hid (hCb.far (p := b3) (o := 0) (by omega) (.slice (some ⟨g5, 0, none⟩) n c5))
          have HDb := Lib.hid (hDb.far (p := b3) (o := 0) (by omega) (.slice (some ⟨g5, 0, none⟩) n c5))
          have HUb := Lib.hid (hUb.setCell (p := ⟨b3, 0, none⟩) (by simp; omega) (.slice (some ⟨g5, 0, none⟩) n c5))
          clear hXb hBb hPb hCb hDb hUb
          go_wp2
          exact ⟨⟨k - 1, by rw [hkk], by omega, Lib.hid ⟨_, _, _, _, _, hn3, hn6, hBn.out⟩, HPb.out, HCb.out, HDb.out, HUb.out⟩, by simp only [intOf]; omega⟩
        | false =>
          go_wp2
          exact ⟨⟨k - 1, by rw [hkk], by omega, Lib.hid ⟨_, _, _, _, _, hn3, hn6, hBb⟩, hPb, hCb, hDb, hUb⟩, by simp only [intOf]; omega⟩
      | false =>
        go_wp2_with fail
        go_region
        go_wp2_with fail
        obtain ⟨W, hW⟩ : ∃ W : World, W = ((wa.setCell ⟨g5, iN * 4 + 2, none⟩ (.int .i64 (wrap64 (Fx iN 2 + (dx - 1))))).setCell ⟨g5, iN * 4 + 3, none⟩ (.int .i64 (wrap64 (Fx iN 3 + (dy - 1))))).drew := ⟨_, rfl⟩
        have hBw : Bx (w.heap.size + 1) W b3 n A cc lo hi := by rw [hW]; exact (HBa.out.far (g := g5) (o := iN * 4 + 2) (by omega) (.inr (by omega)) _).far (g := g5) (o := iN * 4 + 3) (by omega) (.inr (by omega)) _
        have hXw : Bx (w.heap.size + 1) W b5 n (some ⟨g5, 0, none⟩) c5 wr.heap.size w5.heap.size := by rw [hW]; exact (HXa.out.store hg1 hg2 (i := iN) (j := 2) hi2 (by omega) _).store hg1 hg2 (i := iN) (j := 3) hi2 (by omega) _
        have hPw : Pc w.heap.size W := by rw [hW]; exact (HPa.out.far (by omega) _).far (by omega) _
        have hCw : Cur W c := by rw [hW]; exact ((HCa.out.far (p := g5) (by omega) _).far (p := g5) (by omega) _).up (Up.drew (Up.refl _))
        have hDw : ChB c w W := by rw [hW]; exact ((HDa.out.far (p := g5) (by omega) _).far (p := g5) (by omega) _).up (Up.drew (Up.refl _))
        have hUw : Up w0 W := by rw [hW]; exact Up.drew ((HUa.out.setCell (p := ⟨g5, iN * 4 + 2, none⟩) (by simp; omega) _).setCell (p := ⟨g5, iN * 4 + 3, none⟩) (by simp; omega) _)
        rw [← hW]
        clear hW HBa HXa HPa HCa HDa HUa q0 q1 q2 q3 qf xc xf xl
        obtain ⟨xc, xf, xl, _, _, _, Fy, xw⟩ := hXw
        (go_at_call 46; (with_reducible refine (ArchOk_any _ _ _ _ _ _ xw.sl (by omega)).mono ?_); rintro e wb ⟨⟨ok, rfl, _⟩, hbb⟩)
        have hXb : Bx (w.heap.size + 1) wb b5 n (some ⟨g5, 0, none⟩) c5 wr.heap.size w5.heap.size := Bx.up ⟨xc, xf, xl, by omega, by omega, .inl (by omega), Fy, xw⟩ hbb
        have hBb := hBw.up hbb
        have hPb := hPw.up hbb
        have hCb := hCw.up hbb
        have hDb := hDw.up hbb
        have hUb := hUw.trans hbb
        have hkk : ((k - 1 : Nat) : Int) = (k : Int) - 1 := by omega
        clear hBw hPw hCw hDw hUw hbb xc xf xl xw
        cases ok with
        | true =>
          have yc := hXb.1
          have y0 := hBb.1
          have yf := hBb.2.1
          have hBn := Lib.hid (hBb.put hXb (by omega))
          have HPb := Lib.hid (hPb.far (o := 0) (g := b3) (by omega) (.slice (some ⟨g5, 0, none⟩) n c5))
          have HCb := Lib.hid (hCb.far (p := b3) (o := 0) (by omega) (.slice (some ⟨g5, 0, none⟩) n c5))
          have HDb := Lib.hid (hDb.far (p := b3) (o := 0) (by omega) (.slice (some ⟨g5, 0, none⟩) n c5))
          have HUb := Lib.hid (hUb.setCell (p := ⟨b3, 0, none⟩) (by simp; omega) (.slice (some ⟨g5, 0, none⟩) n c5))
          clear hXb hBb hPb hCb hDb hUb
          go_wp2
          exact ⟨⟨k - 1, by rw [hkk], by omega, Lib.hid ⟨_, _, _, _, _, hn3, hn6, hBn.out⟩, HPb.out, HCb.out, HDb.out, HUb.out⟩, by simp only [intOf]; omega⟩
        | false =>
          go_wp2
          exact ⟨⟨k - 1, by rw [hkk], by omega, Lib.hid ⟨_, _, _, _, _, hn3, hn6, hBb⟩, hPb, hCb, hDb, hUb⟩, by simp only [intOf]; omega⟩
    · have hk2 : ¬ (0 : Int) < (k : Int) := by omega
      have hPc := hP.1
      have hPf := hP.2.1
      go_wp2
      have hAr : ArP w (wr.setCell ⟨w.heap.size, 0, none⟩ (.slice A n cc)) n (.slice A n cc) := ⟨A, cc, F, rfl, (aw.off ((Chg.refl w.heap.size (w.heap.size + 1) wr).setCell (p := ⟨w.heap.size, 0, none⟩) (Nat.le_refl _) (Nat.lt_succ_self _) (.slice A n cc)) (.inr aq)).wide (by omega) (by have := aw.1; simpa [World.setCell] using this) (Nat.le_refl _)⟩
      exact bodyPost_ret (v := .agg #[.slice A n cc]) (by simp only [results]; go_simp; try simp) rfl ⟨_, n, rfl, hn3, hn6, hAr, hC.far hcl _, hD.far (Nat.le_refl _) _, hU.setCell (by simp; omega) _⟩
end Go.Proofs.Ytaealkfnhhmmcaa
/- The walk of drawn loads. No condition. -/
namespace Go.Proofs.Ytaealkfnhhmmcaa
open Go.RowKit
set_option linter.unusedVariables false
theorem Up.trans_le {a b c : World} {n : Nat} (h : Up a b) (k : Below n b c) (hn : a.heap.size ≤ n) : Up a c := Below.trans h (Below.mono k hn)
theorem Below.cf {n : Nat} {a b : World} (h : Below n a b) (x o : Nat) (hx : x < n) : b.cell? ⟨x, o, none⟩ = a.cell? ⟨x, o, none⟩ ∧ b.frozen? ⟨x, o, none⟩ = a.frozen? ⟨x, o, none⟩ := ⟨Below.cell h (p := ⟨x, o, none⟩) hx, Below.frozen h (p := ⟨x, o, none⟩) hx⟩
theorem Cur.below {a b : World} {c n : Nat} (h : Cur a c) (k : Below n a b) (hc : c < n) : Cur b c := by
  obtain ⟨A, m, cp, i, hh, B, lo, hi, q0, q1, q2, qf, ql, qh, qn, qi, qI, qs, qB⟩ := h
  have hs : Sl b lo hi 1 (.slice A m cp) m (bytF B) := by
    obtain ⟨z, A', c', hv, hcp, hx⟩ := qs
    refine ⟨Nat.le_trans z k.size, A', c', hv, hcp, fun hn => ?_⟩
    obtain ⟨bb, o, rfl, h1, h2, h3⟩ := hx hn
    exact ⟨bb, o, rfl, h1, h2, fun i j hi hj => ((Below.cf k bb _ (by omega)).1).trans (h3 i j hi hj)⟩
  exact ⟨A, m, cp, i, hh, B, lo, hi, (Below.cf k c 0 hc).1.trans q0, (Below.cf k c 1 hc).1.trans q1, (Below.cf k c 2 hc).1.trans q2, fun x => (Below.cf k c x hc).2.trans (qf x), Nat.lt_of_lt_of_le ql k.size, qh, qn, qi, qI, hs, qB⟩
theorem ChB.below {c n : Nat} {w a b : World} (h : ChB c w a) (k : Below n a b) (hn : w.heap.size ≤ n) : ChB c w b :=
  ⟨⟨Nat.le_trans h.1.1 k.size, fun x o hx hd => by
    obtain ⟨h1, h2⟩ := h.1.2 x o hx hd
    obtain ⟨k1, k2⟩ := Below.cf k x o (by omega)
    exact ⟨k1.trans h1, k2.trans h2⟩⟩, fun x hx hc => (Below.block k x (by omega)).trans (h.2 x hx hc)⟩
/-- Three integers are read off a row of the call's own that is opaque. -/
def DlP (w w0 : World) (c : Nat) (e : Ending) (w' : World) : Prop := ∃ (v : Value) (m : Nat) (L : Nat → Nat → Int), e = .returned v ∧ m ≤ 3 ∧ Sl w' w.heap.size w'.heap.size 3 v m (intF L) ∧ Cur w' c ∧ ChB c w w' ∧ Up w0 w'
theorem IR.nilcap (w : World) (n cap : Nat) (sz : Nat) (e : TypeId) {base : Nat} (hb : base ≤ w.heap.size) : IR (w.alloc (.cells #[] e)) base sz e (.slice (some ⟨w.heap.size, 0, none⟩) 0 0) 0 :=
  ⟨[], World.ownsRow_made (base := base) (e := e) (size := sz) w #[] 0 hb (Nat.zero_le _) (by simp)⟩
theorem ks_alloc {W W3 : World} {m c : Nat} (h : ∀ bb o, bb < m → bb ≠ c → W.cell? ⟨bb, o, none⟩ = W3.cell? ⟨bb, o, none⟩) (hm : m ≤ W.heap.size) (x : Obj) : ∀ bb o, bb < m → bb ≠ c → (W.alloc x).cell? ⟨bb, o, none⟩ = W3.cell? ⟨bb, o, none⟩ :=
  fun bb o h1 h2 => ((Up.cells (Up.alloc (Up.refl W) x)).1 bb o (by omega)).trans (h bb o h1 h2)
theorem piV_lits {m : Nat} {R : Nat → Nat → Int} {v : Value} (h : piV m R v) : ∃ x : Int, v = .int .i64 x := by
  obtain ⟨i, _, rfl⟩ := h
  exact ⟨_, rfl⟩
theorem ld_info : (Try.prog.info? 92).map (fun i => (i.zero, i.size, i.bytes)) = some (some (.agg #[.int .i64 0, .int .i64 0, .int .i64 0]), 3, 24) := by kernel_rfl
set_option maxHeartbeats 4000000 in
set_option maxRecDepth 100000 in
theorem l07Loads_any (c : Nat) (u : Value) (n lo hi : Nat) (R : Nat → Nat → Int) (w w0 : World) (hs : Sl w lo hi 4 u n (intF R)) (hd : c + 1 ≤ lo) (hn0 : 2 ≤ n) (hn : n ≤ 8) (hc : Cur w c) (h0 : w0.heap.size ≤ c) (hu : Up w0 w) : Calls Try.prog 43 #[.pointer (some ⟨c, 0, none⟩), .agg #[u]] w (DlP w w0 c) := by
  have hcl := hc.lt
  have hlw := hu.size
  obtain ⟨hh0, A, cc, rfl, hcc, hx⟩ := hs
  obtain ⟨b, o, rfl, hb1, hb2, hcs⟩ := hx (by omega)
  have HX := Lib.hid hcs
  clear hx hcs
  obtain ⟨i0, hi0, hz0, hz1, hz2⟩ := info_parts ld_info
  have hu1 : Up w ((w.alloc (.cells #[.slice (some ⟨b, o, none⟩) n cc] 40)).alloc (.cells #[] 92)) := (by repeat (first | with_reducible exact Up.refl _ | with_reducible refine Up.alloc ?_ _ | with_reducible refine Up.drew ?_ | with_reducible refine Up.drewN ?_ _ | (with_reducible refine Up.setCell ?_ (by first | omega | (simp; done) | (simp; omega)) _) | with_reducible assumption | (with_reducible refine Up.trans ?_ (by with_reducible assumption))))
  have hI1 : IR ((w.alloc (.cells #[.slice (some ⟨b, o, none⟩) n cc] 40)).alloc (.cells #[] 92)) (w.heap.size + 1) 3 92 (.slice (some ⟨w.heap.size + 1, 0, none⟩) 0 0) 0 := by
    have := IR.nilcap (w.alloc (.cells #[.slice (some ⟨b, o, none⟩) n cc] 40)) 0 0 3 92 (base := w.heap.size + 1) (by simp)
    simpa using this
  have hc1 : IntKind.i64.wrap ((n : Int) - 1) = (n : Int) - 1 := IntWalk.i64_in _ (by omega)
  go_enter Try.func43, Try.ntmps43
  go_wp2_with fail
  (go_at_call 40; (with_reducible refine (l01Below_any _ _ _ w0 (i64_k (by omega) (by omega)) (hc.up hu1) h0 (hu.trans hu1)).mono ?_); rintro e w1 ⟨_, rfl, ⟨x1, rfl, hx1, hy1⟩, hC1, hD1, hU1⟩)
  obtain ⟨N, rfl⟩ : ∃ N : Nat, x1 = (N : Int) := ⟨x1.toNat, by omega⟩
  have hN3 : N ≤ 3 := by omega
  have hDa : ChB c (w.alloc (.cells #[.slice (some ⟨b, o, none⟩) n cc] 40)) w1 := ((ChB.refl c _).up (Up.alloc (Up.refl _) _)).trans hD1
  have hI2 : IR w1 (w.heap.size + 1) 3 92 (.slice (some ⟨w.heap.size + 1, 0, none⟩) 0 0) 0 := by
    obtain ⟨xs, hxs⟩ := hI1
    exact ⟨xs, hD1.own hxs (by omega)⟩
  have HI2 := Lib.hid hI2
  clear hI1 hI2 hD1 hx1 hy1 hu1 hu
  go_wp2
  go_loopw [5, 7] (fun t i wr => ∃ k : Nat, i = .int .i64 (k : Int) ∧ k ≤ N ∧ Hid (IR wr (w.heap.size + 1) 3 92 t k) ∧ Cur wr c ∧ ChB c (w.alloc (.cells #[.slice (some ⟨b, o, none⟩) n cc] 40)) wr ∧ Up w0 wr) (fun _ i _ => N - (intOf i).toNat)
  case atStart => exact ⟨0, rfl, Nat.zero_le _, HI2, hC1, hDa, hU1⟩
  case round =>
    clear HI2 hC1 hDa hU1
    obtain ⟨k, rfl, hk, ho, hC, hD, hU⟩ := hrel
    have hsz := hD.1.1
    simp only [World.size_alloc] at hsz
    have hbx : wr.cell? ⟨w.heap.size, 0, none⟩ = some (.slice (some ⟨b, o, none⟩) n cc) := ((hD.1.2 w.heap.size 0 (by simp) (.inr hcl)).1).trans (by simp [World.cell?_alloc_mark])
    by_cases hk1 : k < N
    · have hk2 : (k : Int) < (N : Int) := by omega
      have hn1 : (1 : Int) < (n : Int) := by omega
      go_wp2_with fail
      (go_at_call 40; (with_reducible refine (l01Below_any _ _ _ w0 (i64_k (by omega) (by omega)) hC h0 hU).mono ?_); rintro e w2 ⟨_, rfl, ⟨x2, rfl, hx2, hy2⟩, hC2, hD2, hU2⟩)
      obtain ⟨iN, rfl⟩ : ∃ iN : Nat, x2 = (iN : Int) := ⟨x2.toNat, by omega⟩
      have hi2 : iN < n := by omega
      have hi3 : (iN : Int) < (n : Int) := by omega
      have hDb := hD.trans hD2
      have hI2 : IR w2 (w.heap.size + 1) 3 92 u5 k := by
        obtain ⟨xs, hxs⟩ := ho.out
        exact ⟨xs, hD2.own hxs (by omega)⟩
      have HI2 := Lib.hid hI2
      have hsz2 := hDb.1.1
      simp only [World.size_alloc] at hsz2
      clear ho hI2 hC hU hD hD2 hx2 hy2 hbx hsz
      have hu2 : Up w2 (w2.alloc (.cells #[.int .i64 0, .int .i64 6, .int .i64 20, .int .i64 60, .int .i64 200] 3)) := Up.alloc (Up.refl w2) _
      have hSl : Sl (w2.alloc (.cells #[.int .i64 0, .int .i64 6, .int .i64 20, .int .i64 60, .int .i64 200] 3)) w2.heap.size (w2.heap.size + 1) 1 (.slice (some ⟨w2.heap.size, 0, none⟩) 5 5) 5 (intF fun i j => ([0, 6, 20, 60, 200] : List Int).getD (i * 1 + j) 0) := sl_lit w2 1 5 [0, 6, 20, 60, 200] 3 rfl
      go_wp2_with fail
      (go_at_call 76; (with_reducible refine (l01PickInt_any _ _ _ _ _ _ _ w0 hSl (.inr (by omega)) (by omega) (by omega) (hC2.up hu2) h0 (hU2.trans hu2)).mono ?_); rintro e w3 ⟨v3, rfl, hv3, hC3, hD3, hU3⟩)
      obtain ⟨x3, rfl⟩ := piV_lits hv3
      have hDc := (hDb.up hu2).trans hD3
      have hI3 : IR w3 (w.heap.size + 1) 3 92 u5 k := by
        obtain ⟨xs, hxs⟩ := HI2.out.up hu2
        exact ⟨xs, hD3.own hxs (by omega)⟩
      obtain ⟨xs, hxs⟩ := hI3
      have hsz3 := hDc.1.1
      simp only [World.size_alloc] at hsz3
      have hbx : w3.cell? ⟨w.heap.size, 0, none⟩ = some (.slice (some ⟨b, o, none⟩) n cc) := ((hDc.1.2 w.heap.size 0 (by simp) (.inr hcl)).1).trans (by simp [World.cell?_alloc_mark])
      have hj2 : w3.cell? ⟨b, o + iN * 4 + 2, none⟩ = some (.int .i64 (R iN 2)) := ((hDc.1.2 b _ (by simp; omega) (.inr (by omega))).1).trans (((Up.cells (Up.alloc (Up.refl w) _)).1 b _ (by omega)).trans (by rw [Nat.add_assoc]; exact HX.out iN 2 hi2 (by omega)))
      have n1 : ¬ w.heap.size = c := by omega
      have n2 : ¬ b = c := by omega
      have n3 : w.heap.size < w.heap.size + 1 := by omega
      have n4 : b < w.heap.size + 1 := by omega
      have HXS := Lib.hid hxs
      have HDc := Lib.hid hDc
      clear hxs HI2 hDb hDc hD3 hC2 hU2 hu2 hSl hsz2 hv3
      obtain ⟨y2, hy2⟩ : ∃ y, y = R iN 2 := ⟨_, rfl⟩
      rw [← hy2] at hj2
      clear hy2
      have tok4 : True := trivial
      go_wp2_with fail
      go_region_held3 (fun w' => ∀ bb o, bb < w.heap.size + 1 → bb ≠ c → w'.cell? ⟨bb, o, none⟩ = w3.cell? ⟨bb, o, none⟩) (first | exact hS5 | (refine ks_alloc ?_ (by first | omega | (simp; omega)) _; exact hS4) | exact hS4 | exact fun _ _ _ _ => rfl) (first | (go_at_call 40; clear tok4; (with_reducible refine (l01Below_any _ _ _ w0 (i64_k (by omega) (by omega)) (hC3.up (by repeat (first | with_reducible exact Up.refl _ | with_reducible refine Up.alloc ?_ _ | with_reducible refine Up.drew ?_ | with_reducible refine Up.drewN ?_ _ | (with_reducible refine Up.setCell ?_ (by first | omega | (simp; done) | (simp; omega)) _) | with_reducible assumption | (with_reducible refine Up.trans ?_ (by with_reducible assumption))))) h0 (hU3.trans (by repeat (first | with_reducible exact Up.refl _ | with_reducible refine Up.alloc ?_ _ | with_reducible refine Up.drew ?_ | with_reducible refine Up.drewN ?_ _ | (with_reducible refine Up.setCell ?_ (by first | omega | (simp; done) | (simp; omega)) _) | with_reducible assumption | (with_reducible refine Up.trans ?_ (by with_reducible assumption)))))).mono ?_); rintro e w4 ⟨_, rfl, ⟨x4, rfl, hx4, hy4⟩, hC4, hD4, hU4⟩; have hDd : ChB c w3 w4 := ((ChB.refl c w3).up (by repeat (first | with_reducible exact Up.refl _ | with_reducible refine Up.alloc ?_ _ | with_reducible refine Up.drew ?_ | with_reducible refine Up.drewN ?_ _ | (with_reducible refine Up.setCell ?_ (by first | omega | (simp; done) | (simp; omega)) _) | with_reducible assumption | (with_reducible refine Up.trans ?_ (by with_reducible assumption))))).trans hD4; have hS4 : ∀ bb o, bb < w.heap.size + 1 → bb ≠ c → w4.cell? ⟨bb, o, none⟩ = w3.cell? ⟨bb, o, none⟩ := (fun bb o h1 h2 => (hDd.1.2 bb o (by omega) (by omega)).1); have hxs4 := hDd.own HXS.out (by omega); have hsz4 : w.heap.size + 1 ≤ w4.heap.size := (Nat.le_trans hsz3 hDd.1.1); obtain ⟨x5, hx5⟩ : ∃ x, IntKind.i64.wrap (y2 + x4) = x := ⟨_, rfl⟩) | ((refine step_append_lies _ (by rfl) (.tmp 33) (.tmp 47) 41 (by rfl) (w.heap.size + 1) 92 i0 (.agg #[.int .i64 0, .int .i64 0, .int .i64 0]) 3 24 Try.underlying41 hi0 hz0 hz1 hz2 rfl (by omega) u5 k _ (by rfl) (hxs4.alloc _) ⟨w4.heap.size, 0, none⟩ 1 1 [.int .i64 (iN : Int), .int .i64 x3, .int .i64 x5] (by rfl) rfl (World.news_of_block (heap_alloc_new w4 (.cells #[.int .i64 (iN : Int), .int .i64 x3, .int .i64 x5] 92))) (by simp [Value.oneCell']) (by omega) (by unfold maxLen; omega) (by omega) (by simp; omega) (w4.heap.size + 1) (by simp) ?_); intro g cap w5 hown hgrow hat hlt; have hb5 : Below (w.heap.size + 1) (w4.alloc (.cells #[.int .i64 (iN : Int), .int .i64 x3, .int .i64 x5] 92)) w5 := (Below.grown (Below.refl _ _) hgrow (by simp; omega) (fun k hk => ((hxs4.alloc (.cells #[.int .i64 (iN : Int), .int .i64 x3, .int .i64 x5] 92)).lt k hk).1)); have hS5 : ∀ bb o, bb < w.heap.size + 1 → bb ≠ c → w5.cell? ⟨bb, o, none⟩ = w3.cell? ⟨bb, o, none⟩ := (fun bb o h1 h2 => (Below.cf hb5 bb o h1).1.trans (ks_alloc hS4 hsz4 _ bb o h1 h2))))
      have hI5 : IR w5 (w.heap.size + 1) 3 92 (.slice (some ⟨g, 0, none⟩) (k + 1) cap) (k + 1) := ⟨xs ++ [(iN : Int), x3, x5], by rw [List.map_append]; exact hown⟩
      have hua : Up w4 (w4.alloc (.cells #[.int .i64 (iN : Int), .int .i64 x3, .int .i64 x5] 92)) := Up.alloc (Up.refl w4) _
      have hC5 : Cur w5 c := (hC4.up hua).below hb5 (by omega)
      have hD5 := ((HDc.out.trans hDd).up hua).below hb5 (by simp)
      have hU5 : Up w0 w5 := (hU4.trans hua).trans_le hb5 (by omega)
      have HI5 := Lib.hid hI5
      clear hI5 hown hgrow hat hS4 hS5 hb5
      go_wp2
      exact ⟨⟨k + 1, by rfl, by omega, HI5, hC5, hD5, hU5⟩, by simp only [intOf]; omega⟩
    · have hk2 : ¬ (k : Int) < (N : Int) := by omega
      obtain ⟨F, hF⟩ := ho.out.sl
      have hDw : ChB c w wr := ((ChB.refl c w).up (Up.alloc (Up.refl w) _)).trans hD
      go_wp2
      go_ret
      exact ⟨_, _, F, rfl, by omega, hF.wide (by omega) (Nat.le_refl _) (Nat.le_refl _), hC, hDw, hU⟩
end Go.Proofs.Ytaealkfnhhmmcaa
/- append onto a row of integers of the call's own: every cell of its block stays an integer; the walk of the rows of an arch. No condition. -/
namespace Go.Proofs.Ytaealkfnhhmmcaa
open Go.RowKit
set_option linter.unusedVariables false
theorem intB_of {w : World} {g : Nat} {l : List Value} {e : TypeId} {f : Nat × Nat} (h : w.heap[g]? = some (.cells l.toArray e f)) (hl : ∀ x ∈ l, ∃ k m, x = Value.int k m) : IntB w g :=
  ⟨_, e, f, h, fun i x hx => hl x (by simp at hx; exact List.mem_of_getElem? hx)⟩
theorem intB_cells {w : World} {g : Nat} {cur : Array Value} {e : TypeId} {f : Nat × Nat} (h : w.heap[g]? = some (.cells cur e f)) (hI : IntB w g) : ∀ x ∈ cur.toList, ∃ k m, x = Value.int k m := by
  obtain ⟨cs, e', f', h1, h2⟩ := hI
  rw [h] at h1
  cases h1
  intro x hx
  obtain ⟨i, hi⟩ := List.getElem?_of_mem hx
  exact h2 i x (by simpa using hi)
theorem int_zero {z : Array Value} {n : Nat} (hz : ∀ x ∈ z.toList, ∃ k m, x = Value.int k m) (hs : 0 < z.size) : ∀ x ∈ (Builtin.zeroCells z n).toList, ∃ k m, x = Value.int k m := by
  intro x hx
  simp only [Builtin.zeroCells, Array.toList_map, List.mem_map] at hx
  obtain ⟨i, _, rfl⟩ := hx
  refine hz _ ?_
  have hlt : i % z.size < z.size := Nat.mod_lt _ hs
  rw [getElem!_pos z _ hlt]
  exact Array.getElem_mem_toList hlt
theorem app_intB {P : Program} (w : World) (t ty : TypeId) (base : Nat) (e : TypeId) (i : TypeInfo) (z : Value) (size bytes : Nat) (ht : P.underlying t = some (.slice e)) (hi : P.info? e = some i) (hz : i.zero = some z)
    (hsize : i.size = size) (hby : i.bytes = bytes) (hzs : z.cells.size = size) (hsz : 0 < size)
    (v : Value) (n : Nat) (xs : List Value) (hown : w.ownsRow base e size v n xs)
    (ad : Addr) (m c : Nat) (news : List Value) (hl : news.length = m * size) (hnews : ∀ j u, news[j]? = some u → w.cell? (ad.add j) = some u) (h1 : ∀ u ∈ news, u.oneCell' = true)
    (hm : 0 < m) (h63 : n + m ≤ maxLen) (hbytes : (n + m) * bytes ≤ 140737488355328)
    (hzi : ∀ x ∈ z.cells.toList, ∃ k m, x = Value.int k m) (hni : ∀ x ∈ news, ∃ k m, x = Value.int k m) (hvi : ∀ g, v.ownBlock = some g → IntB w g) :
    ∃ v' w', (Builtin.append_ #[t, t] ty #[v, .slice (some ad) m c]).run P w = .ok v' w' ∧ ∀ g, v'.ownBlock = some g → IntB w' g := by
  subst hsize
  subst hby
  have hz0 : 0 < z.cells.size := by omega
  have hsmall : n + m ≤ 9223372036854775807 := by simp only [maxLen] at h63; omega
  rcases hown.2 with ⟨rfl, rfl⟩ | ⟨g, cap, cur, rfl, hbg, hg, hnc, hcm, hcs, htake⟩
  · have hx : xs = [] := List.eq_nil_of_length_eq_zero (by simpa using hown.1)
    subst hx
    have hr := run_append_nil (P := P) w t ty e i z ht hi hz ad m c news hl hnews (by omega) (by omega) (by have hb := hbytes; simp only [Nat.zero_add] at hb; omega)
    refine ⟨_, _, hr, fun g hg => ?_⟩
    simp only [Value.ownBlock, Option.some.injEq] at hg
    subst hg
    refine ⟨_, _, _, heap_alloc_new w.drew _, fun i x hx => ?_⟩
    have hx2 := Array.mem_of_getElem? hx
    rw [Array.mem_append] at hx2
    rcases hx2 with hx2 | hx2
    · exact hni x (by simpa using hx2)
    · exact int_zero hzi hz0 x (by simpa using hx2)
  · have hcur := intB_cells hg (hvi g rfl)
    have hxs : ∀ x ∈ xs, ∃ k m, x = Value.int k m := fun x hx => hcur x (List.mem_of_mem_take (by rw [htake]; exact hx))
    by_cases hroom : n + m ≤ cap
    · have hfit : n * i.size + news.length ≤ cur.size := by rw [hl, hcs, ← Nat.add_mul]; exact Nat.mul_le_mul_right _ hroom
      have hr := run_append_room (P := P) w t ty e i ht hi g n cap cur hg ad m c news hl hnews h1 hroom hfit
      refine ⟨_, _, hr, fun g' hg' => ?_⟩
      simp only [Value.ownBlock, Option.some.injEq] at hg'
      subst hg'
      refine intB_of (setRow_heap w g cur _ e _ hg) fun x hx => ?_
      simp only [List.mem_append] at hx
      rcases hx with (hx | hx) | hx
      · exact hcur x (List.mem_of_mem_take hx)
      · exact hni x hx
      · exact hcur x (List.mem_of_mem_drop hx)
    · have holds : ∀ j u, xs[j]? = some u → w.cell? ((⟨g, 0, none⟩ : Addr).add j) = some u := hown.cells (g := g) rfl
      have hr := run_append_grow (P := P) w t ty e i z ht hi hz ⟨g, 0, none⟩ n cap xs hown.1 holds ad m c news hl hnews (by omega) (by omega) (growslice_fits (by omega) hbytes)
      refine ⟨_, _, hr, fun g' hg' => ?_⟩
      simp only [Value.ownBlock, Option.some.injEq] at hg'
      subst hg'
      refine ⟨_, _, _, heap_alloc_new w.drew _, fun i x hx => ?_⟩
      have hx2 := Array.mem_of_getElem? hx
      simp only [Array.mem_append] at hx2
      rcases hx2 with (hx2 | hx2) | hx2
      · exact hxs x (by simpa using hx2)
      · exact hni x (by simpa using hx2)
      · exact int_zero hzi hz0 x (by simpa using hx2)
section
variable {P : Program} (w : World)
theorem wp_append_ints {o : Oper} {a : Act} {K : Act → World → Prop} {Q : Exit → Act → World → Prop} (s x : Operand) (t : TypeId)
    (ho : o.op = .call { callee := .builtin .append, args := #[s, x], argTypes := #[t, t] })
    (base : Nat) (e : TypeId) (i : TypeInfo) (z : Value) (size bytes : Nat) (ht : P.underlying t = some (.slice e)) (hi : P.info? e = some i) (hz : i.zero = some z)
    (hsize : i.size = size) (hby : i.bytes = bytes) (hzs : z.cells.size = size) (hsz : 0 < size)
    (v : Value) (n : Nat) (xs : List Value) (hs : a.eval s = v) (hown : w.ownsRow base e size v n xs)
    (ad : Addr) (m c : Nat) (news : List Value) (hx : a.eval x = .slice (some ad) m c) (hl : news.length = m * size) (hnews : ∀ j u, news[j]? = some u → w.cell? (ad.add j) = some u) (h1 : ∀ u ∈ news, u.oneCell' = true)
    (hm : 0 < m) (h63 : n + m ≤ maxLen) (hbytes : (n + m) * bytes ≤ 140737488355328) (hbase : base ≤ w.heap.size) (H : Nat) (hH : w.heap.size = H)
    (hzi : ∀ x ∈ z.cells.toList, ∃ k m, x = Value.int k m) (hni : ∀ x ∈ news, ∃ k m, x = Value.int k m) (hvi : ∀ g, v.ownBlock = some g → IntB w g)
    (h : ∀ g cap w', w'.ownsRow base e size (.slice (some ⟨g, 0, none⟩) (n + m) cap) (n + m) (xs ++ news) → w.grownBy w' v.ownBlock → (v.ownBlock = some g ∨ g = H) → g < w'.heap.size → IntB w' g → K (a.put o.dst (.slice (some ⟨g, 0, none⟩) (n + m) cap)) w') : o.wp P a w K Q := by
  obtain ⟨g, cap, w', hr, h2, h3, h4, h5⟩ := run_append_lies (P := P) w t o.type base e i z size bytes ht hi hz hsize hby hzs hsz v n xs hown ad m c news hl hnews h1 hm h63 hbytes hbase H hH
  obtain ⟨v2, w2, hr2, h6⟩ := app_intB (P := P) w t o.type base e i z size bytes ht hi hz hsize hby hzs hsz v n xs hown ad m c news hl hnews h1 hm h63 hbytes hzi hni hvi
  rw [hr] at hr2
  injection hr2 with e1 e2
  subst e1
  subst e2
  unfold Oper.wp execOp
  simp only [ho, resolve, invoke, builtin, Sem.run_bind, Sem.run_pure, Result.andThen_ok, List.map_toArray, List.map_cons, List.map_nil, hs, hx, hr]
  exact h g cap w' h2 h3 h4 h5 (h6 g rfl)
theorem wpList_append_ints {ops : Array Oper} {rest : List Oper} {o : Oper} {a : Act} {Q : Exit → Act → World → Prop} (hgd : o.guard = none) (s x : Operand) (t : TypeId)
    (ho : o.op = .call { callee := .builtin .append, args := #[s, x], argTypes := #[t, t] })
    (base : Nat) (e : TypeId) (i : TypeInfo) (z : Value) (size bytes : Nat) (ht : P.underlying t = some (.slice e)) (hi : P.info? e = some i) (hz : i.zero = some z)
    (hsize : i.size = size) (hby : i.bytes = bytes) (hzs : z.cells.size = size) (hsz : 0 < size)
    (v : Value) (n : Nat) (xs : List Value) (hs : a.eval s = v) (hown : w.ownsRow base e size v n xs)
    (ad : Addr) (m c : Nat) (news : List Value) (hx : a.eval x = .slice (some ad) m c) (hl : news.length = m * size) (hnews : ∀ j u, news[j]? = some u → w.cell? (ad.add j) = some u) (h1 : ∀ u ∈ news, u.oneCell' = true)
    (hm : 0 < m) (h63 : n + m ≤ maxLen) (hbytes : (n + m) * bytes ≤ 140737488355328) (hbase : base ≤ w.heap.size) (H : Nat) (hH : w.heap.size = H)
    (hzi : ∀ x ∈ z.cells.toList, ∃ k m, x = Value.int k m) (hni : ∀ x ∈ news, ∃ k m, x = Value.int k m) (hvi : ∀ g, v.ownBlock = some g → IntB w g)
    (h : ∀ g cap w', w'.ownsRow base e size (.slice (some ⟨g, 0, none⟩) (n + m) cap) (n + m) (xs ++ news) → w.grownBy w' v.ownBlock → (v.ownBlock = some g ∨ g = H) → g < w'.heap.size → IntB w' g → wpList P ops Q rest (a.put o.dst (.slice (some ⟨g, 0, none⟩) (n + m) cap)) w') : wpList P ops Q (o :: rest) a w :=
  wpList_plain hgd fun _ hK => wp_append_ints w s x t ho base e i z size bytes ht hi hz hsize hby hzs hsz v n xs hs hown ad m c news hx hl hnews h1 hm h63 hbytes hbase H hH hzi hni hvi fun g cap w' h2 h3 h4 h5 h6 => hK _ _ (h g cap w' h2 h3 h4 h5 h6)
theorem step_append_ints {ops : Array Oper} {o : Oper} {a : Act} {K : Act → World → Prop} {Q : Exit → Act → World → Prop} {E : Prop} (hgd : o.guard = none) (s x : Operand) (t : TypeId)
    (ho : o.op = .call { callee := .builtin .append, args := #[s, x], argTypes := #[t, t] })
    (base : Nat) (e : TypeId) (i : TypeInfo) (z : Value) (size bytes : Nat) (ht : P.underlying t = some (.slice e)) (hi : P.info? e = some i) (hz : i.zero = some z)
    (hsize : i.size = size) (hby : i.bytes = bytes) (hzs : z.cells.size = size) (hsz : 0 < size)
    (v : Value) (n : Nat) (xs : List Value) (hs : a.eval s = v) (hown : w.ownsRow base e size v n xs)
    (ad : Addr) (m c : Nat) (news : List Value) (hx : a.eval x = .slice (some ad) m c) (hl : news.length = m * size) (hnews : ∀ j u, news[j]? = some u → w.cell? (ad.add j) = some u) (h1 : ∀ u ∈ news, u.oneCell' = true)
    (hm : 0 < m) (h63 : n + m ≤ maxLen) (hbytes : (n + m) * bytes ≤ 140737488355328) (hbase : base ≤ w.heap.size) (H : Nat) (hH : w.heap.size = H)
    (hzi : ∀ x ∈ z.cells.toList, ∃ k m, x = Value.int k m) (hni : ∀ x ∈ news, ∃ k m, x = Value.int k m) (hvi : ∀ g, v.ownBlock = some g → IntB w g)
    (h : ∀ g cap w', w'.ownsRow base e size (.slice (some ⟨g, 0, none⟩) (n + m) cap) (n + m) (xs ++ news) → w.grownBy w' v.ownBlock → (v.ownBlock = some g ∨ g = H) → g < w'.heap.size → IntB w' g → K (a.put o.dst (.slice (some ⟨g, 0, none⟩) (n + m) cap)) w') :
    if Region.wanted o (yielded ops a.tmps) = true then Oper.wp P o a w K Q else E := by
  have hw : Region.wanted o (yielded ops a.tmps) = true := by simp [Region.wanted, hgd]
  rw [if_pos hw]
  exact wp_append_ints w s x t ho base e i z size bytes ht hi hz hsize hby hzs hsz v n xs hs hown ad m c news hx hl hnews h1 hm h63 hbytes hbase H hH hzi hni hvi h
end
theorem IntB.up {a b : World} {g : Nat} (h : IntB a g) (hu : Up a b) : IntB b g := by
  obtain ⟨cs, e, f, h1, h2⟩ := h
  have hlt : g < a.heap.size := by
    rcases Nat.lt_or_ge g a.heap.size with hlt | hge
    · exact hlt
    · rw [Array.getElem?_eq_none hge] at h1; cases h1
  exact ⟨cs, e, f, (Below.block hu g hlt).trans h1, h2⟩
/-- A row of rows of integers of the call's own, in block p or behind q. -/
def RI (w : World) (p q : Nat) (e : TypeId) (v : Value) (n : Nat) : Prop := ∃ (g cap : Nat) (xs : List Int), v = .slice (some ⟨g, 0, none⟩) n cap ∧ (g = p ∨ q ≤ g) ∧ g < w.heap.size ∧ w.ownsRow p e 4 v n (xs.map (Value.int .i64)) ∧ IntB w g
theorem RI.up {a b : World} {p q n : Nat} {e : TypeId} {v : Value} (h : RI a p q e v n) (hu : Up a b) : RI b p q e v n := by
  obtain ⟨g, cap, xs, h1, h2, h3, h4, h5⟩ := h
  exact ⟨g, cap, xs, h1, h2, Nat.lt_of_lt_of_le h3 hu.size, own_up (w := a) h4 hu, h5.up hu⟩
theorem chg_far {w a b : World} {p g : Nat} (h : Chg p (p + 1) w a) (hg : a.grownBy b (some g)) (hd : g = p ∨ w.heap.size ≤ g) : Chg p (p + 1) w b := by
  refine ⟨Nat.le_trans h.1 hg.size, fun x o hx ho => ?_⟩
  have hne : some x ≠ some g := by intro e; cases e; omega
  have hlt := Nat.lt_of_lt_of_le hx h.1
  exact ⟨(hg.cell_far ⟨x, o, none⟩ hlt hne).trans (h.2 x o hx ho).1, (hg.frozen_far ⟨x, o, none⟩ hlt hne).trans (h.2 x o hx ho).2⟩
/-- What RowsOf ends in. -/
def RoP (w : World) (e : Ending) (w' : World) : Prop := ∃ (A : Option Addr) (n c : Nat) (R : Nat → Nat → Int), e = .returned (.slice A n c) ∧ Sl w' 0 w'.heap.size 4 (.slice A n c) n (intF R) ∧ n ≤ 17 ∧ (∃ A0, A = some ⟨A0, 0, none⟩ ∧ IntB w' A0) ∧ Up w w'
theorem RoP.zero {w w' : World} {g : Nat} (hI : IntB w' g) (hu : Up w w') : RoP w (.returned (.slice (some ⟨g, 0, none⟩) 0 0)) w' :=
  ⟨_, 0, 0, fun _ _ => 0, rfl, ⟨Nat.le_refl _, _, 0, rfl, Nat.le_refl _, fun h => absurd h (by omega)⟩, by omega, ⟨g, rfl, hI⟩, hu⟩
theorem intB_nil (w : World) (e : TypeId) : IntB (w.alloc (.cells #[] e)) w.heap.size := ⟨_, _, _, heap_alloc_new w _, fun i x hx => by simp at hx⟩
theorem row4_info : (Try.prog.info? 25).map (fun i => (i.zero, i.size, i.bytes)) = some (some (.agg #[.int .i64 0, .int .i64 0, .int .i64 0, .int .i64 0]), 4, 32) := by kernel_rfl
theorem row4_ints : ∀ x ∈ (Value.agg #[.int .i64 0, .int .i64 0, .int .i64 0, .int .i64 0]).cells.toList, ∃ k m, x = Value.int k m := by
  intro x hx
  simp [Value.cells] at hx
  exact ⟨_, _, hx⟩
set_option maxHeartbeats 4000000 in
set_option maxRecDepth 100000 in
theorem RowsOf_any (u v : Value) (n m lo hi lo2 hi2 : Nat) (R L : Nat → Nat → Int) (w : World) (hs : Sl w lo hi 4 u n (intF R)) (hl : Sl w lo2 hi2 3 v m (intF L)) (hn : n ≤ 1048576) (hm : m ≤ 1048576) : Calls Try.prog 13 #[.agg #[u], v] w (RoP w) := by
  obtain ⟨i0, hi0, hz0, hz1, hz2⟩ := info_parts row4_info
  have hP := fun W (hu : Up w W) => LoadsOk_any u v n m lo hi lo2 hi2 R L W (hs.up hu) (hl.up hu) hn hm
  have hQ := fun W (hu : Up w W) (h3 : 3 ≤ n) (h8 : n ≤ 8) => l07Left_any u v n m lo hi lo2 hi2 R L W (hs.up hu) (hl.up hu) (by omega) h8 hm
  obtain ⟨h0, A, c, rfl, hc, hx⟩ := hs
  have H := Lib.hid hx
  clear hx
  obtain ⟨hl0, B, d, rfl, hd, hx⟩ := hl
  clear hx
  go_enter Try.func13, Try.ntmps13
  go_wp2_with fail
  (go_at_call 27; (with_reducible refine (hP _ (by repeat (first | with_reducible exact Up.refl _ | with_reducible refine Up.alloc ?_ _ | with_reducible refine Up.drew ?_ | with_reducible refine Up.drewN ?_ _ | (with_reducible refine Up.setCell ?_ (by first | omega | (simp; done) | (simp; omega)) _) | with_reducible assumption | (with_reducible refine Up.trans ?_ (by with_reducible assumption))))).mono ?_); rintro e w1 ⟨⟨bb, rfl, hbb⟩, hb1⟩)
  have hbx0 : w1.cell? ⟨w.heap.size, 0, none⟩ = some (.slice A n c) := (hb1.cells.1 _ _ (by simp; omega)).trans (by simp)
  have hu1 : Up w w1 := Up.trans (by repeat (first | with_reducible exact Up.refl _ | with_reducible refine Up.alloc ?_ _ | with_reducible refine Up.drew ?_ | with_reducible refine Up.drewN ?_ _ | (with_reducible refine Up.setCell ?_ (by first | omega | (simp; done) | (simp; omega)) _) | with_reducible assumption | (with_reducible refine Up.trans ?_ (by with_reducible assumption)))) hb1
  have hI0 : IntB w1 (w.heap.size + 1) := by
    have hh := (intB_nil (w.alloc (.cells #[.slice A n c] 40)) 25).up hb1
    simpa using hh
  cases bb with
  | false =>
    go_wp2
    go_ret
    exact RoP.zero hI0 hu1
  | true =>
    obtain ⟨h3, h8⟩ := hbb rfl
    have hs1 := hb1.size
    simp only [World.size_alloc] at hs1
    have hI1 : RI w1 (w.heap.size + 1) 0 25 (.slice (some ⟨w.heap.size + 1, 0, none⟩) 0 0) 0 := by
      refine RI.up (a := ((w.alloc (.cells #[.slice A n c] 40)).alloc (.cells #[] 25))) ?_ hb1
      have hh := World.ownsRow_made (base := w.heap.size + 1) (e := 25) (size := 4) (w.alloc (.cells #[.slice A n c] 40)) #[] 0 (by simp) (Nat.zero_le _) rfl
      have hi := heap_alloc_new (w.alloc (.cells #[.slice A n c] 40)) (.cells #[] 25)
      simp only [World.size_alloc] at hh hi
      exact ⟨w.heap.size + 1, 0, [], rfl, .inl rfl, by simp, hh, _, _, _, hi, fun i x hx => by simp at hx⟩
    go_wp2_with fail
    (go_at_call 28; (with_reducible refine (hQ _ hu1 h3 h8).mono ?_); rintro e w3 ⟨va, vb, F, G, rfl, hSA, hSB, hb3⟩)
    have hu3 : Up w w3 := hu1.trans hb3
    have hu3' : Up (w.alloc (.cells #[.slice A n c] 40)) w3 := Up.trans (Up.trans (by repeat (first | with_reducible exact Up.refl _ | with_reducible refine Up.alloc ?_ _ | with_reducible refine Up.drew ?_ | with_reducible refine Up.drewN ?_ _ | (with_reducible refine Up.setCell ?_ (by first | omega | (simp; done) | (simp; omega)) _) | with_reducible assumption | (with_reducible refine Up.trans ?_ (by with_reducible assumption)))) hb1) hb3
    have hI3 : RI w3 (w.heap.size + 1) w3.heap.size 25 (.slice (some ⟨w.heap.size + 1, 0, none⟩) 0 0) 0 := by
      obtain ⟨g, cap, xs, h1, _, h3, h4, h5⟩ := hI1.up hb3
      cases h1
      exact ⟨_, _, xs, rfl, .inl rfl, h3, h4, h5⟩
    obtain ⟨_, Aa, ca, rfl, hca, hxa⟩ := hSA
    obtain ⟨_, Ab, cb, rfl, hcb, hxb⟩ := hSB
    have HXA := Lib.hid hxa
    have HXB := Lib.hid hxb
    have HI3 := Lib.hid hI3
    have hs3 := hb3.size
    clear hxa hxb hI1 hI3 hb3 hb1 hP hQ
    have hbx3 : w3.cell? ⟨w.heap.size, 0, none⟩ = some (.slice A n c) := (hu3'.cells.1 _ _ (by simp)).trans (by simp [World.cell?_alloc_mark])
    clear hbx0
    go_wp2
    go_loopw [5, 8] (fun t i wr => ∃ k : Nat, i = .int .i64 (k : Int) ∧ k ≤ n ∧ Hid (RI wr (w.heap.size + 1) w3.heap.size 25 t (2 * k)) ∧ Hid (Chg (w.heap.size + 1) (w.heap.size + 1 + 1) w3 wr) ∧ Up (w.alloc (.cells #[.slice A n c] 40)) wr) (fun _ i _ => n - (intOf i).toNat)
    case atStart => exact ⟨0, rfl, Nat.zero_le _, HI3, Lib.hid (Chg.refl _ _ _), hu3'⟩
    case round =>
      obtain ⟨k, rfl, hk, ho, hch, hup⟩ := hrel
      have hupw : Up w wr := Up.trans (Up.alloc (Up.refl w) _) hup
      have hbx : wr.cell? ⟨w.heap.size, 0, none⟩ = some (.slice A n c) := (hup.cells.1 _ _ (by simp)).trans (by simp [World.cell?_alloc_mark])
      have hbl : w.heap.size < wr.heap.size := Nat.lt_of_lt_of_le (by simp) hup.size
      have hw3r := hch.out.1
      by_cases hk1 : k < n
      · obtain ⟨b, o, rfl, hb1, hb2, hcs⟩ := H.out (by omega)
        obtain ⟨ba, oa, rfl, ha1, ha2, hcsa⟩ := HXA.out (by omega)
        obtain ⟨bb, ob, rfl, hc1, hc2, hcsb⟩ := HXB.out (by omega)
        have hk2 : (k : Int) < (n : Int) := by omega
        have j0 : wr.cell? ⟨b, o + k * 4, none⟩ = some (.int .i64 (R k 0)) := (hupw.cells.1 _ _ (by omega)).trans (hcs k 0 hk1 (by omega))
        have j1 : wr.cell? ⟨b, o + k * 4 + 1, none⟩ = some (.int .i64 (R k 1)) := (hupw.cells.1 _ _ (by omega)).trans (by rw [Nat.add_assoc]; exact hcs k 1 hk1 (by omega))
        have j2 : wr.cell? ⟨b, o + k * 4 + 2, none⟩ = some (.int .i64 (R k 2)) := (hupw.cells.1 _ _ (by omega)).trans (by rw [Nat.add_assoc]; exact hcs k 2 hk1 (by omega))
        have j3 : wr.cell? ⟨b, o + k * 4 + 3, none⟩ = some (.int .i64 (R k 3)) := (hupw.cells.1 _ _ (by omega)).trans (by rw [Nat.add_assoc]; exact hcs k 3 hk1 (by omega))
        have ga : wr.cell? ⟨ba, oa + k, none⟩ = some (.int .i64 (F k 0)) := (hch.out.2 ba _ (by omega) (.inr (by omega))).1.trans (by simpa [intF] using hcsa k 0 hk1 (by omega))
        have gb : wr.cell? ⟨bb, ob + k, none⟩ = some (.int .i64 (G k 0)) := (hch.out.2 bb _ (by omega) (.inr (by omega))).1.trans (by simpa [intF] using hcsb k 0 hk1 (by omega))
        have hbw : b < wr.heap.size := by omega
        have haw : ba < wr.heap.size := by omega
        have hbbw : bb < wr.heap.size := by omega
        clear hcs hcsa hcsb
        obtain ⟨x0, hx0⟩ : ∃ x, x = R k 0 := ⟨_, rfl⟩
        obtain ⟨y0, hy0⟩ : ∃ x, x = R k 1 := ⟨_, rfl⟩
        obtain ⟨x1, hx1⟩ : ∃ x, x = R k 2 := ⟨_, rfl⟩
        obtain ⟨y1, hy1⟩ : ∃ x, x = R k 3 := ⟨_, rfl⟩
        obtain ⟨f, hf⟩ : ∃ x, x = F k 0 := ⟨_, rfl⟩
        obtain ⟨q, hq⟩ : ∃ x, x = G k 0 := ⟨_, rfl⟩
        rw [← hx0] at j0
        rw [← hy0] at j1
        rw [← hx1] at j2
        rw [← hy1] at j3
        rw [← hf] at ga
        rw [← hq] at gb
        clear hx0 hy0 hx1 hy1 hf hq
        obtain ⟨r1, hr1⟩ : ∃ x, IntKind.i64.wrap (-x0) = x := ⟨_, rfl⟩
        obtain ⟨r2, hr2⟩ : ∃ x, IntKind.i64.wrap (x0 * f) = x := ⟨_, rfl⟩
        obtain ⟨r3, hr3⟩ : ∃ x, IntKind.i64.wrap (q - r2) = x := ⟨_, rfl⟩
        obtain ⟨r4, hr4⟩ : ∃ x, IntKind.i64.wrap (-y1) = x := ⟨_, rfl⟩
        obtain ⟨r5, hr5⟩ : ∃ x, IntKind.i64.wrap (x1 * f) = x := ⟨_, rfl⟩
        obtain ⟨r6, hr6⟩ : ∃ x, IntKind.i64.wrap (r5 - q) = x := ⟨_, rfl⟩
        obtain ⟨g, cap, xs, rfl, hgd, hgl, hown, hIB⟩ := ho.out
        clear ho
        go_wp2_with fail
        obtain ⟨w5, hw5⟩ : ∃ w5 : World, w5 = (wr.alloc (.cells #[.int .i64 x0, .int .i64 y0] 67)).alloc (.cells #[.int .i64 x1, .int .i64 y1] 67) := ⟨_, rfl⟩
        obtain ⟨p1, hp1⟩ : ∃ p1 : Nat, p1 = wr.heap.size := ⟨_, rfl⟩
        have hu5 : Up wr w5 := by rw [hw5]; exact (by repeat (first | with_reducible exact Up.refl _ | with_reducible refine Up.alloc ?_ _ | with_reducible refine Up.drew ?_ | with_reducible refine Up.drewN ?_ _ | (with_reducible refine Up.setCell ?_ (by first | omega | (simp; done) | (simp; omega)) _) | with_reducible assumption | (with_reducible refine Up.trans ?_ (by with_reducible assumption))))
        have hz5 : w5.heap.size = p1 + 2 := by rw [hw5, hp1]; simp
        have c0 : w5.cell? ⟨p1, 0, none⟩ = some (.int .i64 x0) := by rw [hw5, hp1]; simp
        have c1 : w5.cell? ⟨p1, 1, none⟩ = some (.int .i64 y0) := by rw [hw5, hp1]; simp
        have c2 : w5.cell? ⟨p1 + 1, 0, none⟩ = some (.int .i64 x1) := by
          rw [hw5, hp1]
          simp
        have c3 : w5.cell? ⟨p1 + 1, 1, none⟩ = some (.int .i64 y1) := by
          rw [hw5, hp1]
          simp
        rw [← hw5, ← hp1]
        have n1 : ¬ p1 = g := by omega
        have n2 : ¬ p1 + 1 = g := by omega
        have n3 : ¬ ba = g := by omega
        have n4 : ¬ bb = g := by omega
        have ga5 := (hu5.cells.1 _ _ haw).trans ga
        have gb5 := (hu5.cells.1 _ _ hbbw).trans gb
        have hown5 := own_up (w := wr) hown hu5
        have hIB5 := hIB.up hu5
        have hg5 : g < w5.heap.size := Nat.lt_of_lt_of_le hgl hu5.size
        have hup5 := hup.trans hu5
        have hch5 := Lib.hid (hch.out.up hu5)
        have hsz5 := hup5.size
        simp only [World.size_alloc] at hsz5
        have ha5 : ba < w5.heap.size := by omega
        have hb5 : bb < w5.heap.size := by omega
        have hpp : p1 < w5.heap.size := by omega
        have hpq : p1 + 1 < w5.heap.size := by omega
        have hq1 : w3.heap.size ≤ w5.heap.size := by omega
        have HO5 := Lib.hid hown5
        have HI5 := Lib.hid hIB5
        clear hw5 hp1 hu5 ga gb haw hbbw hown hown5 hIB hIB5 hgl hup hch hupw hbx hbl hw3r j0 j1 j2 j3 hbw hz5
        have hn : ∀ j' u, ([.int .i64 y0, .int .i64 r1, .int .i64 1, .int .i64 r3, .int .i64 r4, .int .i64 x1, .int .i64 (-1), .int .i64 r6] : List Value)[j']? = some u → (w5.drew.alloc (.cells #[.int .i64 y0, .int .i64 r1, .int .i64 1, .int .i64 r3, .int .i64 r4, .int .i64 x1, .int .i64 (-1), .int .i64 r6] 25)).cell? ((⟨w5.heap.size, 0, none⟩ : Addr).add j') = some u := World.news_of_block (heap_alloc_new w5.drew (.cells #[.int .i64 y0, .int .i64 r1, .int .i64 1, .int .i64 r3, .int .i64 r4, .int .i64 x1, .int .i64 (-1), .int .i64 r6] 25))
        have HNE := Lib.hid hn
        clear hn
        go_region_held3 (fun w' => ∀ b o, b < w5.heap.size → b ≠ g → w'.cell? ⟨b, o, none⟩ = w5.cell? ⟨b, o, none⟩) (first | exact hS6 | exact fun b o hb _ => (Up.cells (W := w5) (by repeat (first | with_reducible exact Up.refl _ | with_reducible refine Up.alloc ?_ _ | with_reducible refine Up.drew ?_ | with_reducible refine Up.drewN ?_ _ | (with_reducible refine Up.setCell ?_ (by first | omega | (simp; done) | (simp; omega)) _) | with_reducible assumption | (with_reducible refine Up.trans ?_ (by with_reducible assumption))))).1 b o hb) (first | (refine step_append_ints _ (by rfl) (.tmp 43) (.tmp 80) 37 (by rfl) (w.heap.size + 1) 25 i0 (.agg #[.int .i64 0, .int .i64 0, .int .i64 0, .int .i64 0]) 4 32 Try.underlying37 hi0 hz0 hz1 hz2 rfl (by omega) (.slice (some ⟨g, 0, none⟩) (2 * k) cap) (2 * k) _ (by rfl) (HO5.out.drew.alloc _) ⟨w5.heap.size, 0, none⟩ 2 2 [.int .i64 y0, .int .i64 r1, .int .i64 1, .int .i64 r3, .int .i64 r4, .int .i64 x1, .int .i64 (-1), .int .i64 r6] (by rfl) rfl HNE.out (by simp [Value.oneCell']) (by omega) (by unfold maxLen; omega) (by omega) (by simp; omega) (w5.heap.size + 1) (by simp) row4_ints (by intro x hx; simp at hx; rcases hx with rfl | rfl | rfl | rfl | rfl | rfl | rfl | rfl <;> exact ⟨_, _, rfl⟩) (fun g' hg' => by cases hg'; exact HI5.out.up (by repeat (first | with_reducible exact Up.refl _ | with_reducible refine Up.alloc ?_ _ | with_reducible refine Up.drew ?_ | with_reducible refine Up.drewN ?_ _ | (with_reducible refine Up.setCell ?_ (by first | omega | (simp; done) | (simp; omega)) _) | with_reducible assumption | (with_reducible refine Up.trans ?_ (by with_reducible assumption))))) ?_; intro g2 cap2 w6 hown6 hgrow hat hlt hIB6; have hS6 : ∀ b o, b < w5.heap.size → b ≠ g → w6.cell? ⟨b, o, none⟩ = w5.cell? ⟨b, o, none⟩ := (fun b o hb hne => (hgrow.cell_far ⟨b, o, none⟩ (Nat.lt_of_lt_of_le hb (by simp)) (fun e => hne (by cases e; rfl))).trans ((Up.cells (W := w5) (by repeat (first | with_reducible exact Up.refl _ | with_reducible refine Up.alloc ?_ _ | with_reducible refine Up.drew ?_ | with_reducible refine Up.drewN ?_ _ | (with_reducible refine Up.setCell ?_ (by first | omega | (simp; done) | (simp; omega)) _) | with_reducible assumption | (with_reducible refine Up.trans ?_ (by with_reducible assumption))))).1 b o hb))))
        have hu6 : Up (w.alloc (.cells #[.slice (some ⟨b, o, none⟩) n c] 40)) w6 := up_own (Up.drew (hup5.alloc _)) (by simp) (HO5.out.alloc _).drew hgrow
        have hch6 : Chg (w.heap.size + 1) (w.heap.size + 1 + 1) w3 w6 := chg_far ((hch5.out.up (Up.alloc (Up.refl w5) (.cells #[.int .i64 y0, .int .i64 r1, .int .i64 1, .int .i64 r3, .int .i64 r4, .int .i64 x1, .int .i64 (-1), .int .i64 r6] 25))).drew) hgrow hgd
        have hg6 : g2 = w.heap.size + 1 ∨ w3.heap.size ≤ g2 := by
          rcases hat with h | h
          · cases h; exact hgd
          · right; omega
        have hR6 : RI w6 (w.heap.size + 1) w3.heap.size 25 (.slice (some ⟨g2, 0, none⟩) (2 * k + 2) cap2) (2 * (k + 1)) := ⟨g2, cap2, xs ++ [y0, r1, 1, r3, r4, x1, -1, r6], rfl, hg6, hlt, by rw [List.map_append]; exact hown6, hIB6⟩
        go_wp2
        exact ⟨⟨k + 1, by rfl, by omega, Lib.hid hR6, Lib.hid hch6, hu6⟩, by simp only [intOf]; omega⟩
      · have hkk : k = n := by omega
        subst hkk
        have hk2 : ¬ (k : Int) < (k : Int) := by omega
        obtain ⟨g, cap, xs, rfl, hgd, hgl, hown, hIB⟩ := ho.out
        have HOW := Lib.hid hown
        have hsz := hup.size
        simp only [World.size_alloc] at hsz
        clear ho hown
        go_wp2_with (at_builtin; refine wpList_append_ints _ rfl (.tmp 82) (.tmp 84) 37 rfl (w.heap.size + 1) 25 i0 (.agg #[.int .i64 0, .int .i64 0, .int .i64 0, .int .i64 0]) 4 32 Try.underlying37 hi0 hz0 hz1 hz2 rfl (by omega) (.slice (some ⟨g, 0, none⟩) (2 * k) cap) (2 * k) _ rfl (HOW.out.alloc _) ⟨wr.heap.size, 0, none⟩ 1 1 [.int .i64 (-1), .int .i64 0, .int .i64 0, .int .i64 0] rfl rfl (World.news_of_block (heap_alloc_new wr _)) (by simp [Value.oneCell']) (by omega) (by unfold maxLen; omega) (by omega) (by simp; omega) (wr.heap.size + 1) (by simp) row4_ints (by intro x hx; simp at hx; rcases hx with rfl | rfl <;> exact ⟨_, _, rfl⟩) (fun g' hg' => by cases hg'; exact hIB.up (by repeat (first | with_reducible exact Up.refl _ | with_reducible refine Up.alloc ?_ _ | with_reducible refine Up.drew ?_ | with_reducible refine Up.drewN ?_ _ | (with_reducible refine Up.setCell ?_ (by first | omega | (simp; done) | (simp; omega)) _) | with_reducible assumption | (with_reducible refine Up.trans ?_ (by with_reducible assumption))))) ?_; intro g2 cap2 w6 hown6 hgrow hat hlt hIB6; have hu6 : Up (w.alloc (.cells #[.slice A k c] 40)) w6 := up_own (hup.alloc _) (by simp) (HOW.out.alloc _) hgrow)
        have hIR : IR w6 (w.heap.size + 1) 4 25 (.slice (some ⟨g2, 0, none⟩) (2 * k + 1) cap2) (2 * k + 1) := ⟨xs ++ [-1, 0, 0, 0], by rw [List.map_append]; exact hown6⟩
        obtain ⟨E, hE⟩ := hIR.sl
        have HE := Lib.hid hE
        have HI6 := Lib.hid hIB6
        have huw6 : Up w w6 := Up.trans (Up.alloc (Up.refl w) _) hu6
        clear hIR hE hIB6 hown6 hgrow hat hup hch hupw hbx hbl hw3r HOW hIB hgl hgd hsz hu6
        go_wp2
        go_loopw [11] (fun i wr => ∃ j : Nat, i = .int .i64 (j : Int) ∧ j ≤ 2 * k + 1 ∧ Up w6 wr) (fun i _ => 2 * k + 1 - (intOf i).toNat)
        case atStart => exact ⟨0, rfl, Nat.zero_le _, Up.refl _⟩
        case round =>
          obtain ⟨j, rfl, hj, hj6⟩ := hrel
          have hjw : Up w wr := huw6.trans hj6
          by_cases hj1 : j < 2 * k + 1
          · have hj2 : (j : Int) < 2 * (k : Int) + 1 := by omega
            have hS := HE.out.up hj6
            obtain ⟨_, _, _, e1, _, hx⟩ := hS
            obtain ⟨bq, oq, e2, _, hbq, hcs⟩ := hx (by omega)
            cases e1
            cases e2
            have q0 : wr.cell? ⟨g2, j * 4, none⟩ = some (.int .i64 (E j 0)) := by simpa [intF] using hcs j 0 hj1 (by omega)
            have q1 : wr.cell? ⟨g2, j * 4 + 1, none⟩ = some (.int .i64 (E j 1)) := by simpa [intF] using hcs j 1 hj1 (by omega)
            have q2 : wr.cell? ⟨g2, j * 4 + 2, none⟩ = some (.int .i64 (E j 2)) := by simpa [intF] using hcs j 2 hj1 (by omega)
            have q3 : wr.cell? ⟨g2, j * 4 + 3, none⟩ = some (.int .i64 (E j 3)) := by simpa [intF] using hcs j 3 hj1 (by omega)
            have hC : ∀ W, Calls Try.prog 29 #[.agg #[.int .i64 (E j 0), .int .i64 (E j 1), .int .i64 (E j 2), .int .i64 (E j 3)]] W fun e w' => e = .returned (.bool (rowB (E j 0) (E j 1) (E j 2) (E j 3))) ∧ Up W w' := fun W => sRowOk_any _ _ _ _ W
            generalize rowB (E j 0) (E j 1) (E j 2) (E j 3) = bq at hC
            clear hcs hx
            cases bq with
            | false =>
              go_wp2_with (first | (go_at_call 29; (with_reducible refine (hC _).mono ?_); rintro e w1 ⟨rfl, hb1⟩))
              go_ret
              exact RoP.zero (intB_nil _ _) (by repeat (first | with_reducible exact Up.refl _ | with_reducible refine Up.alloc ?_ _ | with_reducible refine Up.drew ?_ | with_reducible refine Up.drewN ?_ _ | (with_reducible refine Up.setCell ?_ (by first | omega | (simp; done) | (simp; omega)) _) | with_reducible assumption | (with_reducible refine Up.trans ?_ (by with_reducible assumption))))
            | true =>
              go_wp2_with (first | (go_at_call 29; (with_reducible refine (hC _).mono ?_); rintro e w1 ⟨rfl, hb1⟩))
              exact ⟨⟨j + 1, by rfl, by omega, (by repeat (first | with_reducible exact Up.refl _ | with_reducible refine Up.alloc ?_ _ | with_reducible refine Up.drew ?_ | with_reducible refine Up.drewN ?_ _ | (with_reducible refine Up.setCell ?_ (by first | omega | (simp; done) | (simp; omega)) _) | with_reducible assumption | (with_reducible refine Up.trans ?_ (by with_reducible assumption))))⟩, by simp only [intOf]; omega⟩
          · have hj2 : ¬ (j : Int) < 2 * (k : Int) + 1 := by omega
            go_wp2
            go_ret
            exact ⟨_, _, _, E, rfl, (HE.out.up hj6).wide (Nat.zero_le _) (Nat.le_trans (Nat.le_refl _) hj6.size) (Nat.le_refl _), by omega, ⟨g2, rfl, HI6.out.up hj6⟩, hjw⟩
end Go.Proofs.Ytaealkfnhhmmcaa
/- The walks of the draw of a standing arch. No condition. -/
namespace Go.Proofs.Ytaealkfnhhmmcaa
open Go.RowKit
set_option linter.unusedVariables false
set_option maxRecDepth 100000 in
theorem ThrustsOf_any (u v : Value) (n m lo hi lo2 hi2 : Nat) (R L : Nat → Nat → Int) (w : World) (hs : Sl w lo hi 4 u n (intF R)) (hl : Sl w lo2 hi2 3 v m (intF L)) (hn : n ≤ 1048576) (hm : m ≤ 1048576) : Calls Try.prog 77 #[.agg #[u], v] w fun e w' => (∃ A n c, e = .returned (.slice A n c)) ∧ Up w w' := by
  have hP := fun W (hu : Up w W) => RowsOf_any u v n m lo hi lo2 hi2 R L W (hs.up hu) (hl.up hu) hn hm
  obtain ⟨A, c, rfl⟩ := hs.shape
  clear hs hl
  go_enter Try.func77, Try.ntmps77
  go_wp2_with fail
  (go_at_call 13; (with_reducible refine (hP _ (by repeat (first | with_reducible exact Up.refl _ | with_reducible refine Up.alloc ?_ _ | with_reducible refine Up.drew ?_ | with_reducible refine Up.drewN ?_ _ | (with_reducible refine Up.setCell ?_ (by first | omega | (simp; done) | (simp; omega)) _) | with_reducible assumption | (with_reducible refine Up.trans ?_ (by with_reducible assumption))))).mono ?_); rintro e w1 ⟨A1, n1, c1, R1, rfl, hS1, hn1, _, hb1⟩)
  have hu1 : Up w w1 := Up.trans (by repeat (first | with_reducible exact Up.refl _ | with_reducible refine Up.alloc ?_ _ | with_reducible refine Up.drew ?_ | with_reducible refine Up.drewN ?_ _ | (with_reducible refine Up.setCell ?_ (by first | omega | (simp; done) | (simp; omega)) _) | with_reducible assumption | (with_reducible refine Up.trans ?_ (by with_reducible assumption)))) hb1
  go_wp2_with fail
  (go_at_call 16; (with_reducible refine (sCornersOf_any _ _ _ _ _ _ hS1 (by omega)).mono ?_); rintro e w2 ⟨v2, rfl, hv2, hb2⟩)
  obtain ⟨A2, c2, rfl⟩ := hv2.sl.shape
  have hu2 : Up w w2 := hu1.trans hb2
  go_wp2
  go_ret
  exact ⟨⟨_, _, _, rfl⟩, hu2⟩
set_option maxRecDepth 100000 in
theorem Stands_any (u v : Value) (n m lo hi lo2 hi2 : Nat) (R L : Nat → Nat → Int) (w : World) (hs : Sl w lo hi 4 u n (intF R)) (hl : Sl w lo2 hi2 3 v m (intF L)) (hn : n ≤ 1048576) (hm : m ≤ 1048576) : Calls Try.prog 44 #[.agg #[u], v] w (BoP w fun _ => True) := by
  have hP := fun W (hu : Up w W) => ThrustsOf_any u v n m lo hi lo2 hi2 R L W (hs.up hu) (hl.up hu) hn hm
  obtain ⟨A, c, rfl⟩ := hs.shape
  clear hs hl
  go_enter Try.func44, Try.ntmps44
  go_wp2_with fail
  (go_at_call 77; (with_reducible refine (hP _ (by repeat (first | with_reducible exact Up.refl _ | with_reducible refine Up.alloc ?_ _ | with_reducible refine Up.drew ?_ | with_reducible refine Up.drewN ?_ _ | (with_reducible refine Up.setCell ?_ (by first | omega | (simp; done) | (simp; omega)) _) | with_reducible assumption | (with_reducible refine Up.trans ?_ (by with_reducible assumption))))).mono ?_); rintro e w1 ⟨⟨A1, n1, c1, rfl⟩, hb1⟩)
  have hu1 : Up w w1 := Up.trans (by repeat (first | with_reducible exact Up.refl _ | with_reducible refine Up.alloc ?_ _ | with_reducible refine Up.drew ?_ | with_reducible refine Up.drewN ?_ _ | (with_reducible refine Up.setCell ?_ (by first | omega | (simp; done) | (simp; omega)) _) | with_reducible assumption | (with_reducible refine Up.trans ?_ (by with_reducible assumption)))) hb1
  go_wp2
  go_ret
  exact ⟨⟨_, rfl, trivial⟩, hu1⟩
/-- What l12Standing ends in. -/
def DsP (w w0 : World) (c : Nat) (e : Ending) (w' : World) : Prop := ∃ (u v : Value) (n m : Nat) (R L : Nat → Nat → Int), e = .returned (.tuple #[.agg #[u], v]) ∧ Sl w' (w.heap.size + 1) w'.heap.size 4 u n (intF R) ∧ n ≤ 8 ∧ Sl w' (w.heap.size + 1) w'.heap.size 3 v m (intF L) ∧ m ≤ 3 ∧ Up w0 w'
set_option maxHeartbeats 4000000 in
set_option maxRecDepth 100000 in
theorem l12Standing_any (c : Nat) (w w0 : World) (hc : Cur w c) (h0 : w0.heap.size ≤ c) (hu : Up w0 w) : Calls Try.prog 26 #[.pointer (some ⟨c, 0, none⟩)] w (DsP w w0 c) := by
  have hcl := hc.lt
  have hlw := hu.size
  have hu1 : Up w (w.alloc (.cells #[.slice none 0 0] 40)) := Up.alloc (Up.refl w) _
  have hp1 : Pc w.heap.size (w.alloc (.cells #[.slice none 0 0] 40)) := ⟨by simp [World.cell?_alloc_mark], fun o => by go_simp, by simp⟩
  have hC1 := hc.up hu1
  have hU1 := hu.trans hu1
  clear hu1 hc hu
  go_enter Try.func26, Try.ntmps26
  go_wp2
  go_loopw [4] (fun i wr => ∃ k : Nat, i = .int .i64 (k : Int) ∧ k ≤ 5 ∧ Pc w.heap.size wr ∧ Cur wr c ∧ Up w0 wr) (fun i _ => 5 - (intOf i).toNat)
  case atStart => exact ⟨0, rfl, Nat.zero_le _, hp1, hC1, hU1⟩
  case round =>
    clear hp1 hC1 hU1
    obtain ⟨k, rfl, hk, hP, hC, hU⟩ := hrel
    by_cases hk1 : (k : Int) < 5
    · go_wp2_with fail
      (go_at_call 42; (with_reducible refine (l06Arch_any _ _ _ hC h0 hU).mono ?_); rintro e w2 ⟨_, n, rfl, hn3, hn6, ⟨A, cc, F, rfl, hW2⟩, hC2, hD2, hU2⟩)
      have hP2 := hP.draw hcl hD2
      have hsz2 := hD2.1.1
      have hpl := hP.2.2
      go_wp2_with fail
      obtain ⟨w3, hw3⟩ : ∃ w3 : World, w3 = w2.alloc (.cells #[.slice A n cc] 40) := ⟨_, rfl⟩
      obtain ⟨b3, hb3⟩ : ∃ b3 : Nat, b3 = w2.heap.size := ⟨_, rfl⟩
      have hu23 : Up w2 w3 := by rw [hw3]; exact (by repeat (first | with_reducible exact Up.refl _ | with_reducible refine Up.alloc ?_ _ | with_reducible refine Up.drew ?_ | with_reducible refine Up.drewN ?_ _ | (with_reducible refine Up.setCell ?_ (by first | omega | (simp; done) | (simp; omega)) _) | with_reducible assumption | (with_reducible refine Up.trans ?_ (by with_reducible assumption))))
      have h3c : w3.cell? ⟨b3, 0, none⟩ = some (.slice A n cc) := by rw [hw3, hb3]; simp [World.cell?_alloc_mark]
      have h3l : b3 < w3.heap.size := by rw [hw3, hb3]; simp
      have hb3l : w2.heap.size ≤ b3 := by omega
      have hz3 : w.heap.size + 1 ≤ w3.heap.size := by omega
      rw [← hw3, ← hb3]
      clear hw3 hb3
      have hP3 := hP2.up hu23
      have hC3 := hC2.up hu23
      have hU3 := hU2.trans hu23
      have hS3 := hW2.sl.up hu23
      clear hP hC hU hD2 hP2 hC2 hU2 hW2 hu23
      (go_at_call 43; (with_reducible refine (l07Loads_any _ _ _ _ _ _ _ w0 hS3 (by omega) (by omega) (by omega) hC3 h0 hU3).mono ?_); rintro e w4 ⟨v4, m, L, rfl, hm3, hL4, hC4, hD4, hU4⟩)
      obtain ⟨A4, c4, rfl⟩ := hL4.shape
      have hP4 := hP3.draw hcl hD4
      have h4c := (hD4.1.2 b3 0 h3l (.inr (by omega))).1.trans h3c
      have h4l := Nat.lt_of_lt_of_le h3l hD4.1.1
      have hS4 := hS3.off hD4.1 (.inr (by omega))
      clear hP3 hC3 hU3 hS3 h3c h3l hD4
      go_wp2_with fail
      (go_at_call 44; (with_reducible refine (Stands_any _ _ _ _ _ _ _ _ _ _ _ hS4 hL4 (by omega) (by omega)).mono ?_); rintro e w5 ⟨⟨bb, rfl, _⟩, hb5⟩)
      have hP5 := hP4.up hb5
      have h5c := (hb5.cells.1 _ _ h4l).trans h4c
      have hC5 := hC4.up hb5
      have hU5 := hU4.trans hb5
      have hS5 := hS4.up hb5
      have hL5 := hL4.up hb5
      clear hP4 h4c hC4 hU4 hS4 hL4
      cases bb with
      | true =>
        have p0 := hP5.1
        have pf := hP5.2.1
        have hz := hb5.size
        have hF := (hS5.off ((Chg.refl w.heap.size (w.heap.size + 1) w5).setCell (p := ⟨w.heap.size, 0, none⟩) (Nat.le_refl _) (Nat.lt_succ_self _) (.slice A n cc)) (.inr hpl)).wide (l2 := w.heap.size + 1) (h2 := (w5.setCell ⟨w.heap.size, 0, none⟩ (.slice A n cc)).heap.size) hpl (by simp only [World.size_setCell]; omega) (Nat.le_refl _)
        have hG := (hL5.off ((Chg.refl w.heap.size (w.heap.size + 1) w5).setCell (p := ⟨w.heap.size, 0, none⟩) (Nat.le_refl _) (Nat.lt_succ_self _) (.slice A n cc)) (.inr (by omega))).wide (l2 := w.heap.size + 1) (h2 := (w5.setCell ⟨w.heap.size, 0, none⟩ (.slice A n cc)).heap.size) (by omega) (by simp only [World.size_setCell]; omega) (Nat.le_refl _)
        have hUF := hU5.setCell (p := ⟨w.heap.size, 0, none⟩) (by simp; omega) (.slice A n cc)
        go_wp2
        exact bodyPost_ret (v := .tuple #[.agg #[.slice A n cc], .slice A4 m c4]) (by simp only [results]; go_simp; try simp) rfl ⟨_, _, n, m, F, L, rfl, hF, by omega, hG, hm3, hUF⟩
      | false =>
        go_wp2
        exact ⟨⟨k + 1, by rfl, by omega, hP5, hC5, hU5⟩, by simp only [intOf]; omega⟩
    · have hpl := hP.2.2
      have p0 := hP.1
      have pf := hP.2.1
      go_wp2_with fail
      (go_at_call 45; (with_reducible refine (l06Shape_any _ _).mono ?_); rintro e w2 ⟨v2, n, rfl, hn3, hn6, ⟨A, cc, F, rfl, hW2⟩, hb2⟩)
      have y0 := (hb2.cells.1 _ _ hpl).trans p0
      have yf := fun o => (hb2.cells.2 _ o hpl).trans (pf o)
      have yl := Nat.lt_of_lt_of_le hpl hb2.size
      go_wp2
      refine bodyPost_ret (v := .tuple #[.agg #[.slice A n cc], .slice (some ⟨w2.heap.size, 0, none⟩) 0 0]) (by simp only [results]; go_simp; try simp) rfl ⟨_, _, n, 0, F, fun _ _ => 0, rfl, ?_, by omega, ?_, by omega, ?_⟩
      · exact ((hW2.sl.off ((Chg.refl w.heap.size (w.heap.size + 1) w2).setCell (p := ⟨w.heap.size, 0, none⟩) (Nat.le_refl _) (Nat.lt_succ_self _) (.slice A n cc)) (.inr hpl)).up (Up.alloc (Up.refl _) _)).wide hpl (by simp only [World.size_setCell, World.size_alloc]; omega) (Nat.le_refl _)
      · exact ⟨Nat.le_refl _, _, 0, rfl, Nat.le_refl _, fun h => absurd h (by omega)⟩
      · exact ((hU.trans hb2).setCell (p := ⟨w.heap.size, 0, none⟩) (by simp; omega) _).alloc _
def DtP (w : World) (e : Ending) (w' : World) : Prop := ∃ (u v : Value) (n m : Nat) (R L : Nat → Nat → Int), e = .returned (.tuple #[.agg #[u], v]) ∧ Sl w' 0 w'.heap.size 4 u n (intF R) ∧ n ≤ 8 ∧ Sl w' 0 w'.heap.size 3 v m (intF L) ∧ m ≤ 3 ∧ Up w w'
set_option maxHeartbeats 4000000 in
set_option maxRecDepth 100000 in
theorem DrawStanding_any (u : Value) (n lo hi : Nat) (B : Nat → Int) (w : World) (hs : Sl w lo hi 1 u n (bytF B)) (hn : n ≤ 1048576) (hB : ∀ i, i < n → 0 ≤ B i ∧ B i ≤ 255) : Calls Try.prog 12 #[u] w (DtP w) := by
  have hu1 : Up w (w.alloc (.cells #[.slice none 0 0] 40)) := Up.alloc (Up.refl w) _
  have hp1 : Pc w.heap.size (w.alloc (.cells #[.slice none 0 0] 40)) := ⟨by simp [World.cell?_alloc_mark], fun o => by go_simp, by simp⟩
  have hs1 := hs.up hu1
  go_enter Try.func12, Try.ntmps12
  go_wp2_with fail
  (go_at_call 17; (with_reducible refine (l01New_any _ _ _ _ _ _ hs1 hn hB).mono ?_); rintro e w2 ⟨c, rfl, hcz, hC2, hb2⟩)
  go_wp2_with fail
  (go_at_call 26; (with_reducible refine (l12Standing_any _ _ _ hC2 hcz hb2).mono ?_); rintro e w3 ⟨v3, v4, n3, m3, R3, L3, rfl, hS3, hn3, hL3, hm3, hU3⟩)
  obtain ⟨A3, c3, rfl⟩ := hS3.shape
  obtain ⟨A4, c4, rfl⟩ := hL3.shape
  have hp3 := hp1.up hU3
  have p0 := hp3.1
  have pf := hp3.2.1
  have pl := hp3.2.2
  have pq := hb2.size
  simp only [World.size_alloc] at pq
  go_wp2
  refine bodyPost_ret (v := .tuple #[.agg #[.slice A3 n3 c3], .slice A4 m3 c4]) (by simp only [results]; go_simp; try simp) rfl ⟨_, _, n3, m3, R3, L3, rfl, ?_, hn3, ?_, hm3, ?_⟩
  · exact ((hS3.off ((Chg.refl w.heap.size (w.heap.size + 1) w3).setCell (p := ⟨w.heap.size, 0, none⟩) (Nat.le_refl _) (Nat.lt_succ_self _) (.slice A3 n3 c3)) (.inr (by omega))).up (Up.alloc (Up.refl _) _)).wide (Nat.zero_le _) (by simp only [World.size_setCell, World.size_alloc]; omega) (Nat.le_refl _)
  · exact ((hL3.off ((Chg.refl w.heap.size (w.heap.size + 1) w3).setCell (p := ⟨w.heap.size, 0, none⟩) (Nat.le_refl _) (Nat.lt_succ_self _) (.slice A3 n3 c3)) (.inr (by omega))).up (Up.alloc (Up.refl _) _)).wide (Nat.zero_le _) (by simp only [World.size_setCell, World.size_alloc]; omega) (Nat.le_refl _)
  · exact ((hu1.trans hU3).setCell (p := ⟨w.heap.size, 0, none⟩) (Nat.le_refl _) _).alloc _
end Go.Proofs.Ytaealkfnhhmmcaa
