/- The walk of the law FactorsOf: it returns true. No condition. -/
import Derived.Test.YtffilcocndllcaaFa2
import Derived.Test.YtffilcocndllcaaHgL
namespace Go.Proofs.Ytffilcocndllcaa
open Go.RowKit
set_option linter.unusedVariables false
/-- Block b holds the row p. -/
def BoxR (w : World) (b : Nat) (p : R4) : Prop := w.cell? ⟨b, 0, none⟩ = some (.int .i64 p.a) ∧ w.cell? ⟨b, 1, none⟩ = some (.int .i64 p.b) ∧ w.cell? ⟨b, 2, none⟩ = some (.int .i64 p.c) ∧ w.cell? ⟨b, 3, none⟩ = some (.int .i64 p.d) ∧ b < w.heap.size
theorem BoxR.up {w w' : World} {b : Nat} {p : R4} (h : BoxR w b p) (hu : Up w w') : BoxR w' b p := by
  obtain ⟨h0, h1, h2, h3, hl⟩ := h
  exact ⟨(hu.cells.1 _ _ hl).trans h0, (hu.cells.1 _ _ hl).trans h1, (hu.cells.1 _ _ hl).trans h2, (hu.cells.1 _ _ hl).trans h3, Nat.lt_of_lt_of_le hl hu.size⟩
theorem BoxR.off {w w' : World} {b lo hi : Nat} {p : R4} (h : BoxR w b p) (hc : Chg lo hi w w') (hd : b < lo) : BoxR w' b p := by
  obtain ⟨h0, h1, h2, h3, hl⟩ := h
  exact ⟨(hc.2 _ _ hl (.inl hd)).1.trans h0, (hc.2 _ _ hl (.inl hd)).1.trans h1, (hc.2 _ _ hl (.inl hd)).1.trans h2, (hc.2 _ _ hl (.inl hd)).1.trans h3, Nat.lt_of_lt_of_le hl hc.1⟩
theorem BoxR.new (w : World) (p : R4) (t : TypeId) : BoxR (w.alloc (.cells #[.int .i64 p.a, .int .i64 p.b, .int .i64 p.c, .int .i64 p.d] t)) w.heap.size p :=
  ⟨by rw [World.cell?_alloc_mark]; rfl, by rw [World.cell?_alloc_mark]; rfl, by rw [World.cell?_alloc_mark]; rfl, by rw [World.cell?_alloc_mark]; rfl, by simp⟩
/-- The four boxed arguments. -/
def Bx4 (w wr : World) (p q r s : R4) : Prop := BoxR wr w.heap.size p ∧ BoxR wr (w.heap.size + 1) q ∧ BoxR wr (w.heap.size + 1 + 1) r ∧ BoxR wr (w.heap.size + 1 + 1 + 1) s
theorem Bx4.up {w wr w' : World} {p q r s : R4} (h : Bx4 w wr p q r s) (hu : Up wr w') : Bx4 w w' p q r s := ⟨h.1.up hu, h.2.1.up hu, h.2.2.1.up hu, h.2.2.2.up hu⟩
theorem Bx4.off {w wr w' : World} {p q r s : R4} {lo hi : Nat} (h : Bx4 w wr p q r s) (hc : Chg lo hi wr w') (hd : w.heap.size + 1 + 1 + 1 < lo) : Bx4 w w' p q r s := ⟨h.1.off hc (by omega), h.2.1.off hc (by omega), h.2.2.1.off hc (by omega), h.2.2.2.off hc (by omega)⟩
theorem Wr.form2 {w : World} {lo hi sz n : Nat} {v : Value} {f : Nat → Nat → Value} (h : Wr w lo hi sz v n f) : ∃ A c, v = .slice A n c := by
  obtain ⟨_, A, c, rfl, _⟩ := h
  exact ⟨A, c, rfl⟩
theorem faN_le (p q r s : R4) : faN p q r s ≤ 4 := by unfold faN; split <;> omega
set_option maxHeartbeats 8000000 in
set_option maxRecDepth 100000 in
theorem law_Factors4 (p q r s : R4) (w : World) : Calls Try.prog 3 #[.agg #[.int .i64 p.a, .int .i64 p.b, .int .i64 p.c, .int .i64 p.d], .agg #[.int .i64 q.a, .int .i64 q.b, .int .i64 q.c, .int .i64 q.d], .agg #[.int .i64 r.a, .int .i64 r.b, .int .i64 r.c, .int .i64 r.d], .agg #[.int .i64 s.a, .int .i64 s.b, .int .i64 s.c, .int .i64 s.d]] w fun e w' => e = .returned (.bool true) ∧ Up w w' := by
    have hNN := faN_le p q r s
    have hI := fun W => FactorsOf_any p q r s W
    have hS := fun W => sFactorsOf_any p q r s W
    generalize faN p q r s = N at *
    generalize faR p q r s = Q at *
    have hB0 : Bx4 w ((((w.alloc (.cells #[.int .i64 p.a, .int .i64 p.b, .int .i64 p.c, .int .i64 p.d] 23)).alloc (.cells #[.int .i64 q.a, .int .i64 q.b, .int .i64 q.c, .int .i64 q.d] 23)).alloc (.cells #[.int .i64 r.a, .int .i64 r.b, .int .i64 r.c, .int .i64 r.d] 23)).alloc (.cells #[.int .i64 s.a, .int .i64 s.b, .int .i64 s.c, .int .i64 s.d] 23)) p q r s := ⟨(((BoxR.new w p _).up (Up.alloc (Up.refl _) _)).up (Up.alloc (Up.refl _) _)).up (Up.alloc (Up.refl _) _), by simpa using ((BoxR.new (w.alloc (.cells #[.int .i64 p.a, .int .i64 p.b, .int .i64 p.c, .int .i64 p.d] 23)) q 23).up (Up.alloc (Up.refl _) (.cells #[.int .i64 r.a, .int .i64 r.b, .int .i64 r.c, .int .i64 r.d] 23))).up (Up.alloc (Up.refl _) (.cells #[.int .i64 s.a, .int .i64 s.b, .int .i64 s.c, .int .i64 s.d] 23)), by simpa using (BoxR.new ((w.alloc (.cells #[.int .i64 p.a, .int .i64 p.b, .int .i64 p.c, .int .i64 p.d] 23)).alloc (.cells #[.int .i64 q.a, .int .i64 q.b, .int .i64 q.c, .int .i64 q.d] 23)) r 23).up (Up.alloc (Up.refl _) (.cells #[.int .i64 s.a, .int .i64 s.b, .int .i64 s.c, .int .i64 s.d] 23)), by simpa using BoxR.new (((w.alloc (.cells #[.int .i64 p.a, .int .i64 p.b, .int .i64 p.c, .int .i64 p.d] 23)).alloc (.cells #[.int .i64 q.a, .int .i64 q.b, .int .i64 q.c, .int .i64 q.d] 23)).alloc (.cells #[.int .i64 r.a, .int .i64 r.b, .int .i64 r.c, .int .i64 r.d] 23)) s 23⟩
    have hu0 : Up w ((((w.alloc (.cells #[.int .i64 p.a, .int .i64 p.b, .int .i64 p.c, .int .i64 p.d] 23)).alloc (.cells #[.int .i64 q.a, .int .i64 q.b, .int .i64 q.c, .int .i64 q.d] 23)).alloc (.cells #[.int .i64 r.a, .int .i64 r.b, .int .i64 r.c, .int .i64 r.d] 23)).alloc (.cells #[.int .i64 s.a, .int .i64 s.b, .int .i64 s.c, .int .i64 s.d] 23)) := (by repeat (first | with_reducible exact Up.refl _ | with_reducible refine Up.alloc ?_ _ | with_reducible refine Up.drew ?_ | with_reducible refine Up.drewN ?_ _ | (with_reducible refine Up.setCell ?_ (by first | omega | (simp; done) | (simp; omega)) _) | with_reducible assumption | (with_reducible refine Up.trans ?_ (by with_reducible assumption))))
    go_enter Try.func3, Try.ntmps3
    go_wp2_with fail
    obtain ⟨wa, hwa⟩ : ∃ wa : World, wa = (((w.alloc (.cells #[.int .i64 p.a, .int .i64 p.b, .int .i64 p.c, .int .i64 p.d] 23)).alloc (.cells #[.int .i64 q.a, .int .i64 q.b, .int .i64 q.c, .int .i64 q.d] 23)).alloc (.cells #[.int .i64 r.a, .int .i64 r.b, .int .i64 r.c, .int .i64 r.d] 23)).alloc (.cells #[.int .i64 s.a, .int .i64 s.b, .int .i64 s.c, .int .i64 s.d] 23) := ⟨_, rfl⟩
    rw [← hwa] at hB0 hu0 ⊢
    clear hwa
    have HB0 := Lib.hid hB0
    clear hB0
    obtain ⟨w0, rfl⟩ : ∃ w0 : World, w0 = wa := ⟨_, rfl⟩
    obtain ⟨⟨p0, p1, p2, p3, pl⟩, ⟨q0, q1, q2, q3, ql⟩, ⟨r0, r1, r2, r3, rl⟩, ⟨s0, s1, s2, s3, sl⟩⟩ := HB0.out
    have tok1 : True := trivial
    have tok2 : True := trivial
    have tok3 : True := trivial
    have tok4 : True := trivial
    go_wp2_with fail
    go_region_held3 (fun w' => (∀ b o, b < w0.heap.size → w'.cell? ⟨b, o, none⟩ = w0.cell? ⟨b, o, none⟩) ∧ w0.heap.size ≤ w'.heap.size) (repeat (first | with_reducible refine kp_drew ?_ | with_reducible refine kp_set ?_ (by first | omega | (simp; done) | (simp; omega)) | with_reducible refine kp_alloc ?_ _ | with_reducible assumption | with_reducible exact kp_start _ | with_reducible refine kp_up ?_ (by assumption))) (first | (go_at_call 14; clear tok1; (with_reducible refine (toRow_any _ _ _ _ _).mono ?_); rintro e w1 ⟨rfl, hb1⟩; obtain ⟨hc1, hf1⟩ := hb1.cells; have hs1 := hb1.size; (try simp at hs1); (try have hs1_0a : w0.heap.size < w1.heap.size := by omega); (try have hs1_0a' : w0.heap.size ≤ w1.heap.size := by omega)) | (go_at_call 14; clear tok2; (with_reducible refine (toRow_any _ _ _ _ _).mono ?_); rintro e w2 ⟨rfl, hb2⟩; obtain ⟨hc2, hf2⟩ := hb2.cells; have hs2 := hb2.size; (try simp at hs2); (try have hs2_0a : w0.heap.size < w2.heap.size := by omega); (try have hs2_0a' : w0.heap.size ≤ w2.heap.size := by omega); (try have hs2_1a : w1.heap.size < w2.heap.size := by omega); (try have hs2_1a' : w1.heap.size ≤ w2.heap.size := by omega)) | (go_at_call 14; clear tok3; (with_reducible refine (toRow_any _ _ _ _ _).mono ?_); rintro e w3 ⟨rfl, hb3⟩; obtain ⟨hc3, hf3⟩ := hb3.cells; have hs3 := hb3.size; (try simp at hs3); (try have hs3_0a : w0.heap.size < w3.heap.size := by omega); (try have hs3_0a' : w0.heap.size ≤ w3.heap.size := by omega); (try have hs3_1a : w1.heap.size < w3.heap.size := by omega); (try have hs3_1a' : w1.heap.size ≤ w3.heap.size := by omega); (try have hs3_2a : w2.heap.size < w3.heap.size := by omega); (try have hs3_2a' : w2.heap.size ≤ w3.heap.size := by omega)) | (go_at_call 14; clear tok4; (with_reducible refine (toRow_any _ _ _ _ _).mono ?_); rintro e w4 ⟨rfl, hb4⟩; obtain ⟨hc4, hf4⟩ := hb4.cells; have hs4 := hb4.size; (try simp at hs4); (try have hs4_0a : w0.heap.size < w4.heap.size := by omega); (try have hs4_0a' : w0.heap.size ≤ w4.heap.size := by omega); (try have hs4_1a : w1.heap.size < w4.heap.size := by omega); (try have hs4_1a' : w1.heap.size ≤ w4.heap.size := by omega); (try have hs4_2a : w2.heap.size < w4.heap.size := by omega); (try have hs4_2a' : w2.heap.size ≤ w4.heap.size := by omega); (try have hs4_3a : w3.heap.size < w4.heap.size := by omega); (try have hs4_3a' : w3.heap.size ≤ w4.heap.size := by omega)) | (go_at_call 13; (with_reducible refine (hS _).mono ?_); rintro e w5 ⟨v5, rfl, hv5, hb5⟩))
    have hu05 : Up w0 w5 := Up.trans (Up.trans (Up.trans (Up.trans (Up.drew (Up.refl w0)) hb1) hb2) hb3) (hb4.trans hb5)
    have B1 := HB0.out.up hu05
    have hu1 : Up w w5 := hu0.trans hu05
    (try clear hc1 hf1 hc2 hf2 hc3 hf3 hc4 hf4); (try clear hs1); (try clear hs1_0a); (try clear hs1_0a'); (try clear hs2); (try clear hs2_0a); (try clear hs2_0a'); (try clear hs2_1a); (try clear hs2_1a'); (try clear hs3); (try clear hs3_0a); (try clear hs3_0a'); (try clear hs3_1a); (try clear hs3_1a'); (try clear hs3_2a); (try clear hs3_2a'); (try clear hs4); (try clear hs4_0a); (try clear hs4_0a'); (try clear hs4_1a); (try clear hs4_1a'); (try clear hs4_2a); (try clear hs4_2a'); (try clear hs4_3a); (try clear hs4_3a')
    clear hb1 hb2 hb3 hb4 hb5 p0 p1 p2 p3 pl q0 q1 q2 q3 ql r0 r1 r2 r3 rl s0 s1 s2 s3 sl
    obtain ⟨As, cs, rfl⟩ := hv5.form2
    have W1 := hv5.sl.up (Up.refl w5)
    obtain ⟨wb, rfl⟩ : ∃ wb : World, wb = w5 := ⟨_, rfl⟩
    have HB1 := Lib.hid B1
    obtain ⟨w0, rfl⟩ : ∃ w0 : World, w0 = wb := ⟨_, rfl⟩
    obtain ⟨⟨p0, p1, p2, p3, pl⟩, ⟨q0, q1, q2, q3, ql⟩, ⟨r0, r1, r2, r3, rl⟩, ⟨s0, s1, s2, s3, sl⟩⟩ := HB1.out
    have tok1 : True := trivial
    have tok2 : True := trivial
    have tok3 : True := trivial
    have tok4 : True := trivial
    go_wp2_with fail
    go_region_held3 (fun w' => (∀ b o, b < w0.heap.size → w'.cell? ⟨b, o, none⟩ = w0.cell? ⟨b, o, none⟩) ∧ w0.heap.size ≤ w'.heap.size) (repeat (first | with_reducible refine kp_drew ?_ | with_reducible refine kp_set ?_ (by first | omega | (simp; done) | (simp; omega)) | with_reducible refine kp_alloc ?_ _ | with_reducible assumption | with_reducible exact kp_start _ | with_reducible refine kp_up ?_ (by assumption))) (first | (go_at_call 14; clear tok1; (with_reducible refine (toRow_any _ _ _ _ _).mono ?_); rintro e w1 ⟨rfl, hb1⟩; obtain ⟨hc1, hf1⟩ := hb1.cells; have hs1 := hb1.size; (try simp at hs1); (try have hs1_0a : w0.heap.size < w1.heap.size := by omega); (try have hs1_0a' : w0.heap.size ≤ w1.heap.size := by omega)) | (go_at_call 14; clear tok2; (with_reducible refine (toRow_any _ _ _ _ _).mono ?_); rintro e w2 ⟨rfl, hb2⟩; obtain ⟨hc2, hf2⟩ := hb2.cells; have hs2 := hb2.size; (try simp at hs2); (try have hs2_0a : w0.heap.size < w2.heap.size := by omega); (try have hs2_0a' : w0.heap.size ≤ w2.heap.size := by omega); (try have hs2_1a : w1.heap.size < w2.heap.size := by omega); (try have hs2_1a' : w1.heap.size ≤ w2.heap.size := by omega)) | (go_at_call 14; clear tok3; (with_reducible refine (toRow_any _ _ _ _ _).mono ?_); rintro e w3 ⟨rfl, hb3⟩; obtain ⟨hc3, hf3⟩ := hb3.cells; have hs3 := hb3.size; (try simp at hs3); (try have hs3_0a : w0.heap.size < w3.heap.size := by omega); (try have hs3_0a' : w0.heap.size ≤ w3.heap.size := by omega); (try have hs3_1a : w1.heap.size < w3.heap.size := by omega); (try have hs3_1a' : w1.heap.size ≤ w3.heap.size := by omega); (try have hs3_2a : w2.heap.size < w3.heap.size := by omega); (try have hs3_2a' : w2.heap.size ≤ w3.heap.size := by omega)) | (go_at_call 14; clear tok4; (with_reducible refine (toRow_any _ _ _ _ _).mono ?_); rintro e w4 ⟨rfl, hb4⟩; obtain ⟨hc4, hf4⟩ := hb4.cells; have hs4 := hb4.size; (try simp at hs4); (try have hs4_0a : w0.heap.size < w4.heap.size := by omega); (try have hs4_0a' : w0.heap.size ≤ w4.heap.size := by omega); (try have hs4_1a : w1.heap.size < w4.heap.size := by omega); (try have hs4_1a' : w1.heap.size ≤ w4.heap.size := by omega); (try have hs4_2a : w2.heap.size < w4.heap.size := by omega); (try have hs4_2a' : w2.heap.size ≤ w4.heap.size := by omega); (try have hs4_3a : w3.heap.size < w4.heap.size := by omega); (try have hs4_3a' : w3.heap.size ≤ w4.heap.size := by omega)) | (go_at_call 15; (with_reducible refine (hI _).mono ?_); rintro e w5 ⟨v5, rfl, hv5, hb5⟩))
    have hu05 : Up w0 w5 := Up.trans (Up.trans (Up.trans (Up.trans (Up.drew (Up.refl w0)) hb1) hb2) hb3) (hb4.trans hb5)
    have hg4y : w0.heap.size ≤ w4.heap.size := (Up.trans (Up.trans (Up.trans (Up.drew (Up.refl w0)) hb1) hb2) (hb3.trans hb4)).size
    have B2 := HB1.out.up hu05
    have hu2 : Up w w5 := hu1.trans hu05
    (try clear hc1 hf1 hc2 hf2 hc3 hf3 hc4 hf4); (try clear hs1); (try clear hs1_0a); (try clear hs1_0a'); (try clear hs2); (try clear hs2_0a); (try clear hs2_0a'); (try clear hs2_1a); (try clear hs2_1a'); (try clear hs3); (try clear hs3_0a); (try clear hs3_0a'); (try clear hs3_1a); (try clear hs3_1a'); (try clear hs3_2a); (try clear hs3_2a'); (try clear hs4); (try clear hs4_0a); (try clear hs4_0a'); (try clear hs4_1a); (try clear hs4_1a'); (try clear hs4_2a); (try clear hs4_2a'); (try clear hs4_3a); (try clear hs4_3a')
    clear hb1 hb2 hb3 hb4 hb5 p0 p1 p2 p3 pl q0 q1 q2 q3 ql r0 r1 r2 r3 rl s0 s1 s2 s3 sl
    obtain ⟨Ag, cg, rfl⟩ := hv5.form2
    have hg4 : w0.heap.size ≤ w4.heap.size := hg4y
    have S2 := W1.up hu05
    have HB2 := Lib.hid B2
    have hs1b := W1.1
    have hbx : w.heap.size + 1 + 1 + 1 < w4.heap.size := Nat.lt_of_lt_of_le HB1.out.2.2.2.2.2.2.2 hg4
    clear B2 hu05
    go_wp2_with fail
    (go_at_call 16; (with_reducible refine (eqIntS_same _ _ _ _ _ _ _ _ _ hv5.sl S2 (by omega)).mono ?_); rintro e w6 ⟨rfl, hb6⟩)
    have hu6 : Up w w6 := hu2.trans hb6
    have HB6 := Lib.hid (HB2.out.up hb6)
    have G6 := hv5.up hb6
    have S6 := S2.up hb6
    clear hb6
    go_wp2_with fail
    (go_at_call 17; (with_reducible refine (markIntS_any _ _ _ _ _ _ _ _ G6 (by omega) (by omega) (by omega) hu6 (by omega)).mono ?_); rintro e w7 ⟨rfl, hv7, hm7, hb7⟩)
    have S7 := S6.off hm7 (.inl (by omega))
    have HB7 := Lib.hid (HB6.out.off hm7 hbx)
    clear hm7 S6 G6
    have hq1 : ¬ (1 + (N : Int) < 0) := by omega
    go_wp2_with fail
    (go_at_call 18; (with_reducible refine (heldIntS_any _ _ _ _ _ _ hv7.sl (by omega) (by omega) (by omega)).mono ?_); rintro e w8 ⟨rfl, rfl⟩)
    obtain ⟨wc, rfl⟩ : ∃ wc : World, wc = w7 := ⟨_, rfl⟩
    have hu7 : Up w wc := hb7
    clear hb7
    obtain ⟨w0, rfl⟩ : ∃ w0 : World, w0 = wc := ⟨_, rfl⟩
    obtain ⟨⟨p0, p1, p2, p3, pl⟩, ⟨q0, q1, q2, q3, ql⟩, ⟨r0, r1, r2, r3, rl⟩, ⟨s0, s1, s2, s3, sl⟩⟩ := HB7.out
    have tok1 : True := trivial
    have tok2 : True := trivial
    have tok3 : True := trivial
    have tok4 : True := trivial
    go_wp2_with fail
    go_region_held3 (fun w' => (∀ b o, b < w0.heap.size → w'.cell? ⟨b, o, none⟩ = w0.cell? ⟨b, o, none⟩) ∧ w0.heap.size ≤ w'.heap.size) (repeat (first | with_reducible refine kp_drew ?_ | with_reducible refine kp_set ?_ (by first | omega | (simp; done) | (simp; omega)) | with_reducible refine kp_alloc ?_ _ | with_reducible assumption | with_reducible exact kp_start _ | with_reducible refine kp_up ?_ (by assumption))) (first | (go_at_call 14; clear tok1; (with_reducible refine (toRow_any _ _ _ _ _).mono ?_); rintro e w1 ⟨rfl, hb1⟩; obtain ⟨hc1, hf1⟩ := hb1.cells; have hs1 := hb1.size; (try simp at hs1); (try have hs1_0a : w0.heap.size < w1.heap.size := by omega); (try have hs1_0a' : w0.heap.size ≤ w1.heap.size := by omega)) | (go_at_call 14; clear tok2; (with_reducible refine (toRow_any _ _ _ _ _).mono ?_); rintro e w2 ⟨rfl, hb2⟩; obtain ⟨hc2, hf2⟩ := hb2.cells; have hs2 := hb2.size; (try simp at hs2); (try have hs2_0a : w0.heap.size < w2.heap.size := by omega); (try have hs2_0a' : w0.heap.size ≤ w2.heap.size := by omega); (try have hs2_1a : w1.heap.size < w2.heap.size := by omega); (try have hs2_1a' : w1.heap.size ≤ w2.heap.size := by omega)) | (go_at_call 14; clear tok3; (with_reducible refine (toRow_any _ _ _ _ _).mono ?_); rintro e w3 ⟨rfl, hb3⟩; obtain ⟨hc3, hf3⟩ := hb3.cells; have hs3 := hb3.size; (try simp at hs3); (try have hs3_0a : w0.heap.size < w3.heap.size := by omega); (try have hs3_0a' : w0.heap.size ≤ w3.heap.size := by omega); (try have hs3_1a : w1.heap.size < w3.heap.size := by omega); (try have hs3_1a' : w1.heap.size ≤ w3.heap.size := by omega); (try have hs3_2a : w2.heap.size < w3.heap.size := by omega); (try have hs3_2a' : w2.heap.size ≤ w3.heap.size := by omega)) | (go_at_call 14; clear tok4; (with_reducible refine (toRow_any _ _ _ _ _).mono ?_); rintro e w4 ⟨rfl, hb4⟩; obtain ⟨hc4, hf4⟩ := hb4.cells; have hs4 := hb4.size; (try simp at hs4); (try have hs4_0a : w0.heap.size < w4.heap.size := by omega); (try have hs4_0a' : w0.heap.size ≤ w4.heap.size := by omega); (try have hs4_1a : w1.heap.size < w4.heap.size := by omega); (try have hs4_1a' : w1.heap.size ≤ w4.heap.size := by omega); (try have hs4_2a : w2.heap.size < w4.heap.size := by omega); (try have hs4_2a' : w2.heap.size ≤ w4.heap.size := by omega); (try have hs4_3a : w3.heap.size < w4.heap.size := by omega); (try have hs4_3a' : w3.heap.size ≤ w4.heap.size := by omega)) | (go_at_call 15; (with_reducible refine (hI _).mono ?_); rintro e w5 ⟨v5, rfl, hv5', hb5⟩))
    have hu05 : Up w0 w5 := Up.trans (Up.trans (Up.trans (Up.trans (Up.drew (Up.refl w0)) hb1) hb2) hb3) (hb4.trans hb5)
    have B9 := HB7.out.up hu05
    have hu9 : Up w w5 := hu7.trans hu05
    (try clear hc1 hf1 hc2 hf2 hc3 hf3 hc4 hf4); (try clear hs1); (try clear hs1_0a); (try clear hs1_0a'); (try clear hs2); (try clear hs2_0a); (try clear hs2_0a'); (try clear hs2_1a); (try clear hs2_1a'); (try clear hs3); (try clear hs3_0a); (try clear hs3_0a'); (try clear hs3_1a); (try clear hs3_1a'); (try clear hs3_2a); (try clear hs3_2a'); (try clear hs4); (try clear hs4_0a); (try clear hs4_0a'); (try clear hs4_1a); (try clear hs4_1a'); (try clear hs4_2a); (try clear hs4_2a'); (try clear hs4_3a); (try clear hs4_3a')
    clear hb1 hb2 hb3 hb4 hb5 p0 p1 p2 p3 pl q0 q1 q2 q3 ql r0 r1 r2 r3 rl s0 s1 s2 s3 sl
    have S9 := S7.up hu05
    have G9 := hv7.sl.up hu05
    obtain ⟨Ah, ch, rfl⟩ := hv5'.form2
    go_wp2_with fail
    (go_at_call 16; (with_reducible refine (eqIntS_same _ _ _ _ _ _ _ _ _ hv5'.sl S9 (by omega)).mono ?_); rintro e w10 ⟨rfl, hb10⟩)
    have G10 := G9.up hb10
    go_wp2_with fail
    (go_at_call 18; (with_reducible refine (heldIntS_any _ _ _ _ _ _ G10 (by omega) (by omega) (by omega)).mono ?_); rintro e w11 ⟨rfl, rfl⟩)
    go_wp2
    go_ret
    exact ⟨rfl, hu9.trans hb10⟩
theorem law_FactorsOf (x0 y0 z0 t0 x1 y1 z1 t1 x2 y2 z2 t2 x3 y3 z3 t3 : Int) (w : World) (h0 : I64 x0) (h1 : I64 y0) (h2 : I64 z0) (h3 : I64 t0) (h4 : I64 x1) (h5 : I64 y1) (h6 : I64 z1) (h7 : I64 t1) (h8 : I64 x2) (h9 : I64 y2) (h10 : I64 z2) (h11 : I64 t2) (h12 : I64 x3) (h13 : I64 y3) (h14 : I64 z3) (h15 : I64 t3) : Calls Try.prog 3 #[.agg #[.int .i64 x0, .int .i64 y0, .int .i64 z0, .int .i64 t0], .agg #[.int .i64 x1, .int .i64 y1, .int .i64 z1, .int .i64 t1], .agg #[.int .i64 x2, .int .i64 y2, .int .i64 z2, .int .i64 t2], .agg #[.int .i64 x3, .int .i64 y3, .int .i64 z3, .int .i64 t3]] w fun e w' => e = .returned (.bool true) ∧ Up w w' :=
  law_Factors4 ⟨x0, y0, z0, t0⟩ ⟨x1, y1, z1, t1⟩ ⟨x2, y2, z2, t2⟩ ⟨x3, y3, z3, t3⟩ w
end Go.Proofs.Ytffilcocndllcaa
