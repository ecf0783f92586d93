/- The walk of the law ScaleProof: it returns true. No condition. -/
import Derived.Test.YtigcmhdjafglbaaSp2
import Derived.Test.YtigcmhdjafglbaaPr2
import Derived.Test.YtigcmhdjafglbaaPfL
import Derived.Deep.DeepCutAuto
namespace Go.Proofs.Ytigcmhdjafglbaa
open Go.RowKit
set_option linter.unusedVariables false
theorem Sl.set2 {w : World} {lo hi sz n b : Nat} {v u0 u1 : Value} {f : Nat → Nat → Value} (h : Sl w lo hi sz v n f) (hb : b + 1 ≤ lo) : Sl ((w.setCell ⟨b, 0, none⟩ u0).setCell ⟨b, 1, none⟩ u1) lo hi sz v n f :=
  h.off (((Chg.refl b (b + 1) w).setCell (p := ⟨b, 0, none⟩) (Nat.le_refl _) (Nat.lt_succ_self _) u0).setCell (p := ⟨b, 1, none⟩) (Nat.le_refl _) (Nat.lt_succ_self _) u1) (.inr hb)
theorem Sl.alc {w : World} {lo hi sz n : Nat} {v : Value} {f : Nat → Nat → Value} (h : Sl w lo hi sz v n f) (o : Obj) : Sl (w.alloc o) lo hi sz v n f := h.up (Up.alloc (Up.refl w) o)
/-- Behind 'x, ok := F(..)' for a proof x in a box of its own. -/
def CutP (w0 : World) (n m : Nat) (f g : Nat → Nat → Value) (b : Bool) (p o : Value) (wr : World) : Prop :=
  ∃ bk A c A' c' lo mid hi, p = .pointer (some ⟨bk, 0, none⟩) ∧ o = .bool b ∧ w0.heap.size ≤ bk ∧ wr.cell? ⟨bk, 0, none⟩ = some (.slice A n c) ∧ wr.cell? ⟨bk, 1, none⟩ = some (.slice A' m c') ∧ Sl wr lo mid 1 (.slice A n c) n f ∧ Sl wr mid hi 1 (.slice A' m c') m g ∧ bk < wr.heap.size ∧ w0.heap.size ≤ lo ∧ lo ≤ mid ∧ Up w0 wr
set_option maxHeartbeats 8000000 in
set_option maxRecDepth 100000 in
theorem law_ScaleProof (u : Value) (k : Nat) (R : Nat → Nat → Int) (a b : Value) (n m : Nat) (P F : Nat → Nat → Int) (s : Int) (w : World) (hk : k ≤ maxLen) (hA : Sl w 0 w.heap.size 4 u k (intF R)) (hI : ∀ i j, i < k → j < 4 → I64 (R i j))
    (hm : n ≤ maxLen) (hm' : m ≤ maxLen) (hB : Sl w 0 w.heap.size 1 a n (intF P)) (hC : Sl w 0 w.heap.size 1 b m (intF F)) (hI' : ∀ i j, i < n → j < 1 → I64 (P i j)) (hJ : ∀ i j, i < m → j < 1 → I64 (F i j)) (i1 : I64 s) :
    Calls Try.prog 14 #[u, .agg #[a, b], .int .i64 s] w fun e w' => e = .returned (.bool true) ∧ Up w w' := by
  have hup0 : Up w (w.alloc (.cells #[a, b] 44)) := (by repeat (first | with_reducible exact Up.refl _ | with_reducible refine Up.alloc ?_ _ | with_reducible refine Up.drew ?_ | with_reducible refine Up.drewN ?_ _ | (with_reducible refine Up.setCell ?_ (by first | omega | (simp; done) | (simp; omega)) _) | with_reducible assumption | (with_reducible refine Up.trans ?_ (by with_reducible assumption))))
  by_cases hkk : k ≤ 1048576
  rotate_left
  · have hz := szI_out hkk
    go_enter Try.func14, Try.ntmps14
    go_wp2_with fail
    (go_at_call 26; (with_reducible refine (szRowS_any _ _ _ _ _ _ _ (hA.up hup0) hk (by omega) (by omega)).mono ?_); rintro e wx ⟨rfl, rfl⟩)
    go_wp2
    go_ret
    exact ⟨rfl, (by repeat (first | with_reducible exact Up.refl _ | with_reducible refine Up.alloc ?_ _ | with_reducible refine Up.drew ?_ | with_reducible refine Up.drewN ?_ _ | (with_reducible refine Up.setCell ?_ (by first | omega | (simp; done) | (simp; omega)) _) | with_reducible assumption | (with_reducible refine Up.trans ?_ (by with_reducible assumption))))⟩
  have hz := szI_in hkk
  have hz2 : ¬ (1048576 - (k : Int) < 0) := by omega
  by_cases hnm : (n : Int) ≤ 1048576 - (k : Int) ∧ (m : Int) ≤ 1048576 - (k : Int) - (n : Int)
  rotate_left
  · go_enter Try.func14, Try.ntmps14
    go_wp2_with fail
    (go_at_call 26; (with_reducible refine (szRowS_any _ _ _ _ _ _ _ (hA.up hup0) hk (by omega) (by omega)).mono ?_); rintro e wx ⟨rfl, rfl⟩)
    go_wp2_with fail
    (go_at_call 34; (with_reducible refine (szProof_out _ _ _ _ _ _ _ _ _ _ _ _ (hB.up hup0) (hC.up hup0) hm hm' (by omega) (by omega) hnm).mono ?_); rintro e w1 ⟨rfl, hb1⟩; obtain ⟨hc1, hf1⟩ := hb1.cells; have hs1 := hb1.size; (try simp at hs1); (try have hs1_0a : w.heap.size < w1.heap.size := by omega); (try have hs1_0a' : w.heap.size ≤ w1.heap.size := by omega); (try have hs1_0b : w.heap.size + 1 < w1.heap.size := by omega); (try have hs1_0b' : w.heap.size + 1 ≤ w1.heap.size := by omega); (try have hs1_0c : w.heap.size + 1 + 1 < w1.heap.size := by omega); (try have hs1_0c' : w.heap.size + 1 + 1 ≤ w1.heap.size := by omega))
    go_wp2
    go_ret
    exact ⟨rfl, (by repeat (first | with_reducible exact Up.refl _ | with_reducible refine Up.alloc ?_ _ | with_reducible refine Up.drew ?_ | with_reducible refine Up.drewN ?_ _ | (with_reducible refine Up.setCell ?_ (by first | omega | (simp; done) | (simp; omega)) _) | with_reducible assumption | (with_reducible refine Up.trans ?_ (by with_reducible assumption))))⟩
  · obtain ⟨hn1, hn2⟩ := hnm
    have hn : n ≤ 1048576 := by omega
    have hn' : m ≤ 1048576 := by omega
    have hz3 : ¬ (1048576 - (k : Int) - (n : Int) - (m : Int) < 0) := by omega
    have hSp := fun W U l1 h1 X Y l2 h2 l3 h3 (a1 : Sl W l1 h1 4 U k (intF R)) (a2 : Sl W l2 h2 1 X n (intF P)) (a3 : Sl W l3 h3 1 Y m (intF F)) => sScaleProof_any U X Y k n m l1 h1 l2 h2 l3 h3 s R P F W a1 a2 a3 hkk hn hn'
    have hIm := fun W U l1 h1 X Y l2 h2 l3 h3 (a1 : Sl W l1 h1 4 U k (intF R)) (a2 : Sl W l2 h2 1 X n (intF P)) (a3 : Sl W l3 h3 1 Y m (intF F)) => ScaleProof_any U X Y k n m l1 h1 l2 h2 l3 h3 s R P F W a1 a2 a3 hkk hn hn'
    have hN1 : ifN (spB k n m s R P F) n ≤ 1048576 := by unfold ifN; split <;> omega
    have hM1 : ifN (spB k n m s R P F) m ≤ 1048576 := by unfold ifN; split <;> omega
    generalize ifN (spB k n m s R P F) n = N at *
    generalize ifN (spB k n m s R P F) m = M at *
    generalize spB k n m s R P F = B at *
    generalize scF s F = Q at *
    go_enter Try.func14, Try.ntmps14
    go_wp2_with fail
    (go_at_call 26; (with_reducible refine (szRowS_any _ _ _ _ _ _ _ (hA.up hup0) hk (by omega) (by omega)).mono ?_); rintro e wx ⟨rfl, rfl⟩)
    go_wp2_with fail
    (go_at_call 34; (with_reducible refine (szProof_in _ _ _ _ _ _ _ _ _ _ _ _ (hB.up hup0) (hC.up hup0) hm hm' (by omega) (by omega) hn1 hn2).mono ?_); rintro e w1 ⟨rfl, hb1⟩)
    have b10 : w1.cell? ⟨w.heap.size, 0, none⟩ = some a := (hb1.cells.1 _ _ (by simp)).trans (by simp [World.cell?_alloc_mark])
    have b11 : w1.cell? ⟨w.heap.size, 1, none⟩ = some b := (hb1.cells.1 _ _ (by simp)).trans (by simp [World.cell?_alloc_mark])
    have hu1 : Up w w1 := hup0.trans hb1
    have hs1 : w.heap.size < w1.heap.size := by have := hb1.size; simp at this; omega
    clear hb1
    go_wp2_with fail
    go_cut [8, 9] (fun p o wr => CutP w1 N M (intF P) (intF Q) B p o wr)
    case first =>
      go_region_held3 (fun w' => (∀ b o, b < w1.heap.size → w'.cell? ⟨b, o, none⟩ = w1.cell? ⟨b, o, none⟩) ∧ Up w1 w') (exact upS (by repeat (first | with_reducible exact Up.refl _ | with_reducible refine Up.alloc ?_ _ | with_reducible refine Up.drew ?_ | with_reducible refine Up.drewN ?_ _ | (with_reducible refine Up.setCell ?_ (by first | omega | (simp; done) | (simp; omega)) _) | with_reducible assumption | (with_reducible refine Up.trans ?_ (by with_reducible assumption))))) (first | (go_at_call 29; (with_reducible refine (toRowS_any _ _ _ _ _ _ (hA.up (Up.trans hu1 (by repeat (first | with_reducible exact Up.refl _ | with_reducible refine Up.alloc ?_ _ | with_reducible refine Up.drew ?_ | with_reducible refine Up.drewN ?_ _ | (with_reducible refine Up.setCell ?_ (by first | omega | (simp; done) | (simp; omega)) _) | with_reducible assumption | (with_reducible refine Up.trans ?_ (by with_reducible assumption)))))) hkk).mono ?_); rintro e w2 ⟨v2, rfl, hv2, hb2⟩; obtain ⟨hc2, hf2⟩ := hb2.cells; have hs2 := hb2.size; (try simp at hs2); (try have hs2_1a : w1.heap.size < w2.heap.size := by omega); (try have hs2_1a' : w1.heap.size ≤ w2.heap.size := by omega); (try have hs2_1b : w1.heap.size + 1 < w2.heap.size := by omega); (try have hs2_1b' : w1.heap.size + 1 ≤ w2.heap.size := by omega)) | (go_at_call 36; (with_reducible refine (toProof_any _ _ _ _ _ _ _ _ _ _ _ (hB.up (Up.trans hu1 (by repeat (first | with_reducible exact Up.refl _ | with_reducible refine Up.alloc ?_ _ | with_reducible refine Up.drew ?_ | with_reducible refine Up.drewN ?_ _ | (with_reducible refine Up.setCell ?_ (by first | omega | (simp; done) | (simp; omega)) _) | with_reducible assumption | (with_reducible refine Up.trans ?_ (by with_reducible assumption)))))) (hC.up (Up.trans hu1 (by repeat (first | with_reducible exact Up.refl _ | with_reducible refine Up.alloc ?_ _ | with_reducible refine Up.drew ?_ | with_reducible refine Up.drewN ?_ _ | (with_reducible refine Up.setCell ?_ (by first | omega | (simp; done) | (simp; omega)) _) | with_reducible assumption | (with_reducible refine Up.trans ?_ (by with_reducible assumption)))))) hn hn').mono ?_); rintro e w3 ⟨x3, y3, mid3, rfl, hx3, hy3, hmid3, hb3⟩; obtain ⟨hc3, hf3⟩ := hb3.cells; have hs3 := hb3.size; (try simp at hs3); (try have hs3_1a : w1.heap.size < w3.heap.size := by omega); (try have hs3_1a' : w1.heap.size ≤ w3.heap.size := by omega); (try have hs3_1b : w1.heap.size + 1 < w3.heap.size := by omega); (try have hs3_1b' : w1.heap.size + 1 ≤ w3.heap.size := by omega); (try have hs3_2a : w2.heap.size < w3.heap.size := by omega); (try have hs3_2a' : w2.heap.size ≤ w3.heap.size := by omega); (try have hs3_2b : w2.heap.size + 1 < w3.heap.size := by omega); (try have hs3_2b' : w2.heap.size + 1 ≤ w3.heap.size := by omega)) | (go_at_call 60; (with_reducible refine (hSp _ _ _ _ _ _ _ _ _ _ (hv2.sl.up (by repeat (first | with_reducible exact Up.refl _ | with_reducible refine Up.alloc ?_ _ | with_reducible refine Up.drew ?_ | with_reducible refine Up.drewN ?_ _ | (with_reducible refine Up.setCell ?_ (by first | omega | (simp; done) | (simp; omega)) _) | with_reducible assumption | (with_reducible refine Up.trans ?_ (by with_reducible assumption))))) (hx3.sl.up (by repeat (first | with_reducible exact Up.refl _ | with_reducible refine Up.alloc ?_ _ | with_reducible refine Up.drew ?_ | with_reducible refine Up.drewN ?_ _ | (with_reducible refine Up.setCell ?_ (by first | omega | (simp; done) | (simp; omega)) _) | with_reducible assumption | (with_reducible refine Up.trans ?_ (by with_reducible assumption))))) (hy3.sl.up (by repeat (first | with_reducible exact Up.refl _ | with_reducible refine Up.alloc ?_ _ | with_reducible refine Up.drew ?_ | with_reducible refine Up.drewN ?_ _ | (with_reducible refine Up.setCell ?_ (by first | omega | (simp; done) | (simp; omega)) _) | with_reducible assumption | (with_reducible refine Up.trans ?_ (by with_reducible assumption)))))).mono ?_); rintro e w4 ⟨x4, y4, mid4, rfl, hx4, hy4, hlo4, hmid4, hb4⟩; obtain ⟨A4, c4, rfl⟩ := hx4.form; obtain ⟨D4, d4, rfl⟩ := hy4.form; have SX4 := Lib.hid hx4.sl; have SY4 := Lib.hid hy4.sl; clear hx4 hy4; obtain ⟨hc4, hf4⟩ := hb4.cells; have hs4 := hb4.size; (try simp at hs4); (try have hs4_1a : w1.heap.size < w4.heap.size := by omega); (try have hs4_1a' : w1.heap.size ≤ w4.heap.size := by omega); (try have hs4_1b : w1.heap.size + 1 < w4.heap.size := by omega); (try have hs4_1b' : w1.heap.size + 1 ≤ w4.heap.size := by omega); (try have hs4_2a : w2.heap.size < w4.heap.size := by omega); (try have hs4_2a' : w2.heap.size ≤ w4.heap.size := by omega); (try have hs4_2b : w2.heap.size + 1 < w4.heap.size := by omega); (try have hs4_2b' : w2.heap.size + 1 ≤ w4.heap.size := by omega); (try have hs4_3a : w3.heap.size < w4.heap.size := by omega); (try have hs4_3a' : w3.heap.size ≤ w4.heap.size := by omega); (try have hs4_3b : w3.heap.size + 1 < w4.heap.size := by omega); (try have hs4_3b' : w3.heap.size + 1 ≤ w4.heap.size := by omega)))
      all_goals
        go_wp2
        go_meet
        case rel =>
          refine ⟨_, A4, c4, D4, d4, _, _, w4.heap.size, rfl, rfl, (by first | omega | (simp; done) | (simp; omega)), by go_simp, by go_simp, ?_, ?_, (by first | omega | (simp; done) | (simp; omega)), (by first | omega | (simp; done) | (simp; omega)), hlo4, (by repeat (first | with_reducible exact Up.refl _ | with_reducible refine Up.alloc ?_ _ | with_reducible refine Up.drew ?_ | with_reducible refine Up.drewN ?_ _ | (with_reducible refine Up.setCell ?_ (by first | omega | (simp; done) | (simp; omega)) _) | with_reducible assumption | (with_reducible refine Up.trans ?_ (by with_reducible assumption))))⟩
          · first | with_reducible exact SX4.out.alc _ | (with_reducible refine SX4.out.set2 ?_; first | (with_reducible assumption) | (simp; done) | (simp; omega))
          · first | with_reducible exact SY4.out.alc _ | (with_reducible refine SY4.out.set2 (Nat.le_trans ?_ hlo4); first | (with_reducible assumption) | (simp; done) | (simp; omega))
    case rest =>
      obtain ⟨bs, As, cs, Ds, ds, los, mids, his, rfl, rfl, hbs, e0, e1, Ss, Ts, hbl, hlos, hmids, hb2⟩ := hcut
      obtain ⟨w2, rfl⟩ : ∃ w2 : World, w2 = wc := ⟨_, rfl⟩
      have b20 := (hb2.cells.1 _ 0 hs1).trans b10
      have b21 := (hb2.cells.1 _ 1 hs1).trans b11
      have hu2 : Up w w2 := hu1.trans hb2
      have hs2 : w.heap.size < w2.heap.size := Nat.lt_of_lt_of_le hs1 hb2.size
      clear b10 b11
      go_wp2_with fail
      (go_at_call 29; (with_reducible refine (toRowS_any _ _ _ _ _ _ (hA.up hu2) hkk).mono ?_); rintro e w3 ⟨v3, rfl, V3, hb3⟩)
      have hu3 : Up w w3 := hu2.trans hb3
      have hs3 : w.heap.size < w3.heap.size := Nat.lt_of_lt_of_le hs2 hb3.size
      have b30 := (hb3.cells.1 _ 0 hs2).trans b20
      have b31 := (hb3.cells.1 _ 1 hs2).trans b21
      clear b20 b21
      go_wp2_with fail
      (go_at_call 36; (with_reducible refine (toProof_lo _ _ _ _ _ _ _ _ _ _ _ (hB.up hu3) (hC.up hu3) hn hn').mono ?_); rintro e w4 ⟨x4, y4, mid4, rfl, hx4, hy4, hlo4, hmid4, hb4⟩)
      obtain ⟨A4, c4, rfl⟩ := hx4.form
      obtain ⟨D4, d4, rfl⟩ := hy4.form
      have hu4 : Up w w4 := hu3.trans hb4
      have hs4 : w.heap.size < w4.heap.size := Nat.lt_of_lt_of_le hs3 hb4.size
      have b40 := (hb4.cells.1 _ 0 hs3).trans b30
      have b41 := (hb4.cells.1 _ 1 hs3).trans b31
      have X4 := PB.new (t := 47) hx4 hy4 hlo4 hmid4
      have hua : Up w4 (w4.alloc (.cells #[.slice A4 n c4, .slice D4 m d4] 47)) := Up.alloc (Up.refl w4) _
      have V4 := (V3.up hb4).up hua
      have HX4 := Lib.hid X4
      have HV4 := Lib.hid V4
      clear b30 b31 hx4 hy4 X4 V4
      go_wp2_with fail
      (go_at_call 61; (with_reducible refine (hIm _ _ _ _ _ _ _ _ _ _ HV4.out.sl HX4.out.s0 HX4.out.s1).mono ?_); rintro e w5 ⟨x5, y5, mid5, rfl, hx5, hy5, hlo5, hmid5, hb5⟩)
      obtain ⟨A5, c5, rfl⟩ := hx5.form
      obtain ⟨D5, d5, rfl⟩ := hy5.form
      have hsz5 := hb5.size
      simp at hsz5
      have hu45 : Up w4 w5 := hua.trans hb5
      have G5 := PB.new (t := 47) hx5 hy5 hlo5 hmid5
      have hub : Up w5 (w5.alloc (.cells #[.slice A5 N c5, .slice D5 M d5] 47)) := Up.alloc (Up.refl w5) _
      have X5 := (HX4.out.up hb5).up hub
      have V5 := (HV4.out.up hb5).up hub
      have hu2b : Up w2 (w5.alloc (.cells #[.slice A5 N c5, .slice D5 M d5] 47)) := ((hb3.trans hb4).trans hu45).trans hub
      have e50 := (hu2b.cells.1 _ 0 hbl).trans e0
      have e51 := (hu2b.cells.1 _ 1 hbl).trans e1
      have S5 := Ss.up hu2b
      have T5 := Ts.up hu2b
      have hu5 : Up w (w5.alloc (.cells #[.slice A5 N c5, .slice D5 M d5] 47)) := (hu4.trans hu45).trans hub
      have hs5 : w.heap.size < w5.heap.size := by omega
      have b50 := ((hu45.cells.1 _ 0 hs4).trans b40)
      have b51 := ((hu45.cells.1 _ 1 hs4).trans b41)
      have b60 := (hub.cells.1 _ 0 hs5).trans b50
      have b61 := (hub.cells.1 _ 1 hs5).trans b51
      have hg0 := G5.a0
      have hg1 := G5.a1
      have hx0 := X5.a0
      have hx1 := X5.a1
      have hl5 := X5.lt
      have HG5 := Lib.hid G5
      have HX5 := Lib.hid X5
      have HV5 := Lib.hid V5
      clear G5 X5 V5 b40 b41 b50 b51 hx5 hy5 HX4 HV4
      have hs6 : w.heap.size < (w5.alloc (.cells #[.slice A5 N c5, .slice D5 M d5] 47)).heap.size := by simp; omega
      have hbl6 : bs < (w5.alloc (.cells #[.slice A5 N c5, .slice D5 M d5] 47)).heap.size := Nat.lt_of_lt_of_le hbl hu2b.size
      have hgl6 := HG5.out.lt
      have hsb : w2.heap.size ≤ w3.heap.size := hb3.size
      have hsc : w3.heap.size ≤ w4.heap.size := hb4.size
      go_wp2_with fail
      (go_at_call 38; (with_reducible refine (eqProof_same _ _ _ _ _ _ _ _ _ _ _ _ _ _ _ _ _ HG5.out.s0 HG5.out.s1 S5 T5 hN1 hM1).mono ?_); rintro e w6 ⟨rfl, hb6⟩)
      have hz6 := hb6.size
      simp at hz6
      have b70 := (hb6.cells.1 _ 0 hs6).trans b60
      have b71 := (hb6.cells.1 _ 1 hs6).trans b61
      have e70 := (hb6.cells.1 _ 0 hbl6).trans e50
      have e71 := (hb6.cells.1 _ 1 hbl6).trans e51
      have S6 := S5.up hb6
      have T6 := T5.up hb6
      have G6 := HG5.out.up hb6
      have X6 := HX5.out.up hb6
      have V6 := HV5.out.up hb6
      have hu6 : Up w w6 := hu5.trans hb6
      have hs61 : w.heap.size < w6.heap.size := Nat.lt_of_lt_of_le hs6 hb6.size
      have hbl61 : bs < w6.heap.size := Nat.lt_of_lt_of_le hbl6 hb6.size
      clear e50 e51 b60 b61 S5 T5 HG5 HX5 HV5 hg0 hg1 hx0 hx1 hgl6
      go_wp2_with fail
      (go_at_call 29; (with_reducible refine (toRowS_any _ _ _ _ _ _ (hA.up hu6) hkk).mono ?_); rintro e w7 ⟨v7, rfl, V7, hb7⟩)
      go_wp2_with fail
      (go_at_call 31; (with_reducible refine (eqRowS_same _ _ _ _ _ _ _ _ _ (V6.sl.up hb7) V7.sl hkk).mono ?_); rintro e w8 ⟨rfl, hb8⟩)
      have hu68 : Up w6 w8 := hb7.trans hb8
      have b80 := (hu68.cells.1 _ 0 hs61).trans b70
      have b81 := (hu68.cells.1 _ 1 hs61).trans b71
      have e80 := (hu68.cells.1 _ 0 hbl61).trans e70
      have e81 := (hu68.cells.1 _ 1 hbl61).trans e71
      have S8 := S6.up hu68
      have T8 := T6.up hu68
      have G8 := G6.up hu68
      have X8 := X6.up hu68
      have V8 := V6.up hu68
      have hu8 : Up w w8 := hu6.trans hu68
      have hs8 : w.heap.size < w8.heap.size := Nat.lt_of_lt_of_le hs61 hu68.size
      have hbl8 : bs < w8.heap.size := Nat.lt_of_lt_of_le hbl61 hu68.size
      have x80 := X8.a0
      have x81 := X8.a1
      have xl8 := X8.lt
      have HG8 := Lib.hid G8
      have HX8 := Lib.hid X8
      have HV8 := Lib.hid V8
      clear b70 b71 e70 e71 S6 T6 G6 X6 V6 G8 X8 V8 V7 hb7 hb8 hb6
      go_wp2_with fail
      go_region_held3 (fun w' => (∀ b o, b < w8.heap.size → w'.cell? ⟨b, o, none⟩ = w8.cell? ⟨b, o, none⟩) ∧ Up w8 w') (exact upS (by repeat (first | with_reducible exact Up.refl _ | with_reducible refine Up.alloc ?_ _ | with_reducible refine Up.drew ?_ | with_reducible refine Up.drewN ?_ _ | (with_reducible refine Up.setCell ?_ (by first | omega | (simp; done) | (simp; omega)) _) | with_reducible assumption | (with_reducible refine Up.trans ?_ (by with_reducible assumption))))) (first | (go_at_call 36; (with_reducible refine (toProof_any _ _ _ _ _ _ _ _ _ _ _ (hB.up (Up.trans hu8 (by repeat (first | with_reducible exact Up.refl _ | with_reducible refine Up.alloc ?_ _ | with_reducible refine Up.drew ?_ | with_reducible refine Up.drewN ?_ _ | (with_reducible refine Up.setCell ?_ (by first | omega | (simp; done) | (simp; omega)) _) | with_reducible assumption | (with_reducible refine Up.trans ?_ (by with_reducible assumption)))))) (hC.up (Up.trans hu8 (by repeat (first | with_reducible exact Up.refl _ | with_reducible refine Up.alloc ?_ _ | with_reducible refine Up.drew ?_ | with_reducible refine Up.drewN ?_ _ | (with_reducible refine Up.setCell ?_ (by first | omega | (simp; done) | (simp; omega)) _) | with_reducible assumption | (with_reducible refine Up.trans ?_ (by with_reducible assumption)))))) hn hn').mono ?_); rintro e w9 ⟨x9, y9, mid9, rfl, hx9, hy9, hmid9, hb9⟩) | (go_at_call 38; (with_reducible refine (eqProof_same _ _ _ _ _ _ _ _ _ _ _ _ _ _ _ _ _ (HX8.out.s0.up (by repeat (first | with_reducible exact Up.refl _ | with_reducible refine Up.alloc ?_ _ | with_reducible refine Up.drew ?_ | with_reducible refine Up.drewN ?_ _ | (with_reducible refine Up.setCell ?_ (by first | omega | (simp; done) | (simp; omega)) _) | with_reducible assumption | (with_reducible refine Up.trans ?_ (by with_reducible assumption))))) (HX8.out.s1.up (by repeat (first | with_reducible exact Up.refl _ | with_reducible refine Up.alloc ?_ _ | with_reducible refine Up.drew ?_ | with_reducible refine Up.drewN ?_ _ | (with_reducible refine Up.setCell ?_ (by first | omega | (simp; done) | (simp; omega)) _) | with_reducible assumption | (with_reducible refine Up.trans ?_ (by with_reducible assumption))))) (hx9.sl.up (by repeat (first | with_reducible exact Up.refl _ | with_reducible refine Up.alloc ?_ _ | with_reducible refine Up.drew ?_ | with_reducible refine Up.drewN ?_ _ | (with_reducible refine Up.setCell ?_ (by first | omega | (simp; done) | (simp; omega)) _) | with_reducible assumption | (with_reducible refine Up.trans ?_ (by with_reducible assumption))))) (hy9.sl.up (by repeat (first | with_reducible exact Up.refl _ | with_reducible refine Up.alloc ?_ _ | with_reducible refine Up.drew ?_ | with_reducible refine Up.drewN ?_ _ | (with_reducible refine Up.setCell ?_ (by first | omega | (simp; done) | (simp; omega)) _) | with_reducible assumption | (with_reducible refine Up.trans ?_ (by with_reducible assumption))))) hn hn').mono ?_); rintro e w10 ⟨rfl, hb10⟩))
      have hu810 : Up w8 w10 := Up.trans (Up.trans (Up.drew (Up.refl w8)) hb9) hb10
      have hu10 : Up w w10 := hu8.trans hu810
      have b100 := (hu810.cells.1 _ 0 hs8).trans b80
      have b101 := (hu810.cells.1 _ 1 hs8).trans b81
      have e100 := (hu810.cells.1 _ 0 hbl8).trans e80
      have e101 := (hu810.cells.1 _ 1 hbl8).trans e81
      have hs10 : w.heap.size < w10.heap.size := Nat.lt_of_lt_of_le hs8 hu810.size
      have hbl10 : bs < w10.heap.size := Nat.lt_of_lt_of_le hbl8 hu810.size
      have S10 := S8.up hu810
      have T10 := T8.up hu810
      have G10 := HG8.out.up hu810
      have X10 := HX8.out.up hu810
      have V10 := HV8.out.up hu810
      have hS1 := Ss.1
      have hT1 := Ts.1
      clear b80 b81 e80 e81 S8 T8 HG8 HX8 HV8 x80 x81 hx9 hy9
      go_wp2_with fail
      (go_at_call 48; (with_reducible refine (markRowS_any _ _ _ _ _ _ _ _ V10 hkk (by omega) (by omega) hu10 (by omega)).mono ?_); rintro e w11 ⟨rfl, hv11, hm11, hb11⟩)
      have b110 := (hm11.2 _ 0 hs10 (.inl hs2)).1.trans b100
      have b111 := (hm11.2 _ 1 hs10 (.inl hs2)).1.trans b101
      have e110 := (hm11.2 _ 0 hbl10 (.inl hbl)).1.trans e100
      have e111 := (hm11.2 _ 1 hbl10 (.inl hbl)).1.trans e101
      have S11 := S10.off hm11 (.inl hS1)
      have T11 := T10.off hm11 (.inl hT1)
      have G11 := G10.off hm11 (.inr (by simp; omega)) (.inr (by omega))
      have X11 := X10.off hm11 (.inr (Nat.le_refl _)) (.inr hsc)
      have hs11 : w.heap.size < w11.heap.size := Nat.lt_of_lt_of_le hs10 hm11.1
      have hbl11 : bs < w11.heap.size := Nat.lt_of_lt_of_le hbl10 hm11.1
      have x110 := X11.a0
      have x111 := X11.a1
      have xl11 := X11.lt
      have HX11 := Lib.hid X11
      have HG11 := Lib.hid G11
      clear b100 b101 e100 e101 S10 T10 G10 X10 V10 hv11 G11 X11 hm11
      go_wp2_with fail
      (go_at_call 62; (with_reducible refine (markProof_any _ _ _ _ _ _ _ _ _ _ _ _ _ _ HX11.out.w0 HX11.out.w1 HX11.out.k0 HX11.out.k1 hn hn' (by omega) (by omega) hb11 (by omega)).mono ?_); rintro e w12 ⟨rfl, hx12, hy12, hm12, hb12⟩)
      have b120 := (hm12.2 _ 0 hs11 (.inl (by omega))).1.trans b110
      have b121 := (hm12.2 _ 1 hs11 (.inl (by omega))).1.trans b111
      have e120 := (hm12.2 _ 0 hbl11 (.inl (by omega))).1.trans e110
      have e121 := (hm12.2 _ 1 hbl11 (.inl (by omega))).1.trans e111
      have S12 := S11.off hm12 (.inl (by omega))
      have T12 := T11.off hm12 (.inl (by omega))
      have G12 := HG11.out.off hm12 (.inr (by simp)) (.inr (by omega))
      have hs12 : w.heap.size < w12.heap.size := Nat.lt_of_lt_of_le hs11 hm12.1
      have hbl12 : bs < w12.heap.size := Nat.lt_of_lt_of_le hbl11 hm12.1
      have g120 := G12.a0
      have g121 := G12.a1
      have gl12 := G12.lt
      have HG12 := Lib.hid G12
      have hkn : ¬ (1 + (k : Int) * 4 + (n : Int) + (m : Int) < 0) := by omega
      clear b110 b111 e110 e111 S11 T11 HG11 HX11 hx12 hy12 hm12 x110 x111 G12
      go_wp2_with fail
      (go_at_call 38; (with_reducible refine (eqProof_same _ _ _ _ _ _ _ _ _ _ _ _ _ _ _ _ _ HG12.out.s0 HG12.out.s1 S12 T12 hN1 hM1).mono ?_); rintro e w13 ⟨rfl, hb13⟩)
      have b130 := (hb13.cells.1 _ 0 hs12).trans b120
      have b131 := (hb13.cells.1 _ 1 hs12).trans b121
      have e130 := (hb13.cells.1 _ 0 hbl12).trans e120
      have e131 := (hb13.cells.1 _ 1 hbl12).trans e121
      have S13 := S12.up hb13
      have T13 := T12.up hb13
      have G13 := HG12.out.up hb13
      have hu13 : Up w w13 := hb12.trans hb13
      have hs13 : w.heap.size < w13.heap.size := Nat.lt_of_lt_of_le hs12 hb13.size
      have hbl13 : bs < w13.heap.size := Nat.lt_of_lt_of_le hbl12 hb13.size
      have g130 := G13.a0
      have g131 := G13.a1
      have gl13 := G13.lt
      have HG13 := Lib.hid G13
      clear b120 b121 e120 e121 S12 T12 HG12 G13 g120 g121 hb13
      go_wp2_with fail
      (go_at_call 62; (with_reducible refine (markProof_any _ _ _ _ _ _ _ _ _ _ _ _ _ _ HG13.out.w0 HG13.out.w1 HG13.out.k0 HG13.out.k1 hN1 hM1 (by omega) (by omega) hu13 (by simp; omega)).mono ?_); rintro e w14 ⟨rfl, gx14, gy14, hm14, hb14⟩)
      have b140 := (hm14.2 _ 0 hs13 (.inl (by simp; omega))).1.trans b130
      have b141 := (hm14.2 _ 1 hs13 (.inl (by simp; omega))).1.trans b131
      have e140 := (hm14.2 _ 0 hbl13 (.inl (by simp; omega))).1.trans e130
      have e141 := (hm14.2 _ 1 hbl13 (.inl (by simp; omega))).1.trans e131
      have S14 := S13.off hm14 (.inl (by simp; omega))
      have T14 := T13.off hm14 (.inl (by simp; omega))
      have g140 := (hm14.2 _ 0 gl13 (.inr (Nat.le_refl _))).1.trans g130
      have g141 := (hm14.2 _ 1 gl13 (.inr (Nat.le_refl _))).1.trans g131
      have gl14 := Nat.lt_of_lt_of_le gl13 hm14.1
      have hs14 : w.heap.size < w14.heap.size := Nat.lt_of_lt_of_le hs13 hm14.1
      have hbl14 : bs < w14.heap.size := Nat.lt_of_lt_of_le hbl13 hm14.1
      clear b130 b131 e130 e131 S13 T13 HG13 g130 g131 hm14
      go_wp2_with fail
      (go_at_call 63; (with_reducible refine (heldProof_any _ _ _ _ _ _ _ _ _ _ _ gx14.sl gy14.sl hN1 hM1 (by omega) (by omega)).mono ?_); rintro e w15 ⟨rfl, hb15⟩)
      have b150 := (hb15.cells.1 _ 0 hs14).trans b140
      have b151 := (hb15.cells.1 _ 1 hs14).trans b141
      have e150 := (hb15.cells.1 _ 0 hbl14).trans e140
      have e151 := (hb15.cells.1 _ 1 hbl14).trans e141
      have S15 := S14.up hb15
      have T15 := T14.up hb15
      have g150 := (hb15.cells.1 _ 0 gl14).trans g140
      have g151 := (hb15.cells.1 _ 1 gl14).trans g141
      have gx15 := gx14.sl.up hb15
      have gy15 := gy14.sl.up hb15
      have gl15 := Nat.lt_of_lt_of_le gl14 hb15.size
      have hs15 : w.heap.size < w15.heap.size := Nat.lt_of_lt_of_le hs14 hb15.size
      have hbl15 : bs < w15.heap.size := Nat.lt_of_lt_of_le hbl14 hb15.size
      have hu15 : Up w w15 := hb14.trans hb15
      have hqm : ¬ (1 + (N : Int) + (M : Int) < 0) := by omega
      clear b140 b141 e140 e141 S14 T14 g140 g141 gx14 gy14 hb15
      go_wp2_with fail
      go_cut [17, 18] (fun p o wr => CutP w15 N M (intF P) (intF Q) B p o wr)
      case first =>
        go_region_held3 (fun w' => (∀ b o, b < w15.heap.size → w'.cell? ⟨b, o, none⟩ = w15.cell? ⟨b, o, none⟩) ∧ Up w15 w') (exact upS (by repeat (first | with_reducible exact Up.refl _ | with_reducible refine Up.alloc ?_ _ | with_reducible refine Up.drew ?_ | with_reducible refine Up.drewN ?_ _ | (with_reducible refine Up.setCell ?_ (by first | omega | (simp; done) | (simp; omega)) _) | with_reducible assumption | (with_reducible refine Up.trans ?_ (by with_reducible assumption))))) (first | (go_at_call 29; (with_reducible refine (toRowS_any _ _ _ _ _ _ (hA.up (Up.trans hu15 (by repeat (first | with_reducible exact Up.refl _ | with_reducible refine Up.alloc ?_ _ | with_reducible refine Up.drew ?_ | with_reducible refine Up.drewN ?_ _ | (with_reducible refine Up.setCell ?_ (by first | omega | (simp; done) | (simp; omega)) _) | with_reducible assumption | (with_reducible refine Up.trans ?_ (by with_reducible assumption)))))) hkk).mono ?_); rintro e w16 ⟨v16, rfl, hv16, hb16⟩; obtain ⟨hc16, hf16⟩ := hb16.cells; have hs16 := hb16.size; (try simp at hs16); (try have hs16_15a : w15.heap.size < w16.heap.size := by omega); (try have hs16_15a' : w15.heap.size ≤ w16.heap.size := by omega); (try have hs16_15b : w15.heap.size + 1 < w16.heap.size := by omega); (try have hs16_15b' : w15.heap.size + 1 ≤ w16.heap.size := by omega)) | (go_at_call 36; (with_reducible refine (toProof_any _ _ _ _ _ _ _ _ _ _ _ (hB.up (Up.trans hu15 (by repeat (first | with_reducible exact Up.refl _ | with_reducible refine Up.alloc ?_ _ | with_reducible refine Up.drew ?_ | with_reducible refine Up.drewN ?_ _ | (with_reducible refine Up.setCell ?_ (by first | omega | (simp; done) | (simp; omega)) _) | with_reducible assumption | (with_reducible refine Up.trans ?_ (by with_reducible assumption)))))) (hC.up (Up.trans hu15 (by repeat (first | with_reducible exact Up.refl _ | with_reducible refine Up.alloc ?_ _ | with_reducible refine Up.drew ?_ | with_reducible refine Up.drewN ?_ _ | (with_reducible refine Up.setCell ?_ (by first | omega | (simp; done) | (simp; omega)) _) | with_reducible assumption | (with_reducible refine Up.trans ?_ (by with_reducible assumption)))))) hn hn').mono ?_); rintro e w17 ⟨x17, y17, mid17, rfl, hx17, hy17, hmid17, hb17⟩; obtain ⟨hc17, hf17⟩ := hb17.cells; have hs17 := hb17.size; (try simp at hs17); (try have hs17_15a : w15.heap.size < w17.heap.size := by omega); (try have hs17_15a' : w15.heap.size ≤ w17.heap.size := by omega); (try have hs17_15b : w15.heap.size + 1 < w17.heap.size := by omega); (try have hs17_15b' : w15.heap.size + 1 ≤ w17.heap.size := by omega); (try have hs17_16a : w16.heap.size < w17.heap.size := by omega); (try have hs17_16a' : w16.heap.size ≤ w17.heap.size := by omega); (try have hs17_16b : w16.heap.size + 1 < w17.heap.size := by omega); (try have hs17_16b' : w16.heap.size + 1 ≤ w17.heap.size := by omega)) | (go_at_call 61; (with_reducible refine (hIm _ _ _ _ _ _ _ _ _ _ (hv16.sl.up (by repeat (first | with_reducible exact Up.refl _ | with_reducible refine Up.alloc ?_ _ | with_reducible refine Up.drew ?_ | with_reducible refine Up.drewN ?_ _ | (with_reducible refine Up.setCell ?_ (by first | omega | (simp; done) | (simp; omega)) _) | with_reducible assumption | (with_reducible refine Up.trans ?_ (by with_reducible assumption))))) (hx17.sl.up (by repeat (first | with_reducible exact Up.refl _ | with_reducible refine Up.alloc ?_ _ | with_reducible refine Up.drew ?_ | with_reducible refine Up.drewN ?_ _ | (with_reducible refine Up.setCell ?_ (by first | omega | (simp; done) | (simp; omega)) _) | with_reducible assumption | (with_reducible refine Up.trans ?_ (by with_reducible assumption))))) (hy17.sl.up (by repeat (first | with_reducible exact Up.refl _ | with_reducible refine Up.alloc ?_ _ | with_reducible refine Up.drew ?_ | with_reducible refine Up.drewN ?_ _ | (with_reducible refine Up.setCell ?_ (by first | omega | (simp; done) | (simp; omega)) _) | with_reducible assumption | (with_reducible refine Up.trans ?_ (by with_reducible assumption)))))).mono ?_); rintro e w18 ⟨x18, y18, mid18, rfl, hx18, hy18, hlo18, hmid18, hb18⟩; obtain ⟨A18, c18, rfl⟩ := hx18.form; obtain ⟨D18, d18, rfl⟩ := hy18.form; have SX18 := Lib.hid hx18.sl; have SY18 := Lib.hid hy18.sl; clear hx18 hy18; obtain ⟨hc18, hf18⟩ := hb18.cells; have hs18 := hb18.size; (try simp at hs18); (try have hs18_15a : w15.heap.size < w18.heap.size := by omega); (try have hs18_15a' : w15.heap.size ≤ w18.heap.size := by omega); (try have hs18_15b : w15.heap.size + 1 < w18.heap.size := by omega); (try have hs18_15b' : w15.heap.size + 1 ≤ w18.heap.size := by omega); (try have hs18_16a : w16.heap.size < w18.heap.size := by omega); (try have hs18_16a' : w16.heap.size ≤ w18.heap.size := by omega); (try have hs18_16b : w16.heap.size + 1 < w18.heap.size := by omega); (try have hs18_16b' : w16.heap.size + 1 ≤ w18.heap.size := by omega); (try have hs18_17a : w17.heap.size < w18.heap.size := by omega); (try have hs18_17a' : w17.heap.size ≤ w18.heap.size := by omega); (try have hs18_17b : w17.heap.size + 1 < w18.heap.size := by omega); (try have hs18_17b' : w17.heap.size + 1 ≤ w18.heap.size := by omega)))
        all_goals
          go_wp2
          go_meet
          case rel =>
            refine ⟨_, A18, c18, D18, d18, _, _, w18.heap.size, rfl, rfl, (by first | omega | (simp; done) | (simp; omega)), by go_simp, by go_simp, ?_, ?_, (by first | omega | (simp; done) | (simp; omega)), (by first | omega | (simp; done) | (simp; omega)), hlo18, (by repeat (first | with_reducible exact Up.refl _ | with_reducible refine Up.alloc ?_ _ | with_reducible refine Up.drew ?_ | with_reducible refine Up.drewN ?_ _ | (with_reducible refine Up.setCell ?_ (by first | omega | (simp; done) | (simp; omega)) _) | with_reducible assumption | (with_reducible refine Up.trans ?_ (by with_reducible assumption))))⟩
            · first | with_reducible exact SX18.out.alc _ | (with_reducible refine SX18.out.set2 ?_; first | (with_reducible assumption) | (simp; done) | (simp; omega))
            · first | with_reducible exact SY18.out.alc _ | (with_reducible refine SY18.out.set2 (Nat.le_trans ?_ hlo18); first | (with_reducible assumption) | (simp; done) | (simp; omega))

      case rest =>
        obtain ⟨bh, Ah, ch, Dh, dh, loh, midh, hih, rfl, rfl, hbh, h0, h1, Sh, Th, hbhl, hloh, hmidh, hb19⟩ := hcut
        obtain ⟨w19, rfl⟩ : ∃ w19 : World, w19 = wc := ⟨_, rfl⟩
        have e190 := (hb19.cells.1 _ 0 hbl15).trans e150
        have e191 := (hb19.cells.1 _ 1 hbl15).trans e151
        have g190 := (hb19.cells.1 _ 0 gl15).trans g150
        have g191 := (hb19.cells.1 _ 1 gl15).trans g151
        have S19 := S15.up hb19
        have T19 := T15.up hb19
        have gx19 := gx15.up hb19
        have gy19 := gy15.up hb19
        have gl19 := Nat.lt_of_lt_of_le gl15 hb19.size
        have hbl19 : bs < w19.heap.size := Nat.lt_of_lt_of_le hbl15 hb19.size
        have hu19 : Up w w19 := hu15.trans hb19
        clear b150 b151 e150 e151 S15 T15 g150 g151 gx15 gy15
        go_wp2_with fail
        (go_at_call 38; (with_reducible refine (eqProof_same _ _ _ _ _ _ _ _ _ _ _ _ _ _ _ _ _ Sh Th S19 T19 hN1 hM1).mono ?_); rintro e w20 ⟨rfl, hb20⟩)
        have g200 := (hb20.cells.1 _ 0 gl19).trans g190
        have g201 := (hb20.cells.1 _ 1 gl19).trans g191
        have gx20 := gx19.up hb20
        have gy20 := gy19.up hb20
        have hu20 : Up w w20 := hu19.trans hb20
        clear g190 g191 e190 e191 S19 T19 gx19 gy19 hb20
        go_wp2_with fail
        (go_at_call 63; (with_reducible refine (heldProof_any _ _ _ _ _ _ _ _ _ _ _ gx20 gy20 hN1 hM1 (by omega) (by omega)).mono ?_); rintro e w21 ⟨rfl, hb21⟩)
        go_wp2
        go_ret
        exact ⟨rfl, hu20.trans hb21⟩
end Go.Proofs.Ytigcmhdjafglbaa
