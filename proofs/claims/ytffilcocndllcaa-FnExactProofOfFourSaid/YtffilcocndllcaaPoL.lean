/- The walk of the law ProofOfFour: it returns true. No condition. -/
import Derived.Test.YtffilcocndllcaaPo2
import Derived.Test.YtffilcocndllcaaPr3
import Derived.Test.YtffilcocndllcaaHgL
namespace Go.Proofs.Ytffilcocndllcaa
open Go.RowKit
set_option linter.unusedVariables false
/-- Block b holds a proof whose rows lie in L .. H. -/
def PGB (w : World) (b L H : Nat) (A : Option Addr) (c : Nat) (A' : Option Addr) (c' n m : Nat) (f g : Nat → Nat → Value) : Prop :=
  w.cell? ⟨b, 0, none⟩ = some (.slice A n c) ∧ w.cell? ⟨b, 1, none⟩ = some (.slice A' m c') ∧ b < w.heap.size ∧ TwoR w L H A c A' c' n m f g
section
variable {w w' : World} {b L H c c' n m : Nat} {A A' : Option Addr} {f g : Nat → Nat → Value}
theorem PGB.t (h : PGB w b L H A c A' c' n m f g) : TwoR w L H A c A' c' n m f g := h.2.2.2
theorem PGB.up (h : PGB w b L H A c A' c' n m f g) (hu : Up w w') : PGB w' b L H A c A' c' n m f g :=
  ⟨(hu.cells.1 _ _ h.2.2.1).trans h.1, (hu.cells.1 _ _ h.2.2.1).trans h.2.1, Nat.lt_of_lt_of_le h.2.2.1 hu.size, h.2.2.2.up hu⟩
theorem PGB.off {l2 h2 : Nat} (h : PGB w b L H A c A' c' n m f g) (hc : Chg l2 h2 w w') (hd : H ≤ l2 ∨ h2 ≤ L) (hb : b < l2 ∨ h2 ≤ b) : PGB w' b L H A c A' c' n m f g :=
  ⟨(hc.2 _ _ h.2.2.1 hb).1.trans h.1, (hc.2 _ _ h.2.2.1 hb).1.trans h.2.1, Nat.lt_of_lt_of_le h.2.2.1 hc.1, h.2.2.2.off hc hd⟩
theorem PGB.new (t : TypeId) (h : TwoR w L H A c A' c' n m f g) : PGB (w.alloc (.cells #[.slice A n c, .slice A' m c'] t)) w.heap.size L H A c A' c' n m f g :=
  ⟨by rw [World.cell?_alloc_mark]; rfl, by rw [World.cell?_alloc_mark]; rfl, by simp, h.up (Up.alloc (Up.refl w) _)⟩
theorem Sl.form' {lo hi sz : Nat} {v : Value} (h : Sl w lo hi sz v n f) : ∃ A c, v = .slice A n c := by
  obtain ⟨_, A, c, rfl, _⟩ := h
  exact ⟨A, c, rfl⟩
theorem PrG.two {w w' : World} {n m : Nat} {f g : Nat → Nat → Value} {b : Bool} {e : Ending} (h : PrG w n m f g b e w') :
    ∃ A c A' c', e = .returned (.tuple #[.agg #[.slice A n c, .slice A' m c'], .bool b]) ∧ TwoR w' w.heap.size w'.heap.size A c A' c' n m f g ∧ Up w w' := by
  obtain ⟨A, c, A', c', l1, h1, l2, h2, he, W1, W2, a1, a2, a3, hu⟩ := h
  exact ⟨A, c, A', c', he, ⟨l1, h1, l2, h2, W1, W2, a1, W1.1, a2, W2.1, a3⟩, hu⟩
end
set_option maxHeartbeats 8000000 in
set_option maxRecDepth 100000 in
theorem law_ProofOfFour (u : Value) (k : Nat) (R : Nat → Nat → Int) (a : Value) (l : Nat) (Q : Nat → Nat → Int) (w : World) (hk : k ≤ maxLen) (hA : Sl w 0 w.heap.size 4 u k (intF R)) (hI : ∀ i j, i < k → j < 4 → I64 (R i j))
    (hm : l ≤ maxLen) (hB : Sl w 0 w.heap.size 1 a l (intF Q)) (hI' : ∀ i j, i < l → j < 1 → I64 (Q i j)) :
    Calls Try.prog 4 #[u, a] w fun e w' => e = .returned (.bool true) ∧ Up w w' := by
  obtain ⟨Aa, ca, rfl⟩ := hB.form'
  by_cases hl : l ≤ 1048576
  rotate_left
  · have h1 : (1048576 : Int) < (l : Int) := by omega
    go_enter Try.func4, Try.ntmps4
    go_wp2
    go_ret
    exact ⟨rfl, (by repeat (first | with_reducible exact Up.refl _ | with_reducible refine Up.alloc ?_ _ | with_reducible refine Up.drew ?_ | with_reducible refine Up.drewN ?_ _ | (with_reducible refine Up.setCell ?_ (by first | omega | (simp; done) | (simp; omega)) _) | with_reducible assumption | (with_reducible refine Up.trans ?_ (by with_reducible assumption))))⟩
  have h1 : ¬ (1048576 : Int) < (l : Int) := by omega
  by_cases hkk : k ≤ 1048576
  rotate_left
  · have hz := szI_out hkk
    go_enter Try.func4, Try.ntmps4
    go_wp2_with fail
    (go_at_call 19; (with_reducible refine (szRowS_any _ _ _ _ _ _ _ hA hk (by omega) (by omega)).mono ?_); rintro e wx ⟨rfl, rfl⟩)
    go_wp2
    go_ret
    exact ⟨rfl, (by repeat (first | with_reducible exact Up.refl _ | with_reducible refine Up.alloc ?_ _ | with_reducible refine Up.drew ?_ | with_reducible refine Up.drewN ?_ _ | (with_reducible refine Up.setCell ?_ (by first | omega | (simp; done) | (simp; omega)) _) | with_reducible assumption | (with_reducible refine Up.trans ?_ (by with_reducible assumption))))⟩
  have hz := szI_in hkk
  have hz2 : ¬ (1048576 - (k : Int) < 0) := by omega
  have hSp := fun W U l1 h1 X l2 h2 (a1 : Sl W l1 h1 4 U k (intF R)) (a2 : Sl W l2 h2 1 X l (intF Q)) => sProofOfFour_any U X k l l1 h1 l2 h2 R Q W a1 a2 hkk hl
  have hIm := fun W U l1 h1 X l2 h2 (a1 : Sl W l1 h1 4 U k (intF R)) (a2 : Sl W l2 h2 1 X l (intF Q)) => ProofOfFour_any U X k l l1 h1 l2 h2 R Q W a1 a2 hkk hl
  have hM1 : poM k l R Q ≤ 1048576 := by
    have h2 := poN_le R Q
    have h3 := pkN_le (poF R Q) (poN R Q)
    unfold poM poC; split <;> omega
  generalize poM k l R Q = M at *
  generalize poB k l R Q = B at *
  generalize poP R Q = P at *
  generalize poQ R Q = F at *
  go_enter Try.func4, Try.ntmps4
  go_wp2_with fail
  (go_at_call 19; (with_reducible refine (szRowS_any _ _ _ _ _ _ _ hA hk (by omega) (by omega)).mono ?_); rintro e wx ⟨rfl, rfl⟩)
  go_wp2_with fail
  (go_at_call 21; (with_reducible refine (toRowS_any _ _ _ _ _ _ hA hkk).mono ?_); rintro e w1 ⟨v1, rfl, hv1, hb1⟩; obtain ⟨hc1, hf1⟩ := hb1.cells; have hs1 := hb1.size; (try simp at hs1); (try have hs1_0a : w.heap.size < w1.heap.size := by omega); (try have hs1_0a' : w.heap.size ≤ w1.heap.size := by omega); (try have hs1_0b : w.heap.size + 1 < w1.heap.size := by omega); (try have hs1_0b' : w.heap.size + 1 ≤ w1.heap.size := by omega); (try have hs1_0c : w.heap.size + 1 + 1 < w1.heap.size := by omega); (try have hs1_0c' : w.heap.size + 1 + 1 ≤ w1.heap.size := by omega))
  go_wp2_with fail
  (go_at_call 22; (with_reducible refine (toIntS_any _ _ _ _ _ _ (hB.up (by repeat (first | with_reducible exact Up.refl _ | with_reducible refine Up.alloc ?_ _ | with_reducible refine Up.drew ?_ | with_reducible refine Up.drewN ?_ _ | (with_reducible refine Up.setCell ?_ (by first | omega | (simp; done) | (simp; omega)) _) | with_reducible assumption | (with_reducible refine Up.trans ?_ (by with_reducible assumption))))) hl).mono ?_); rintro e w2 ⟨v2, rfl, hv2, hb2⟩; obtain ⟨hc2, hf2⟩ := hb2.cells; have hs2 := hb2.size; (try simp at hs2); (try have hs2_0a : w.heap.size < w2.heap.size := by omega); (try have hs2_0a' : w.heap.size ≤ w2.heap.size := by omega); (try have hs2_0b : w.heap.size + 1 < w2.heap.size := by omega); (try have hs2_0b' : w.heap.size + 1 ≤ w2.heap.size := by omega); (try have hs2_0c : w.heap.size + 1 + 1 < w2.heap.size := by omega); (try have hs2_0c' : w.heap.size + 1 + 1 ≤ w2.heap.size := by omega); (try have hs2_1a : w1.heap.size < w2.heap.size := by omega); (try have hs2_1a' : w1.heap.size ≤ w2.heap.size := by omega); (try have hs2_1b : w1.heap.size + 1 < w2.heap.size := by omega); (try have hs2_1b' : w1.heap.size + 1 ≤ w2.heap.size := by omega); (try have hs2_1c : w1.heap.size + 1 + 1 < w2.heap.size := by omega); (try have hs2_1c' : w1.heap.size + 1 + 1 ≤ w2.heap.size := by omega))
  go_wp2_with fail
  (go_at_call 20; (with_reducible refine (hSp _ _ _ _ _ _ _ (hv1.sl.up (by repeat (first | with_reducible exact Up.refl _ | with_reducible refine Up.alloc ?_ _ | with_reducible refine Up.drew ?_ | with_reducible refine Up.drewN ?_ _ | (with_reducible refine Up.setCell ?_ (by first | omega | (simp; done) | (simp; omega)) _) | with_reducible assumption | (with_reducible refine Up.trans ?_ (by with_reducible assumption))))) hv2.sl).mono ?_); intro e w3 hh; obtain ⟨A3, c3, D3, d3, rfl, T3, hb3⟩ := hh.two)
  have hu3 : Up w w3 := Up.trans (by repeat (first | with_reducible exact Up.refl _ | with_reducible refine Up.alloc ?_ _ | with_reducible refine Up.drew ?_ | with_reducible refine Up.drewN ?_ _ | (with_reducible refine Up.setCell ?_ (by first | omega | (simp; done) | (simp; omega)) _) | with_reducible assumption | (with_reducible refine Up.trans ?_ (by with_reducible assumption)))) hb3
  have P3 := PGB.new 34 T3
  have hua : Up w3 (w3.alloc (.cells #[.slice A3 M c3, .slice D3 M d3] 34)) := Up.alloc (Up.refl w3) _
  have hH3 : w3.heap.size ≤ w3.heap.size := Nat.le_refl _
  have hu3a := hu3.trans hua
  have HP3 := Lib.hid P3
  clear T3 P3 hv1 hv2 hc1 hf1 hc2 hf2
  go_wp2_with fail
  (go_at_call 21; (with_reducible refine (toRowS_any _ _ _ _ _ _ (hA.up hu3a) hkk).mono ?_); rintro e w4 ⟨v4, rfl, V4, hb4⟩)
  have hu4 := hu3a.trans hb4
  go_wp2_with fail
  (go_at_call 22; (with_reducible refine (toIntS_any _ _ _ _ _ _ (hB.up hu4) hl).mono ?_); rintro e w5 ⟨v5, rfl, V5, hb5⟩)
  have hu5 := hu4.trans hb5
  have V4b := V4.up hb5
  go_wp2_with fail
  (go_at_call 23; (with_reducible refine (hIm _ _ _ _ _ _ _ V4b.sl V5.sl).mono ?_); intro e w6 hh; obtain ⟨A6, c6, D6, d6, rfl, T6, hb6⟩ := hh.two)
  have hu6 := hu5.trans hb6
  have P6 := PGB.new 34 T6
  have hub : Up w6 (w6.alloc (.cells #[.slice A6 M c6, .slice D6 M d6] 34)) := Up.alloc (Up.refl w6) _
  have S6 := HP3.out.up (((hb4.trans hb5).trans hb6).trans hub)
  have X6 := (V4b.up hb6).up hub
  have Y6 := (V5.up hb6).up hub
  have hu6b := hu6.trans hub
  have s0 := S6.1
  have s1 := S6.2.1
  have sl := S6.2.2.1
  have g0 := P6.1
  have g1 := P6.2.1
  have gl := P6.2.2.1
  have HS6 := Lib.hid S6
  have HP6 := Lib.hid P6
  have HX6 := Lib.hid X6
  have HY6 := Lib.hid Y6
  clear T6 P6 S6 X6 Y6 V4 V5 V4b
  have z34 := hb4.size
  have z45 := hb5.size
  have z56 := hb6.size
  simp at z34
  have z23 : w2.heap.size ≤ w3.heap.size := hb3.size
  have hkn : ¬ (1 + (k : Int) * 4 + (l : Int) < 0) := by omega
  have hqn : ¬ (1 + (M : Int) + (M : Int) < 0) := by omega
  have hw3 := hu3.size
  go_wp2_with fail
  (go_at_call 24; (with_reducible refine (eqProof_two _ _ _ _ _ _ _ _ _ _ _ _ _ _ _ _ _ HP6.out.t HS6.out.t hM1 hM1).mono ?_); rintro e w7 ⟨rfl, hb7⟩)
  have hu7 := hu6b.trans hb7
  go_wp2_with fail
  (go_at_call 21; (with_reducible refine (toRowS_any _ _ _ _ _ _ (hA.up hu7) hkk).mono ?_); rintro e w8 ⟨v8, rfl, V8, hb8⟩)
  go_wp2_with fail
  (go_at_call 25; (with_reducible refine (eqRowS_same _ _ _ _ _ _ _ _ _ (HX6.out.sl.up (hb7.trans hb8)) V8.sl hkk).mono ?_); rintro e w9 ⟨rfl, hb9⟩)
  have hu9 := (hu7.trans hb8).trans hb9
  have h69 := (hb7.trans hb8).trans hb9
  go_wp2_with fail
  (go_at_call 22; (with_reducible refine (toIntS_any _ _ _ _ _ _ (hB.up hu9) hl).mono ?_); rintro e w10 ⟨v10, rfl, V10, hb10⟩)
  go_wp2_with fail
  (go_at_call 16; (with_reducible refine (eqIntS_same _ _ _ _ _ _ _ _ _ (HY6.out.sl.up (h69.trans hb10)) V10.sl hl).mono ?_); rintro e w11 ⟨rfl, hb11⟩)
  have h611 := (h69.trans hb10).trans hb11
  have hu11 := hu6b.trans h611
  have S11 := HS6.out.up h611
  have G11 := HP6.out.up h611
  have X11 := HX6.out.up h611
  have Y11 := HY6.out.up h611
  clear HS6 HP6 HX6 HY6 s0 s1 sl g0 g1 gl V8 V10 hb7 hb8 hb9 hb10 hb11 h69 h611
  go_wp2_with fail
  (go_at_call 26; (with_reducible refine (markRowS_any _ _ _ _ _ _ _ _ X11 hkk (by omega) (by omega) hu11 (by simp; omega)).mono ?_); rintro e w12 ⟨rfl, hv12, hm12, hb12⟩)
  have S12 := S11.off hm12 (.inl (by simp)) (.inl (by simp))
  have G12 := G11.off hm12 (.inr (by omega)) (.inr (by omega))
  have Y12 := Y11.off hm12 (.inr (Nat.le_refl _))
  clear S11 G11 X11 Y11 hv12
  go_wp2_with fail
  (go_at_call 17; (with_reducible refine (markIntS_any _ _ _ _ _ _ _ _ Y12 hl (by omega) (by omega) hb12 (by omega)).mono ?_); rintro e w13 ⟨rfl, hv13, hm13, hb13⟩)
  have S13 := S12.off hm13 (.inl (by omega)) (.inl (by omega))
  have G13 := G12.off hm13 (.inr (Nat.le_refl _)) (.inr (by omega))
  have s0 := S13.1
  have s1 := S13.2.1
  have sl := S13.2.2.1
  have g0 := G13.1
  have g1 := G13.2.1
  have gl := G13.2.2.1
  have HS := Lib.hid S13
  have HG := Lib.hid G13
  clear S12 G12 Y12 hv13 S13 G13 hm12
  go_wp2_with fail
  (go_at_call 24; (with_reducible refine (eqProof_two _ _ _ _ _ _ _ _ _ _ _ _ _ _ _ _ _ HG.out.t HS.out.t hM1 hM1).mono ?_); rintro e w14 ⟨rfl, hb14⟩)
  have hu14 := hb13.trans hb14
  have S14 := HS.out.up hb14
  have G14 := HG.out.up hb14
  have k0 := G14.1
  have k1 := G14.2.1
  have kl := G14.2.2.1
  have HS4 := Lib.hid S14
  have HG4 := Lib.hid G14
  clear HS HG s0 s1 sl g0 g1 gl S14 G14
  go_wp2_with fail
  (go_at_call 27; (with_reducible refine (markProof_gen _ _ _ _ _ _ _ _ _ _ _ _ w HG4.out.t hM1 hM1 (by omega) (by omega) hu14 (by omega)).mono ?_); rintro e w15 ⟨rfl, T15, hm15, hb15⟩)
  have S15 := HS4.out.off hm15 (.inl (by omega)) (.inl (by omega))
  have n0 := (hm15.2 _ 0 kl (.inr (Nat.le_refl _))).1.trans k0
  have n1 := (hm15.2 _ 1 kl (.inr (Nat.le_refl _))).1.trans k1
  have nl := Nat.lt_of_lt_of_le kl hm15.1
  clear HS4 HG4 k0 k1
  go_wp2_with fail
  (go_at_call 28; (with_reducible refine (heldProof_gen _ _ _ _ _ _ _ _ _ _ T15 hM1 hM1 (by omega) (by omega)).mono ?_); rintro e w16 ⟨rfl, hb16⟩)
  have hu16 := hb15.trans hb16
  have S16 := S15.up hb16
  have T16 := T15.up hb16
  have m0 := (hb16.cells.1 _ 0 nl).trans n0
  have m1 := (hb16.cells.1 _ 1 nl).trans n1
  have ml := Nat.lt_of_lt_of_le nl hb16.size
  have HS6 := Lib.hid S16
  clear S15 T15 n0 n1 S16
  go_wp2_with fail
  (go_at_call 21; (with_reducible refine (toRowS_any _ _ _ _ _ _ (hA.up hu16) hkk).mono ?_); rintro e w17 ⟨v17, rfl, V17, hb17⟩)
  have hu17 := hu16.trans hb17
  go_wp2_with fail
  (go_at_call 22; (with_reducible refine (toIntS_any _ _ _ _ _ _ (hB.up hu17) hl).mono ?_); rintro e w18 ⟨v18, rfl, V18, hb18⟩)
  go_wp2_with fail
  (go_at_call 23; (with_reducible refine (hIm _ _ _ _ _ _ _ (V17.sl.up hb18) V18.sl).mono ?_); intro e w19 hh; obtain ⟨A9, c9, D9, d9, rfl, T19, hb19⟩ := hh.two)
  have P19 := PGB.new 34 T19
  have huc : Up w19 (w19.alloc (.cells #[.slice A9 M c9, .slice D9 M d9] 34)) := Up.alloc (Up.refl w19) _
  have h169 := ((hb17.trans hb18).trans hb19).trans huc
  have S19 := HS6.out.up h169
  have T20 := T16.up h169
  have q0 := (h169.cells.1 _ 0 ml).trans m0
  have q1 := (h169.cells.1 _ 1 ml).trans m1
  have ql := Nat.lt_of_lt_of_le ml h169.size
  have r0 := S19.1
  have r1 := S19.2.1
  have rl := S19.2.2.1
  have p0 := P19.1
  have p1 := P19.2.1
  have pl := P19.2.2.1
  have hu19 := hu16.trans h169
  have HS9 := Lib.hid S19
  have HP9 := Lib.hid P19
  clear S19 P19 m0 m1 T19 V17 V18
  go_wp2_with fail
  (go_at_call 24; (with_reducible refine (eqProof_two _ _ _ _ _ _ _ _ _ _ _ _ _ _ _ _ _ HP9.out.t HS9.out.t hM1 hM1).mono ?_); rintro e w20 ⟨rfl, hb20⟩)
  have T21 := T20.up hb20
  have u0 := (hb20.cells.1 _ 0 ql).trans q0
  have u1 := (hb20.cells.1 _ 1 ql).trans q1
  have hu20 := hu19.trans hb20
  clear q0 q1 r0 r1 p0 p1 HS9 HP9 T20
  go_wp2_with fail
  (go_at_call 28; (with_reducible refine (heldProof_gen _ _ _ _ _ _ _ _ _ _ T21 hM1 hM1 (by omega) (by omega)).mono ?_); rintro e w21 ⟨rfl, hb21⟩)
  go_wp2
  go_ret
  exact ⟨rfl, hu20.trans hb21⟩
end Go.Proofs.Ytffilcocndllcaa
