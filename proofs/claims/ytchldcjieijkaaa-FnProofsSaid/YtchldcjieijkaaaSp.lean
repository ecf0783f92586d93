/- The walks of ScaleProof, the program's and the reference's. No condition. -/
import Derived.Test.YtchldcjieijkaaaSr2
import Derived.Test.YtchldcjieijkaaaApp
import Derived.Test.YtchldcjieijkaaaJm
namespace Go.Proofs.Ytchldcjieijkaaa
open Go.RowKit
set_option linter.unusedVariables false
/-- The factors, times s. -/
def scF (s : Int) (F : Nat → Nat → Int) (i j : Nat) : Int := F i j * s
/-- ScaleProof. -/
def spB (k n m : Nat) (s : Int) (R P F : Nat → Nat → Int) : Bool := inB 1 s 1000 && pfOk k n m R P F && pfOk k n m R P (scF s F)
def ifN (b : Bool) (n : Nat) : Nat := if b then n else 0
/-- What ends in a proof of the own and a boolean. -/
def PrP (w : World) (n m : Nat) (f g : Nat → Nat → Value) (b : Bool) (e : Ending) (w' : World) : Prop :=
  ∃ x y mid, e = .returned (.tuple #[.agg #[x, y], .bool b]) ∧ Wr w' w.heap.size mid 1 x n f ∧ Wr w' mid w'.heap.size 1 y m g ∧ w.heap.size ≤ mid ∧ mid ≤ w'.heap.size ∧ Up w w'
theorem PrP.none {w w' : World} (f g : Nat → Nat → Value) (h : Up w w') : PrP w 0 0 f g false (.returned (.tuple #[.agg #[.slice none 0 0, .slice none 0 0], .bool false])) w' :=
  ⟨_, _, w.heap.size, rfl, Wr.nil _ _ _ _ _ h.size, Wr.nil _ _ _ _ _ (Nat.le_refl _), Nat.le_refl _, h.size, h⟩
theorem sc_bd {a s : Int} (h1 : inB 1 a 1000000 = true) (h2 : inB 1 s 1000 = true) : 1 ≤ a ∧ a ≤ 1000000 ∧ 1 ≤ s ∧ s ≤ 1000 ∧ -1000000000 ≤ a * s ∧ a * s ≤ 1000000000 := by
  have h3 := inB_true.1 h1
  have h4 := inB_true.1 h2
  have h5 := mul_bd (a := a) (b := s) 1000000 1000 (by omega) (by omega) (by omega) (by omega)
  omega
theorem pf_fac {k n m : Nat} {R P F : Nat → Nat → Int} (h : pfOk k n m R P F = true) : ∀ i, i < n → inB 1 (F i 0) 1000000 = true := fun i hi => by
  simp only [pfOk, Bool.and_eq_true] at h
  exact allN_get h.2 hi
theorem own_form {w : World} {base n : Nat} {e : TypeId} {v : Value} {f : Nat → Nat → Value} (h : w.ownsRow base e 1 v n (flat 1 f n)) : ∃ A c, v = .slice A n c := by
  obtain ⟨_, A, c, rfl, _⟩ := Wr.of_own h
  exact ⟨A, c, rfl⟩
set_option maxHeartbeats 2000000 in
set_option maxRecDepth 100000 in
theorem ScaleProof_any (u a b : Value) (k n m lo hi lo' hi' lo2 hi2 : Nat) (s : Int) (R P F : Nat → Nat → Int) (w : World) (hs : Sl w lo hi 4 u k (intF R)) (hs' : Sl w lo' hi' 1 a n (intF P)) (hs2 : Sl w lo2 hi2 1 b m (intF F)) (hn : k ≤ 1048576) (hn' : n ≤ 1048576) (hm : m ≤ 1048576) :
    Calls Try.prog 8 #[u, .agg #[a, b], .int .i64 s] w (PrP w (ifN (spB k n m s R P F) n) (ifN (spB k n m s R P F) m) (intF P) (intF (scF s F)) (spB k n m s R P F)) := by
  obtain ⟨i0, hi0, hz0, hz1, hz2⟩ := info_parts int_info
  have hP := fun W (hu : Up w W) => ProofOk_any u a b k n m lo hi lo' hi' lo2 hi2 R P F W (hs.up hu) (hs'.up hu) (hs2.up hu) hn hn' hm
  have hQ := fun W x y l1 l2 l3 l4 (hu : Up w W) (h1 : Sl W l1 l2 1 x n (intF P)) (h2 : Sl W l3 l4 1 y m (intF (scF s F))) => ProofOk_any u x y k n m lo hi l1 l2 l3 l4 R P (scF s F) W (hs.up hu) h1 h2 hn hn' hm
  have HS' := hs'
  obtain ⟨hzz1, A1, c1, rfl, hc1, hx1⟩ := hs
  obtain ⟨hzz2, A2, c2, rfl, hc2, hx2⟩ := hs'
  obtain ⟨hzz3, A3, c3, rfl, hc3, hx3⟩ := hs2
  have H3 := Lib.hid hx3
  clear hx1 hx2 hx3
  cases hin : inB 1 s 1000 with
  | false =>
    have e0 : spB k n m s R P F = false := by rw [spB, hin]; rfl
    rw [e0, show ifN false n = 0 from rfl, show ifN false m = 0 from rfl]
    clear e0
    go_enter Try.func8, Try.ntmps8
    go_wp2_with (first | (go_at_call 16; (with_reducible refine (within_any _ _ _ _).mono ?_); rintro e w1 ⟨rfl, rfl⟩))
    exact bodyPost_ret (v := .tuple #[.agg #[.slice none 0 0, .slice none 0 0], .bool false]) (by simp only [results]; go_simp; try simp) rfl (PrP.none _ _ (by repeat (first | with_reducible exact Up.refl _ | with_reducible refine Up.alloc ?_ _ | with_reducible refine Up.drew ?_ | with_reducible refine Up.drewN ?_ _ | (with_reducible refine Up.setCell ?_ (by first | omega | (simp; done) | (simp; omega)) _) | with_reducible assumption | (with_reducible refine Up.trans ?_ (by with_reducible assumption)))))
  | true =>
  cases hok : pfOk k n m R P F with
  | false =>
    have e0 : spB k n m s R P F = false := by rw [spB, hin, hok]; rfl
    rw [e0, show ifN false n = 0 from rfl, show ifN false m = 0 from rfl]
    have HPo : ∀ W, Up w W → Calls Try.prog 10 #[.slice A1 k c1, .agg #[.slice A2 n c2, .slice A3 m c3]] W fun e w' => e = .returned (.bool false) ∧ Up W w' := fun W hu => by have hh := hP W hu; rw [hok] at hh; exact hh
    clear e0 hok hP hQ
    go_enter Try.func8, Try.ntmps8
    go_wp2_with (first | (go_at_call 16; (with_reducible refine (within_any _ _ _ _).mono ?_); rintro e w1 ⟨rfl, rfl⟩))
    (go_at_call 10; (with_reducible refine (HPo _ (by repeat (first | with_reducible exact Up.refl _ | with_reducible refine Up.alloc ?_ _ | with_reducible refine Up.drew ?_ | with_reducible refine Up.drewN ?_ _ | (with_reducible refine Up.setCell ?_ (by first | omega | (simp; done) | (simp; omega)) _) | with_reducible assumption | (with_reducible refine Up.trans ?_ (by with_reducible assumption))))).mono ?_); rintro e w1 ⟨rfl, hb1⟩)
    have r0 : w1.cell? ⟨w.heap.size + 1, 0, none⟩ = some (.slice none 0 0) := (hb1.cells.1 _ _ (by simp)).trans (by go_simp)
    have r1 : w1.cell? ⟨w.heap.size + 1, 1, none⟩ = some (.slice none 0 0) := (hb1.cells.1 _ _ (by simp)).trans (by go_simp)
    have rf : ∀ o, w1.frozen? ⟨w.heap.size + 1, o, none⟩ = false := fun o => (hb1.cells.2 _ _ (by simp)).trans (by go_simp)
    have p0 : w1.cell? ⟨w.heap.size, 0, none⟩ = some (.slice A2 n c2) := (hb1.cells.1 _ _ (by simp; omega)).trans (by go_simp)
    have p1 : w1.cell? ⟨w.heap.size, 1, none⟩ = some (.slice A3 m c3) := (hb1.cells.1 _ _ (by simp; omega)).trans (by go_simp)
    go_wp2
    exact bodyPost_ret (v := .tuple #[.agg #[.slice none 0 0, .slice none 0 0], .bool false]) (by simp only [results]; go_simp; try simp) rfl (PrP.none _ _ (by repeat (first | with_reducible exact Up.refl _ | with_reducible refine Up.alloc ?_ _ | with_reducible refine Up.drew ?_ | with_reducible refine Up.drewN ?_ _ | (with_reducible refine Up.setCell ?_ (by first | omega | (simp; done) | (simp; omega)) _) | with_reducible assumption | (with_reducible refine Up.trans ?_ (by with_reducible assumption)))))
  | true =>
    obtain ⟨rfl, hn1, hn4, hk40, _, _⟩ := pf_inv hok
    have hfac := pf_fac hok
    have HF := Lib.hid hfac
    have HPo : ∀ W, Up w W → Calls Try.prog 10 #[.slice A1 k c1, .agg #[.slice A2 m c2, .slice A3 m c3]] W fun e w' => e = .returned (.bool true) ∧ Up W w' := fun W hu => by have hh := hP W hu; rw [hok] at hh; exact hh
    have e0 : spB k m m s R P F = pfOk k m m R P (scF s F) := by rw [spB, hin, hok]; rfl
    rw [e0]
    generalize pfOk k m m R P (scF s F) = B at hQ ⊢
    clear e0 hok hP hfac
    go_enter Try.func8, Try.ntmps8
    go_wp2_with (first | (go_at_call 16; (with_reducible refine (within_any _ _ _ _).mono ?_); rintro e w1 ⟨rfl, rfl⟩))
    (go_at_call 10; (with_reducible refine (HPo _ (by repeat (first | with_reducible exact Up.refl _ | with_reducible refine Up.alloc ?_ _ | with_reducible refine Up.drew ?_ | with_reducible refine Up.drewN ?_ _ | (with_reducible refine Up.setCell ?_ (by first | omega | (simp; done) | (simp; omega)) _) | with_reducible assumption | (with_reducible refine Up.trans ?_ (by with_reducible assumption))))).mono ?_); rintro e w1 ⟨rfl, hb1⟩)
    have r0 : w1.cell? ⟨w.heap.size + 1, 0, none⟩ = some (.slice none 0 0) := (hb1.cells.1 _ _ (by simp)).trans (by go_simp)
    have r1 : w1.cell? ⟨w.heap.size + 1, 1, none⟩ = some (.slice none 0 0) := (hb1.cells.1 _ _ (by simp)).trans (by go_simp)
    have rf : ∀ o, w1.frozen? ⟨w.heap.size + 1, o, none⟩ = false := fun o => (hb1.cells.2 _ _ (by simp)).trans (by go_simp)
    have p0 : w1.cell? ⟨w.heap.size, 0, none⟩ = some (.slice A2 m c2) := (hb1.cells.1 _ _ (by simp; omega)).trans (by go_simp)
    have p1 : w1.cell? ⟨w.heap.size, 1, none⟩ = some (.slice A3 m c3) := (hb1.cells.1 _ _ (by simp; omega)).trans (by go_simp)
    have hrl : w.heap.size + 1 < w1.heap.size := by have := hb1.size; simp at this; omega
    have hw1 : Up w w1 := (by repeat (first | with_reducible exact Up.refl _ | with_reducible refine Up.alloc ?_ _ | with_reducible refine Up.drew ?_ | with_reducible refine Up.drewN ?_ _ | (with_reducible refine Up.setCell ?_ (by first | omega | (simp; done) | (simp; omega)) _) | with_reducible assumption | (with_reducible refine Up.trans ?_ (by with_reducible assumption))))
    have hs1 := HS'.up hw1
    clear hb1
    have hml : 0 + m ≤ maxLen := by unfold maxLen; omega
    have hmb : (0 + m) * 8 ≤ 140737488355328 := by omega
    go_wp2_with (at_builtin; refine wpList_app _ rfl (.const (.slice none 0 0)) (.tmp 22) 25 rfl w1.heap.size 3 i0 _ 1 8 Try.underlying25 hi0 hz0 hz1 hz2 rfl (by omega) (.slice none 0 0) 0 [] rfl (World.ownsRow_nil _ _ _ _) _ _ _ m (intF P) rfl hs1 (fun _ _ => rfl) hml hmb (Nat.le_refl _) ?_; intro v2 w2 hown2 hg2 hat2; have hu2 : Up w1 w2 := up_own (Up.refl w1) (Nat.le_refl _) (World.ownsRow_nil w1 w1.heap.size 3 1) hg2; have hown3 : w2.ownsRow w1.heap.size 3 1 v2 m (flat 1 (intF P) m) := (by simpa using hown2); have hX := Wr.of_own hown3; have HX := Lib.hid hX; obtain ⟨_, A4, c4, rfl, _, hxx⟩ := hX; have r0' := (hu2.cells.1 _ 0 hrl).trans r0; have r1' := (hu2.cells.1 _ 1 hrl).trans r1; have rf' : ∀ o, w2.frozen? ⟨w.heap.size + 1, o, none⟩ = false := fun o => (hu2.cells.2 _ o hrl).trans (rf o); have p0' := (hu2.cells.1 _ 0 (by omega)).trans p0; have p1' := (hu2.cells.1 _ 1 (by omega)).trans p1; have hrl' : w.heap.size + 1 < w2.heap.size := Nat.lt_of_lt_of_le hrl hu2.size; have hs12 := hu2.size; have hpl' : w.heap.size < w2.heap.size := (by omega); clear r0 r1 rf p0 p1 hxx hown2 hown3 hg2 hat2)
    have r0 : (w2.alloc (.cells #[.slice A4 m c4, .slice none 0 0] 27)).cell? ⟨w2.heap.size, 0, none⟩ = some (.slice A4 m c4) := by simp [World.cell?_alloc_mark]
    go_loopw [28] (fun i wr => ∃ (j : Nat) (A5 : Option Addr) (c5 : Nat), i = .int .i64 (j : Int) ∧ j ≤ m ∧ wr.cell? ⟨w2.heap.size, 0, none⟩ = some (.slice A4 m c4) ∧ wr.cell? ⟨w2.heap.size, 1, none⟩ = some (.slice A5 j c5) ∧ (∀ o, wr.frozen? ⟨w2.heap.size, o, none⟩ = false) ∧ Hid (wr.ownsRow (w2.heap.size + 1) 3 1 (.slice A5 j c5) j (flat 1 (intF (scF s F)) j)) ∧ Up w2 wr ∧ w2.heap.size < wr.heap.size) (fun i _ => m - (intOf i).toNat)
    case atStart => exact ⟨0, none, 0, rfl, Nat.zero_le _, r0, by simp [World.cell?_alloc_mark], fun o => by go_simp, World.ownsRow_nil _ _ _ _, (by repeat (first | with_reducible exact Up.refl _ | with_reducible refine Up.alloc ?_ _ | with_reducible refine Up.drew ?_ | with_reducible refine Up.drewN ?_ _ | (with_reducible refine Up.setCell ?_ (by first | omega | (simp; done) | (simp; omega)) _) | with_reducible assumption | (with_reducible refine Up.trans ?_ (by with_reducible assumption)))), by simp⟩
    case round =>
      obtain ⟨j, A5, c5, rfl, hj, q0, q1, qf, ho, hup, hql⟩ := hrel
      have hupw : Up w wr := (hw1.trans hu2).trans hup
      by_cases hk1 : j < m
      · obtain ⟨b', o', rfl, hb1', hb2', hcs'⟩ := H3.out (by omega)
        have hg0 : wr.cell? ⟨b', o' + j, none⟩ = some (.int .i64 (F j 0)) := (hupw.cells.1 _ _ (by omega)).trans (Sl.int hcs' hk1)
        obtain ⟨f1, f2, f3, f4, f5, f6⟩ := sc_bd (HF.out j hk1) hin
        have hk2 : (j : Int) < (m : Int) := by omega
        clear hcs'
        have q1a : (wr.alloc (.cells #[.int .i64 (F j 0 * s)] 3)).cell? ⟨w2.heap.size, 1, none⟩ = _ := (World.cell?_alloc_lt _ _ _ (by simpa using hql)).trans q1
        have hup3 : Up w2 (wr.alloc (.cells #[.int .i64 (F j 0 * s)] 3)) := (by repeat (first | with_reducible exact Up.refl _ | with_reducible refine Up.alloc ?_ _ | with_reducible refine Up.drew ?_ | with_reducible refine Up.drewN ?_ _ | (with_reducible refine Up.setCell ?_ (by first | omega | (simp; done) | (simp; omega)) _) | with_reducible assumption | (with_reducible refine Up.trans ?_ (by with_reducible assumption))))
        go_wp2_with (at_builtin; refine wpList_append_lies _ rfl (.tmp 33) (.tmp 37) 25 rfl (w2.heap.size + 1) 3 i0 (.int .i64 0) 1 8 Try.underlying25 hi0 hz0 hz1 hz2 rfl (by omega) _ _ _ rfl (ho.out.alloc _) ⟨wr.heap.size, 0, none⟩ 1 1 [.int .i64 (F j 0 * s)] rfl rfl (World.news_of_block (heap_alloc_new wr _)) (by simp [Value.oneCell']) (by omega) (by unfold maxLen; omega) (by omega) (by simp; omega) (wr.heap.size + 1) (by simp) ?_; intro g cap w3 hown hgrow hat hlt; have hne : some w2.heap.size ≠ (Value.slice A5 j c5).ownBlock := (fun e => (by have := (ho.out.lt _ e.symm).1; omega)); have d0 := hgrow.cell ((World.cell?_alloc_lt _ (.cells #[.int .i64 (F j 0 * s)] 3) _ (by simpa using hql)).trans q0) hne; have d1 := hgrow.cell q1a hne; have df : ∀ o, w3.frozen? ⟨w2.heap.size, o, none⟩ = false := (fun o => (World.frozen?_of_block (hgrow.block _ (by simp; omega) hne)).trans ((World.frozen?_of_block (heap_alloc_old _ _ hql)).trans (qf o))); have hu3 := up_own hup3 (Nat.le_succ _) (ho.out.alloc _) hgrow; have hql3 : w2.heap.size < w3.heap.size := (Nat.lt_of_lt_of_le (by simp; omega) hgrow.size); have hown2 : w3.ownsRow (w2.heap.size + 1) 3 1 (.slice (some ⟨g, 0, none⟩) (j + 1) cap) (j + 1) (flat 1 (intF (scF s F)) (j + 1)) := (by rw [flat1]; exact hown); have HO := Lib.hid hown2; clear hown hgrow hat hlt hown2 hne)
        refine ⟨⟨j + 1, _, _, by rfl, by omega, (World.cell?_setCell_other _ _ _ _ (by simp)).trans d0, World.cell?_setCell_same' _ _ _ (by rw [d1]; rfl), fun o => by rw [World.frozen?_setCell]; exact df o, ownsRow_setCell_below HO.out (by simp) _, hu3.setCell (by simp) _, by simpa [World.setCell] using hql3⟩, by simp only [intOf]; omega⟩
      · have hkk : j = m := by omega
        subst hkk
        have hk2 : ¬ (j : Int) < (j : Int) := by omega
        have S1 := (HX.out.up hup)
        have S2 := Wr.of_own ho.out
        have hq := hQ wr _ _ _ _ _ _ hupw S1.sl S2.sl
        have HS1 := Lib.hid S1
        have HS2 := Lib.hid S2
        have z0 := (hup.cells.1 _ 0 hrl').trans r0'
        have z1 := (hup.cells.1 _ 1 hrl').trans r1'
        have zf : ∀ o, wr.frozen? ⟨w.heap.size + 1, o, none⟩ = false := fun o => (hup.cells.2 _ o hrl').trans (rf' o)
        have hzl : w.heap.size + 1 < wr.heap.size := Nat.lt_of_lt_of_le hrl' hup.size
        clear S1 S2 r0' r1' rf' p0' p1' ho hQ HPo HF H3
        cases B with
        | false =>
          go_wp2_with (go_at_call 10; (with_reducible refine hq.mono ?_); rintro e w4 ⟨rfl, hb4⟩; have y0 := (hb4.cells.1 _ 0 hzl).trans z0; have y1 := (hb4.cells.1 _ 1 hzl).trans z1; have yf := (fun o => (hb4.cells.2 _ o hzl).trans (zf o)); have hu4 : Up w w4 := hupw.trans hb4; clear hb4)
          exact bodyPost_ret (v := .tuple #[.agg #[.slice none 0 0, .slice none 0 0], .bool false]) (by simp only [results]; go_simp; try simp) rfl (PrP.none _ _ (by repeat (first | with_reducible exact Up.refl _ | with_reducible refine Up.alloc ?_ _ | with_reducible refine Up.drew ?_ | with_reducible refine Up.drewN ?_ _ | (with_reducible refine Up.setCell ?_ (by first | omega | (simp; done) | (simp; omega)) _) | with_reducible assumption | (with_reducible refine Up.trans ?_ (by with_reducible assumption)))))
        | true =>
          go_wp2_with (go_at_call 10; (with_reducible refine hq.mono ?_); rintro e w4 ⟨rfl, hb4⟩; have y0 := (hb4.cells.1 _ 0 hzl).trans z0; have y1 := (hb4.cells.1 _ 1 hzl).trans z1; have yf := (fun o => (hb4.cells.2 _ o hzl).trans (zf o)); have x0 := (hb4.cells.1 _ 0 hql).trans q0; have x1 := (hb4.cells.1 _ 1 hql).trans q1; have hu4 : Up w w4 := hupw.trans hb4; have G1 := Lib.hid (HS1.out.up hb4); have G2 := Lib.hid (HS2.out.up hb4); have hsz4 := hb4.size; clear hb4)
          have C4 : Chg (w.heap.size + 1) (w.heap.size + 2) w4 ((w4.setCell ⟨w.heap.size + 1, 0, none⟩ (.slice A4 j c4)).setCell ⟨w.heap.size + 1, 1, none⟩ (.slice A5 j c5)) := ((Chg.refl _ _ w4).setCell (by simp) (by simp) _).setCell (by simp) (by simp) _
          have E1 := (G1.out.off C4 (Or.inr (by omega))).wide (l2 := w.heap.size) (h2 := w2.heap.size) (by omega) (Nat.le_refl _) (by simp [World.setCell]; omega)
          have E2 := (G2.out.off C4 (Or.inr (by omega))).wide (l2 := w2.heap.size) (h2 := ((w4.setCell ⟨w.heap.size + 1, 0, none⟩ (.slice A4 j c4)).setCell ⟨w.heap.size + 1, 1, none⟩ (.slice A5 j c5)).heap.size) (by omega) (by simp; omega) (Nat.le_refl _)
          exact bodyPost_ret (v := .tuple #[.agg #[.slice A4 j c4, .slice A5 j c5], .bool true]) (by simp only [results]; go_simp; try simp) rfl ⟨_, _, w2.heap.size, rfl, E1, E2, by omega, by simp [World.setCell]; omega, (by repeat (first | with_reducible exact Up.refl _ | with_reducible refine Up.alloc ?_ _ | with_reducible refine Up.drew ?_ | with_reducible refine Up.drewN ?_ _ | (with_reducible refine Up.setCell ?_ (by first | omega | (simp; done) | (simp; omega)) _) | with_reducible assumption | (with_reducible refine Up.trans ?_ (by with_reducible assumption))))⟩
end Go.Proofs.Ytchldcjieijkaaa
