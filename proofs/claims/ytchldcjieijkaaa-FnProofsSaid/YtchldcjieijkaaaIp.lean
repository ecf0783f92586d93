/- The walks of IsProof and WorkOf, the program's and the reference's. No condition. -/
import Derived.Test.YtchldcjieijkaaaSr2
namespace Go.Proofs.Ytchldcjieijkaaa
open Go.RowKit
set_option linter.unusedVariables false
/-- IsProof, of what ProofOk and SumOfRows say. -/
def ipB (p : Bool) (x0 x1 x2 x3 : Int) : Bool := p && decide (x0 = 0) && decide (x1 = 0) && decide (x2 = 0) && decide (x3 < 0)
theorem ip_p (x0 x1 x2 x3 : Int) : ipB false x0 x1 x2 x3 = false := rfl
theorem ip_0 {x0 : Int} (h : ¬ x0 = 0) (p : Bool) (x1 x2 x3 : Int) : ipB p x0 x1 x2 x3 = false := by simp [ipB, h]
theorem ip_1 {x1 : Int} (h : ¬ x1 = 0) (p : Bool) (x0 x2 x3 : Int) : ipB p x0 x1 x2 x3 = false := by simp [ipB, h]
theorem ip_2 {x2 : Int} (h : ¬ x2 = 0) (p : Bool) (x0 x1 x3 : Int) : ipB p x0 x1 x2 x3 = false := by simp [ipB, h]
theorem ip_3 (x3 : Int) : ipB true 0 0 0 x3 = decide (x3 < 0) := by simp [ipB]
/-- WorkOf, of what SumOfRows says. -/
def wkI (x : Int) : Int := wrap64 (-x)
set_option maxHeartbeats 1000000 in
set_option maxRecDepth 100000 in
theorem IsProof_any (u a b : Value) (k n m lo hi lo' hi' lo2 hi2 : Nat) (R P F : Nat → Nat → Int) (w : World) (hs : Sl w lo hi 4 u k (intF R)) (hs' : Sl w lo' hi' 1 a n (intF P)) (hs2 : Sl w lo2 hi2 1 b m (intF F)) (hn : k ≤ 1048576) (hn' : n ≤ 1048576) (hm : m ≤ 1048576) :
    Calls Try.prog 9 #[u, .agg #[a, b]] w fun e w' => e = .returned (.bool (ipB (pfOk k n m R P F) (srI k n m R P F 0) (srI k n m R P F 1) (srI k n m R P F 2) (srI k n m R P F 3))) ∧ Up w w' := by
  have hP := fun W (hu : Up w W) => ProofOk_any u a b k n m lo hi lo' hi' lo2 hi2 R P F W (hs.up hu) (hs'.up hu) (hs2.up hu) hn hn' hm
  have hS := fun W (hu : Up w W) => SumOfRows_any u a b k n m lo hi lo' hi' lo2 hi2 R P F W (hs.up hu) (hs'.up hu) (hs2.up hu) hn hn' hm
  generalize srI k n m R P F 0 = x0 at hS ⊢
  generalize srI k n m R P F 1 = x1 at hS ⊢
  generalize srI k n m R P F 2 = x2 at hS ⊢
  generalize srI k n m R P F 3 = x3 at hS ⊢
  generalize pfOk k n m R P F = p at hP ⊢
  obtain ⟨_, A1, c1, rfl, hc1, hx1⟩ := hs
  obtain ⟨_, A2, c2, rfl, hc2, hx2⟩ := hs'
  obtain ⟨_, A3, c3, rfl, hc3, hx3⟩ := hs2
  clear hx1 hx2 hx3
  cases p with
  | false =>
    rw [ip_p]
    go_enter Try.func9, Try.ntmps9
    go_wp2_with fail
    (go_at_call 7; (with_reducible refine (hS _ (by repeat (first | with_reducible exact Up.refl _ | with_reducible refine Up.alloc ?_ _ | with_reducible refine Up.drew ?_ | with_reducible refine Up.drewN ?_ _ | (with_reducible refine Up.setCell ?_ (by first | omega | (simp; done) | (simp; omega)) _) | with_reducible assumption | (with_reducible refine Up.trans ?_ (by with_reducible assumption))))).mono ?_); rintro e w1 ⟨rfl, hb1⟩)
    have hw1 : Up w w1 := (by repeat (first | with_reducible exact Up.refl _ | with_reducible refine Up.alloc ?_ _ | with_reducible refine Up.drew ?_ | with_reducible refine Up.drewN ?_ _ | (with_reducible refine Up.setCell ?_ (by first | omega | (simp; done) | (simp; omega)) _) | with_reducible assumption | (with_reducible refine Up.trans ?_ (by with_reducible assumption))))
    have hq0 : w1.cell? ⟨w.heap.size, 0, none⟩ = some (.slice A2 n c2) := (hb1.cells.1 _ _ (by simp)).trans (by simp [World.cell?_alloc_mark])
    have hq1 : w1.cell? ⟨w.heap.size, 1, none⟩ = some (.slice A3 m c3) := (hb1.cells.1 _ _ (by simp)).trans (by simp [World.cell?_alloc_mark])
    clear hb1
    go_wp2_with fail
    (go_at_call 10; (with_reducible refine (hP _ hw1).mono ?_); rintro e w2 ⟨rfl, hb2⟩)
    go_wp2
    go_ret
    exact ⟨rfl, (by repeat (first | with_reducible exact Up.refl _ | with_reducible refine Up.alloc ?_ _ | with_reducible refine Up.drew ?_ | with_reducible refine Up.drewN ?_ _ | (with_reducible refine Up.setCell ?_ (by first | omega | (simp; done) | (simp; omega)) _) | with_reducible assumption | (with_reducible refine Up.trans ?_ (by with_reducible assumption))))⟩
  | true =>
    by_cases h0 : x0 = 0
    rotate_left
    · rw [ip_0 h0]
      have d0 : (x0 == 0) = false := by simpa using h0
      go_enter Try.func9, Try.ntmps9
      go_wp2_with fail
      (go_at_call 7; (with_reducible refine (hS _ (by repeat (first | with_reducible exact Up.refl _ | with_reducible refine Up.alloc ?_ _ | with_reducible refine Up.drew ?_ | with_reducible refine Up.drewN ?_ _ | (with_reducible refine Up.setCell ?_ (by first | omega | (simp; done) | (simp; omega)) _) | with_reducible assumption | (with_reducible refine Up.trans ?_ (by with_reducible assumption))))).mono ?_); rintro e w1 ⟨rfl, hb1⟩)
      have hw1 : Up w w1 := (by repeat (first | with_reducible exact Up.refl _ | with_reducible refine Up.alloc ?_ _ | with_reducible refine Up.drew ?_ | with_reducible refine Up.drewN ?_ _ | (with_reducible refine Up.setCell ?_ (by first | omega | (simp; done) | (simp; omega)) _) | with_reducible assumption | (with_reducible refine Up.trans ?_ (by with_reducible assumption))))
      have hq0 : w1.cell? ⟨w.heap.size, 0, none⟩ = some (.slice A2 n c2) := (hb1.cells.1 _ _ (by simp)).trans (by simp [World.cell?_alloc_mark])
      have hq1 : w1.cell? ⟨w.heap.size, 1, none⟩ = some (.slice A3 m c3) := (hb1.cells.1 _ _ (by simp)).trans (by simp [World.cell?_alloc_mark])
      clear hb1
      go_wp2_with fail
      (go_at_call 10; (with_reducible refine (hP _ hw1).mono ?_); rintro e w2 ⟨rfl, hb2⟩)
      go_wp2
      go_ret
      exact ⟨rfl, (by repeat (first | with_reducible exact Up.refl _ | with_reducible refine Up.alloc ?_ _ | with_reducible refine Up.drew ?_ | with_reducible refine Up.drewN ?_ _ | (with_reducible refine Up.setCell ?_ (by first | omega | (simp; done) | (simp; omega)) _) | with_reducible assumption | (with_reducible refine Up.trans ?_ (by with_reducible assumption))))⟩
    subst h0
    by_cases h1 : x1 = 0
    rotate_left
    · rw [ip_1 h1]
      have d0 : (x1 == 0) = false := by simpa using h1
      go_enter Try.func9, Try.ntmps9
      go_wp2_with fail
      (go_at_call 7; (with_reducible refine (hS _ (by repeat (first | with_reducible exact Up.refl _ | with_reducible refine Up.alloc ?_ _ | with_reducible refine Up.drew ?_ | with_reducible refine Up.drewN ?_ _ | (with_reducible refine Up.setCell ?_ (by first | omega | (simp; done) | (simp; omega)) _) | with_reducible assumption | (with_reducible refine Up.trans ?_ (by with_reducible assumption))))).mono ?_); rintro e w1 ⟨rfl, hb1⟩)
      have hw1 : Up w w1 := (by repeat (first | with_reducible exact Up.refl _ | with_reducible refine Up.alloc ?_ _ | with_reducible refine Up.drew ?_ | with_reducible refine Up.drewN ?_ _ | (with_reducible refine Up.setCell ?_ (by first | omega | (simp; done) | (simp; omega)) _) | with_reducible assumption | (with_reducible refine Up.trans ?_ (by with_reducible assumption))))
      have hq0 : w1.cell? ⟨w.heap.size, 0, none⟩ = some (.slice A2 n c2) := (hb1.cells.1 _ _ (by simp)).trans (by simp [World.cell?_alloc_mark])
      have hq1 : w1.cell? ⟨w.heap.size, 1, none⟩ = some (.slice A3 m c3) := (hb1.cells.1 _ _ (by simp)).trans (by simp [World.cell?_alloc_mark])
      clear hb1
      go_wp2_with fail
      (go_at_call 10; (with_reducible refine (hP _ hw1).mono ?_); rintro e w2 ⟨rfl, hb2⟩)
      go_wp2
      go_ret
      exact ⟨rfl, (by repeat (first | with_reducible exact Up.refl _ | with_reducible refine Up.alloc ?_ _ | with_reducible refine Up.drew ?_ | with_reducible refine Up.drewN ?_ _ | (with_reducible refine Up.setCell ?_ (by first | omega | (simp; done) | (simp; omega)) _) | with_reducible assumption | (with_reducible refine Up.trans ?_ (by with_reducible assumption))))⟩
    subst h1
    by_cases h2 : x2 = 0
    rotate_left
    · rw [ip_2 h2]
      have d0 : (x2 == 0) = false := by simpa using h2
      go_enter Try.func9, Try.ntmps9
      go_wp2_with fail
      (go_at_call 7; (with_reducible refine (hS _ (by repeat (first | with_reducible exact Up.refl _ | with_reducible refine Up.alloc ?_ _ | with_reducible refine Up.drew ?_ | with_reducible refine Up.drewN ?_ _ | (with_reducible refine Up.setCell ?_ (by first | omega | (simp; done) | (simp; omega)) _) | with_reducible assumption | (with_reducible refine Up.trans ?_ (by with_reducible assumption))))).mono ?_); rintro e w1 ⟨rfl, hb1⟩)
      have hw1 : Up w w1 := (by repeat (first | with_reducible exact Up.refl _ | with_reducible refine Up.alloc ?_ _ | with_reducible refine Up.drew ?_ | with_reducible refine Up.drewN ?_ _ | (with_reducible refine Up.setCell ?_ (by first | omega | (simp; done) | (simp; omega)) _) | with_reducible assumption | (with_reducible refine Up.trans ?_ (by with_reducible assumption))))
      have hq0 : w1.cell? ⟨w.heap.size, 0, none⟩ = some (.slice A2 n c2) := (hb1.cells.1 _ _ (by simp)).trans (by simp [World.cell?_alloc_mark])
      have hq1 : w1.cell? ⟨w.heap.size, 1, none⟩ = some (.slice A3 m c3) := (hb1.cells.1 _ _ (by simp)).trans (by simp [World.cell?_alloc_mark])
      clear hb1
      go_wp2_with fail
      (go_at_call 10; (with_reducible refine (hP _ hw1).mono ?_); rintro e w2 ⟨rfl, hb2⟩)
      go_wp2
      go_ret
      exact ⟨rfl, (by repeat (first | with_reducible exact Up.refl _ | with_reducible refine Up.alloc ?_ _ | with_reducible refine Up.drew ?_ | with_reducible refine Up.drewN ?_ _ | (with_reducible refine Up.setCell ?_ (by first | omega | (simp; done) | (simp; omega)) _) | with_reducible assumption | (with_reducible refine Up.trans ?_ (by with_reducible assumption))))⟩
    subst h2
    rw [ip_3]
    go_enter Try.func9, Try.ntmps9
    go_wp2_with fail
    (go_at_call 7; (with_reducible refine (hS _ (by repeat (first | with_reducible exact Up.refl _ | with_reducible refine Up.alloc ?_ _ | with_reducible refine Up.drew ?_ | with_reducible refine Up.drewN ?_ _ | (with_reducible refine Up.setCell ?_ (by first | omega | (simp; done) | (simp; omega)) _) | with_reducible assumption | (with_reducible refine Up.trans ?_ (by with_reducible assumption))))).mono ?_); rintro e w1 ⟨rfl, hb1⟩)
    have hw1 : Up w w1 := (by repeat (first | with_reducible exact Up.refl _ | with_reducible refine Up.alloc ?_ _ | with_reducible refine Up.drew ?_ | with_reducible refine Up.drewN ?_ _ | (with_reducible refine Up.setCell ?_ (by first | omega | (simp; done) | (simp; omega)) _) | with_reducible assumption | (with_reducible refine Up.trans ?_ (by with_reducible assumption))))
    have hq0 : w1.cell? ⟨w.heap.size, 0, none⟩ = some (.slice A2 n c2) := (hb1.cells.1 _ _ (by simp)).trans (by simp [World.cell?_alloc_mark])
    have hq1 : w1.cell? ⟨w.heap.size, 1, none⟩ = some (.slice A3 m c3) := (hb1.cells.1 _ _ (by simp)).trans (by simp [World.cell?_alloc_mark])
    clear hb1
    go_wp2_with fail
    (go_at_call 10; (with_reducible refine (hP _ hw1).mono ?_); rintro e w2 ⟨rfl, hb2⟩)
    go_wp2
    go_ret
    exact ⟨rfl, (by repeat (first | with_reducible exact Up.refl _ | with_reducible refine Up.alloc ?_ _ | with_reducible refine Up.drew ?_ | with_reducible refine Up.drewN ?_ _ | (with_reducible refine Up.setCell ?_ (by first | omega | (simp; done) | (simp; omega)) _) | with_reducible assumption | (with_reducible refine Up.trans ?_ (by with_reducible assumption))))⟩
end Go.Proofs.Ytchldcjieijkaaa
