/- Plain lemmas that every text of this claim uses: worlds that only grow, tests on ranges, the row's last step. No condition. -/
import Derived.Test.YtaealkfnhhmmcaaProg
import Derived.WalkKit
import Derived.WalkLawsBesides
import Derived.WalkSpells
import Derived.Lib.Hide
import Derived.Outline
import Derived.ChangeSame
import Derived.ProofKit
import Derived.BigQuiet
namespace Go.Proofs.Ytaealkfnhhmmcaa
open Go.RowKit Go.WideShapes Go.ChangeShapes

/-- From w to w' nothing that was there has turned; there may be new blocks. -/
def Up (w w' : World) : Prop := Below w.heap.size w w'
theorem Up.refl (w : World) : Up w w := Below.refl _ _
theorem Up.size {a b : World} (h : Up a b) : a.heap.size ≤ b.heap.size := Below.size h
theorem Up.trans {a b c : World} (h : Up a b) (k : Up b c) : Up a c := Below.trans h (Below.mono k h.size)
theorem Up.drew {a b : World} (h : Up a b) : Up a b.drew := Below.drew h
theorem Up.drewN {a b : World} (h : Up a b) (n : Nat) : Up a (b.drewN n) := below_drewN h n
theorem Up.alloc {a b : World} (h : Up a b) (o : Obj) : Up a (b.alloc o) := Below.alloc h h.size o
theorem Up.setCell {a b : World} (h : Up a b) {p : Addr} (hp : a.heap.size ≤ p.block) (u : Value) : Up a (b.setCell p u) := Below.setCell h hp u
theorem Up.cells {W w1 : World} (hb : Up W w1) : (∀ b o, b < W.heap.size → w1.cell? ⟨b, o, none⟩ = W.cell? ⟨b, o, none⟩) ∧ (∀ b o, b < W.heap.size → w1.frozen? ⟨b, o, none⟩ = W.frozen? ⟨b, o, none⟩) :=
  ⟨fun b o h => Below.cell hb (p := ⟨b, o, none⟩) h, fun b o h => Below.frozen hb (p := ⟨b, o, none⟩) h⟩
theorem Up.lt {a b : World} (h : Up a b) : ∀ k, k < a.heap.size → k < b.heap.size := fun _ hk => Nat.lt_of_lt_of_le hk h.size
theorem Up.le {a b : World} (h : Up a b) : ∀ k, k ≤ a.heap.size → k ≤ b.heap.size := fun _ hk => Nat.le_trans hk h.size
theorem Up.frees {a b : World} (h : Up a b) : Up a { b with drawn := b.drawn + 1 } := Below.drew h

theorem up_of {P : Program} {f : FuncId} {args : Array Value} {w wq : World} {v : Value} (hw : Up w wq)
    (h : Calls P f args wq fun e w' => e = .returned v ∧ Up wq w') : Calls P f args wq fun e w' => e = .returned v ∧ Up w w' :=
  h.mono fun _ _ ⟨he, hb⟩ => ⟨he, hw.trans hb⟩
theorem up_of_same {P : Program} {f : FuncId} {args : Array Value} {w wq : World} {v : Value} (hw : Up w wq)
    (h : Calls P f args wq fun e w' => e = .returned v ∧ wq = w') : Calls P f args wq fun e w' => e = .returned v ∧ Up w w' :=
  h.mono fun _ _ ⟨he, hb⟩ => ⟨he, by subst hb; exact hw⟩
/-- A region that draws its order, in the class of worlds that only grow. -/
theorem wp_region_up {P : Program} {id : Nat} {Q : Exit → Act → World → Prop} {a : Act} {w : World} {l : List Oper} (hm : P.follows .mixedOrders = true) (hB : Region.lexB .any l.toArray = true)
    (h : wpQuiet P l.toArray (fun w' => Up w w') (fun a' => ∀ w', Up w w' → Q .normal a' w') l a) : (Code.region id l.toArray true).wp P Q a w :=
  wp_region_quiet (C := fun w' => Up w w') hm hB (Up.frees (Up.refl _)) (by simpa using h)

/-- n lies from lo to hi. -/
def inB (lo n hi : Int) : Bool := decide (lo ≤ n) && decide (n ≤ hi)
theorem inB_true {lo n hi : Int} : inB lo n hi = true ↔ lo ≤ n ∧ n ≤ hi := by simp [inB]
theorem inB_false {lo n hi : Int} : inB lo n hi = false ↔ ¬ (lo ≤ n ∧ n ≤ hi) := by simp [inB]

theorem mul_bd {a b : Int} (A B : Int) (h1 : -A ≤ a) (h2 : a ≤ A) (h3 : -B ≤ b) (h4 : b ≤ B) : -(A * B) ≤ a * b ∧ a * b ≤ A * B := by
  have e1 : 0 ≤ (A - a) * (B - b) := Int.mul_nonneg (by omega) (by omega)
  have e2 : 0 ≤ (A + a) * (B + b) := Int.mul_nonneg (by omega) (by omega)
  have e3 : 0 ≤ (A - a) * (B + b) := Int.mul_nonneg (by omega) (by omega)
  have e4 : 0 ≤ (A + a) * (B - b) := Int.mul_nonneg (by omega) (by omega)
  simp only [Int.sub_mul, Int.mul_sub, Int.add_mul, Int.mul_add] at e1 e2 e3 e4
  constructor <;> omega

/-- PointOk. -/
def ptB (x y : Int) : Bool := inB (-60) x 60 && inB (-60) y 60
theorem ptB_bd {x y : Int} (h : ptB x y = true) : -60 ≤ x ∧ x ≤ 60 ∧ -60 ≤ y ∧ y ≤ 60 := by simp [ptB, inB] at h; omega
/-- SideOf for valid points. -/
def sideI (x y z t u v : Int) : Int := (z - x) * (v - y) - (t - y) * (u - x)

/-- JointOk. -/
def jtB (x y z t : Int) : Bool := ptB x y && ptB z t && !(decide (x = z) && decide (y = t))
/-- RowOk. -/
def rowB (a b c d : Int) : Bool := inB (-100) a 100 && inB (-100) b 100 && inB (-1) c 1 && inB (-1000000000) d 1000000000
/-- PierOk. -/
def pierB (x y : Int) : Bool := inB 1 x 60 && inB 1 y 60
/-- The numbers of a push are in range. -/
def pushB (h d n : Int) : Bool := inB (-1000000000000) h 1000000000000 && inB (-1000000000000) d 1000000000000 && inB 1 n 1000000
/-- TurnOver for valid piers and pushes. -/
def turnI (x y h d n : Int) : Int := 2 * h * y - 2 * d * x - n * 6 * x * x * y

/-- MiddleTwice. -/
def mtX (x y z t : Int) : Int := if ptB x y && ptB z t then x + z else 0
def mtY (x y z t : Int) : Int := if ptB x y && ptB z t then y + t else 0

/-- SquareOf. -/
def sqI (x y z t : Int) : Int := if ptB x y && ptB z t then (x - z) * (x - z) + (y - t) * (y - t) else -1
theorem sq_neg (a b : Int) : (b - a) * (b - a) = (a - b) * (a - b) := by rw [← Int.neg_mul_neg, Int.neg_sub]
/-- SideOf. -/
def sdI (x y z t u v : Int) : Int := if ptB x y && ptB z t && ptB u v then sideI x y z t u v else 0
/-- MirrorPoint. -/
def miX (x y m : Int) : Int := if ptB x y && inB (-60) m 60 then 2 * m - x else x
/-- Clamp. -/
def clI (n lo hi : Int) : Int := if hi < lo ∨ n < lo then lo else if n > hi then hi else n
/-- TurnOver. -/
def toI (x y h d n : Int) : Int := if pierB x y && pushB h d n then turnI x y h d n else 0
theorem pierB_bd {x y : Int} (h : pierB x y = true) : 1 ≤ x ∧ x ≤ 60 ∧ 1 ≤ y ∧ y ≤ 60 := by simp [pierB, inB] at h; omega
theorem pushB_bd {h d n : Int} (k : pushB h d n = true) : -1000000000000 ≤ h ∧ h ≤ 1000000000000 ∧ -1000000000000 ≤ d ∧ d ≤ 1000000000000 ∧ 1 ≤ n ∧ n ≤ 1000000 := by simp [pushB, inB] at k; omega

theorem ret_int {k : IntKind} {a b : Int} (h : a = b) : Ending.returned (.int k a) = .returned (.int k b) := by rw [h]
/-- What turnI's products are bounded by. -/
theorem turn_bds {x y h d n : Int} (h1 : pierB x y = true) (h2 : pushB h d n = true) : -120000000000000 ≤ 2 * h * y ∧ 2 * h * y ≤ 120000000000000 ∧ -120000000000000 ≤ 2 * d * x ∧ 2 * d * x ≤ 120000000000000 ∧
    0 ≤ n * 6 * x ∧ n * 6 * x ≤ 360000000 ∧ 0 ≤ n * 6 * x * x ∧ n * 6 * x * x ≤ 21600000000 ∧ 0 ≤ n * 6 * x * x * y ∧ n * 6 * x * x * y ≤ 1296000000000 := by
  obtain ⟨a1, a2, a3, a4⟩ := pierB_bd h1
  obtain ⟨b1, b2, b3, b4, b5, b6⟩ := pushB_bd h2
  obtain ⟨p1, p2⟩ := mul_bd (a := 2 * h) (b := y) 2000000000000 60 (by omega) (by omega) (by omega) (by omega)
  obtain ⟨q1, q2⟩ := mul_bd (a := 2 * d) (b := x) 2000000000000 60 (by omega) (by omega) (by omega) (by omega)
  obtain ⟨r1, r2⟩ := mul_bd (a := n * 6) (b := x) 6000000 60 (by omega) (by omega) (by omega) (by omega)
  have r0 : 0 ≤ n * 6 * x := Int.mul_nonneg (by omega) (by omega)
  obtain ⟨s1, s2⟩ := mul_bd (a := n * 6 * x) (b := x) 360000000 60 (by omega) (by omega) (by omega) (by omega)
  have s0 : 0 ≤ n * 6 * x * x := Int.mul_nonneg r0 (by omega)
  obtain ⟨t1, t2⟩ := mul_bd (a := n * 6 * x * x) (b := y) 21600000000 60 (by omega) (by omega) (by omega) (by omega)
  have t0 : 0 ≤ n * 6 * x * x * y := Int.mul_nonneg s0 (by omega)
  omega

/-- n fits an int. -/
def I64 (n : Int) : Prop := -9223372036854775808 ≤ n ∧ n ≤ 9223372036854775807
theorem I64.of_wf {n : Int} (h : (Lit.int .i64 n).wf = true) : I64 n := by
  simp [Lit.wf, IntKind.min, IntKind.max, IntKind.bits, IntKind.signed] at h
  exact ⟨by omega, by omega⟩

section
variable {H : Type} {enc : TypeId × Value → H} {P : Program}
theorem post_of_below {f : Func} {s : ChangeSpec} {apart fresh handsOn again : Bool} {W W' : World} {args : Array Value} {v : Value} {ds gs : List (DataW H)} {before pa pv : List MemPlace}
    (hW : DataW.Whole enc P f.params.toList s.vars apart W args.toList ds gs before)
    (hres : ∀ (b : Nat) (sp : Nat → Bool) (hd : Bool), DataW.TrodAll enc P W' b sp hd f.resultTypes.toList (v.resultList f.resultTypes.size) (s.fn H (ds ++ gs)).results [])
    (hargs : ∀ sp : Nat → Bool, (∀ p ∈ before, sp p.block = true) → DataW.TrodAll enc P W' 0 sp true f.params.toList args.toList (s.fn H (ds ++ gs)).args pa)
    (hvars : ∀ sp : Nat → Bool, (∀ p ∈ before, sp p.block = true) → DataW.TrodVars enc P W' sp s.vars (s.fn H (ds ++ gs)).vars pv)
    (hps : before = pa ++ pv) (hb : Up W W')
    (hok : ∀ (j : Nat) (t : TypeId) (r : Value), f.resultTypes[j]? = some t → (v.resultList f.resultTypes.size)[j]? = some r → Value.okWide P W' .any 0 t r) :
    s.post enc P f apart fresh handsOn again W args v W' := by
  have hlt : ∀ p ∈ before, p.block < W.heap.size := fun p hp => hW.lt p hp
  have hold : ∀ p ∈ before, (fun b => decide (b < W.heap.size)) p.block = true := fun p hp => by simpa using hlt p hp
  refine ⟨ds, gs, before, [], pa, pv, hW, hres _ _ _, hargs _ hold, hvars _ hold, World.keptBut_mono (fun p hp => ⟨hp, ?_⟩) (Below.frame hb (· ∈ before)), fun _ => ?_⟩
  · rw [hps, List.mem_append] at hp
    exact Or.inr hp
  · obtain ⟨_, _, _, _, _, hz, hn⟩ := hW
    refine ⟨hok, _, _, ([] ++ pa) ++ pv, ⟨[] ++ pa, pv, trodAll_append (hargs _ (fun _ _ => rfl)) (hres _ _ _), hvars _ (fun _ _ => rfl), rfl, ?_, ?_⟩, ?_⟩
    · intro b off hp
      have hin : MemPlace.cell b off ∈ before := by rw [hps]; simpa using hp
      rw [Below.frozen hb (hlt _ hin)]
      exact hz b off hin
    · intro ha
      have := hn ha
      rw [hps] at this
      simpa using this
    · intro p hp _
      rw [hps]
      simpa using hp
end
end Go.Proofs.Ytaealkfnhhmmcaa
