/- ProofOfFour, plain: what is picked; a proof of two rows of the own. No condition. -/
import Derived.Test.YtlpbmdoggcclpaaFa2
import Derived.Test.YtlpbmdoggcclpaaIp
import Derived.Test.YtlpbmdoggcclpaaJm
import Derived.Deep.AppendLies
import Derived.Test.YtlpbmdoggcclpaaPr2
namespace Go.Proofs.Ytlpbmdoggcclpaa
open Go.RowKit
set_option linter.unusedVariables false
/-- How many of the first j numbers are above 0; the values V at those places. -/
def pkN (f : Nat → Int) : Nat → Nat
  | 0 => 0
  | j + 1 => if 0 < f j then pkN f j + 1 else pkN f j
def pkV (f V : Nat → Int) : Nat → Nat → Int
  | 0 => fun _ => 0
  | j + 1 => if 0 < f j then (fun i => if i = pkN f j then V j else pkV f V j i) else pkV f V j
def pkW (f V : Nat → Int) (j i l : Nat) : Int := pkV f V j i
theorem pkN_le (f : Nat → Int) : ∀ j, pkN f j ≤ j
  | 0 => Nat.le_refl _
  | j + 1 => by have := pkN_le f j; rw [pkN]; split <;> omega
theorem pkN_p {f : Nat → Int} {j : Nat} (h : 0 < f j) : pkN f (j + 1) = pkN f j + 1 := by rw [pkN, if_pos h]
theorem pkN_z {f : Nat → Int} {j : Nat} (h : ¬ 0 < f j) : pkN f (j + 1) = pkN f j := by rw [pkN, if_neg h]
theorem pk_flat_p {f V : Nat → Int} {j : Nat} (h : 0 < f j) : flat 1 (intF (pkW f V (j + 1))) (pkN f j + 1) = flat 1 (intF (pkW f V j)) (pkN f j) ++ [.int .i64 (V j)] := by
  rw [flat1]
  congr 1
  · exact flat_congr fun i l hi _ => by simp only [intF, pkW, pkV, if_pos h]; rw [if_neg (by omega)]
  · simp [intF, pkW, pkV, h]
theorem pk_flat_z {f V : Nat → Int} {j n : Nat} (h : ¬ 0 < f j) : flat 1 (intF (pkW f V (j + 1))) n = flat 1 (intF (pkW f V j)) n := by
  exact flat_congr fun i l hi _ => by simp only [intF, pkW, pkV, if_neg h]
/-- The row that the i-th index names. -/
def rwR (R L : Nat → Nat → Int) (i : Nat) : R4 := ⟨R (L i 0).toNat 0, R (L i 0).toNat 1, R (L i 0).toNat 2, R (L i 0).toNat 3⟩
def poN (R L : Nat → Nat → Int) : Nat := faN (rwR R L 0) (rwR R L 1) (rwR R L 2) (rwR R L 3)
def poF (R L : Nat → Nat → Int) (i : Nat) : Int := faR (rwR R L 0) (rwR R L 1) (rwR R L 2) (rwR R L 3) i 0
def poL (L : Nat → Nat → Int) (i : Nat) : Int := L i 0
/-- How many rows are picked; their numbers; their factors. -/
def poC (R L : Nat → Nat → Int) : Nat := pkN (poF R L) (poN R L)
def poP (R L : Nat → Nat → Int) : Nat → Nat → Int := pkW (poF R L) (poL L) (poN R L)
def poQ (R L : Nat → Nat → Int) : Nat → Nat → Int := pkW (poF R L) (poF R L) (poN R L)
/-- IsProof of a proof of c rows. -/
def ipR (k c : Nat) (R P F : Nat → Nat → Int) : Bool := ipB (pfOk k c c R P F) (srI k c c R P F 0) (srI k c c R P F 1) (srI k c c R P F 2) (srI k c c R P F 3)
def poB (k l : Nat) (R L : Nat → Nat → Int) : Bool := decide (l = 4) && allN (ascI 0 ((k : Int) - 1) L) l && allN (fun i => decide (0 ≤ poF R L i)) (poN R L) && ipR k (poC R L) R (poP R L) (poQ R L)
def poM (k l : Nat) (R L : Nat → Nat → Int) : Nat := if poB k l R L then poC R L else 0
theorem po_1 {k l : Nat} {R L : Nat → Nat → Int} (h : ¬ l = 4) : poB k l R L = false := by simp [poB, h]
theorem po_2 {k l : Nat} {R L : Nat → Nat → Int} (h : allN (ascI 0 ((k : Int) - 1) L) l = false) : poB k l R L = false := by simp [poB, h]
theorem po_3 {k l : Nat} {R L : Nat → Nat → Int} (h : allN (fun i => decide (0 ≤ poF R L i)) (poN R L) = false) : poB k l R L = false := by simp [poB, h]
theorem po_t {k l : Nat} {R L : Nat → Nat → Int} (h1 : l = 4) (h2 : allN (ascI 0 ((k : Int) - 1) L) l = true) (h3 : allN (fun i => decide (0 ≤ poF R L i)) (poN R L) = true) : poB k l R L = ipR k (poC R L) R (poP R L) (poQ R L) := by
  unfold poB; rw [h2, h3, decide_eq_true h1]; simp
theorem po_m0 {k l : Nat} {R L : Nat → Nat → Int} (h : poB k l R L = false) : poM k l R L = 0 := by rw [poM, h]; rfl
theorem po_m1 {k l : Nat} {R L : Nat → Nat → Int} (h : poB k l R L = true) : poM k l R L = poC R L := by rw [poM, h]; rfl
theorem poN_le (R L : Nat → Nat → Int) : poN R L ≤ 4 := by unfold poN faN; split <;> omega
theorem poF_bd (R L : Nat → Nat → Int) (i : Nat) : -60000 ≤ poF R L i ∧ poF R L i ≤ 60000 := by
  have h := faV_bd (rwR R L 0) (rwR R L 1) (rwR R L 2) (rwR R L 3) i
  exact tdiv_le h.1 h.2
/-- What ends in a proof of two rows of the own, wherever they lie. -/
def PrG (w : World) (n m : Nat) (f g : Nat → Nat → Value) (b : Bool) (e : Ending) (w' : World) : Prop :=
  ∃ A c A' c' lo1 hi1 lo2 hi2, e = .returned (.tuple #[.agg #[.slice A n c, .slice A' m c'], .bool b]) ∧ Wr w' lo1 hi1 1 (.slice A n c) n f ∧ Wr w' lo2 hi2 1 (.slice A' m c') m g ∧ w.heap.size ≤ lo1 ∧ w.heap.size ≤ lo2 ∧ (hi1 ≤ lo2 ∨ hi2 ≤ lo1) ∧ Up w w'
theorem PrG.zero {w w' : World} (f g : Nat → Nat → Value) (h : Up w w') : PrG w 0 0 f g false (.returned (.tuple #[.agg #[.slice none 0 0, .slice none 0 0], .bool false])) w' :=
  ⟨none, 0, none, 0, w.heap.size, w.heap.size, w.heap.size, w.heap.size, rfl, Wr.nil _ _ _ _ _ h.size, Wr.nil _ _ _ _ _ h.size, Nat.le_refl _, Nat.le_refl _, .inl (Nat.le_refl _), h⟩
theorem chg_own {w a b : World} {lo hi base size n : Nat} {e : TypeId} {v : Value} {xs : List Value} (h : Chg lo hi w a) (hb : w.heap.size ≤ base) (ho : a.ownsRow base e size v n xs) (hg : a.grownBy b v.ownBlock) : Chg lo hi w b :=
  ⟨Nat.le_trans h.1 hg.size, fun x o hx hd => by
    have hne : some x ≠ v.ownBlock := fun e => by have := (ho.lt _ e.symm).1; omega
    have hbk := hg.block x (Nat.lt_of_lt_of_le hx h.1) hne
    exact ⟨(World.cell?_of_block hbk).trans (h.2 x o hx hd).1, (World.frozen?_of_block hbk).trans (h.2 x o hx hd).2⟩⟩
/-- Two rows do not share a block. -/
def Apart (a b : Value) : Prop := a.ownBlock = none ∨ a.ownBlock ≠ b.ownBlock
theorem Apart.turn {a b : Value} (h : Apart a b) : b.ownBlock = none ∨ b.ownBlock ≠ a.ownBlock := by
  rcases h with h | h
  · rcases hb : b.ownBlock with _ | g
    · exact .inl rfl
    · exact .inr (by rw [h]; simp)
  · exact .inr fun e => h e.symm
theorem Apart.symm {a b : Value} (h : Apart a b) : Apart b a := h.turn
/-- Behind an append onto a: still apart. -/
theorem Apart.grow {w : World} {base n m sz : Nat} {e : TypeId} {a b : Value} {xs : List Value} (h : Apart a b) (hb : w.ownsRow base e sz b m xs) {g H cap : Nat} (hat : a.ownBlock = some g ∨ g = H) (hH : w.heap.size ≤ H) : Apart (.slice (some ⟨g, 0, none⟩) n cap) b := by
  refine .inr fun he => ?_
  simp only [Value.ownBlock] at he
  rcases hat with hat | rfl
  · rcases h with h | h
    · rw [h] at hat; cases hat
    · exact h (hat.trans he)
  · have := (hb.lt _ he.symm).2
    omega
/-- A row of the call's own that reads in one block. -/
theorem Wr.of_own1 {w : World} {base sz n : Nat} {e : TypeId} {v : Value} {f : Nat → Nat → Value} (h : w.ownsRow base e sz v n (flat sz f n)) (g : Nat) (hg : v.ownBlock = some g) : Wr w g (g + 1) sz v n f := by
  obtain ⟨_, A, c, rfl, hc, hx⟩ := Wr.of_own h
  have hl := h.lt g hg
  refine ⟨hl.2, A, c, rfl, hc, fun hn => ?_⟩
  obtain ⟨b, rfl, h1, h2, h3, h4⟩ := hx hn
  simp [Value.ownBlock] at hg
  subst hg
  exact ⟨b, rfl, Nat.le_refl _, Nat.lt_succ_self _, h3, h4⟩
theorem own_wr {w : World} {base sz n : Nat} {e : TypeId} {v : Value} {f : Nat → Nat → Value} (h : w.ownsRow base e sz v n (flat sz f n)) (hb : base ≤ w.heap.size) : ∃ lo hi, Wr w lo hi sz v n f ∧ base ≤ lo ∧ ((v.ownBlock = none ∧ hi = base ∧ lo = base) ∨ ∃ g, v.ownBlock = some g ∧ lo = g ∧ hi = g + 1) := by
  rcases ho : v.ownBlock with _ | g
  · refine ⟨base, base, ?_, Nat.le_refl _, .inl ⟨rfl, rfl, rfl⟩⟩
    obtain ⟨_, A, c, rfl, hc, hx⟩ := Wr.of_own h
    refine ⟨hb, A, c, rfl, hc, fun hn => ?_⟩
    obtain ⟨b, rfl, _⟩ := hx hn
    simp [Value.ownBlock] at ho
  · exact ⟨g, g + 1, Wr.of_own1 h g ho, (h.lt g ho).1, .inr ⟨g, rfl, rfl, rfl⟩⟩
/-- Two rows apart lie in ranges apart. -/
theorem two_wr {w : World} {base sz n m : Nat} {e : TypeId} {a b : Value} {f g : Nat → Nat → Value} (h : w.ownsRow base e sz a n (flat sz f n)) (k : w.ownsRow base e sz b m (flat sz g m)) (hb : base ≤ w.heap.size) (ha : Apart a b) :
    ∃ lo1 hi1 lo2 hi2, Wr w lo1 hi1 sz a n f ∧ Wr w lo2 hi2 sz b m g ∧ base ≤ lo1 ∧ base ≤ lo2 ∧ (hi1 ≤ lo2 ∨ hi2 ≤ lo1) := by
  obtain ⟨l1, h1, W1, b1, c1⟩ := own_wr h hb
  obtain ⟨l2, h2, W2, b2, c2⟩ := own_wr k hb
  refine ⟨l1, h1, l2, h2, W1, W2, b1, b2, ?_⟩
  rcases c1 with ⟨_, rfl, rfl⟩ | ⟨g1, e1, rfl, rfl⟩
  · exact .inl b2
  · rcases c2 with ⟨_, rfl, rfl⟩ | ⟨g2, e2, rfl, rfl⟩
    · exact .inr b1
    · have hne : l1 ≠ l2 := by
        rintro rfl
        rcases ha with ha | ha
        · rw [e1] at ha; cases ha
        · exact ha (e1.trans e2.symm)
      omega
end Go.Proofs.Ytlpbmdoggcclpaa
