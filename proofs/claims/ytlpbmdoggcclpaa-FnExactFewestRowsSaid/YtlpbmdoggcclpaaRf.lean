/- A law for a range over an iterator that is told of what it hands over together with the world. No condition. -/
import Derived.Test.YtlpbmdoggcclpaaQd2
import Derived.RangeFuncNested
import Derived.RangeFuncBound
import Derived.RangeFuncCalls
import Derived.RangeFuncLeaves
import Derived.OwnWalkIn
import Derived.TacticsInMore
import Derived.LoopNIn
import Derived.LoopIn
namespace Go.Proofs.Ytlpbmdoggcclpaa
open Go.RowKit
set_option linter.unusedVariables false
/-- The loop's record and the block for deferred calls lie as they lay. -/
def KL (l : Nat) (W W' : World) : Prop := W.heap.size ≤ W'.heap.size ∧ ∀ b, (b = l ∨ b + 1 = l) → W'.heap[b]? = W.heap[b]?
def postR (l : Nat) (I Ix : World → Prop) (W : World) : Exit → Act → World → Prop
  | .normal, _, W' => KL l W W' ∧ I W'
  | .ret, _, W' => KL l W W' ∧ Ix W'
  | .exit _, _, _ => False
  | .goto _, _, _ => False
  | .panic _, _, _ => False
  | .outgrown, _, _ => False
theorem chg_put {W : World} {l : Nat} {r r' : Loop} (h : W.heap[l]? = some (.loop r)) : Chg 0 0 W (W.putObj l (.loop r')) := by
  have hl : l < W.heap.size := (Array.getElem?_eq_some_iff.1 h).1
  refine ⟨by simp, fun b o hb _ => ?_⟩
  by_cases e : b = l
  · subst e
    have h2 : (W.putObj b (.loop r')).heap[b]? = some (.loop r') := World.putObj_heap_same hl
    constructor
    · simp only [World.cell?, h, h2]
    · simp only [World.frozen?, h, h2]
  · have h2 : (W.putObj l (.loop r')).heap[b]? = W.heap[b]? := World.putObj_heap_other e
    constructor
    · simp only [World.cell?, h2]
    · simp only [World.frozen?, h2]
variable {F : Fence} {n : Nat} {P : Program}
theorem rangeF {α : Type} {g : Operand} {ps : Array Tmp} {assign body : Code} {Q : Exit → Act → World → Prop} {a : Act} {w : World}
    (hro : F.round = none) (h1 : 1 ≤ n) {gf : Nat} {lb : Array Value} (hg : a.eval g = .func (.func gf) #[] lb) (hFg : F.fn gf) (eg : ∀ args w, (callFunc gf args).run P w = .ok (.enter gf args) w)
    (I : List α → World → Prop) (Ix : World → Prop) (hIup : ∀ s W W', I s W → Up W W' → I s W') (hIp : ∀ s W l o, w.heap.size ≤ l → I s W → I s (W.putObj l o)) (hXp : ∀ W l r r', w.heap.size ≤ l → W.heap[l]? = some (.loop r) → Ix W → Ix (W.putObj l (.loop r')))
    (h0 : I [] w) (Vq : α → World → Value → Prop) (NX : List α → α → Prop) (FL : α → Prop) (S : List α → Prop) (hIf : ∀ s q W, FL q → I s W → I (s ++ [q]) W)
    (hit : ∀ (l : Nat) (J : List α → World → Prop) (Jx : World → Prop) (W : World), (∀ s W, J s W → I s W) → (∀ s W W', J s W → Up W W' → J s W') → (∀ s q W, FL q → J s W → J (s ++ [q]) W) →
      (∀ s q W v, J s W → NX s q → Vq q W v → YieldAt F (n - 1 - 1) P l #[v] W fun e W' => (e = .returned (.bool true) ∧ J (s ++ [q]) W') ∨ (e = .returned (.bool false) ∧ Jx W')) → J [] W →
      CallsIn F (n - 1) P gf (#[.func (.yield l) #[] #[]] ++ lb) W fun e W' => (∃ v, e = .returned v) ∧ ((∃ s, S s ∧ J s W') ∨ Jx W'))
    (hps : ps.size = 1)
    (hround : ∀ (l : Nat) (s : List α) (q : α) (W : World) (v : Value), w.heap.size + 1 ≤ l → l < W.heap.size → I s W → NX s q → Vq q W v →
      assign.wpIn (F.inRound l) (n - 1 - 1) P (Exit.then (fun a₁ W₁ => Up W W₁ ∧ ∀ W₂, I s W₂ → Chg 0 0 W₁ W₂ → W₂.heap.size = W₁.heap.size → body.wpIn (F.inRound l) (n - 1 - 1) P (postR l (I (s ++ [q])) Ix W₂) a₁ W₂) (fun _ _ _ => False)) { tmps := (ps.zip #[v]).foldl (fun t (p, v) => t.setIfInBounds p v) a.tmps, defers := [] } W)
    (hdone : ∀ (D : Nat) (s : List α) (W : World), w.heap.size ≤ D → S s → I s W → W.heap[D]? = some (.deferred (some [])) → Q .normal { a with defers := { target := .collected D, args := #[] } :: a.defers } W)
    (hstop : ∀ (D : Nat) (W : World), w.heap.size ≤ D → Ix W → W.heap[D]? = some (.deferred (some [])) → Code.ret.wpIn F n P Q { a with defers := { target := .collected D, args := #[] } :: a.defers } W) :
    (Code.rangeFunc g ps assign body).wpIn F n P Q a w := by
  refine wpIn_rangeFunc ?_
  intro fn hfn
  rw [hro]
  obtain ⟨rec, hrec⟩ : ∃ rec : LoopState → Option Code → Loop, rec = fun st pe => { state := st, pending := pe, fn, tmps := a.tmps, params := ps, assign, body, defers := w.heap.size } := ⟨_, rfl⟩
  obtain ⟨W1, hW1⟩ : ∃ W1, (w.alloc (.deferred (some []))).alloc (.loop (rec .ready none)) = W1 := ⟨_, rfl⟩
  have hL1 : W1.heap[w.heap.size + 1]? = some (.loop (rec .ready none)) := by
    rw [← hW1]; have := World.alloc_heap_new (w.alloc (.deferred (some []))) (.loop (rec .ready none)); rwa [World.size_alloc] at this
  have hK1 : W1.heap[w.heap.size]? = some (.deferred (some [])) := by
    rw [← hW1]; exact (Below.heap_alloc _ _ _ (by simp)).trans (World.alloc_heap_new w _)
  have hI1 : I [] W1 := by rw [← hW1]; exact hIup _ _ _ h0 ((Up.alloc (Up.refl w) _).alloc _)
  refine ⟨w.heap.size + 1, [{ target := .collected w.heap.size, args := #[] }], W1, { target := .fn (.func gf) lb, args := #[.func (.yield (w.heap.size + 1)) #[] #[]] }, W1, gf,
    #[.func (.yield (w.heap.size + 1)) #[] #[]] ++ lb, W1, ?_, ?_, ?_, ?_, fun _ => h1, ?_⟩
  · rw [← hW1, hrec]; exact run_enterLoop_outer _ _ _ _ _
  · simp only [resolve, hg]
    simp [go_sem]
  · intro f' hf'; simp [Target.leads] at hf'; subst hf'; exact hFg
  · simp [invoke, go_sem, eg]
  · refine (hit (w.heap.size + 1)
      (fun s W => I s W ∧ W.heap[w.heap.size + 1]? = some (.loop (rec .ready none)) ∧ W.heap[w.heap.size]? = some (.deferred (some [])))
      (fun W => Ix W ∧ W.heap[w.heap.size + 1]? = some (.loop (rec .done (some .ret))) ∧ W.heap[w.heap.size]? = some (.deferred (some [])))
      W1 (fun s W h => h.1)
      (fun s W W' h hu => ⟨hIup _ _ _ h.1 hu, (Below.block hu _ (Array.getElem?_eq_some_iff.1 h.2.1).1).trans h.2.1, (Below.block hu _ (Array.getElem?_eq_some_iff.1 h.2.2).1).trans h.2.2⟩)
      (fun s q W hq h => ⟨hIf _ _ _ hq h.1, h.2⟩) ?_ ⟨hI1, hL1, hK1⟩).mono ?_
    · rintro s q W v ⟨hi, hl, hk⟩ hnx hv
      have hlt : w.heap.size + 1 < W.heap.size := (Array.getElem?_eq_some_iff.1 hl).1
      have hy := run_yield (P := P) (args := #[v]) hl (by rw [hrec]; simp [hps])
      rw [hrec] at hy
      refine ⟨fn, _, assign, body, hy, roundIn_of_wpIn hfn (wpIn_mono (hround (w.heap.size + 1) s q W v (Nat.le_refl _) hlt hi hnx hv) ?_)⟩
      clear hy
      rintro e a₁ W₁ hq1
      cases e with
      | normal =>
        obtain ⟨hu1, hbody⟩ := hq1
        have hl1 := (Below.block hu1 _ hlt).trans hl
        have hk1 := (Below.block hu1 w.heap.size (by omega)).trans hk
        have hlt1 : w.heap.size + 1 < W₁.heap.size := Nat.lt_of_lt_of_le hlt hu1.size
        refine ⟨_, run_beginRound hl1 (by rw [hrec]), ?_⟩
        have hl2 : (W₁.putObj (w.heap.size + 1) (.loop { rec .ready none with state := .busy })).heap[w.heap.size + 1]? = some (.loop { rec .ready none with state := .busy }) := World.putObj_heap_same hlt1
        have hk2 : (W₁.putObj (w.heap.size + 1) (.loop { rec .ready none with state := .busy })).heap[w.heap.size]? = some (.deferred (some [])) := (World.putObj_heap_other (by omega)).trans hk1
        refine wpIn_mono (hbody _ (hIp _ _ _ _ (by omega) (hIup _ _ _ hi hu1)) (chg_put hl1) (by simp)) ?_
        have fin : ∀ (jump : Option Code) (W3 : World), KL (w.heap.size + 1) (W₁.putObj (w.heap.size + 1) (.loop { rec .ready none with state := .busy })) W3 →
            (Instr.endRound (w.heap.size + 1) jump).run P W3 = .ok (.bool jump.isNone) (W3.putObj (w.heap.size + 1) (.loop (rec (if jump.isNone then .ready else .done) jump))) ∧
            (W3.putObj (w.heap.size + 1) (.loop (rec (if jump.isNone then .ready else .done) jump))).heap[w.heap.size + 1]? = some (.loop (rec (if jump.isNone then .ready else .done) jump)) ∧
            (W3.putObj (w.heap.size + 1) (.loop (rec (if jump.isNone then .ready else .done) jump))).heap[w.heap.size]? = some (.deferred (some [])) := fun jump W3 hk3 => by
          have hl3 := (hk3.2 _ (.inl rfl)).trans hl2
          have hk4 := (hk3.2 w.heap.size (.inr rfl)).trans hk2
          have := run_endRound (P := P) jump hl3
          rw [hrec] at this ⊢
          exact ⟨this, World.putObj_heap_same (Array.getElem?_eq_some_iff.1 hl3).1, (World.putObj_heap_other (by omega)).trans hk4⟩
        rintro e a3 W3 hp
        cases e with
        | normal =>
          obtain ⟨hk3, hi3⟩ := hp
          obtain ⟨hr, hl4, hk4⟩ := fin none W3 hk3
          exact ⟨_, _, hr, .inl ⟨rfl, hIp _ _ _ _ (by omega) hi3, hl4, hk4⟩⟩
        | ret =>
          obtain ⟨hk3, hi3⟩ := hp
          obtain ⟨hr, hl4, hk4⟩ := fin (some .ret) W3 hk3
          exact ⟨_, _, hr, .inr ⟨rfl, hXp _ _ _ _ (by omega) ((hk3.2 _ (.inl rfl)).trans hl2) hi3, hl4, hk4⟩⟩
        | exit id => exact hp.elim
        | goto t => exact hp.elim
        | panic ch => exact hp.elim
        | outgrown => exact hp.elim
      | ret => exact hq1.elim
      | exit id => exact hq1.elim
      | goto t => exact hq1.elim
      | panic ch => exact hq1.elim
      | outgrown => exact hq1.elim
    · rintro e W2 ⟨⟨v, rfl⟩, (⟨s, hS, hi, hl, hk⟩ | ⟨hi, hl, hk⟩)⟩
      · exact ⟨none, _, by have := run_endLoop (P := P) hl (by rw [hrec]; simp); rw [hrec] at this; exact this, hdone _ s _ (Nat.le_refl _) hS (hIp _ _ _ _ (by omega) hi) ((World.putObj_heap_other (by omega)).trans hk)⟩
      · exact ⟨some .ret, _, by have := run_endLoop (P := P) hl (by rw [hrec]; simp); rw [hrec] at this; exact this, hstop _ _ (Nat.le_refl _) (hXp _ _ _ _ (by omega) hl hi) ((World.putObj_heap_other (by omega)).trans hk)⟩
end Go.Proofs.Ytlpbmdoggcclpaa
