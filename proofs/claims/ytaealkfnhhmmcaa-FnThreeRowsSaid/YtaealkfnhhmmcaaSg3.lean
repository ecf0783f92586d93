/- A lone contract of pure code serves in company, and beside goroutines that are only leaving. No condition. -/
import Derived.Test.YtaealkfnhhmmcaaSg2
import Derived.KernelRfl
import Derived.Conc.Listed
import Derived.Conc.Beside
import Derived.Conc.CompanyCalls
import Derived.Conc.Holds
import Derived.Conc.CrowdRun
/- A step of pure code hangs on the draws that it takes alone. No condition. -/
namespace Go.Proofs.Ytaealkfnhhmmcaa
namespace Sim
open Go.Conc
set_option linter.unusedVariables false
section
variable {P : Program} {L : LSet} {bv : List Frame}
/-- A goroutine of pure code in a world of rows. -/
def Loc (P : Program) (L : LSet) (bv : List Frame) (g : Goroutine) (w : World) : Prop := ∃ ρ, GR P L bv bv ρ g g ∧ WR P.globals.size (fun _ => False) ρ w w
/-- It is about to leave, over what it stands on. -/
def FinG (P : Program) (bv : List Frame) (g : Goroutine) : Prop := ∃ f t todo, Fr P f ∧ g = G { (base f).at ⟨t, []⟩ todo with mode := .returning } bv
theorem WR.wt {G : Nat} {Lk : Nat → Prop} {ρ : BR} {wv wc : World} (h : WR G Lk ρ wv wc) (T T' : Tp) : WR G Lk ρ (wt wv T) (wt wc T') := ⟨h.fn, h.inj, h.obj, h.lk, h.gl, h.gv, h.gc⟩
theorem GR.mode {bc : List Frame} {ρ : BR} {gv gc : Goroutine} (h : GR P L bv bc ρ gv gc) : ∀ chain, gv.frame.mode ≠ .panicking chain := by
  cases h <;> (intro chain h; cases h)
theorem Pan.mode {g : Goroutine} (h : Pan P bv g) : ∃ chain, g.frame.mode = .panicking chain := by
  obtain ⟨f, tv, todo, kv, chain, _, _, rfl⟩ := h
  exact ⟨chain, rfl⟩
/-- What a step of pure code can be. -/
theorem step_kinds (hS : okSet P L) {g : Goroutine} {w : World} (h : Loc P L bv g w) (T : Tp) :
    FinG P bv g ∨ (∃ o w' es, stepG P true g (wt w T) = .ended o w' es) ∨ (∃ gp w' es, stepG P true g (wt w T) = .go gp w' es ∧ Pan P bv gp) ∨
      ∃ g' w', (∃ es, stepG P true g (wt w T) = .go g' w' es) ∧ Loc P L bv g' w' ∧ w.drawn ≤ w'.drawn ∧ w'.tape = T ∧ ∀ T', Agree w.drawn w'.drawn T T' → ∃ es, stepG P true g (wt w T') = .go g' (wt w' T') es := by
  obtain ⟨ρ, hg, hw⟩ := h
  cases form_of hS hg with
  | fin f tv tc todo hL ht hv hc => exact .inl ⟨f, tv, todo, hL, hv⟩
  | dead h => exact .inr (.inl (h _))
  | ctl gv' gc' hg' hv hc =>
    have e : gv' = gc' := by
      have h1 := hv w
      have h2 := hc true w
      rw [h1] at h2
      cases h2
      rfl
    subst e
    exact .inr (.inr (.inr ⟨gv', wt w T, ⟨_, hv _⟩, ⟨ρ, hg', hw.wt T T⟩, Nat.le_refl _, rfl, fun T' _ => ⟨_, hv _⟩⟩))
  | sem m m' R kv kc fn hsr hns hk hv hb hc =>
    rcases hsr.came (wt w T) (wt w T) #[] (hw.wt T T) (fun n q => rfl) with ⟨hh, w1, g1, g2⟩ | ⟨a, b, wv', wc', ρ', es', g1, g2, g3, g4, g5, g6, g7⟩
    · rcases hb _ _ _ g1 g2 with he | ⟨gp, es, he, hp⟩
      · exact .inr (.inl he)
      · exact .inr (.inr (.inl ⟨gp, w1, es, he, hp⟩))
    · obtain ⟨es, he⟩ := hv _ _ _ g1 ⟨b, ρ', g3⟩
      have he2 := hc true _ _ _ _ g2 ⟨a, ρ', g3⟩
      rw [he] at he2
      simp only [GStep.go.injEq] at he2
      obtain ⟨e1, e2, _⟩ := he2
      have hgr := hk ρ' a b g6.le g3
      rw [← e1] at hgr
      rw [← e2] at g4
      obtain ⟨_, hd, ht⟩ := run_local hns g1 (T' := T) (fun _ _ _ _ => rfl)
      refine .inr (.inr (.inr ⟨kv a, wv', ⟨es, he⟩, ⟨ρ', hgr, g4⟩, hd, ht, fun T' hA => ?_⟩))
      obtain ⟨hr, _⟩ := run_local hns g1 hA
      exact hv _ _ _ hr ⟨b, ρ', g3⟩
end
end Sim
end Go.Proofs.Ytaealkfnhhmmcaa
/- Lone runs of pure code: no road leads through a panic to a return. No condition. -/
namespace Go.Proofs.Ytaealkfnhhmmcaa
namespace Sim
open Go.Conc
set_option linter.unusedVariables false
/-- A frame that nothing goes on in. -/
def c0 (P : Program) : Frame := { fn := P.funcs.size, tmps := #[], todo := [.call default false "fmt's door" #[]], defers := [], mode := .run, kind := .normal }
theorem door_starts : "fmt's door".startsWith "fmt's door" = true := by kernel_rfl
theorem door_none : (Extern.next "fmt's door").isNone = true := by kernel_rfl
section
variable {P : Program} {L : LSet}
def mach (g : Goroutine) (w : World) : Machine := lone g.frame g.callers w
def IsG (g : Goroutine) : Prop := ∃ fr cs, g = G fr cs
theorem GR.isG {bv bc : List Frame} {ρ : BR} {gv gc : Goroutine} (h : GR P L bv bc ρ gv gc) : IsG gv ∧ IsG gc := by
  cases h <;> exact ⟨⟨_, _, rfl⟩, ⟨_, _, rfl⟩⟩
theorem Pan.isG {bv : List Frame} {g : Goroutine} (h : Pan P bv g) : IsG g := by
  obtain ⟨f, tv, todo, kv, chain, _, _, rfl⟩ := h
  exact ⟨_, _, rfl⟩
theorem mach_go {g g' : Goroutine} {w w' : World} {es : Array Event} (hg : IsG g) (hg' : IsG g') (h : stepG P true g w = .go g' w' es) : step P (mach g w) = .next (mach g' w') := by
  obtain ⟨fr, cs, rfl⟩ := hg
  obtain ⟨fr', cs', rfl⟩ := hg'
  exact step_lone_go (by show (stepG P true (G fr cs) w).bare = _; rw [h]; rfl)
theorem mach_end {g : Goroutine} {w w' : World} {o : Outcome} {es : Array Event} (hg : IsG g) (h : stepG P true g w = .ended o w' es) : step P (mach g w) = .ended o w' := by
  obtain ⟨fr, cs, rfl⟩ := hg
  exact step_lone_ended (by show (stepG P true (G fr cs) w).bare = _; rw [h]; rfl)
theorem pan_step (hS : okSet P L) {f : FuncId} (hL : Fr P f) {t : Array Value} {todo : List Item} {chain : List PanicEntry} {c : Frame} {cs : List Frame} {w : World} :
    stepG P true (G { (base f).at ⟨t, []⟩ todo with mode := .panicking chain } (c :: cs)) w = .go (G (c.raise chain) cs) w #[] := by
  obtain ⟨fn, h1⟩ := hL
  simp [G, stepG, unwind, Frame.at, base, Frame.catches, h1]
theorem c0_none : P.funcs[P.funcs.size]? = none := by simp
theorem unwind_catch {fr : Frame} {chain : List PanicEntry} {cs : List Frame} {w : World} (h1 : fr.defers = []) (h2 : fr.mode = .panicking chain) (h3 : fr.catches P = true) : ∃ o w' es, unwind P true fr cs none w = .ended o w' es := by
  unfold unwind
  rw [h1]
  dsimp only
  rw [h2]
  simp [h3]
theorem c0_pan {chain : List PanicEntry} {w : World} : ∃ o w' es, stepG P true (G ((c0 P).raise chain) []) w = .ended o w' es := by
  have h : ((c0 P).raise chain).catches P = true := by
    simp only [Frame.raise, c0, Frame.catches, c0_none]
    exact door_starts
  have e : stepG P true (G ((c0 P).raise chain) []) w = unwind P true ((c0 P).raise chain) [] none w := rfl
  rw [e]
  exact unwind_catch rfl rfl h
theorem c0_back {v : Value} {w : World} : ∃ o w' es, stepG P true (G ((c0 P).finish v) []) w = .ended o w' es := by
  have hn : Extern.next "fmt's door" = none := by
    have := door_none
    cases h : Extern.next "fmt's door" with
    | none => rfl
    | some x => rw [h] at this; cases this
  simp only [G, stepG, stepG.exec, c0, Frame.finish, hn]
  exact ⟨_, _, _, rfl⟩
theorem runN_succ_next {P : Program} {m m' : Machine} {n : Nat} (h : step P m = .next m') : runN P (n + 1) m = runN P n m' := by simp [runN, h]
theorem runN_succ_end {P : Program} {m : Machine} {n : Nat} {o : Outcome} {w : World} (h : step P m = .ended o w) : runN P (n + 1) m = .ended o w := by simp [runN, h]
theorem lone_inj {fr fr' : Frame} {cs cs' : List Frame} {w w' : World} (h : lone fr cs w = lone fr' cs' w') : fr = fr' ∧ cs = cs' ∧ w = w' := by
  simp only [lone, Machine.mk.injEq] at h
  obtain ⟨h1, h2, _⟩ := h
  simp at h2
  exact ⟨h2.1, h2.2, h1⟩
theorem pan_never (hS : okSet P L) {fr : Frame} {w2 : World} (hfr : fr.mode = .returning) : ∀ (n : Nat) {g : Goroutine} {w : World}, Pan P [c0 P] g → runN P n (mach g w) ≠ .next (lone fr [c0 P] w2)
  | 0, g, w, hp, h => by
    obtain ⟨chain, hc⟩ := hp.mode
    simp only [runN, Stepped.next.injEq] at h
    obtain ⟨h1, _, _⟩ := lone_inj h
    rw [h1, hfr] at hc
    cases hc
  | n + 1, g, w, hp, h => by
    obtain ⟨f, tv, todo, kv, chain, hL, hk, rfl⟩ := hp
    cases hk with
    | base =>
      rw [runN_succ_next (mach_go ⟨_, _, rfl⟩ ⟨_, _, rfl⟩ (pan_step hS hL))] at h
      cases n with
      | zero =>
        simp only [runN, Stepped.next.injEq] at h
        obtain ⟨_, h1, _⟩ := lone_inj h
        cases h1
      | succ n =>
        obtain ⟨o, w', es, he⟩ := c0_pan (P := P) (chain := chain) (w := w)
        rw [runN_succ_end (mach_end ⟨_, _, rfl⟩ he)] at h
        cases h
    | cons f2 tv2 todo2 kv2 hL2 hk2 =>
      rw [runN_succ_next (mach_go ⟨_, _, rfl⟩ ⟨_, _, rfl⟩ (pan_step hS hL))] at h
      exact pan_never hS hfr n ⟨f2, tv2, todo2, kv2, chain, hL2, hk2, rfl⟩ h
theorem fin_last (hS : okSet P L) {fr : Frame} {w2 : World} (hfr : fr.mode = .returning) {n : Nat} {g : Goroutine} {w : World} (hf : FinG P [c0 P] g) (h : runN P n (mach g w) = .next (lone fr [c0 P] w2)) : fr = g.frame ∧ w2 = w := by
  obtain ⟨f, t, todo, hL, rfl⟩ := hf
  cases n with
  | zero =>
    simp only [runN, Stepped.next.injEq] at h
    obtain ⟨h1, _, h3⟩ := lone_inj h
    exact ⟨h1.symm, h3.symm⟩
  | succ n =>
    exfalso
    obtain ⟨fn, h1⟩ := hL
    cases hr : (results fn t).run P w with
    | ok v w' =>
      have hs := back_ok (main := true) (c := c0 P) (cs := []) (todo := todo) h1 (es := ((results fn t).runT P w #[]).2) (by rw [← hr, ← Sem.runT_fst P _ w #[]])
      rw [runN_succ_next (mach_go ⟨_, _, rfl⟩ ⟨_, _, rfl⟩ hs)] at h
      cases n with
      | zero =>
        simp only [runN, Stepped.next.injEq] at h
        obtain ⟨_, h4, _⟩ := lone_inj h
        cases h4
      | succ n =>
        obtain ⟨o, w'', es, he⟩ := c0_back (P := P) (v := v) (w := w')
        rw [runN_succ_end (mach_end ⟨_, _, rfl⟩ he)] at h
        cases h
    | halt hh w' =>
      obtain ⟨o, w'', es, he⟩ := back_halt (c := c0 P) (cs := []) (todo := todo) h1 hr
      rw [runN_succ_end (mach_end ⟨_, _, rfl⟩ he)] at h
      cases h
end
end Sim
end Go.Proofs.Ytaealkfnhhmmcaa
/- A lone call of pure code that returns on every tape returns on every tape that changes under way. No condition. -/
namespace Go.Proofs.Ytaealkfnhhmmcaa
namespace Sim
open Go.Conc
set_option linter.unusedVariables false
/-- On whatever tape, a new one ahead of each step, it comes to its leaving. -/
inductive LT (P : Program) (L : LSet) (Gd : Frame → Array Obj → Prop) : Goroutine → World → Prop
  | fin (g : Goroutine) (w : World) (h : FinG P [c0 P] g) (hg : Gd g.frame w.heap) : LT P L Gd g w
  | step (g : Goroutine) (w : World) (hn : ¬ FinG P [c0 P] g) (N : Tp → Goroutine × World) (hs : ∀ T, ∃ es, stepG P true g (wt w T) = .go (N T).1 (N T).2 es) (hl : ∀ T, Loc P L [c0 P] (N T).1 (N T).2) (ih : ∀ T, LT P L Gd (N T).1 (N T).2) : LT P L Gd g w
/-- A chain of steps. -/
inductive Ch (P : Program) (L : LSet) : Nat → Goroutine → World → Goroutine → World → Prop
  | nil (g : Goroutine) (w : World) : Ch P L 0 g w g w
  | cons {n : Nat} {g g1 g2 : Goroutine} {w w1 w2 : World} {es : Array Event} (hn : ¬ FinG P [c0 P] g) (hs : stepG P true g w = .go g1 w1 es) (hl : Loc P L [c0 P] g1 w1) (h : Ch P L n g1 w1 g2 w2) : Ch P L (n + 1) g w g2 w2
section
variable {P : Program} {L : LSet}
theorem Loc.isG {bv : List Frame} {g : Goroutine} {w : World} (h : Loc P L bv g w) : IsG g := by
  obtain ⟨ρ, h, _⟩ := h
  exact h.isG.1
theorem Loc.wt {bv : List Frame} {g : Goroutine} {w : World} (h : Loc P L bv g w) (T : Tp) : Loc P L bv g (wt w T) := by
  obtain ⟨ρ, h, k⟩ := h
  exact ⟨ρ, h, k.wt T T⟩
theorem ch_of_run (hS : okSet P L) {fr : Frame} {w2 : World} (hfr : fr.mode = .returning) : ∀ (n : Nat) {g : Goroutine} {w : World}, Loc P L [c0 P] g w → runN P n (mach g w) = .next (lone fr [c0 P] w2) →
    ∃ k g1, Ch P L k g w g1 w2 ∧ FinG P [c0 P] g1 ∧ fr = g1.frame
  | 0, g, w, hl, h => by
    simp only [runN, Stepped.next.injEq] at h
    obtain ⟨h1, h2, h3⟩ := lone_inj h
    obtain ⟨ρ, hg, _⟩ := hl
    cases hg with
    | run f tv tc todo kv kc hL hk ht hh =>
      have : fr.mode = .run := by rw [← h1]; rfl
      rw [this] at hfr
      cases hfr
    | ret f tv tc todo kv kc hL ht hh =>
      have h2' : kv = [c0 P] := h2
      subst h2'
      exact ⟨0, _, h3 ▸ .nil _ _, ⟨f, tv, todo, hL, rfl⟩, h1.symm⟩
  | n + 1, g, w, hl, h => by
    by_cases hf : FinG P [c0 P] g
    · obtain ⟨h1, h2⟩ := fin_last hS hfr hf h
      exact ⟨0, g, h2 ▸ .nil _ _, hf, h1⟩
    · rcases step_kinds hS hl w.tape with hf' | ⟨o, w', es, he⟩ | ⟨gp, w', es, he, hp⟩ | ⟨g', w', ⟨es, he⟩, hl', _⟩
      · exact absurd hf' hf
      · rw [wt_self] at he
        rw [runN_succ_end (mach_end hl.isG he)] at h
        cases h
      · rw [wt_self] at he
        rw [runN_succ_next (mach_go hl.isG hp.isG he)] at h
        exact absurd h (pan_never hS hfr n hp)
      · rw [wt_self] at he
        rw [runN_succ_next (mach_go hl.isG hl'.isG he)] at h
        obtain ⟨k, g1, hc, hf1, hfr1⟩ := ch_of_run hS hfr n hl' h
        exact ⟨k + 1, g1, .cons hf he hl' hc, hf1, hfr1⟩
theorem step_same (hS : okSet P L) {g g' : Goroutine} {w w' : World} {T : Tp} {es : Array Event} (hl : Loc P L [c0 P] g w) (hn : ¬ FinG P [c0 P] g) (he : stepG P true g (wt w T) = .go g' w' es) (hl' : Loc P L [c0 P] g' w') :
    w.drawn ≤ w'.drawn ∧ w'.tape = T ∧ ∀ T', Agree w.drawn w'.drawn T T' → ∃ es, stepG P true g (wt w T') = .go g' (wt w' T') es := by
  rcases step_kinds hS hl T with hf' | ⟨o, w1, es1, he1⟩ | ⟨gp, w1, es1, he1, hp⟩ | ⟨g1, w1, ⟨es1, he1⟩, hl1, h1, h2, h3⟩
  · exact absurd hf' hn
  · rw [he] at he1; cases he1
  · rw [he] at he1
    cases he1
    obtain ⟨chain, hc⟩ := hp.mode
    obtain ⟨ρ, hg, _⟩ := hl'
    exact absurd hc (hg.mode chain)
  · rw [he] at he1
    cases he1
    exact ⟨h1, h2, h3⟩
end
end Sim
end Go.Proofs.Ytaealkfnhhmmcaa
/- A lone call that returns on every tape returns on every tape that changes under way. No condition. -/
namespace Go.Proofs.Ytaealkfnhhmmcaa
namespace Sim
open Go.Conc
set_option linter.unusedVariables false
section
variable {P : Program} {L : LSet}
/-- The states reached in `i` steps, each step on the tape that `B` gives. -/
inductive Rc (P : Program) (L : LSet) (B : Goroutine → World → Tp) (g0 : Goroutine) (w0 : World) : Nat → Goroutine → World → Prop
  | zero : Rc P L B g0 w0 0 g0 w0
  | succ {i : Nat} {g g' : Goroutine} {w w' : World} {es : Array Event} (h : Rc P L B g0 w0 i g w) (hn : ¬ FinG P [c0 P] g) (hs : stepG P true g (wt w (B g w)) = .go g' w' es) (hl : Loc P L [c0 P] g' w') : Rc P L B g0 w0 (i + 1) g' w'
variable {B : Goroutine → World → Tp} {g0 : Goroutine} {w0 : World}
theorem Rc.loc (h0 : Loc P L [c0 P] g0 w0) {i : Nat} {g : Goroutine} {w : World} (h : Rc P L B g0 w0 i g w) : Loc P L [c0 P] g w := by
  cases h with
  | zero => exact h0
  | succ h hn hs hl => exact hl
theorem Rc.det {i : Nat} {g g' : Goroutine} {w w' : World} (h : Rc P L B g0 w0 i g w) (h' : Rc P L B g0 w0 i g' w') : g = g' ∧ w = w' := by
  induction h generalizing g' w' with
  | zero => cases h'; exact ⟨rfl, rfl⟩
  | succ h hn hs hl ih =>
    cases h' with
    | succ h2 hn2 hs2 hl2 =>
      obtain ⟨rfl, rfl⟩ := ih h2
      rw [hs] at hs2
      cases hs2
      exact ⟨rfl, rfl⟩
theorem Rc.back (hS : okSet P L) (h0 : Loc P L [c0 P] g0 w0) {j : Nat} {g : Goroutine} {w : World} (h : Rc P L B g0 w0 j g w) : ∀ i, i ≤ j → ∃ g' w', Rc P L B g0 w0 i g' w' ∧ w'.drawn ≤ w.drawn := by
  induction h with
  | zero =>
    intro i hi
    have : i = 0 := by omega
    subst this
    exact ⟨_, _, .zero, Nat.le_refl _⟩
  | @succ k g g' w w' es h hn hs hl ih =>
    intro i hi
    by_cases e : i = k + 1
    · subst e
      exact ⟨_, _, .succ h hn hs hl, Nat.le_refl _⟩
    · obtain ⟨g1, w1, h1, h2⟩ := ih i (by omega)
      have := (step_same hS (h.loc h0) hn hs hl).1
      exact ⟨g1, w1, h1, by omega⟩
/-- The state whose step draws answer `n`. -/
def At (P : Program) (L : LSet) (B : Goroutine → World → Tp) (g0 : Goroutine) (w0 : World) (n i : Nat) (g : Goroutine) (w : World) : Prop :=
  Rc P L B g0 w0 i g w ∧ w.drawn ≤ n ∧ ∀ g' w', Rc P L B g0 w0 (i + 1) g' w' → n < w'.drawn
theorem At.one (hS : okSet P L) (h0 : Loc P L [c0 P] g0 w0) {n i j : Nat} {g g' : Goroutine} {w w' : World} (h : At P L B g0 w0 n i g w) (h' : At P L B g0 w0 n j g' w') : g = g' ∧ w = w' := by
  have key : ∀ {i j : Nat} {g g' : Goroutine} {w w' : World}, At P L B g0 w0 n i g w → At P L B g0 w0 n j g' w' → j ≤ i := by
    intro i j g g' w w' h h'
    by_cases hij : j ≤ i
    · exact hij
    · exfalso
      obtain ⟨g1, w1, h1, h2⟩ := h'.1.back hS h0 (i + 1) (by omega)
      have := h.2.2 _ _ h1
      have := h'.2.1
      omega
  have e : i = j := Nat.le_antisymm (key h' h) (key h h')
  subst e
  exact h.1.det h'.1
open Classical in
/-- The tape made of the tapes of all states. -/
noncomputable def glued (P : Program) (L : LSet) (B : Goroutine → World → Tp) (g0 : Goroutine) (w0 : World) : Tp := fun n q =>
  if h : ∃ x : Nat × Goroutine × World, At P L B g0 w0 n x.1 x.2.1 x.2.2 then B (Classical.choose h).2.1 (Classical.choose h).2.2 n q else w0.tape n q
theorem glued_at (hS : okSet P L) (h0 : Loc P L [c0 P] g0 w0) {n i : Nat} {g : Goroutine} {w : World} (h : At P L B g0 w0 n i g w) (q) : glued P L B g0 w0 n q = B g w n q := by
  have hx : ∃ x : Nat × Goroutine × World, At P L B g0 w0 n x.1 x.2.1 x.2.2 := ⟨(i, g, w), h⟩
  unfold glued
  rw [dif_pos hx]
  obtain ⟨e1, e2⟩ := (Classical.choose_spec hx).one hS h0 h
  rw [e1, e2]
theorem bad_never (hS : okSet P L) (h0 : Loc P L [c0 P] g0 w0) {Gd : Frame → Array Obj → Prop}
    (hB : ∀ g w, ¬ LT P L Gd g w → ¬ FinG P [c0 P] g → ∀ g' w' es, stepG P true g (wt w (B g w)) = .go g' w' es → Loc P L [c0 P] g' w' → ¬ LT P L Gd g' w')
    {k : Nat} {g gf : Goroutine} {w wa wf : World} (hc : Ch P L k g wa gf wf) (hwa : wa = wt w (glued P L B g0 w0)) (hf : FinG P [c0 P] gf) (hg : Gd gf.frame wf.heap) {i : Nat} (hr : Rc P L B g0 w0 i g w) (hbad : ¬ LT P L Gd g w) : False := by
  induction hc generalizing i w with
  | nil g wa =>
    subst hwa
    exact hbad (.fin g w hf hg)
  | @cons n g g1 gf wa w1 wf es hn hs hl hc ih =>
    subst hwa
    have hlg := hr.loc h0
    by_cases hy : ∃ y : Goroutine × World, Rc P L B g0 w0 (i + 1) y.1 y.2
    · obtain ⟨⟨y, wy⟩, hy⟩ := hy
      have hy' := hy
      cases hy' with
      | succ hr2 hn2 hs2 hl2 =>
        obtain ⟨rfl, rfl⟩ := hr2.det hr
        obtain ⟨hd, ht, hsame⟩ := step_same hS hlg hn hs2 hl2
        obtain ⟨es3, h3⟩ := hsame (glued P L B g0 w0) (by
          intro n q hn1 hn2
          exact (glued_at hS h0 (i := i) ⟨hr, hn1, fun g' w' h' => by obtain ⟨rfl, rfl⟩ := h'.det hy; exact hn2⟩ q).symm)
        rw [hs] at h3
        simp only [GStep.go.injEq] at h3
        obtain ⟨rfl, e2, _⟩ := h3
        exact ih e2 hf hg hy (hB _ _ hbad hn _ _ _ hs2 hl2)
    · have hA : ∀ n, w.drawn ≤ n → ∀ q, glued P L B g0 w0 n q = B g w n q := fun n hn1 q => glued_at hS h0 (i := i) ⟨hr, hn1, fun g' w' h' => absurd ⟨(g', w'), h'⟩ hy⟩ q
      obtain ⟨hd, ht, hsame⟩ := step_same hS hlg hn hs hl
      obtain ⟨es3, h3⟩ := hsame (B g w) (fun n q hn1 hn2 => hA n hn1 q)
      exact hy ⟨(g1, wt w1 (B g w)), .succ hr hn h3 (hl.wt _)⟩
/-- What returns on every tape returns on every tape that changes under way. -/
theorem lt_of_runs (hS : okSet P L) {Gd : Frame → Array Obj → Prop} (h0 : Loc P L [c0 P] g0 w0)
    (H : ∀ T, ∃ n fr w2, runN P n (mach g0 (wt w0 T)) = .next (lone fr [c0 P] w2) ∧ fr.mode = .returning ∧ Gd fr w2.heap) : LT P L Gd g0 w0 := by
  by_cases hlt : LT P L Gd g0 w0
  · exact hlt
  · exfalso
    have hex : ∀ x : Goroutine × World, ∃ T : Tp, ¬ LT P L Gd x.1 x.2 → ¬ FinG P [c0 P] x.1 → ∀ g' w' es, stepG P true x.1 (wt x.2 T) = .go g' w' es → Loc P L [c0 P] g' w' → ¬ LT P L Gd g' w' := by
      intro x
      by_cases hb : LT P L Gd x.1 x.2
      · exact ⟨x.2.tape, fun h => absurd hb h⟩
      by_cases hf : FinG P [c0 P] x.1
      · exact ⟨x.2.tape, fun _ h => absurd hf h⟩
      by_cases hT : ∃ T : Tp, ∀ g' w' es, stepG P true x.1 (wt x.2 T) = .go g' w' es → Loc P L [c0 P] g' w' → ¬ LT P L Gd g' w'
      · obtain ⟨T, hT⟩ := hT
        exact ⟨T, fun _ _ => hT⟩
      · exfalso
        have hN : ∀ T : Tp, ∃ y : Goroutine × World, (∃ es, stepG P true x.1 (wt x.2 T) = .go y.1 y.2 es) ∧ Loc P L [c0 P] y.1 y.2 ∧ LT P L Gd y.1 y.2 := by
          intro T
          refine Classical.byContradiction fun hno => hT ⟨T, fun g' w' es he hc hl => hno ⟨(g', w'), ⟨es, he⟩, hc, hl⟩⟩
        exact hb (.step _ _ hf (fun T => Classical.choose (hN T)) (fun T => (Classical.choose_spec (hN T)).1) (fun T => (Classical.choose_spec (hN T)).2.1) (fun T => (Classical.choose_spec (hN T)).2.2))
    have hch : ∃ B : Goroutine → World → Tp, ∀ g w, ¬ LT P L Gd g w → ¬ FinG P [c0 P] g → ∀ g' w' es, stepG P true g (wt w (B g w)) = .go g' w' es → Loc P L [c0 P] g' w' → ¬ LT P L Gd g' w' :=
      ⟨fun g w => Classical.choose (hex (g, w)), fun g w => Classical.choose_spec (hex (g, w))⟩
    obtain ⟨B, hB⟩ := hch
    obtain ⟨n, fr, w2, hr, hfr, hg⟩ := H (glued P L B g0 w0)
    obtain ⟨k, g1, hc, hf, hfr1⟩ := ch_of_run hS hfr n (h0.wt _) hr
    subst hfr1
    exact bad_never hS h0 hB hc rfl hf hg .zero hlt
end
end Sim
end Go.Proofs.Ytaealkfnhhmmcaa
/- On all tapes together, a program that asks nothing of the system comes to finitely many ends. No condition. -/
namespace Go.Proofs.Ytaealkfnhhmmcaa
namespace Sim
open Go.Conc
set_option linter.unusedVariables false
theorem run_images {α : Type} {P : Program} {m : Sem α} : NS P m → ∀ (w : World), ∃ l : List (α × World), ∀ T a w', m.run P (wt w T) = .ok a w' → ∃ x, x ∈ l ∧ x.1 = a ∧ w' = wt x.2 T := by
  induction m with
  | pure a =>
    refine fun _ w => ⟨[(a, w)], fun T a' w' h => ?_⟩
    cases h
    exact ⟨_, List.mem_cons_self, rfl, rfl⟩
  | load md ad k ih =>
    intro hn w
    simp only [Sem.run]
    have e1 : ∀ T, (wt w T).cell? ad = w.cell? ad := fun T => rfl
    have e3 : ∀ T, (wt w T).farLoad P ad (md == .atomic) = w.farLoad P ad (md == .atomic) := fun T => rfl
    simp only [e1, e3]
    cases hc : w.cell? ad with
    | some v => exact ih v (hn v) w
    | none =>
      cases hf : w.farLoad P ad (md == .atomic) with
      | error e => exact ⟨[], fun T a w' h => by cases h⟩
      | ok r =>
        obtain ⟨v, l⟩ := r
        exact ih v (hn v) w
  | store md ad v k ih =>
    intro hn w
    by_cases hone : One v
    · simp only [run_store_one hone]
      have e1 : ∀ T, (wt w T).cell? ad = w.cell? ad := fun T => rfl
      have e2 : ∀ T, (wt w T).frozen? ad = w.frozen? ad := fun T => rfl
      simp only [e1, e2, farS_wt]
      cases hc : w.cell? ad with
      | some u =>
        cases hf : w.frozen? ad with
        | true => exact ⟨[], fun T a w' h => by cases h⟩
        | false => exact ih hn (w.setCell ad v)
      | none =>
        cases hf : w.farStore P ad v (md == .atomic) with
        | error e => exact ⟨[], fun T a w' h => by cases h⟩
        | ok r =>
          obtain ⟨w1, l⟩ := r
          exact ih hn w1
    · cases v with
      | agg cs => exact ⟨[], fun T a w' h => by simp only [Sem.run] at h; cases h⟩
      | tuple cs => exact ⟨[], fun T a w' h => by simp only [Sem.run] at h; cases h⟩
      | _ => exact absurd ⟨fun _ h => (by cases h), fun _ h => (by cases h)⟩ hone
  | new o k ih => exact fun hn w => ih w.heap.size (hn _) { w with heap := w.heap.push o }
  | shape r k ih => exact fun hn w => ih (w.shape? r) (hn _) w
  | freeze ad n k ih =>
    intro hn w
    simp only [Sem.run]
    have e : ∀ T, (wt w T).freeze ad n = wt (w.freeze ad n) T := fun T => by unfold World.freeze wt; split <;> rfl
    simp only [e]
    exact ih hn (w.freeze ad n)
  | frozen ad k ih => exact fun hn w => ih (w.frozen? ad) (hn _) w
  | getObj r k ih =>
    intro hn w
    simp only [Sem.run]
    have e : ∀ T, (wt w T).heap[r]? = w.heap[r]? := fun T => rfl
    simp only [e]
    cases ho : w.heap[r]? with
    | none => exact ⟨[], fun T a w' h => by cases h⟩
    | some o => cases o <;> first | exact ⟨[], fun T a w' h => by cases h⟩ | exact ih _ (hn _) w
  | setObj r o k ih =>
    intro hn w
    simp only [Sem.run]
    have e : ∀ T, (wt w T).heap[r]? = w.heap[r]? := fun T => rfl
    simp only [e]
    cases ho : w.heap[r]? with
    | none => exact ⟨[], fun T a w' h => by cases h⟩
    | some o' => cases o' <;> first | exact ⟨[], fun T a w' h => by cases h⟩ | exact ih hn { w with heap := w.heap.setIfInBounds r o }
  | choose q k ih =>
    intro hn w
    simp only [Sem.run]
    by_cases hf : q.forced = true
    · simp only [if_pos hf]
      exact ih 0 (hn.2 _) w
    · simp only [if_neg hf]
      obtain ⟨l, hl⟩ := hn.1
      have key : ∀ l : List Nat, ∃ l2 : List (α × World), ∀ n, n ∈ l → ∀ T a w', (k (q.cut n)).run P (wt { w with drawn := w.drawn + 1 } T) = .ok a w' → ∃ x, x ∈ l2 ∧ x.1 = a ∧ w' = wt x.2 T := by
        intro l
        induction l with
        | nil => exact ⟨[], fun n h => by cases h⟩
        | cons n l ihl =>
          obtain ⟨l2, h2⟩ := ihl
          obtain ⟨l3, h3⟩ := ih (q.cut n) (hn.2 _) { w with drawn := w.drawn + 1 }
          refine ⟨l3 ++ l2, fun n' hn' T a w' h => ?_⟩
          rcases List.mem_cons.1 hn' with rfl | hn'
          · obtain ⟨x, hx, hx2⟩ := h3 T a w' h
            exact ⟨x, List.mem_append_left _ hx, hx2⟩
          · obtain ⟨x, hx, hx2⟩ := h2 n' hn' T a w' h
            exact ⟨x, List.mem_append_right _ hx, hx2⟩
      obtain ⟨l2, h2⟩ := key l
      refine ⟨l2, fun T a w' h => ?_⟩
      obtain ⟨n, hn1, hn2⟩ := hl (T w.drawn q)
      have e : k (q.cut (T w.drawn q)) = k (q.cut n) := hn2
      refine h2 n hn1 T a w' ?_
      rw [← e]
      exact h
  | sys c k ih => exact fun hn => hn.elim
  | program k ih => exact fun hn w => ih P hn w
  | mark md k ih => exact fun hn w => ih hn w
  | halt h => exact fun _ w => ⟨[], fun T a w' h => by cases h⟩
section
variable {P : Program} {L : LSet} {bv : List Frame}
/-- On all tapes together a step of pure code leads to finitely many states. -/
theorem step_images (hS : okSet P L) {g : Goroutine} {w : World} (h : Loc P L bv g w) (hn : ¬ FinG P bv g) :
    ∃ l : List (Goroutine × World), ∀ T g' w' es, stepG P true g (wt w T) = .go g' w' es → (∀ chain, g'.frame.mode ≠ .panicking chain) → ∃ x, x ∈ l ∧ x.1 = g' ∧ w' = wt x.2 T := by
  obtain ⟨ρ, hg, hw⟩ := h
  cases form_of hS hg with
  | fin f tv tc todo hL ht hv hc => exact absurd ⟨f, tv, todo, hL, hv⟩ hn
  | dead h =>
    refine ⟨[], fun T g' w' es he _ => ?_⟩
    obtain ⟨o, w1, es1, h1⟩ := h (wt w T)
    rw [he] at h1; cases h1
  | ctl gv' gc' hg' hv hc =>
    refine ⟨[(gv', w)], fun T g' w' es he _ => ?_⟩
    rw [hv] at he; cases he
    exact ⟨_, List.mem_cons_self, rfl, rfl⟩
  | sem m m' R kv kc fn hsr hns hk hv hb hc =>
    obtain ⟨l, hl⟩ := run_images hns w
    refine ⟨l.map fun x => (kv x.1, x.2), fun T g' w' es he hm => ?_⟩
    rcases hsr.came (wt w T) (wt w T) #[] (hw.wt T T) (fun n q => rfl) with ⟨hh, w1, g1, g2⟩ | ⟨a, b, wv', wc', ρ', es', g1, g2, g3, g4, g5, g6, g7⟩
    · exfalso
      rcases hb _ _ _ g1 g2 with ⟨o, w2, es2, h2⟩ | ⟨gp, es2, h2, hp⟩
      · rw [he] at h2; cases h2
      · rw [he] at h2; cases h2
        obtain ⟨chain, hc'⟩ := hp.mode
        exact hm chain hc'
    · obtain ⟨es2, h2⟩ := hv _ _ _ g1 ⟨b, ρ', g3⟩
      rw [he] at h2
      cases h2
      obtain ⟨x, hx, rfl, e⟩ := hl T a _ g1
      exact ⟨_, List.mem_map.2 ⟨x, hx, rfl⟩, rfl, e⟩
/-- .. within a number of steps that no tape moves. -/
def LN (P : Program) (L : LSet) (Gd : Frame → Array Obj → Prop) : Nat → Goroutine → World → Prop
  | 0, g, w => FinG P [c0 P] g ∧ Gd g.frame w.heap
  | n + 1, g, w => (FinG P [c0 P] g ∧ Gd g.frame w.heap) ∨ (¬ FinG P [c0 P] g ∧ ∀ T, ∃ g' w', (∃ es, stepG P true g (wt w T) = .go g' w' es) ∧ Loc P L [c0 P] g' w' ∧ LN P L Gd n g' w')
theorem LN.fin {Gd : Frame → Array Obj → Prop} {n : Nat} {g : Goroutine} {w : World} (h : FinG P [c0 P] g) (hg : Gd g.frame w.heap) : LN P L Gd n g w := by
  cases n with
  | zero => exact ⟨h, hg⟩
  | succ n => exact .inl ⟨h, hg⟩
theorem LN.more {Gd : Frame → Array Obj → Prop} : ∀ {n m : Nat} {g : Goroutine} {w : World}, LN P L Gd n g w → n ≤ m → LN P L Gd m g w
  | 0, m, g, w, h, _ => .fin h.1 h.2
  | n + 1, m, g, w, h, hm => by
    rcases h with h | ⟨hn, hs⟩
    · exact .fin h.1 h.2
    · obtain ⟨m, rfl⟩ : ∃ m', m = m' + 1 := ⟨m - 1, by omega⟩
      exact .inr ⟨hn, fun T => let ⟨g', w', he, hl, h'⟩ := hs T; ⟨g', w', he, hl, h'.more (by omega)⟩⟩
theorem LN.wt {Gd : Frame → Array Obj → Prop} {n : Nat} {g : Goroutine} {w : World} (h : LN P L Gd n g w) (T : Tp) : LN P L Gd n g (wt w T) := by
  cases n with
  | zero => exact h
  | succ n => exact h
theorem bound_list {α : Type} {Q : Nat → α → Prop} (hm : ∀ n m x, Q n x → n ≤ m → Q m x) : ∀ l : List α, (∀ x, x ∈ l → ∃ n, Q n x) → ∃ n, ∀ x, x ∈ l → Q n x
  | [], _ => ⟨0, fun x h => by cases h⟩
  | a :: l, h => by
    obtain ⟨n, hn⟩ := bound_list hm l fun x hx => h x (List.mem_cons_of_mem _ hx)
    obtain ⟨m, hm'⟩ := h a List.mem_cons_self
    refine ⟨n + m, fun x hx => ?_⟩
    rcases List.mem_cons.1 hx with rfl | hx
    · exact hm _ _ _ hm' (by omega)
    · exact hm _ _ _ (hn x hx) (by omega)
theorem ln_of_lt (hS : okSet P L) {Gd : Frame → Array Obj → Prop} {g : Goroutine} {w : World} (h : LT P L Gd g w) : Loc P L [c0 P] g w → ∃ n, LN P L Gd n g w := by
  induction h with
  | fin g w h hg => exact fun _ => ⟨0, h, hg⟩
  | step g w hn N hs hll hlt ih =>
    intro hl
    obtain ⟨l, him⟩ := step_images hS hl hn
    obtain ⟨n, hb⟩ := bound_list (Q := fun n (x : Goroutine × World) => ∀ T, x.1 = (N T).1 → (N T).2 = Sim.wt x.2 T → LN P L Gd n (N T).1 (N T).2) (fun n m x h hm T e1 e2 => (h T e1 e2).more hm) l (fun x _ => by
      by_cases hx : ∃ T, x.1 = (N T).1 ∧ (N T).2 = Sim.wt x.2 T
      · obtain ⟨T, e1, e2⟩ := hx
        obtain ⟨n, h⟩ := ih T (hll T)
        refine ⟨n, fun T' e1' e2' => ?_⟩
        have := h.wt T'
        rw [e2, wt_wt, ← e2'] at this
        rw [← e1', e1]
        exact this
      · exact ⟨0, fun T e1 e2 => absurd ⟨T, e1, e2⟩ hx⟩)
    refine ⟨n + 1, .inr ⟨hn, fun T => ?_⟩⟩
    obtain ⟨es, he⟩ := hs T
    obtain ⟨ρ, hg, hw⟩ := hll T
    obtain ⟨x, hx, e1, e2⟩ := him T _ _ es he hg.mode
    exact ⟨_, _, ⟨es, he⟩, ⟨ρ, hg, hw⟩, hb x hx T e1 e2⟩
/-- What returns on every tape returns within a number of steps that no tape moves, a new tape ahead of each. -/
theorem ln_of_runs (hS : okSet P L) {Gd : Frame → Array Obj → Prop} {g0 : Goroutine} {w0 : World} (h0 : Loc P L [c0 P] g0 w0)
    (H : ∀ T, ∃ n fr w2, runN P n (mach g0 (Sim.wt w0 T)) = .next (lone fr [c0 P] w2) ∧ fr.mode = .returning ∧ Gd fr w2.heap) : ∃ n, LN P L Gd n g0 w0 :=
  ln_of_lt hS (lt_of_runs hS h0 H) h0
end
end Sim
end Go.Proofs.Ytaealkfnhhmmcaa
/- A goroutine of pure code in company: what it does alone it does beside others who leave its blocks. No condition. -/
namespace Go.Proofs.Ytaealkfnhhmmcaa
namespace Sim
open Go.Conc
set_option linter.unusedVariables false
/-- What nobody turns. -/
def Env (w w' : World) : Prop := w'.tape = w.tape ∧ w'.os = w.os ∧ w'.output = w.output
theorem Env.refl (w : World) : Env w w := ⟨rfl, rfl, rfl⟩
theorem Env.trans {a b c : World} (h : Env a b) (k : Env b c) : Env a c := ⟨k.1.trans h.1, k.2.1.trans h.2.1, k.2.2.trans h.2.2⟩
/-- The others leave these blocks. -/
structure Kn (K : Nat → Prop) (w w₁ : World) : Prop where
  keep : ∀ b, K b → w₁.heap[b]? = w.heap[b]?
  size : w.heap.size ≤ w₁.heap.size
  env : Env w w₁
theorem Kn.refl (K : Nat → Prop) (w : World) : Kn K w w := ⟨fun _ _ => rfl, Nat.le_refl _, .refl w⟩
theorem Kn.trans {K : Nat → Prop} {a b c : World} (h : Kn K a b) (k : Kn K b c) : Kn K a c := ⟨fun x hx => (k.keep x hx).trans (h.keep x hx), Nat.le_trans h.size k.size, h.env.trans k.env⟩
theorem Kn.sub {K K' : Nat → Prop} {a b : World} (h : Kn K a b) (hs : ∀ x, K' x → K x) : Kn K' a b := ⟨fun x hx => h.keep x (hs x hx), h.size, h.env⟩
/-- The blocks and what a step has made. -/
def grow (K : Nat → Prop) (w w' : World) : Nat → Prop := fun b => K b ∨ (w.heap.size ≤ b ∧ b < w'.heap.size)
/-- What a step in company may list, of known blocks. -/
def EvK (Lk K : Nat → Prop) (e : Event) : Prop := (∃ a wr, e = ⟨.cell a, wr, false⟩ ∧ K a.block ∧ (wr = true → ¬ Lk a.block)) ∨ (∃ r, e = ⟨.obj r, false, false⟩ ∧ K r) ∨ e = ⟨.mark .noRoom, false, true⟩
theorem EvK.sub {Lk K K' : Nat → Prop} {e : Event} (h : EvK Lk K e) (hs : ∀ x, K x → K' x) : EvK Lk K' e := by
  rcases h with ⟨a, wr, h1, h2, h3⟩ | ⟨r, h1, h2⟩ | h
  · exact .inl ⟨a, wr, h1, hs _ h2, h3⟩
  · exact .inr (.inl ⟨r, h1, hs _ h2⟩)
  · exact .inr (.inr h)
/-- What a step in company does. -/
structure Did (Lk K : Nat → Prop) (w w' : World) (es : Array Event) : Prop where
  size : w.heap.size ≤ w'.heap.size
  far : ∀ c, c < w.heap.size → (Lk c ∨ ¬ K c) → w'.heap[c]? = w.heap[c]?
  tape : w'.tape = w.tape
  os : w'.os = w.os
  output : w'.output = w.output
  evs : ∀ e, e ∈ es → EvK Lk (grow K w w') e
theorem Did.env {Lk K : Nat → Prop} {w w' : World} {es : Array Event} (h : Did Lk K w w' es) : Env w w' := ⟨h.tape, h.os, h.output⟩
/-- On its way to a stop, others' doing ahead of each step. -/
def Co (P : Program) (main : Bool) (Lk : Nat → Prop) (Stop : (Nat → Prop) → Goroutine → World → Prop) : Nat → (Nat → Prop) → Goroutine → World → Prop
  | 0, K, g, w => ∀ w₁, Kn K w w₁ → Stop K g w₁
  | n + 1, K, g, w => (∀ w₁, Kn K w w₁ → Stop K g w₁) ∨ (g.status = .running ∧ ∀ w₁, Kn K w w₁ → ∃ g' w' es, stepG P main g w₁ = .go g' w' es ∧ Did Lk K w₁ w' es ∧ Co P main Lk Stop n (grow K w₁ w') g' w')
section
variable {P : Program} {main : Bool} {Lk : Nat → Prop} {Stop : (Nat → Prop) → Goroutine → World → Prop}
theorem Co.rely {n : Nat} {K : Nat → Prop} {g : Goroutine} {w w₁ : World} (h : Co P main Lk Stop n K g w) (hr : Kn K w w₁) : Co P main Lk Stop n K g w₁ := by
  cases n with
  | zero => exact fun w₂ h₂ => h w₂ (hr.trans h₂)
  | succ n =>
    rcases h with h | ⟨hs, h⟩
    · exact .inl fun w₂ h₂ => h w₂ (hr.trans h₂)
    · exact .inr ⟨hs, fun w₂ h₂ => h w₂ (hr.trans h₂)⟩
theorem Co.stop {n : Nat} {K : Nat → Prop} {g : Goroutine} {w : World} (h : ∀ w₁, Kn K w w₁ → Stop K g w₁) : Co P main Lk Stop n K g w := by
  cases n with
  | zero => exact h
  | succ n => exact .inl h
theorem WR.keep {G : Nat} {ρ : BR} {wv wc w₁ : World} {K : Nat → Prop} (h : WR G Lk ρ wv wc) (hK : ∀ b c, ρ b c → K c) (hr : Kn K wc w₁) : WR G Lk ρ wv w₁ :=
  ⟨h.fn, h.inj, fun b c hb => by rw [hr.keep c (hK b c hb)]; exact h.obj b c hb, fun c hc => Nat.lt_of_lt_of_le (h.lk c hc) hr.size, h.gl, h.gv, Nat.le_trans h.gc hr.size⟩
/-- The lone world's tape, laid so that it answers as the other's does. -/
def tapeOf (wv wc : World) : Tp := fun n q => wc.tape (wc.drawn + (n - wv.drawn)) q
theorem ts_tapeOf (wv wc : World) : TS (wt wv (tapeOf wv wc)) wc := by
  intro n q
  show wc.tape (wc.drawn + (wv.drawn + n - wv.drawn)) q = _
  rw [Nat.add_sub_cancel_left]
theorem GR.status {L : LSet} {bv bc : List Frame} {ρ : BR} {gv gc : Goroutine} (h : GR P L bv bc ρ gv gc) : gc.status = .running := by
  obtain ⟨_, fr, cs, rfl⟩ := h.isG
  rfl
theorem co_of_ln {L : LSet} (hS : okSet P L) {Gd : Frame → Array Obj → Prop} {bc : List Frame} {K0 : Nat → Prop} {ρ0 : BR} {s0 : Nat} {wz : World}
    (hstop : ∀ K ρ gv gc wv wc, FinG P [c0 P] gv → Gd gv.frame wv.heap → GR P L [c0 P] bc ρ gv gc → WR P.globals.size Lk ρ wv wc → BR.le ρ0 ρ → (∀ b c, ρ b c → K c) → (∀ b c, ρ b c → ρ0 b c ∨ s0 ≤ c) → (∀ c, K0 c → K c) → (∀ c, K c → K0 c ∨ s0 ≤ c) → s0 ≤ wc.heap.size → (∀ x, Lk x → K0 x → wc.heap[x]? = wz.heap[x]?) → Stop K gc wc) :
    ∀ (n : Nat) (K : Nat → Prop) (ρ : BR) (gv gc : Goroutine) (wv wc : World), LN P L Gd n gv wv → GR P L [c0 P] bc ρ gv gc → WR P.globals.size Lk ρ wv wc → BR.le ρ0 ρ → (∀ b c, ρ b c → K c) → (∀ b c, ρ b c → ρ0 b c ∨ s0 ≤ c) → (∀ c, K0 c → K c) → (∀ c, K c → K0 c ∨ s0 ≤ c) → s0 ≤ wc.heap.size → (∀ x, Lk x → K0 x → wc.heap[x]? = wz.heap[x]?) → Co P main Lk Stop n K gc wc
  | 0, K, ρ, gv, gc, wv, wc, h, hg, hw, hle, hK, hf, hk, hk2, hs, hz => fun w₁ hr => hstop K ρ gv gc wv w₁ h.1 h.2 hg (hw.keep hK hr) hle hK hf hk hk2 (Nat.le_trans hs hr.size) (fun x h1 h2 => (hr.keep x (hk x h2)).trans (hz x h1 h2))
  | n + 1, K, ρ, gv, gc, wv, wc, h, hg, hw, hle, hK, hf, hk, hk2, hs, hz => by
    rcases h with h | ⟨hn, h⟩
    · exact .stop fun w₁ hr => hstop K ρ gv gc wv w₁ h.1 h.2 hg (hw.keep hK hr) hle hK hf hk hk2 (Nat.le_trans hs hr.size) (fun x h1 h2 => (hr.keep x (hk x h2)).trans (hz x h1 h2))
    · refine .inr ⟨hg.status, fun w₁ hr => ?_⟩
      have hw1 := hw.keep hK hr
      obtain ⟨g', w', ⟨es, he⟩, hl', hn'⟩ := h (tapeOf wv w₁)
      have hs1 : s0 ≤ w₁.heap.size := Nat.le_trans hs hr.size
      have hz1 : ∀ x, Lk x → K0 x → w₁.heap[x]? = wz.heap[x]? := fun x h1 h2 => (hr.keep x (hk x h2)).trans (hz x h1 h2)
      cases form_of hS hg with
      | fin f tv tc todo hL ht hv hc => exact absurd ⟨f, tv, todo, hL, hv⟩ hn
      | dead h =>
        obtain ⟨o, w2, es2, h2⟩ := h (wt wv (tapeOf wv w₁))
        rw [he] at h2; cases h2
      | ctl gv' gc' hg' hv hc =>
        rw [hv] at he
        cases he
        refine ⟨gc', w₁, #[], hc main w₁, ⟨Nat.le_refl _, fun _ _ _ => rfl, rfl, rfl, rfl, fun e he => by simp at he⟩, ?_⟩
        exact co_of_ln hS hstop n _ ρ _ _ _ _ hn' hg' (hw1.wt _ w₁.tape) hle (fun b c hb => .inl (hK b c hb)) hf (fun c hc => .inl (hk c hc)) (fun c hc => hc.elim (hk2 c) fun x => by omega) hs1 hz1
      | sem m m' R kv kc fn hsr hns hk' hv hb hc =>
        rcases hsr.came (wt wv (tapeOf wv w₁)) w₁ #[] (hw1.wt _ w₁.tape) (ts_tapeOf wv w₁) with ⟨hh, w2, g1, g2⟩ | ⟨a, b, wv', wc', ρ', es', g1, g2, g3, g4, g5, g6, g7⟩
        · exfalso
          rcases hb _ _ _ g1 g2 with ⟨o, w3, es2, h2⟩ | ⟨gp, es2, h2, hp⟩
          · rw [he] at h2; cases h2
          · rw [he] at h2; cases h2
            obtain ⟨chain, hc'⟩ := hp.mode
            obtain ⟨_, hg2, _⟩ := hl'
            exact hg2.mode chain hc'
        · obtain ⟨es2, h2⟩ := hv _ _ _ g1 ⟨b, ρ', g3⟩
          rw [he] at h2
          cases h2
          have hran : ∀ x c, ρ' x c → grow K w₁ wc' c := fun x c hx => by
            rcases g6.fresh x c hx with h | h
            · exact .inl (hK x c h)
            · refine .inr ⟨h, ?_⟩
              rcases g4.obj x c hx with ⟨_, _, _, _, _, _, hy, _⟩ | ⟨_, _, _, _, _, _, hy, _⟩ <;> exact (Array.getElem?_eq_some_iff.1 hy).1
          refine ⟨kc b, wc', seen P fn es', ?_, ⟨g6.size, fun c hc hl => g6.far c hc (hl.imp id fun hn ⟨x, hx⟩ => hn (hK x c hx)), g6.tape, g6.os, g6.output, fun e he => ?_⟩, ?_⟩
          · have := hc main w₁ b wc' es' (by simpa using g2) ⟨a, ρ', g3⟩
            exact this
          · rcases g7 e (mem_seen he) with ⟨ad, wr, h1, ⟨x, hx⟩, h3⟩ | ⟨r, h1, x, hx⟩ | h1
            · exact .inl ⟨ad, wr, h1, hran x _ hx, h3⟩
            · exact .inr (.inl ⟨r, h1, hran x _ hx⟩)
            · exact .inr (.inr h1)
          · refine co_of_ln hS hstop n _ ρ' _ _ _ _ hn' (hk' ρ' a b g6.le g3) g4 (BR.le_trans hle g6.le) hran (fun x c hx => ?_) (fun c hc => .inl (hk c hc)) (fun c hc => hc.elim (hk2 c) fun x => by omega) (Nat.le_trans hs1 g6.size) (fun x h1 h2 => (g6.far x (hw1.lk x h1) (.inl h1)).trans (hz1 x h1 h2))
            rcases g6.fresh x c hx with h | h
            · exact hf x c h
            · exact .inr (by omega)
end
end Sim
end Go.Proofs.Ytaealkfnhhmmcaa
/- Pure code beside goroutines that are only leaving: it does exactly what it does alone. No condition. -/
namespace Go.Proofs.Ytaealkfnhhmmcaa
namespace Sim
open Go.Conc
set_option linter.unusedVariables false
/-- No block goes by another name. -/
def Idr (ρ : BR) : Prop := ∀ b c, ρ b c → b = c
theorem VR.eq {ρ : BR} {x y : Value} (h : VR ρ x y) (hi : Idr ρ) : x = y := by
  have arr : ∀ {cs ds : Array Value}, cs.size = ds.size → (∀ (i : Nat) x y, cs[i]? = some x → ds[i]? = some y → x = y) → cs = ds := by
    intro cs ds h1 h2
    refine Array.ext h1 fun i h3 h4 => h2 i _ _ (Array.getElem?_eq_getElem h3) (Array.getElem?_eq_getElem h4)
  induction h with
  | ptr b c o s h => rw [hi b c h]
  | slice b c o s n m h => rw [hi b c h]
  | agg cs ds h hv ih => rw [arr h ih]
  | tuple cs ds h hv ih => rw [arr h ih]
  | _ => rfl
theorem AR.eq {ρ : BR} {cs ds : Array Value} (h : AR ρ cs ds) (hi : Idr ρ) : cs = ds :=
  Array.ext h.1 fun i h3 h4 => (h.2 i _ _ (Array.getElem?_eq_getElem h3) (Array.getElem?_eq_getElem h4)).eq hi
theorem OR.eq {ρ : BR} {x y : Option Obj} (h : OR False ρ x y) (hi : Idr ρ) : x = y := by
  rcases h with ⟨cs, ds, e, f, f', h1, h2, h3, h4, h5⟩ | ⟨b, c, o, s, l, h1, h2, h3⟩
  · rw [h1, h2, h3.eq hi, h4.1.resolve_left id]
  · rw [h1, h2, hi _ _ h3]
section
variable {P : Program} {L : LSet} {ρ : BR}
theorem KR.len {bv bc kv kc : List Frame} (h : KR P L bv bc ρ kv kc) : bv.length ≤ kv.length := by
  induction h with
  | base => exact Nat.le_refl _
  | cons f tv tc todo kv kc hL hk ht h ih => simp only [List.length_cons]; omega
theorem KR.bottom {bv bc kc : List Frame} (h : KR P L bv bc ρ bv kc) : kc = bc := by
  generalize hk : bv = kv at h
  cases h with
  | base => rfl
  | cons f tv tc todo kv kc hL hk' ht h =>
    have := h.len
    simp only [List.length_cons] at this
    omega
theorem fin_gr {bv bc : List Frame} {gv gc : Goroutine} (h : GR P L bv bc ρ gv gc) (hf : FinG P bv gv) : ∃ f tv tc todo, Fr P f ∧ AD (L.dead f) ρ tv tc ∧ gv = G { (base f).at ⟨tv, []⟩ todo with mode := .returning } bv ∧ gc = G { (base f).at ⟨tc, []⟩ todo with mode := .returning } bc := by
  obtain ⟨f, t, todo, hL, rfl⟩ := hf
  generalize hg : G { (base f).at ⟨t, []⟩ todo with mode := .returning } bv = gv at h
  cases h with
  | run f2 tv tc todo2 kv kc hL2 hk ht hh =>
    have := congrArg (fun g : Goroutine => g.frame.mode) hg
    cases this
  | ret f2 tv tc todo2 kv kc hL2 ht hh =>
    have h2 : bv = kv := congrArg Goroutine.callers hg
    subst h2
    obtain rfl := hh.bottom
    exact ⟨f2, tv, tc, todo2, hL2, ht, rfl, rfl⟩
/-- What a step beside leavers lists: of memory alone, no shunned place, no block that is not made yet, no release. -/
def EvX (Shun : Go.Loc → Prop) (B : Nat) (e : Event) : Prop := EvL Shun B e ∧ (∀ a, e.loc ≠ .mark (.release a)) ∧ ∀ x, (MemAct.ofEvent e).touch? = some x → x.loc.isMemory = true
def DB (Shun : Go.Loc → Prop) (w w' : World) (es : Array Event) : Prop := w.heap.size ≤ w'.heap.size ∧ ∀ e ∈ es, EvX Shun w'.heap.size e
theorem evX_cell {Shun : Go.Loc → Prop} {B : Nat} (a : Addr) (wr : Bool) (hS : ¬ Shun (.cell a)) (hB : a.block < B) : EvX Shun B ⟨.cell a, wr, false⟩ :=
  ⟨evL_cell a wr hS hB, fun a h => (by cases h), fun x hx => by simp only [ofEvent_cell0, MemAct.touch?, Option.some.injEq] at hx; subst hx; rfl⟩
theorem evs_ok {Shun : Go.Loc → Prop} {SB : Nat → Prop} (hSB : ∀ l, Shun l → ∃ a : Addr, l = .cell a ∧ SB a.block) {ρ : BR} {n : Nat} (hlow : ∀ x y, ρ x y → y < n) (hb : ∀ x y, ρ x y → ¬ SB y) {e : Event} (h : EvOK (fun _ => False) ρ e) : EvX Shun n e := by
  rcases h with ⟨ad, wr, rfl, ⟨x, hx⟩, h3⟩ | ⟨r, rfl, x, hx⟩ | rfl
  · refine evX_cell ad wr (fun hsh => ?_) (hlow x _ hx)
    obtain ⟨a2, e2, hs2⟩ := hSB _ hsh
    cases e2
    exact hb x _ hx hs2
  · refine ⟨⟨fun y hy hsh => ?_, by simp, by simp, hlow x _ hx⟩, fun a h => (by cases h), fun y hy => ?_⟩
    · obtain ⟨a2, e2, hs2⟩ := hSB _ hsh
      simp only [MemAct.ofEvent, MemAct.touch?, Option.some.injEq] at hy
      subst hy
      cases e2
    · simp only [MemAct.ofEvent, MemAct.touch?, Option.some.injEq] at hy
      subst hy
      rfl
  · exact ⟨⟨fun y hy => by simp [MemAct.ofEvent, MemAct.touch?] at hy, by simp, by simp, trivial⟩, fun a h => (by cases h), fun y hy => by simp [MemAct.ofEvent, MemAct.touch?] at hy⟩
theorem goes_of_ln (hS : okSet P L) {Gd : Frame → Array Obj → Prop} {Shun : Go.Loc → Prop} {SB : Nat → Prop} (hSB : ∀ l, Shun l → ∃ a : Addr, l = .cell a ∧ SB a.block) {bc : List Frame} {Stop : Goroutine → World → Prop} {wz : World} {ρ0 : BR} {s0 : Nat}
    (hstop : ∀ f tv tc todo ρ wv wc, Fr P f → BR.le ρ0 ρ → s0 ≤ wc.heap.size → Gd { (base f).at ⟨tv, []⟩ todo with mode := .returning } wv.heap → AD (L.dead f) ρ tv tc → WR P.globals.size (fun _ => False) ρ wv wc → Idr ρ → (∃ d, wc = { wz with heap := wv.heap, drawn := d }) → (∀ b c, ρ b c → ¬ SB c) → (∀ c, SB c → c < wc.heap.size) → Stop (G { (base f).at ⟨tc, []⟩ todo with mode := .returning } bc) wc) :
    ∀ (n : Nat) (ρ : BR) (gv gc : Goroutine) (wv wc : World), LN P L Gd n gv wv → GR P L [c0 P] bc ρ gv gc → WR P.globals.size (fun _ => False) ρ wv wc → Idr ρ → BR.le ρ0 ρ → s0 ≤ wc.heap.size → (∃ d, wc = { wz with heap := wv.heap, drawn := d }) → (∀ b c, ρ b c → ¬ SB c) → (∀ c, SB c → c < wc.heap.size) → Goes P true AtRel (DB Shun) Stop n gc wc := by
  have hfin : ∀ (ρ : BR) (gv gc : Goroutine) (wv wc : World), FinG P [c0 P] gv ∧ Gd gv.frame wv.heap → GR P L [c0 P] bc ρ gv gc → WR P.globals.size (fun _ => False) ρ wv wc → Idr ρ → BR.le ρ0 ρ → s0 ≤ wc.heap.size → (∃ d, wc = { wz with heap := wv.heap, drawn := d }) → (∀ b c, ρ b c → ¬ SB c) → (∀ c, SB c → c < wc.heap.size) → ∀ w₁, AtRel wc w₁ → Stop gc w₁ := by
    intro ρ gv gc wv wc h hg hw hi hle hz ⟨d, hd⟩ hb hs w₁ ⟨d', hd'⟩
    obtain ⟨f, tv, tc, todo, hL, ht, rfl, rfl⟩ := fin_gr hg h.1
    have hw1 : WR P.globals.size (fun _ => False) ρ wv w₁ := by rw [hd']; exact ⟨hw.fn, hw.inj, hw.obj, hw.lk, hw.gl, hw.gv, hw.gc⟩
    exact hstop f tv tc todo ρ wv w₁ hL hle (by rw [hd']; exact hz) h.2 ht hw1 hi ⟨d', by rw [hd', hd]; rfl⟩ hb (by rw [hd']; exact hs)
  intro n
  induction n with
  | zero => exact fun ρ gv gc wv wc h hg hw hi hle hz hd hb hs => hfin ρ gv gc wv wc h hg hw hi hle hz hd hb hs
  | succ n ih =>
    intro ρ gv gc wv wc h hg hw hi hle hz hd hb hs
    rcases h with h | ⟨hn, h⟩
    · exact .inl (hfin ρ gv gc wv wc h hg hw hi hle hz hd hb hs)
    · refine .inr ⟨hg.status, fun w₁ hr => ?_⟩
      obtain ⟨d, hd⟩ := hd
      obtain ⟨d1, hd1⟩ := hr
      have hw1 : WR P.globals.size (fun _ => False) ρ wv w₁ := by rw [hd1]; exact ⟨hw.fn, hw.inj, hw.obj, hw.lk, hw.gl, hw.gv, hw.gc⟩
      have hd2 : w₁ = { wz with heap := wv.heap, drawn := d1 } := by rw [hd1, hd]; rfl
      have hs1 : ∀ c, SB c → c < w₁.heap.size := by rw [hd1]; exact hs
      have hz1 : s0 ≤ w₁.heap.size := by rw [hd1]; exact hz
      obtain ⟨g', w', ⟨es, he⟩, hl', hn'⟩ := h (tapeOf wv w₁)
      cases form_of hS hg with
      | fin f tv tc todo hL ht hv hc => exact absurd ⟨f, tv, todo, hL, hv⟩ hn
      | dead h =>
        obtain ⟨o, w2, es2, h2⟩ := h (wt wv (tapeOf wv w₁))
        rw [he] at h2; cases h2
      | ctl gv' gc' hg' hv hc =>
        rw [hv] at he
        cases he
        rw [hc true w₁, goes_go]
        exact ⟨⟨Nat.le_refl _, fun e he => by simp at he⟩, ih ρ _ _ _ _ hn' hg' (hw1.wt _ w₁.tape) hi hle hz1 ⟨d1, hd2⟩ hb hs1⟩
      | sem m m' R kv kc fn hsr hns hk' hv hb' hc =>
        rcases hsr.came (wt wv (tapeOf wv w₁)) w₁ #[] (hw1.wt _ w₁.tape) (ts_tapeOf wv w₁) with ⟨hh, w2, g1, g2⟩ | ⟨a, b, wv', wc', ρ', es', g1, g2, g3, g4, g5, g6, g7⟩
        · exfalso
          rcases hb' _ _ _ g1 g2 with ⟨o, w3, es2, h2⟩ | ⟨gp, es2, h2, hp⟩
          · rw [he] at h2; cases h2
          · rw [he] at h2; cases h2
            obtain ⟨chain, hc'⟩ := hp.mode
            obtain ⟨_, hg2, _⟩ := hl'
            exact hg2.mode chain hc'
        · obtain ⟨es2, h2⟩ := hv _ _ _ g1 ⟨b, ρ', g3⟩
          rw [he] at h2
          cases h2
          have hstep := hc true w₁ b wc' es' (by simpa using g2) ⟨a, ρ', g3⟩
          have hheap : w₁.heap = wv.heap := by rw [hd2]
          have hi' : Idr ρ' := fun x y hxy => by
            rcases g6.pair x y hxy with h | ⟨i, e1, e2⟩
            · exact hi x y h
            · have e1' : x = wv.heap.size + i := e1
              rw [hheap] at e2
              omega
          obtain ⟨k, k1, k2, k3⟩ := g6.both
          have k1' : w'.heap.size = wv.heap.size + k := k1
          rw [hheap] at k2
          have heq : wc'.heap = w'.heap := by
            refine Array.ext_getElem? fun x => ?_
            by_cases hx : ∃ y, ρ' x y
            · obtain ⟨y, hxy⟩ := hx
              obtain rfl := hi' x y hxy
              exact ((g4.obj x x hxy).eq hi').symm
            · rcases Nat.lt_or_ge x wv.heap.size with hlt | hge
              · have e1 := g6.far x (by rw [hheap]; exact hlt) (.inr fun ⟨y, hy⟩ => by
                  obtain rfl := hi' y x (g6.le _ _ hy)
                  exact hx ⟨_, g6.le _ _ hy⟩)
                have e2 := g6.farv x hlt fun ⟨y, hy⟩ => hx ⟨y, g6.le _ _ hy⟩
                rw [e1, e2, hheap]
                rfl
              · rcases Nat.lt_or_ge x (wv.heap.size + k) with hlt2 | hge2
                · have := k3 (x - wv.heap.size) (by omega)
                  exfalso
                  refine hx ⟨w₁.heap.size + (x - wv.heap.size), ?_⟩
                  have e0 : (wt wv (tapeOf wv w₁)).heap.size + (x - wv.heap.size) = x := by show wv.heap.size + _ = x; omega
                  rw [e0] at this
                  exact this
                · rw [Array.getElem?_eq_none (by omega), Array.getElem?_eq_none (by omega)]
          have hcw : ∃ d', wc' = { wz with heap := w'.heap, drawn := d' } := by
            refine ⟨wc'.drawn, ?_⟩
            have e1 : wc'.tape = wz.tape := by rw [g6.tape, hd2]
            have e2 : wc'.os = wz.os := by rw [g6.os, hd2]
            have e3 : wc'.output = wz.output := by rw [g6.output, hd2]
            cases wc'
            simp only at heq e1 e2 e3
            subst heq e1 e2 e3
            rfl
          have hb2 : ∀ x y, ρ' x y → ¬ SB y := fun x y hxy hsb => by
            rcases g6.fresh x y hxy with h | h
            · exact hb x y h hsb
            · have := hs1 y hsb
              omega
          have hlow : ∀ x y, ρ' x y → y < wc'.heap.size := fun x y hxy => by
            rcases g4.obj x y hxy with ⟨_, _, _, _, _, _, hy, _⟩ | ⟨_, _, _, _, _, _, hy, _⟩ <;> exact (Array.getElem?_eq_some_iff.1 hy).1
          rw [hstep, goes_go]
          exact ⟨⟨g6.size, fun e he => evs_ok hSB hlow hb2 (g7 e (mem_seen he))⟩, ih ρ' _ _ _ _ hn' (hk' ρ' a b g6.le g3) g4 hi' (BR.le_trans hle g6.le) (Nat.le_trans hz1 g6.size) hcw hb2 fun c hc => Nat.lt_of_lt_of_le (hs1 c hc) g6.size⟩
end
end Sim
end Go.Proofs.Ytaealkfnhhmmcaa
/- A lone contract of pure code as a contract beside goroutines that are only leaving. No condition. -/
namespace Go.Proofs.Ytaealkfnhhmmcaa
namespace Sim
open Go.Conc
set_option linter.unusedVariables false
/-- Both worlds as one before, both as one behind. -/
theorem foot_eq {G : Nat} {ρ ρ' : BR} {wv wc wv' wc' : World} (h4 : WR G (fun _ => False) ρ' wv' wc') (h6 : Foot (fun _ => False) ρ ρ' wv wc wv' wc') (hi : Idr ρ) (hh : wc.heap = wv.heap) : Idr ρ' ∧ wc'.heap = wv'.heap := by
  have hi' : Idr ρ' := fun x y hxy => by
    rcases h6.pair x y hxy with h | ⟨i, e1, e2⟩
    · exact hi x y h
    · rw [hh] at e2
      omega
  obtain ⟨k, k1, k2, k3⟩ := h6.both
  rw [hh] at k2 k3
  refine ⟨hi', Array.ext_getElem? fun x => ?_⟩
  by_cases hx : ∃ y, ρ' x y
  · obtain ⟨y, hxy⟩ := hx
    obtain rfl := hi' x y hxy
    exact ((h4.obj x x hxy).eq hi').symm
  · rcases Nat.lt_or_ge x wv.heap.size with hlt | hge
    · have e1 := h6.far x (by rw [hh]; exact hlt) (.inr fun ⟨y, hy⟩ => by
        obtain rfl := hi' y x (h6.le _ _ hy)
        exact hx ⟨_, h6.le _ _ hy⟩)
      have e2 := h6.farv x hlt fun ⟨y, hy⟩ => hx ⟨y, h6.le _ _ hy⟩
      rw [e1, e2, hh]
    · rcases Nat.lt_or_ge x (wv.heap.size + k) with hlt2 | hge2
      · have := k3 (x - wv.heap.size) (by omega)
        rw [show wv.heap.size + (x - wv.heap.size) = x by omega] at this
        exact absurd ⟨x, this⟩ hx
      · rw [Array.getElem?_eq_none (by omega), Array.getElem?_eq_none (by omega)]
theorem goes_bind {P : Program} {main : Bool} {R : World → World → Prop} {D : World → World → Array Event → Prop} {S1 Stop : Goroutine → World → Prop} {k : Nat} (hk : ∀ g w, (∀ w₁, R w w₁ → S1 g w₁) → Goes P main R D Stop k g w) : ∀ {n : Nat} {g : Goroutine} {w : World}, Goes P main R D S1 n g w → Goes P main R D Stop (k + n) g w
  | 0, g, w, h => hk g w h
  | n + 1, g, w, h => by
    rcases h with h | ⟨hs, h⟩
    · exact (hk g w h).mono (by omega)
    · refine .inr ⟨hs, fun w₁ hr => ?_⟩
      have := h w₁ hr
      cases hg : stepG P main g w₁ with
      | go g' w' es =>
        rw [hg, goes_go] at this
        rw [goes_go]
        exact ⟨this.1, goes_bind hk this.2⟩
      | _ => rw [hg] at this; exact this.elim
section
variable {P : Program} {L : LSet}
/-- The blocks of S, each by its own name. -/
def idS (S : Nat → Prop) : BR := fun b c => b = c ∧ S b
theorem idr_idS (S : Nat → Prop) : Idr (idS S) := fun b c h => h.1
/-- What is known of the blocks on goroutine 0's road: it is rows all through, and the shunned blocks are none of it. -/
structure JW (P : Program) (SB S : Nat → Prop) (w : World) : Prop where
  wr : WR P.globals.size (fun _ => False) (idS S) w w
  nb : ∀ b, S b → ¬ SB b
  sb : ∀ c, SB c → c < w.heap.size
/-- What a stretch of pure code beside leavers leaves. -/
structure PostX (P : Program) (SB S : Nat → Prop) (w : World) (Rh : Value → Array Obj → Prop) (v : Value) (w' : World) : Prop where
  rh : Rh v w'.heap
  wd : ∃ d, w' = { w with heap := w'.heap, drawn := d }
  size : w.heap.size ≤ w'.heap.size
  ex : ∃ S' : Nat → Prop, (∀ b, S b → S' b) ∧ JW P SB S' w' ∧ VR (idS S') v v
theorem OR.le' {ρ ρ' : BR} {x y : Option Obj} (h : OR False ρ x y) (hl : BR.le ρ ρ') : OR False ρ' x y := by
  rcases h with ⟨cs, ds, e, f, f', h1, h2, h3, h4, h5⟩ | ⟨b, c, o, s, l, h1, h2, h3⟩
  · exact .inl ⟨cs, ds, e, f, f', h1, h2, h3.le hl, h4, h5⟩
  · exact .inr ⟨b, c, o, s, l, h1, h2, hl _ _ h3⟩
theorem JW.at {SB S : Nat → Prop} {w w₁ : World} (h : JW P SB S w) (k : AtRel w w₁) : JW P SB S w₁ := by
  obtain ⟨d, rfl⟩ := k
  exact ⟨⟨h.wr.fn, h.wr.inj, h.wr.obj, h.wr.lk, h.wr.gl, h.wr.gv, h.wr.gc⟩, h.nb, h.sb⟩
theorem PostX.at {SB S : Nat → Prop} {w w' w₁ : World} {Rh : Value → Array Obj → Prop} {v : Value} (h : PostX P SB S w Rh v w') (k : AtRel w' w₁) : PostX P SB S w Rh v w₁ := by
  obtain ⟨S', h1, h2, h3⟩ := h.ex
  obtain ⟨d, hd⟩ := h.wd
  refine ⟨?_, ?_, ?_, S', h1, h2.at k, h3⟩
  · obtain ⟨d, rfl⟩ := k; exact h.rh
  · obtain ⟨d', rfl⟩ := k; exact ⟨d', by rw [hd]; rfl⟩
  · obtain ⟨d, rfl⟩ := k; exact h.size
/-- From a moment of pure code to its return. -/
theorem runX (hS : okSet P L) {Shun : Go.Loc → Prop} {SB : Nat → Prop} (hSB : ∀ l, Shun l → ∃ a : Addr, l = .cell a ∧ SB a.block) {S : Nat → Prop} {w : World} (hj : JW P SB S w) {gv gc : Goroutine} {c1 : Frame} {cs : List Frame}
    (hg : GR P L [c0 P] (c1 :: cs) (idS S) gv gc) (hl : Loc P L [c0 P] gv w) {Rh : Value → Array Obj → Prop} {Stop : Goroutine → World → Prop}
    (H : ∀ T, ∃ n fr w2, runN P n (mach gv (wt w T)) = .next (lone fr [c0 P] w2) ∧ fr.mode = .returning ∧ ∃ v fn, P.funcs[fr.fn]? = some fn ∧ (results fn fr.tmps).run P w2 = .ok v w2 ∧ Rh v w2.heap)
    (hnext : ∀ v w', PostX P SB S w Rh v w' → Stop (G (c1.finish v) cs) w') : ∃ n, Goes P true AtRel (DB Shun) Stop n gc w := by
  let Gd : Frame → Array Obj → Prop := fun fr h => ∃ v w' fn, w'.heap = h ∧ P.funcs[fr.fn]? = some fn ∧ (results fn fr.tmps).run P w' = .ok v w' ∧ Rh v h
  obtain ⟨n, hn⟩ := ln_of_runs hS (Gd := Gd) (g0 := gv) (w0 := w) hl (fun T => by
    obtain ⟨n, fr, w2, h1, h2, v, fn, h3, h4, h5⟩ := H T
    exact ⟨n, fr, w2, h1, h2, v, w2, fn, rfl, h3, h4, h5⟩)
  have hgo := goes_of_ln hS (Shun := Shun) hSB (bc := c1 :: cs) (wz := w) (ρ0 := idS S) (s0 := w.heap.size) (Stop := fun g w₁ => g.status = .running ∧ ∃ v w2 es, stepG P true g w₁ = .go (G (c1.finish v) cs) w2 es ∧ DB Shun w₁ w2 es ∧ PostX P SB S w Rh v w2) (Gd := Gd) (fun f1 t tc todo ρ wv wc hL1 hle hz hgd hat hwr hi hd hb1 hs1 => by
    obtain ⟨v, w', fn', hh, hf1, hr, hR⟩ := hgd
    have hf1' : P.funcs[f1]? = some fn' := hf1
    have hr' : (results fn' t).run P w' = .ok v w' := hr
    have hwr' : WR P.globals.size (fun _ => False) ρ (wt w' (tapeOf w' wc)) wc := by
      refine ⟨hwr.fn, hwr.inj, fun b c hbc => ?_, hwr.lk, hwr.gl, ?_, hwr.gc⟩
      · show OR False ρ w'.heap[b]? _
        rw [hh]
        exact hwr.obj b c hbc
      · show _ ≤ w'.heap.size
        rw [hh]
        exact hwr.gv
    have hrl := (run_local (ns_results fn' t) (w := w') (T := w'.tape) (T' := tapeOf w' wc) hr' (fun n q h1 h2 => absurd h1 (by omega))).1
    obtain ⟨d, hd⟩ := hd
    have hhe : wc.heap = (wt w' (tapeOf w' wc)).heap := by
      show wc.heap = w'.heap
      rw [hd, hh]
    refine ⟨rfl, ?_⟩
    rcases (sr_results fn' hat (hS.2 f1 fn' hf1')).came _ wc #[] hwr' (ts_tapeOf w' wc) with ⟨hx, w3, g1, g2⟩ | ⟨a, b, wv', wc', ρ', es', g1, g2, g3, g4, g5, g6, g7⟩
    · rw [hrl] at g1; cases g1
    · rw [hrl] at g1
      cases g1
      obtain ⟨hi', heq⟩ := foot_eq g4 g6 hi hhe
      obtain rfl := g3.eq hi'
      have hheap : wc'.heap = wv.heap := heq.trans hh
      have hlow' : ∀ x y, ρ' x y → y < wc'.heap.size := fun x y hxy => by
        rcases g4.obj x y hxy with ⟨_, _, _, _, _, _, hy, _⟩ | ⟨_, _, _, _, _, _, hy, _⟩ <;> exact (Array.getElem?_eq_some_iff.1 hy).1
      have hb2 : ∀ x y, ρ' x y → ¬ SB y := fun x y hxy hsb => by
        rcases g6.fresh x y hxy with h | h
        · exact hb1 x y h hsb
        · have := hs1 y hsb
          omega
      have hl2 : BR.le (idS S) ρ' := BR.le_trans hle g6.le
      have hto : BR.le ρ' (idS fun b => ρ' b b) := fun b c h => by obtain rfl := hi' b c h; exact ⟨rfl, h⟩
      have hwc : ∃ d, wc' = { w with heap := wc'.heap, drawn := d } := by
        have e1 : wc'.tape = w.tape := by rw [g6.tape, hd]
        have e2 : wc'.os = w.os := by rw [g6.os, hd]
        have e3 : wc'.output = w.output := by rw [g6.output, hd]
        refine ⟨wc'.drawn, ?_⟩
        cases wc'
        simp only at e1 e2 e3
        subst e1 e2 e3
        rfl
      refine ⟨v, wc', seen P f1 es', back_ok hf1' (by simpa using g2), ⟨g6.size, fun e he => evs_ok hSB hlow' hb2 (g7 e (mem_seen he))⟩, ⟨by rw [hheap]; exact hR, hwc, Nat.le_trans hz g6.size, fun b => ρ' b b, fun b hb => hl2 b b ⟨rfl, hb⟩, ⟨⟨fun b c c' h h' => h.1 ▸ h'.1, fun b b' c h h' => h.1.trans h'.1.symm, fun b c h => ?_, fun c h => h.elim, fun b c h => by rw [h.1], g4.gc, g4.gc⟩, fun b hb => hb2 b b hb, fun c hc => Nat.lt_of_lt_of_le (hs1 c hc) g6.size⟩, g3.le hto⟩⟩
      · obtain ⟨rfl, hb⟩ := h
        have h0 := g4.obj b b hb
        rw [show (wt w' (tapeOf w' wc)).heap = wc'.heap from heq.symm] at h0
        exact h0.le' hto) n (idS S) _ _ w w hn hg hj.wr (idr_idS S) (BR.le_refl _) (Nat.le_refl _) ⟨w.drawn, rfl⟩ (fun b c hbc => hbc.1 ▸ hj.nb b hbc.2) hj.sb
  refine ⟨1 + n, goes_bind (k := 1) (fun g w1 hst => ?_) hgo⟩
  refine .inr ⟨(hst w1 (atRel_refl w1)).1, fun w₁ hr => ?_⟩
  obtain ⟨_, v, w2, es, he, hD, h1⟩ := hst w₁ hr
  rw [he, goes_go]
  exact ⟨hD, fun w₂ h₂ => hnext v w₂ (h1.at h₂)⟩
end
end Sim
end Go.Proofs.Ytaealkfnhhmmcaa
/- A walk beside goroutines that are only leaving, carried out by the machine, the bound of the blocks growing with the walk. No condition. -/
namespace Go.Proofs.Ytaealkfnhhmmcaa
namespace Sim
open Go.Conc
open Go.ConcN (sumTo upd sumTo_upd upd_ne upd_same)
set_option linter.unusedVariables false
/-- Goroutine 0 runs; all others are only leaving. -/
structure Bs (P : Program) (Shun : Go.Loc → Prop) (gs : Array Goroutine) (a : Goroutine) (w : World) (t : Trace) (q : Nat → Nat) : Prop where
  h0 : gs[0]? = some a
  lv : Leavers P t gs q
  pt : Past Shun w.heap.size t
  qt : Quiet Shun t
  no : ∀ (i : Nat) (op : MemOp), t[i]? = some op → op.g < gs.size
  rl : ∀ (i : Nat) (op : MemOp) a, t[i]? = some op → op.act ≠ .mark (.release a)
  mem : ∀ (i : Nat) (op : MemOp) x, t[i]? = some op → op.act.touch? = some x → x.loc.isMemory = true
section
variable {P : Program} {Shun : Go.Loc → Prop} {gs : Array Goroutine} {a : Goroutine} {w : World} {t : Trace} {q : Nat → Nat}
theorem g_of (g : Nat) (fn : FuncId) (pos : String) (es : Array Event) : ∀ op ∈ MemOp.ofEvents g fn pos es, op.g = g := fun op hop => by
  obtain ⟨e, _, rfl⟩ := Go.Conc.mem_ofEvents hop
  rfl
theorem Bs.at (h : Bs P Shun gs a w t q) (d : Nat) : Bs P Shun gs a (w.at d) t q := ⟨h.h0, h.lv, h.pt, h.qt, h.no, h.rl, h.mem⟩
theorem Bs.awake (h : Bs P Shun gs a w t q) (hr : a.status = .running) : ∀ g ∈ gs, Go.Conc.awake g := by
  intro g hg
  obtain ⟨i, hi⟩ := Array.mem_iff_getElem?.1 hg
  rcases Nat.eq_zero_or_pos i with rfl | hp
  · rw [h.h0] at hi
    cases hi
    exact awake_of (.inl hr)
  · rcases (h.lv.old i g hp hi).status with x | x
    · exact awake_of (.inl x)
    · exact awake_of (.inr (.inr x))
/-- A step of goroutine 0's own. -/
theorem Bs.own (h : Bs P Shun gs a w t q) {a' : Goroutine} {w' : World} {es : Array Event} (hd : DB Shun w w' es) (fn : FuncId) (pos : String) :
    Bs P Shun ((gs.map (woken P a a' w')).setIfInBounds 0 a') a' w' (t ++ MemOp.ofEvents 0 fn pos es) q := by
  have hlt : 0 < gs.size := (Array.getElem?_eq_some_iff.1 h.h0).1
  refine ⟨by simp [hlt], ⟨fun j x hj hx => ?_, fun j hj => ?_⟩, (h.pt.mono hd.1).own fun e he => (hd.2 e he).1, h.qt.app fun op hop x hx hs => ?_, fun i op hi => ?_, fun i op a hi => ?_, fun i op x hi hx => ?_⟩
  · rw [Array.getElem?_setIfInBounds_ne (by omega), Array.getElem?_map] at hx
    obtain ⟨y, hy, rfl⟩ := Option.map_eq_some_iff.1 hx
    have hq := h.lv.old j y hj hy
    rw [woken_quitsD hq, Deaf_other t (by omega) _ (g_of _ _ _ _)]
    exact hq
  · have hj' : gs.size ≤ j := by simpa using hj
    rw [Deaf_other t (g' := 0) (by omega) _ (g_of _ _ _ _)]
    exact h.lv.above j hj'
  · have hg := g_of _ _ _ _ op hop
    obtain ⟨e, he, rfl⟩ := Go.Conc.mem_ofEvents hop
    exact ⟨(hd.2 e he).1.1 x hx hs, fun _ => hg⟩
  · simp only [Array.size_setIfInBounds, Array.size_map]
    rcases getElem?_append_cases hi with ⟨_, hi'⟩ | ⟨_, hiu⟩
    · exact h.no i op hi'
    · rw [g_of _ _ _ _ op hiu]
      exact hlt
  · rcases getElem?_append_cases hi with ⟨_, hi'⟩ | ⟨_, hiu⟩
    · exact h.rl i op a hi'
    · obtain ⟨e, he, rfl⟩ := Go.Conc.mem_ofEvents hiu
      exact fun h => (hd.2 e he).2.1 a (Go.ConcR.loc_of_ofEvent h)
  · rcases getElem?_append_cases hi with ⟨_, hi'⟩ | ⟨_, hiu⟩
    · exact h.mem i op x hi' hx
    · obtain ⟨e, he, rfl⟩ := Go.Conc.mem_ofEvents hiu
      exact (hd.2 e he).2.2 x hx
/-- A leaver's step. -/
theorem Bs.leaver (h : Bs P Shun gs a w t q) (hr : a.status = .running) {i k : Nat} (hi : 0 < i) {g g' : Goroutine} {es : Array Event} (hg : gs[i]? = some g) (hm : ∀ e ∈ es, e.mute = true) (hq : QuitsD P k (deafBehind (Deaf t i) es) g') (fn : FuncId) (pos : String) :
    Bs P Shun ((gs.map (woken P g g' w)).setIfInBounds i g') a w (t ++ MemOp.ofEvents i fn pos es) (upd q i k) := by
  have hlt : i < gs.size := (Array.getElem?_eq_some_iff.1 hg).1
  refine ⟨?_, ⟨fun j x hj hx => ?_, fun j hj => ?_⟩, h.pt.mute (by omega) hm, h.qt.app fun op hop x hx hs => ?_, fun x op hx => ?_, fun x op a hx => ?_, fun x op y hx hy => ?_⟩
  · rw [Array.getElem?_setIfInBounds_ne (by omega), Array.getElem?_map, h.h0]
    simp [woken_run hr]
  · by_cases e : i = j
    · subst e
      rw [Array.getElem?_setIfInBounds_self_of_lt (by simpa using hlt)] at hx
      cases hx
      rw [upd_same, Deaf_own]
      exact hq
    · rw [Array.getElem?_setIfInBounds_ne e, Array.getElem?_map] at hx
      obtain ⟨y, hy, rfl⟩ := Option.map_eq_some_iff.1 hx
      have hy2 := h.lv.old j y hj hy
      rw [woken_quitsD hy2, upd_ne q k (Ne.symm e), Deaf_other t e _ (g_of _ _ _ _)]
      exact hy2
  · have hj' : gs.size ≤ j := by simpa using hj
    rw [Deaf_other t (g' := i) (by omega) _ (g_of _ _ _ _)]
    exact h.lv.above j hj'
  · obtain ⟨e, he, rfl⟩ := Go.Conc.mem_ofEvents hop
    rw [touch_mute (hm e he)] at hx
    cases hx
  · simp only [Array.size_setIfInBounds, Array.size_map]
    rcases getElem?_append_cases hx with ⟨_, hx'⟩ | ⟨_, hxu⟩
    · exact h.no x op hx'
    · rw [g_of _ _ _ _ op hxu]
      exact hlt
  · rcases getElem?_append_cases hx with ⟨_, hx'⟩ | ⟨_, hxu⟩
    · exact h.rl x op a hx'
    · obtain ⟨e, he, rfl⟩ := Go.Conc.mem_ofEvents hxu
      intro h
      have := Go.ConcR.loc_of_ofEvent h
      have h2 := hm e he
      obtain ⟨loc, wr, sy⟩ := e
      subst this
      simp [Event.mute] at h2
  · rcases getElem?_append_cases hx with ⟨_, hx'⟩ | ⟨_, hxu⟩
    · exact h.mem x op y hx' hy
    · obtain ⟨e, he, rfl⟩ := Go.Conc.mem_ofEvents hxu
      rw [touch_mute (hm e he)] at hy
      cases hy
end
section
variable {P : Program} {Shun : Go.Loc → Prop} {Stop : Goroutine → World → Prop}
theorem walkX : ∀ (M n : Nat) (gs : Array Goroutine) (a : Goroutine) (w : World) (sl : Option (Nat × Nat)) (t : Trace) (q : Nat → Nat), n + sumTo gs.size q ≤ M → Bs P Shun gs a w t q → Goes P true AtRel (DB Shun) Stop n a w →
    ∃ (N : Nat) (gs' : Array Goroutine) (a' : Goroutine) (w' : World) (sl' : Option (Nat × Nat)) (t' : Trace) (q' : Nat → Nat),
      runNT P N (crowd gs w sl) t = (.next (crowd gs' w' sl'), t') ∧ gs'.size = gs.size ∧ Bs P Shun gs' a' w' t' q' ∧ Stop a' w'
  | M, 0, gs, a, w, sl, t, q, hM, hb, hG => ⟨0, gs, a, w, sl, t, q, rfl, rfl, hb, hG w (atRel_refl w)⟩
  | 0, n + 1, gs, a, w, sl, t, q, hM, hb, hG => by omega
  | M + 1, n + 1, gs, a, w, sl, t, q, hM, hb, hG => by
    rcases hG with hstop | ⟨hrun, hstep⟩
    · exact ⟨0, gs, a, w, sl, t, q, rfl, rfl, hb, hstop w (atRel_refl w)⟩
    obtain ⟨i, g, d, sl1, hi, hg, hst⟩ := crowd_pick (P := P) (w := w) (sl := sl) (hb.awake hrun) ⟨0, a, hb.h0, hrun⟩
    have next : ∀ (m1 : Nat) (gs1 : Array Goroutine) (a1 : Goroutine) (w1 : World) (u : Trace) (q1 : Nat → Nat), runT P (crowd gs (w.at d) sl1) i = (.next (crowd gs1 w1 sl1), u) → gs1.size = gs.size → m1 + sumTo gs1.size q1 ≤ M → Bs P Shun gs1 a1 w1 (t ++ u) q1 → Goes P true AtRel (DB Shun) Stop m1 a1 w1 →
        ∃ (N : Nat) (gs' : Array Goroutine) (a' : Goroutine) (w' : World) (sl' : Option (Nat × Nat)) (t' : Trace) (q' : Nat → Nat), runNT P N (crowd gs w sl) t = (.next (crowd gs' w' sl'), t') ∧ gs'.size = gs.size ∧ Bs P Shun gs' a' w' t' q' ∧ Stop a' w' := by
      intro m1 gs1 a1 w1 u q1 hr hz hm hb1 hG1
      obtain ⟨N, gs', a', w', sl', t', q', e1, e2, e3, e4⟩ := walkX M m1 gs1 a1 w1 sl1 (t ++ u) q1 hm hb1 hG1
      exact ⟨N + 1, gs', a', w', sl', t', q', by simp only [runNT, hst, hr]; exact e1, e2.trans hz, e3, e4⟩
    rcases Nat.eq_zero_or_pos i with rfl | hp
    · obtain rfl : g = a := by rw [hb.h0] at hi; exact (Option.some.inj hi).symm
      have hs := hstep (w.at d) ⟨d, rfl⟩
      cases hgo : stepG P true g (w.at d) with
      | go a1 w1 es =>
        rw [hgo, goes_go] at hs
        refine next n _ a1 w1 _ q (runT_crowd_go (i := 0) hi hgo) (by simp) ?_ ((hb.at d).own hs.1 _ _) hs.2
        simp only [Array.size_setIfInBounds, Array.size_map]
        omega
      | _ => rw [hgo] at hs; exact hs.elim
    · have hq := hb.lv.old i g hp hi
      have hlt : i < gs.size := (Array.getElem?_eq_some_iff.1 hi).1
      cases hqi : q i with
      | zero => rw [hqi] at hq; rw [hq.1] at hg; cases hg
      | succ k =>
        rw [hqi] at hq
        rcases hq with ⟨hf, _⟩ | ⟨_, g1, es, hm, hstp, hq1⟩
        · rw [hf] at hg; cases hg
        · have hz : sumTo gs.size (upd q i k) + q i = sumTo gs.size q + k := sumTo_upd q k id hlt
          refine next (n + 1) _ a (w.at d) _ (upd q i k) (runT_crowd_go hi (by rw [show (i == 0) = false by simp; omega]; exact hstp (w.at d))) (by simp) ?_ ((hb.at d).leaver hrun hp hi hm hq1 _ _) (Goes.rely atRel_trans (.inr ⟨hrun, hstep⟩) ⟨d, rfl⟩)
          simp only [Array.size_setIfInBounds, Array.size_map]
          rw [hqi] at hz
          omega
end
end Sim
end Go.Proofs.Ytaealkfnhhmmcaa
/- The last walk beside goroutines that are only leaving: to the run's end. No condition. -/
namespace Go.Proofs.Ytaealkfnhhmmcaa
namespace Sim
open Go.Conc
open Go.ConcN (sumTo upd sumTo_upd upd_ne upd_same)
set_option linter.unusedVariables false
section
variable {P : Program} {Shun : Go.Loc → Prop}
/-- What a run comes to. -/
def Ends (P : Program) (Post : Value → World → Prop) (m : Machine) (t : Trace) : Prop :=
  ∃ N last o w' t', runNT P (N + 1) m t = (.ended o w', t') ∧ runN P N m = .next last ∧ step P last = .ended o w' ∧ Good P Post last o w' t'
theorem Ends.after {Post : Value → World → Prop} {m m' : Machine} {t t' : Trace} {N : Nat} (h : runNT P N m t = (.next m', t')) (h' : Ends P Post m' t') : Ends P Post m t := by
  obtain ⟨K, last, o, w', t2, h1, h2, h3, h4⟩ := h'
  refine ⟨N + K, last, o, w', t2, ?_, ?_, h3, h4⟩
  · rw [Nat.add_assoc, runNT_add, h]
    exact h1
  · rw [runN_add, ← runNT_fst P _ _ t, h]
    exact h2
/-- Goroutine 0 stands at the step that ends the run. -/
def AtLast (P : Program) (Shun : Go.Loc → Prop) (Post : Value → World → Prop) (g : Goroutine) (w : World) : Prop := ∀ w₁, AtRel w w₁ → AtEnd P Shun w.heap.size Post g w₁
theorem endX {Post : Value → World → Prop} {n : Nat} {gs : Array Goroutine} {a : Goroutine} {w : World} {sl : Option (Nat × Nat)} {t : Trace} {q : Nat → Nat} (hb : Bs P Shun gs a w t q) (hG : Goes P true AtRel (DB Shun) (AtLast P Shun Post) n a w) : Ends P Post (crowd gs w sl) t := by
  obtain ⟨N, gs', a', w', sl', t', q', h1, h2, h3, h4⟩ := walkX _ n gs a w sl t q (Nat.le_refl _) hb hG
  refine Ends.after h1 ?_
  obtain ⟨K, last, o, w2, t2, e1, e2, e3, e4⟩ := beside_ends (D := fun _ _ _ => False) (Shun := Shun) (B := w'.heap.size) (Post := Post) (sl := sl') (n := 0) (fun _ _ _ h => h.elim) h3.h0 h3.lv h3.pt h4
  exact ⟨K, last, o, w2, t2, e1, e2, e3, e4⟩
/-- The first frame. -/
theorem bs_first (a : Goroutine) (w : World) : Bs P (fun _ => False) #[a] a w #[] (fun _ => 0) := ⟨rfl, leavers_one P a, past_nil.mono (Nat.zero_le _), fun i op x h => by simp at h, fun i op h => by simp at h, fun i op a h => by simp at h, fun i op x h => by simp at h⟩
end
end Sim
end Go.Proofs.Ytaealkfnhhmmcaa
/- A goroutine in company: how its way is put together. No condition. -/
namespace Go.Proofs.Ytaealkfnhhmmcaa
namespace Sim
open Go.Conc
set_option linter.unusedVariables false
section
variable {P : Program} {main : Bool} {Lk : Nat → Prop} {Stop : (Nat → Prop) → Goroutine → World → Prop}
theorem grow_same (K : Nat → Prop) (w : World) : grow K w w = K := funext fun b => propext ⟨fun h => h.elim id fun h => by omega, .inl⟩
theorem grow_size (K : Nat → Prop) {w w' : World} (h : w'.heap.size = w.heap.size) : grow K w w' = K := funext fun b => propext ⟨fun g => g.elim id fun g => by omega, .inl⟩
theorem Co.more : ∀ {n m : Nat} {K : Nat → Prop} {g : Goroutine} {w : World}, Co P main Lk Stop n K g w → n ≤ m → Co P main Lk Stop m K g w
  | 0, m, K, g, w, h, _ => .stop h
  | n + 1, m, K, g, w, h, hm => by
    rcases h with h | ⟨hs, h⟩
    · exact .stop h
    · obtain ⟨m, rfl⟩ : ∃ m', m = m' + 1 := ⟨m - 1, by omega⟩
      refine .inr ⟨hs, fun w₁ hr => ?_⟩
      obtain ⟨g', w', es, h1, h2, h3⟩ := h w₁ hr
      exact ⟨g', w', es, h1, h2, h3.more (by omega)⟩
theorem Co.bind {S1 : (Nat → Prop) → Goroutine → World → Prop} {k : Nat} (hk : ∀ K g w, (∀ w₁, Kn K w w₁ → S1 K g w₁) → Co P main Lk Stop k K g w) : ∀ {n : Nat} {K : Nat → Prop} {g : Goroutine} {w : World}, Co P main Lk S1 n K g w → Co P main Lk Stop (k + n) K g w
  | 0, K, g, w, h => hk K g w h
  | n + 1, K, g, w, h => by
    rcases h with h | ⟨hs, h⟩
    · exact (hk K g w h).more (by omega)
    · refine .inr ⟨hs, fun w₁ hr => ?_⟩
      obtain ⟨g', w', es, h1, h2, h3⟩ := h w₁ hr
      exact ⟨g', w', es, h1, h2, Co.bind hk h3⟩
/-- A step that leaves the world and lists known cells, read. -/
theorem Co.look {n : Nat} {K : Nat → Prop} {g g' : Goroutine} {w : World} {es : Array Event} (hs : g.status = .running) (h : ∀ w₁, Kn K w w₁ → ∃ es, stepG P main g w₁ = .go g' w₁ es ∧ ∀ e, e ∈ es → EvK Lk K e) (hn : Co P main Lk Stop n K g' w) : Co P main Lk Stop (n + 1) K g w := by
  refine .inr ⟨hs, fun w₁ hr => ?_⟩
  obtain ⟨es, h1, h2⟩ := h w₁ hr
  refine ⟨g', w₁, es, h1, ⟨Nat.le_refl _, fun _ _ _ => rfl, rfl, rfl, rfl, fun e he => ?_⟩, ?_⟩
  · rw [grow_same]; exact h2 e he
  · rw [grow_same]; exact hn.rely hr
theorem Co.ctl {n : Nat} {K : Nat → Prop} {g g' : Goroutine} {w : World} (hs : g.status = .running) (h : ∀ w₁, stepG P main g w₁ = .go g' w₁ #[]) (hn : Co P main Lk Stop n K g' w) : Co P main Lk Stop (n + 1) K g w :=
  .look (es := #[]) hs (fun w₁ _ => ⟨#[], h w₁, fun e he => by simp at he⟩) hn
/-- An operation that looks. -/
theorem Co.value {n : Nat} {K : Nat → Prop} {b : Frame} {a : Act} {k : List Item} {cs : List Frame} {w : World} {ops : Array Oper} {i : Nat} {rest : List Nat} {o : Oper} {v : Value} (ho : ops[i]? = some o) (hw : Region.wanted o (yielded ops a.tmps) = true) (hb : b.kind ≠ .early) (hm : b.mode = .run)
    (hr : ∀ w₁, Kn K w w₁ → (execOp a.eval o).run P w₁ = .ok (.value v) w₁ ∧ ∀ e, e ∈ (execOp a.eval o).events P w₁ #[] → EvK Lk K e)
    (hn : Co P main Lk Stop n K (G (b.at (a.put o.dst v) (.inRegion ops rest :: k)) cs) w) : Co P main Lk Stop (n + 1) K (G (b.at a (.inRegion ops (i :: rest) :: k)) cs) w :=
  .look (es := #[]) rfl (fun w₁ h1 => ⟨_, stepG_value ho hw hb (hr w₁ h1).1, fun e he => (hr w₁ h1).2 e (mem_seen he)⟩) hn
end
/-- A known cell stands. -/
theorem Kn.cell {K : Nat → Prop} {w w₁ : World} (h : Kn K w w₁) {a : Addr} (ha : K a.block) : w₁.cell? a = w.cell? a := by
  unfold World.cell?
  rw [h.keep _ ha]
end Sim
end Go.Proofs.Ytaealkfnhhmmcaa
/- The trace of workers that make memory: who touches what grows with what is made. No condition. -/
namespace Go.Proofs.Ytaealkfnhhmmcaa
namespace Sim
open Go.Conc Go.ConcN
set_option linter.unusedVariables false
/-- Nobody has touched it. -/
def Fresh (t : Trace) (l : Go.Loc) : Prop := ∀ i a, touchAt t i = some a → a.loc ≠ l
theorem ct_grow {Sh : Go.Loc → Prop} {Own Rd Own' Rd' : Nat → Go.Loc → Prop} {t : Trace} {j : Nat} (h : CT Sh Own Rd t j)
    (ho : ∀ k, 1 ≤ k → k ≤ j → ∀ l, Own' k l → Own k l ∨ Fresh t l) (ho2 : ∀ k, 1 ≤ k → k ≤ j → ∀ l, Own k l → Own' k l)
    (hr : ∀ k, 1 ≤ k → k ≤ j → ∀ l, Rd' k l → Rd k l ∨ Fresh t l) (hr2 : ∀ k, 1 ≤ k → k ≤ j → ∀ l, Rd k l → Rd' k l) : CT Sh Own' Rd' t j := by
  refine ⟨h.quiet, fun k k1 kj l hl => ?_, fun k k1 kj l hl => ?_, fun l hs hl => h.free l hs fun k k1 kj => ⟨fun hx => (hl k k1 kj).1 (ho2 k k1 kj l hx), fun hx => (hl k k1 kj).2 (hr2 k k1 kj l hx)⟩, fun l hs hl => h.mine l hs fun k k1 kj hx => hl k k1 kj (ho2 k k1 kj l hx), h.nr, h.gs⟩
  · rcases ho k k1 kj l hl with hx | hx
    · exact h.own k k1 kj l hx
    · exact fun i a ha e => absurd e (hx i a ha)
  · rcases hr k k1 kj l hl with hx | hx
    · exact h.rd k k1 kj l hx
    · exact fun i a ha e _ => absurd e (hx i a ha)
/-- The block that a place lies in. -/
def blk : Go.Loc → Option Nat
  | .cell a => some a.block
  | .obj r => some r
  | _ => none
theorem fresh_of_low {t : Trace} {B : Nat} (h : ∀ op ∈ t, op.act.low B) {l : Go.Loc} {b : Nat} (hl : blk l = some b) (hb : B ≤ b) : Fresh t l := by
  intro i a ha e
  obtain ⟨x, hx, hxa⟩ := touch_of ha
  have hlow := h x (Array.mem_of_getElem? hx)
  subst e
  generalize hact : x.act = act at hlow hxa
  cases act with
  | access e =>
    have e1 : a.loc = e.loc := by
      simp only [MemAct.touch?] at hxa
      cases hxa
      rfl
    rw [e1] at hl
    have hlow' : e.loc.low B := hlow
    cases hle : e.loc with
    | cell ad => rw [hle] at hl hlow'; cases hl; exact absurd hlow' (by show ¬ _ < _; omega)
    | obj r => rw [hle] at hl hlow'; cases hl; exact absurd hlow' (by show ¬ _ < _; omega)
    | _ => rw [hle] at hl; cases hl
  | mark m =>
    cases m with
    | read ad =>
      simp only [MemAct.touch?] at hxa
      cases hxa
      cases hl
      exact absurd hlow (by show ¬ _ < _; omega)
    | write ad =>
      simp only [MemAct.touch?] at hxa
      cases hxa
      cases hl
      exact absurd hlow (by show ¬ _ < _; omega)
    | _ => simp only [MemAct.touch?] at hxa; cases hxa
  | _ => simp only [MemAct.touch?] at hxa; first | (cases hxa; done) | (cases hxa; cases hl; exact absurd hlow (by show ¬ _ < _; omega))
end Sim
end Go.Proofs.Ytaealkfnhhmmcaa
