/- A lone run of pure code and the same run in another world: related step by step. No condition. -/
import Derived.Calls
import Derived.Conc.Own4
import Derived.Laws.Sem
/- A program of the machine's primitives and its picture under a relation of blocks: what the one does alone the other does in company. No condition. -/
namespace Go.Proofs.Ytaealkfnhhmmcaa
namespace Sim
set_option linter.unusedVariables false
/-- Which block of the lone world stands for which block of the other. -/
abbrev BR := Nat → Nat → Prop
def BR.add (ρ : BR) (r r' : Nat) : BR := fun b c => ρ b c ∨ (b = r ∧ c = r')
def BR.le (ρ ρ' : BR) : Prop := ∀ b c, ρ b c → ρ' b c
theorem BR.le_refl (ρ : BR) : BR.le ρ ρ := fun _ _ h => h
theorem BR.le_trans {a b c : BR} (h : BR.le a b) (k : BR.le b c) : BR.le a c := fun x y z => k x y (h x y z)
theorem BR.le_add (ρ : BR) (r r' : Nat) : BR.le ρ (ρ.add r r') := fun _ _ h => .inl h
/-- Two values alike up to the names of blocks. -/
inductive VR (ρ : BR) : Value → Value → Prop
  | bool (b : Bool) : VR ρ (.bool b) (.bool b)
  | int (k : IntKind) (n : Int) : VR ρ (.int k n) (.int k n)
  | str (s : ByteArray) : VR ρ (.string s) (.string s)
  | ptr0 : VR ρ (.pointer none) (.pointer none)
  | ptr (b c o : Nat) (s : Option Nat) (h : ρ b c) : VR ρ (.pointer (some ⟨b, o, s⟩)) (.pointer (some ⟨c, o, s⟩))
  | slice0 (n m : Nat) : VR ρ (.slice none n m) (.slice none n m)
  | slice (b c o : Nat) (s : Option Nat) (n m : Nat) (h : ρ b c) : VR ρ (.slice (some ⟨b, o, s⟩) n m) (.slice (some ⟨c, o, s⟩) n m)
  | nilFunc : VR ρ .nilFunc .nilFunc
  | nilIface : VR ρ .nilIface .nilIface
  | func (f : FuncId) : VR ρ (.func (.func f) #[] #[]) (.func (.func f) #[] #[])
  | agg (cs ds : Array Value) (h : cs.size = ds.size) (hv : ∀ (i : Nat) x y, cs[i]? = some x → ds[i]? = some y → VR ρ x y) : VR ρ (.agg cs) (.agg ds)
  | tuple (cs ds : Array Value) (h : cs.size = ds.size) (hv : ∀ (i : Nat) x y, cs[i]? = some x → ds[i]? = some y → VR ρ x y) : VR ρ (.tuple cs) (.tuple ds)
def AR (ρ : BR) (cs ds : Array Value) : Prop := cs.size = ds.size ∧ ∀ (i : Nat) x y, cs[i]? = some x → ds[i]? = some y → VR ρ x y
theorem VR.le {ρ ρ' : BR} (hl : BR.le ρ ρ') {x y : Value} (h : VR ρ x y) : VR ρ' x y := by
  induction h with
  | bool b => exact .bool b
  | int k n => exact .int k n
  | str s => exact .str s
  | ptr0 => exact .ptr0
  | ptr b c o s h => exact .ptr b c o s (hl _ _ h)
  | slice0 n m => exact .slice0 n m
  | slice b c o s n m h => exact .slice b c o s n m (hl _ _ h)
  | nilFunc => exact .nilFunc
  | nilIface => exact .nilIface
  | func f => exact .func f
  | agg cs ds h hv ih => exact .agg cs ds h ih
  | tuple cs ds h hv ih => exact .tuple cs ds h ih
theorem AR.le {ρ ρ' : BR} (hl : BR.le ρ ρ') {x y : Array Value} (h : AR ρ x y) : AR ρ' x y := ⟨h.1, fun i a b ha hb => (h.2 i a b ha hb).le hl⟩
/-- Ends that stop the machine, or panic. -/
def Bad : Halt → Prop
  | .panic _ => True
  | .stuck _ => True
  | .unsupported (.initOrder _) => False
  | .unsupported _ => True
  | _ => False
/-- A program that comes to a bad end in whatever world of rows. -/
inductive Dies {α : Type} : Sem α → Prop
  | halt (h : Halt) (hb : Bad h) : Dies (.halt h)
  | shape (r : Nat) (k : Option (TypeId × Nat) → Sem α) (h : ∀ s, Dies (k s)) : Dies (.shape r k)
  | frozen (a : Addr) (k : Bool → Sem α) (h : ∀ s, Dies (k s)) : Dies (.frozen a k)
  | choose (q : Question) (k : Nat → Sem α) (h : ∀ s, Dies (k s)) : Dies (.choose q k)
  | mark (m : Mark) (k : Sem α) (h : Dies k) : Dies (.mark m k)
  | new (o : Obj) (k : Nat → Sem α) (h : ∀ r, Dies (k r)) : Dies (.new o k)
  | program (k : Program → Sem α) (h : ∀ p, Dies (k p)) : Dies (.program k)
/-- Two programs alike: the same primitives at places that are alike. -/
inductive SR (P : Program) {α β : Type} (R : BR → α → β → Prop) : BR → Sem α → Sem β → Prop
  | pure {ρ : BR} (a : α) (b : β) (h : R ρ a b) : SR P R ρ (.pure a) (.pure b)
  | load {ρ : BR} (b c o : Nat) (s : Option Nat) (k : Value → Sem α) (k' : Value → Sem β) (hb : ρ b c) (h : ∀ v v', VR ρ v v' → SR P R ρ (k v) (k' v')) : SR P R ρ (.load .plain ⟨b, o, s⟩ k) (.load .plain ⟨c, o, s⟩ k')
  | store {ρ : BR} (b c o : Nat) (s : Option Nat) (v v' : Value) (k : Sem α) (k' : Sem β) (hb : ρ b c) (hv : VR ρ v v') (h : SR P R ρ k k') : SR P R ρ (.store .plain ⟨b, o, s⟩ v k) (.store .plain ⟨c, o, s⟩ v' k')
  | new {ρ : BR} (cs ds : Array Value) (e : TypeId) (k : Nat → Sem α) (k' : Nat → Sem β) (hc : AR ρ cs ds) (h : ∀ r r', SR P R (ρ.add r r') (k r) (k' r')) : SR P R ρ (.new (.cells cs e) k) (.new (.cells ds e) k')
  | choose {ρ : BR} (q : Question) (k : Nat → Sem α) (k' : Nat → Sem β) (h : ∀ n, SR P R ρ (k n) (k' n)) : SR P R ρ (.choose q k) (.choose q k')
  | program {ρ : BR} (k : Program → Sem α) (k' : Program → Sem β) (h : SR P R ρ (k P) (k' P)) : SR P R ρ (.program k) (.program k')
  | room {ρ : BR} (k : Sem α) (k' : Sem β) (h : SR P R ρ k k') : SR P R ρ (.mark .noRoom k) (.mark .noRoom k')
  | dies {ρ : BR} (m : Sem α) (m' : Sem β) (h : Dies m) : SR P R ρ m m'
  | shape {ρ : BR} (r r' : Nat) (k : Option (TypeId × Nat) → Sem α) (k' : Option (TypeId × Nat) → Sem β) (hb : ρ r r') (h : ∀ x, SR P R ρ (k x) (k' x)) : SR P R ρ (.shape r k) (.shape r' k')
  | getObj {ρ : BR} (r r' : Nat) (k : Obj → Sem α) (k' : Obj → Sem β) (hb : ρ r r') (h : ∀ b c o s l, ρ b c → SR P R ρ (k (.number ⟨b, o, s⟩ l)) (k' (.number ⟨c, o, s⟩ l))) : SR P R ρ (.getObj r k) (.getObj r' k')
  | newN {ρ : BR} (b c o : Nat) (s : Option Nat) (l : Bool) (k : Nat → Sem α) (k' : Nat → Sem β) (hb : ρ b c) (h : ∀ r r', SR P R (ρ.add r r') (k r) (k' r')) : SR P R ρ (.new (.number ⟨b, o, s⟩ l) k) (.new (.number ⟨c, o, s⟩ l) k')
  | given {ρ : BR} (m : Sem α) (m' : Sem β) (h : (∀ b c c', ρ b c → ρ b c' → c = c') → (∀ b b' c, ρ b c → ρ b' c → b = b') → (∀ b c, ρ b c → (b < P.globals.size ↔ c < P.globals.size)) → SR P R ρ m m') : SR P R ρ m m'
/-- Two blocks alike. -/
def OR (lk : Prop) (ρ : BR) (x y : Option Obj) : Prop :=
  (∃ cs ds e f f', x = some (.cells cs e f) ∧ y = some (.cells ds e f') ∧ AR ρ cs ds ∧ ((lk ∨ f = f') ∧ ∀ o, f'.1 ≤ o → o < f'.2 → f.1 ≤ o ∧ o < f.2) ∧ (lk → ∀ o, o < cs.size → f.1 ≤ o ∧ o < f.2)) ∨
  ∃ b c o s l, x = some (.number ⟨b, o, s⟩ l) ∧ y = some (.number ⟨c, o, s⟩ l) ∧ ρ b c
/-- Two worlds alike. Lk: the blocks of the other world that are not to be written: in the lone world they are frozen. -/
structure WR (G : Nat) (Lk : Nat → Prop) (ρ : BR) (wv wc : World) : Prop where
  fn : ∀ b c c', ρ b c → ρ b c' → c = c'
  inj : ∀ b b' c, ρ b c → ρ b' c → b = b'
  obj : ∀ b c, ρ b c → OR (Lk c) ρ wv.heap[b]? wc.heap[c]?
  lk : ∀ c, Lk c → c < wc.heap.size
  gl : ∀ b c, ρ b c → (b < G ↔ c < G)
  gv : G ≤ wv.heap.size
  gc : G ≤ wc.heap.size
/-- The two tapes answer alike from here on. -/
def TS (wv wc : World) : Prop := ∀ n q, wv.tape (wv.drawn + n) q = wc.tape (wc.drawn + n) q
/-- What a step in company may list. -/
def EvOK (Lk : Nat → Prop) (ρ : BR) (e : Event) : Prop := (∃ a wr, e = ⟨.cell a, wr, false⟩ ∧ (∃ b, ρ b a.block) ∧ (wr = true → ¬ Lk a.block)) ∨ (∃ r, e = ⟨.obj r, false, false⟩ ∧ ∃ b, ρ b r) ∨ e = ⟨.mark .noRoom, false, true⟩
/-- What it does to the two worlds. -/
structure Foot (Lk : Nat → Prop) (ρ ρ' : BR) (wv wc wv' wc' : World) : Prop where
  le : BR.le ρ ρ'
  pair : ∀ b c, ρ' b c → ρ b c ∨ ∃ i, b = wv.heap.size + i ∧ c = wc.heap.size + i
  both : ∃ k, wv'.heap.size = wv.heap.size + k ∧ wc'.heap.size = wc.heap.size + k ∧ ∀ i, i < k → ρ' (wv.heap.size + i) (wc.heap.size + i)
  far : ∀ c, c < wc.heap.size → (Lk c ∨ ¬ ∃ b, ρ b c) → wc'.heap[c]? = wc.heap[c]?
  farv : ∀ b, b < wv.heap.size → (¬ ∃ c, ρ b c) → wv'.heap[b]? = wv.heap[b]?
  tape : wc'.tape = wc.tape
  os : wc'.os = wc.os
  output : wc'.output = wc.output
theorem Foot.refl (Lk : Nat → Prop) (ρ : BR) (wv wc : World) : Foot Lk ρ ρ wv wc wv wc := ⟨BR.le_refl ρ, fun _ _ h => .inl h, ⟨0, rfl, rfl, fun i hi => by omega⟩, fun _ _ _ => rfl, fun _ _ _ => rfl, rfl, rfl, rfl⟩
theorem Foot.size {Lk : Nat → Prop} {ρ ρ' : BR} {wv wc wv' wc' : World} (h : Foot Lk ρ ρ' wv wc wv' wc') : wc.heap.size ≤ wc'.heap.size := by
  obtain ⟨k, _, h2, _⟩ := h.both
  omega
theorem Foot.fresh {Lk : Nat → Prop} {ρ ρ' : BR} {wv wc wv' wc' : World} (h : Foot Lk ρ ρ' wv wc wv' wc') : ∀ b c, ρ' b c → ρ b c ∨ wc.heap.size ≤ c := fun b c hb => (h.pair b c hb).imp id fun ⟨i, _, h2⟩ => by omega
theorem Foot.trans {Lk : Nat → Prop} {a b c : BR} {x0 x y0 y z0 z : World} (h : Foot Lk a b x0 x y0 y) (k : Foot Lk b c y0 y z0 z) : Foot Lk a c x0 x z0 z := by
  obtain ⟨p, h1, h2, h3⟩ := h.both
  obtain ⟨q, k1, k2, k3⟩ := k.both
  refine ⟨BR.le_trans h.le k.le, fun u v hv => ?_, ⟨p + q, by omega, by omega, fun i hi => ?_⟩, fun v hv hl => ?_, fun v hv hl => ?_, k.tape.trans h.tape, k.os.trans h.os, k.output.trans h.output⟩
  · rcases k.pair u v hv with g | ⟨i, e1, e2⟩
    · exact h.pair u v g
    · exact .inr ⟨p + i, by omega, by omega⟩
  · rcases Nat.lt_or_ge i p with hlt | hge
    · exact k.le _ _ (h3 i hlt)
    · have := k3 (i - p) (by omega)
      rw [h1, h2, show x0.heap.size + p + (i - p) = x0.heap.size + i by omega, show x.heap.size + p + (i - p) = x.heap.size + i by omega] at this
      exact this
  · refine (k.far v (Nat.lt_of_lt_of_le hv h.size) (hl.imp id fun hn hx => ?_)).trans (h.far v hv hl)
    obtain ⟨u, hu⟩ := hx
    rcases h.fresh u v hu with g | g
    · exact hn ⟨u, g⟩
    · omega
  · refine (k.farv v (by omega) fun hx => ?_).trans (h.farv v hv hl)
    obtain ⟨u, hu⟩ := hx
    rcases h.pair v u hu with g | ⟨i, e1, e2⟩
    · exact hl ⟨u, g⟩
    · omega
theorem EvOK.le {Lk : Nat → Prop} {ρ ρ' : BR} (hl : BR.le ρ ρ') {e : Event} (h : EvOK Lk ρ e) : EvOK Lk ρ' e := by
  rcases h with ⟨a, wr, rfl, ⟨b, hb⟩, hw⟩ | ⟨r, rfl, b, hb⟩ | rfl
  · exact .inl ⟨a, wr, rfl, ⟨b, hl _ _ hb⟩, hw⟩
  · exact .inr (.inl ⟨r, rfl, b, hl _ _ hb⟩)
  · exact .inr (.inr rfl)
theorem OR.le {lk : Prop} {ρ ρ' : BR} (hl : BR.le ρ ρ') {x y : Option Obj} (h : OR lk ρ x y) : OR lk ρ' x y := by
  rcases h with ⟨cs, ds, e, f, f', h1, h2, h3, h4, h5⟩ | ⟨b, c, o, s, l, h1, h2, h3⟩
  · exact .inl ⟨cs, ds, e, f, f', h1, h2, h3.le hl, h4, h5⟩
  · exact .inr ⟨b, c, o, s, l, h1, h2, hl _ _ h3⟩
theorem dies_run {α : Type} {P : Program} {m : Sem α} (h : Dies m) : ∀ w, ∃ hh w', m.run P w = .halt hh w' ∧ Bad hh := by
  induction h with
  | halt h hb => exact fun w => ⟨h, w, rfl, hb⟩
  | shape r k h ih => exact fun w => ih _ w
  | frozen a k h ih => exact fun w => ih _ w
  | choose q k h ih =>
    intro w
    simp only [Sem.run]
    split
    · exact ih _ _
    · exact ih _ _
  | mark m k h ih => exact fun w => ih w
  | new o k h ih => exact fun w => ih _ _
  | program k h ih => exact fun w => ih _ w
theorem cell_cells {w : World} {b o : Nat} {cs : Array Value} {e : TypeId} {f : Nat × Nat} (h : w.heap[b]? = some (.cells cs e f)) (s : Option Nat) : w.cell? ⟨b, o, s⟩ = if s.isSome then none else cs[o]? := by
  simp only [World.cell?, h]
theorem far_cells {P : Program} {w : World} {b o : Nat} {cs : Array Value} {e : TypeId} {f : Nat × Nat} (h : w.heap[b]? = some (.cells cs e f)) (s : Option Nat) (t : Bool) : ∃ why, w.farLoad P ⟨b, o, s⟩ t = .error (.stuck why) := by
  refine ⟨ "load: no such cell", ?_⟩
  simp only [World.farLoad, World.noCell, h]
theorem farS_cells {P : Program} {w : World} {b o : Nat} {cs : Array Value} {e : TypeId} {f : Nat × Nat} (h : w.heap[b]? = some (.cells cs e f)) (s : Option Nat) (v : Value) (t : Bool) : ∃ why, w.farStore P ⟨b, o, s⟩ v t = .error (.stuck why) := by
  refine ⟨ "store: no such cell", ?_⟩
  simp only [World.farStore, World.noCell, h]
theorem cell_num {w : World} {b o : Nat} {a : Addr} {l : Bool} (h : w.heap[b]? = some (.number a l)) (s : Option Nat) : w.cell? ⟨b, o, s⟩ = none := by
  simp only [World.cell?, h]
theorem far_num {P : Program} {w : World} {b o : Nat} {a : Addr} {l : Bool} (h : w.heap[b]? = some (.number a l)) (s : Option Nat) (t : Bool) : ∃ why, w.farLoad P ⟨b, o, s⟩ t = .error (.stuck why) := by
  refine ⟨ "load: no such cell", ?_⟩
  simp only [World.farLoad, World.noCell, h]
theorem farS_num {P : Program} {w : World} {b o : Nat} {a : Addr} {l : Bool} (h : w.heap[b]? = some (.number a l)) (s : Option Nat) (v : Value) (t : Bool) : ∃ why, w.farStore P ⟨b, o, s⟩ v t = .error (.stuck why) := by
  refine ⟨ "store: no such cell", ?_⟩
  simp only [World.farStore, World.noCell, h]
end Sim
end Go.Proofs.Ytaealkfnhhmmcaa
/- What a program does alone its picture does in company: the run. No condition. -/
namespace Go.Proofs.Ytaealkfnhhmmcaa
namespace Sim
set_option linter.unusedVariables false
theorem getElem?_lt {α : Type} {xs : Array α} {i : Nat} {x : α} (h : xs[i]? = some x) : i < xs.size := (Array.getElem?_eq_some_iff.1 h).1
theorem AR.get {ρ : BR} {cs ds : Array Value} (h : AR ρ cs ds) {i : Nat} {x : Value} (hx : cs[i]? = some x) : ∃ y, ds[i]? = some y ∧ VR ρ x y := by
  have hi := getElem?_lt hx
  have hd : i < ds.size := by rw [← h.1]; exact hi
  exact ⟨ds[i], Array.getElem?_eq_getElem hd, h.2 i _ _ hx (Array.getElem?_eq_getElem hd)⟩
theorem AR.set {ρ : BR} {cs ds : Array Value} (h : AR ρ cs ds) (i : Nat) {x y : Value} (hxy : VR ρ x y) : AR ρ (cs.setIfInBounds i x) (ds.setIfInBounds i y) := by
  refine ⟨by simp [h.1], fun j a b ha hb => ?_⟩
  by_cases hj : i = j
  · subst hj
    have hi : i < cs.size := by have := getElem?_lt ha; simpa using this
    have hd : i < ds.size := by rw [← h.1]; exact hi
    rw [Array.getElem?_setIfInBounds_self_of_lt hi] at ha
    rw [Array.getElem?_setIfInBounds_self_of_lt hd] at hb
    cases ha; cases hb
    exact hxy
  · rw [Array.getElem?_setIfInBounds_ne hj] at ha hb
    exact h.2 j a b ha hb
section
variable {G : Nat} {Lk : Nat → Prop} {ρ : BR} {wv wc : World}
theorem WR.lt (h : WR G Lk ρ wv wc) {b c : Nat} (hb : ρ b c) : b < wv.heap.size ∧ c < wc.heap.size := by
  rcases h.obj b c hb with ⟨cs, ds, e, f, f', h1, h2, _⟩ | ⟨b', c', o, s, l, h1, h2, _⟩
  · exact ⟨getElem?_lt h1, getElem?_lt h2⟩
  · exact ⟨getElem?_lt h1, getElem?_lt h2⟩
theorem WR.newO (h : WR G Lk ρ wv wc) {o o' : Obj} (hc : ∀ lk : Prop, ¬ lk → OR lk (ρ.add wv.heap.size wc.heap.size) (some o) (some o')) :
    WR G Lk (ρ.add wv.heap.size wc.heap.size) { wv with heap := wv.heap.push o } { wc with heap := wc.heap.push o' } := by
  have hle := BR.le_add ρ wv.heap.size wc.heap.size
  have g1 := h.gv
  have g2 := h.gc
  refine ⟨fun b c c' hb hc' => ?_, fun b b' c hb hb' => ?_, fun b c hb => ?_, fun c hl => ?_, fun b c hb => ?_, by simp; omega, by simp; omega⟩
  · rcases hb with hb | ⟨rfl, rfl⟩ <;> rcases hc' with hc' | ⟨h1, rfl⟩
    · exact h.fn _ _ _ hb hc'
    · have := (h.lt hb).1; omega
    · have := (h.lt hc').1; omega
    · rfl
  · rcases hb with hb | ⟨rfl, rfl⟩ <;> rcases hb' with hb' | ⟨rfl, h1⟩
    · exact h.inj _ _ _ hb hb'
    · have := (h.lt hb).2; omega
    · have := (h.lt hb').2; omega
    · rfl
  · rcases hb with hb | ⟨rfl, rfl⟩
    · have ho := (h.obj b c hb).le hle
      have hl := h.lt hb
      show OR (Lk c) _ (wv.heap.push _)[b]? (wc.heap.push _)[c]?
      rw [Array.getElem?_push, if_neg (by omega), Array.getElem?_push, if_neg (by omega)]
      exact ho
    · show OR (Lk wc.heap.size) _ (wv.heap.push _)[wv.heap.size]? (wc.heap.push _)[wc.heap.size]?
      rw [Array.getElem?_push_size, Array.getElem?_push_size]
      refine hc _ fun hl => ?_
      have := h.lk _ hl
      omega
  · have := h.lk _ hl
    simp only [Array.size_push]
    omega
  · rcases hb with hb | ⟨rfl, rfl⟩
    · exact h.gl _ _ hb
    · omega
theorem WR.new (h : WR G Lk ρ wv wc) {cs ds : Array Value} (e : TypeId) (hc : AR ρ cs ds) :
    WR G Lk (ρ.add wv.heap.size wc.heap.size) { wv with heap := wv.heap.push (.cells cs e) } { wc with heap := wc.heap.push (.cells ds e) } :=
  h.newO fun lk hn => .inl ⟨cs, ds, e, (0, 0), (0, 0), rfl, rfl, hc.le (BR.le_add _ _ _), ⟨.inr rfl, fun o _ ho => by simp at ho⟩, fun hl => absurd hl hn⟩
theorem WR.newNum (h : WR G Lk ρ wv wc) {b c : Nat} (hb : ρ b c) (o : Nat) (s : Option Nat) (l : Bool) :
    WR G Lk (ρ.add wv.heap.size wc.heap.size) { wv with heap := wv.heap.push (.number ⟨b, o, s⟩ l) } { wc with heap := wc.heap.push (.number ⟨c, o, s⟩ l) } :=
  h.newO fun lk hn => .inr ⟨b, c, o, s, l, rfl, rfl, BR.le_add _ _ _ _ _ hb⟩
theorem setCell_heap (w : World) (b o : Nat) (v : Value) (x : Nat) : (w.setCell ⟨b, o, none⟩ v).heap[x]? = if b = x then (w.heap[x]?).map (fun q => match q with | .cells c e f => .cells (c.setIfInBounds o v) e f | q => q) else w.heap[x]? := by
  simp only [World.setCell, Array.getElem?_modify]
  split
  · simp
    rfl
  · rfl
theorem WR.set (h : WR G Lk ρ wv wc) {b c : Nat} (hb : ρ b c) (o : Nat) {v v' : Value} (hv : VR ρ v v') : WR G Lk ρ (wv.setCell ⟨b, o, none⟩ v) (wc.setCell ⟨c, o, none⟩ v') := by
  refine ⟨h.fn, h.inj, fun b' c' hb' => ?_, fun x hl => ?_, h.gl, by simpa [World.setCell] using h.gv, by simpa [World.setCell] using h.gc⟩
  · by_cases hbb : b = b'
    · subst hbb
      obtain rfl := h.fn _ _ _ hb hb'
      rcases h.obj b c hb' with ⟨cs, ds, e, f, f', h1, h2, h3, h4, h5⟩ | ⟨b', c', o', s, l, h1, h2, h3⟩
      · refine .inl ⟨cs.setIfInBounds o v, ds.setIfInBounds o v', e, f, f', ?_, ?_, h3.set o hv, h4, fun hl o' ho' => h5 hl o' (by simpa using ho')⟩
        · rw [setCell_heap, if_pos rfl, h1]; rfl
        · rw [setCell_heap, if_pos rfl, h2]; rfl
      · refine .inr ⟨b', c', o', s, l, ?_, ?_, h3⟩
        · rw [setCell_heap, if_pos rfl, h1]; rfl
        · rw [setCell_heap, if_pos rfl, h2]; rfl
    · have hcc : c ≠ c' := fun hcc => hbb (h.inj _ _ c' (hcc ▸ hb) hb')
      have ho := h.obj b' c' hb'
      rwa [setCell_heap, if_neg hbb, setCell_heap, if_neg hcc]
  · have := h.lk _ hl
    simpa [World.setCell] using this
theorem TS.step (h : TS wv wc) : TS { wv with drawn := wv.drawn + 1 } { wc with drawn := wc.drawn + 1 } := by
  intro n q
  have := h (n + 1) q
  show wv.tape (wv.drawn + 1 + n) q = wc.tape (wc.drawn + 1 + n) q
  rw [show wv.drawn + 1 + n = wv.drawn + (n + 1) from by omega, show wc.drawn + 1 + n = wc.drawn + (n + 1) from by omega]
  exact this
theorem WR.draw (h : WR G Lk ρ wv wc) (n n' : Nat) : WR G Lk ρ { wv with drawn := n } { wc with drawn := n' } := ⟨h.fn, h.inj, h.obj, h.lk, h.gl, h.gv, h.gc⟩
/-- Neither a struct nor a tuple: one cell. -/
def One (v : Value) : Prop := (∀ cs, v ≠ .agg cs) ∧ ∀ cs, v ≠ .tuple cs
theorem VR.one {x y : Value} (h : VR ρ x y) (hx : One x) : One y := by
  cases h with
  | agg cs ds h hv => exact absurd rfl (hx.1 cs)
  | tuple cs ds h hv => exact absurd rfl (hx.2 cs)
  | _ => exact ⟨fun _ h => (by cases h), fun _ h => (by cases h)⟩
theorem run_store_one {α : Type} {P : Program} {m : Go.Mode} {a : Addr} {v : Value} (hv : One v) (k : Sem α) (w : World) : (Sem.store m a v k).run P w = match w.cell? a with
    | some _ => if w.frozen? a then .halt (.unsupported (.unsafePointer "a write to bytes that a string shares")) w else k.run P (w.setCell a v)
    | none => match w.farStore P a v (m == .atomic) with
      | .ok (w, _) => k.run P w
      | .error h => .halt h w := by
  cases v with
  | agg cs => exact absurd rfl (hv.1 cs)
  | tuple cs => exact absurd rfl (hv.2 cs)
  | _ => first | rfl | (simp only [Sem.run]; rfl)
theorem runT_store_one {α : Type} {P : Program} {m : Go.Mode} {a : Addr} {v : Value} (hv : One v) (k : Sem α) (w : World) (es : Array Event) : (Sem.store m a v k).runT P w es = match w.cell? a with
    | some _ => if w.frozen? a then (.halt (.unsupported (.unsafePointer "a write to bytes that a string shares")) w, es) else k.runT P (w.setCell a v) (es.push ⟨.cell a, true, m == .atomic⟩)
    | none => match w.farStore P a v (m == .atomic) with
      | .ok (w, touched) => k.runT P w (es ++ touched.toArray.map (⟨.cell ·, true, m == .atomic⟩))
      | .error h => (.halt h w, es) := by
  cases v with
  | agg cs => exact absurd rfl (hv.1 cs)
  | tuple cs => exact absurd rfl (hv.2 cs)
  | _ => first | rfl | (simp only [Sem.runT]; rfl)
end
/-- What a run in company comes to, where the lone one came to a value. -/
def Came (P : Program) {α β : Type} (R : BR → α → β → Prop) (Lk : Nat → Prop) (ρ : BR) (m : Sem α) (m' : Sem β) (wv wc : World) (es : Array Event) : Prop :=
  (∃ hh w1, m.run P wv = .halt hh w1 ∧ Bad hh) ∨
  ∃ a b wv' wc' ρ' es', m.run P wv = .ok a wv' ∧ m'.runT P wc es = (.ok b wc', es ++ es') ∧ R ρ' a b ∧ WR P.globals.size Lk ρ' wv' wc' ∧ TS wv' wc' ∧ Foot Lk ρ ρ' wv wc wv' wc' ∧ (∀ e ∈ es', EvOK Lk ρ' e)
theorem SR.came {P : Program} {α β : Type} {R : BR → α → β → Prop} {Lk : Nat → Prop} {ρ : BR} {m : Sem α} {m' : Sem β} (h : SR P R ρ m m') :
    ∀ (wv wc : World) (es : Array Event), WR P.globals.size Lk ρ wv wc → TS wv wc → Came P R Lk ρ m m' wv wc es := by
  induction h with
  | pure a b h => exact fun wv wc es hw ht => .inr ⟨a, b, wv, wc, _, #[], rfl, by simp [Sem.runT], h, hw, ht, Foot.refl _ _ _ _, fun e he => by simp at he⟩
  | @load ρ b c o s k k' hb h ih =>
    intro wv wc es hw ht
    rcases hw.obj b c hb with ⟨cs, ds, e, f, f', h1, h2, h3, h4, h5⟩ | ⟨b', c', o', s', l, h1, h2, h3⟩
    rotate_left
    · obtain ⟨why, hy⟩ := far_num (P := P) (o := o) h1 s (Go.Mode.plain == .atomic)
      refine .inl ⟨.stuck why, wv, ?_, trivial⟩
      simp only [Sem.run, cell_num h1, hy]
    cases s with
    | some s =>
      obtain ⟨why, hy⟩ := far_cells (P := P) (o := o) h1 (some s) (Go.Mode.plain == .atomic)
      refine .inl ⟨.stuck why, wv, ?_, trivial⟩
      simp only [Sem.run, cell_cells h1, hy]
      rfl
    | none =>
      cases hx : cs[o]? with
      | none =>
        obtain ⟨why, hy⟩ := far_cells (P := P) (o := o) h1 none (Go.Mode.plain == .atomic)
        refine .inl ⟨.stuck why, wv, ?_, trivial⟩
        simp only [Sem.run, cell_cells h1, hy, hx]
        rfl
      | some v =>
        obtain ⟨v', hx', hv⟩ := h3.get hx
        rcases ih v v' hv wv wc (es.push ⟨.cell ⟨c, o, none⟩, false, false⟩) hw ht with ⟨hh, w1, g1, g2⟩ | ⟨a, b', wv', wc', ρ', es', g1, g2, g3, g4, g5, g6, g7⟩
        · refine .inl ⟨hh, w1, ?_, g2⟩
          simp only [Sem.run, cell_cells h1, hx]
          exact g1
        · refine .inr ⟨a, b', wv', wc', ρ', #[⟨.cell ⟨c, o, none⟩, false, false⟩] ++ es', ?_, ?_, g3, g4, g5, g6, fun e he => ?_⟩
          · simp only [Sem.run, cell_cells h1, hx]
            exact g1
          · simp only [Sem.runT, cell_cells h2, hx']
            rw [show (Go.Mode.plain == Go.Mode.atomic) = false from rfl]
            simp only [Option.isSome_none, Bool.false_eq_true, if_false]
            rw [g2]
            simp
          · rcases Array.mem_append.1 he with he | he
            · obtain rfl := by simpa using he
              exact .inl ⟨_, _, rfl, ⟨b, g6.le _ _ hb⟩, fun h => by cases h⟩
            · exact g7 e he
  | @store ρ b c o s v v' k k' hb hv h ih =>
    intro wv wc es hw ht
    rcases hw.obj b c hb with ⟨cs, ds, e, f, f', h1, h2, h3, h4, h5⟩ | ⟨b', c', o', s', l, h1, h2, h3⟩
    rotate_left
    · by_cases hone : One v
      · obtain ⟨why, hy⟩ := farS_num (P := P) (o := o) h1 s v (Go.Mode.plain == .atomic)
        refine .inl ⟨.stuck why, wv, ?_, trivial⟩
        rw [run_store_one hone]
        simp only [cell_num h1, hy]
      · refine .inl ⟨.stuck "store: not the value of one cell", wv, ?_, trivial⟩
        cases v with
        | agg cs => simp only [Sem.run]
        | tuple cs => simp only [Sem.run]
        | _ => exact absurd ⟨fun _ h => (by cases h), fun _ h => (by cases h)⟩ hone
    by_cases hone : One v
    · have hone' := hv.one hone
      cases s with
      | some s =>
        obtain ⟨why, hy⟩ := farS_cells (P := P) (o := o) h1 (some s) v (Go.Mode.plain == .atomic)
        refine .inl ⟨.stuck why, wv, ?_, trivial⟩
        rw [run_store_one hone]
        simp only [cell_cells h1, hy]
        rfl
      | none =>
        cases hx : cs[o]? with
        | none =>
          obtain ⟨why, hy⟩ := farS_cells (P := P) (o := o) h1 none v (Go.Mode.plain == .atomic)
          refine .inl ⟨.stuck why, wv, ?_, trivial⟩
          rw [run_store_one hone]
          simp only [cell_cells h1, hy, hx]
          rfl
        | some x =>
          obtain ⟨x', hx', _⟩ := h3.get hx
          have ho := getElem?_lt hx
          have hz : wv.frozen? ⟨b, o, none⟩ = (decide (f.1 ≤ o) && decide (o < f.2)) := by simp only [World.frozen?, h1]
          have hz' : wc.frozen? ⟨c, o, none⟩ = (decide (f'.1 ≤ o) && decide (o < f'.2)) := by simp only [World.frozen?, h2]
          cases hf : wv.frozen? ⟨b, o, none⟩ with
          | true =>
            refine .inl ⟨.unsupported (.unsafePointer "a write to bytes that a string shares"), wv, ?_, trivial⟩
            rw [run_store_one hone]
            simp only [cell_cells h1, hx, hf]
            rfl
          | false =>
            have hf' : wc.frozen? ⟨c, o, none⟩ = false := by
              rw [hz']
              rw [hz] at hf
              simp only [Bool.and_eq_false_iff, decide_eq_false_iff_not] at hf ⊢
              by_cases h6 : f'.1 ≤ o
              · by_cases h7 : o < f'.2
                · obtain ⟨h8, h9⟩ := h4.2 o h6 h7
                  rcases hf with hf | hf
                  · exact absurd h8 hf
                  · exact absurd h9 hf
                · exact .inr h7
              · exact .inl h6
            have hlk : ¬ Lk c := fun hl => by
              obtain ⟨h8, h9⟩ := h5 hl o ho
              rw [hz] at hf
              simp [h8, h9] at hf
            rcases ih (wv.setCell ⟨b, o, none⟩ v) (wc.setCell ⟨c, o, none⟩ v') (es.push ⟨.cell ⟨c, o, none⟩, true, false⟩) (hw.set hb o hv) ht with ⟨hh, w1, g1, g2⟩ | ⟨a, b', wv', wc', ρ', es', g1, g2, g3, g4, g5, g6, g7⟩
            · refine .inl ⟨hh, w1, ?_, g2⟩
              rw [run_store_one hone]
              simp only [cell_cells h1, hx, hf]
              exact g1
            · have hfoot : Foot Lk ρ ρ wv wc (wv.setCell ⟨b, o, none⟩ v) (wc.setCell ⟨c, o, none⟩ v') := ⟨BR.le_refl ρ, fun _ _ h => .inl h, ⟨0, by simp [World.setCell], by simp [World.setCell], fun i hi => by omega⟩, fun q hq hl => by
                rw [setCell_heap, if_neg]
                rintro rfl
                exact hl.elim hlk fun hn => hn ⟨b, hb⟩, fun q hq hl => by
                rw [setCell_heap, if_neg]
                rintro rfl
                exact hl ⟨c, hb⟩, rfl, rfl, rfl⟩
              refine .inr ⟨a, b', wv', wc', ρ', #[⟨.cell ⟨c, o, none⟩, true, false⟩] ++ es', ?_, ?_, g3, g4, g5, hfoot.trans g6, fun e he => ?_⟩
              · rw [run_store_one hone]
                simp only [cell_cells h1, hx, hf]
                exact g1
              · rw [runT_store_one hone']
                simp only [cell_cells h2, hx', hf']
                rw [show (Go.Mode.plain == Go.Mode.atomic) = false from rfl]
                simp only [Option.isSome_none, Bool.false_eq_true, if_false]
                rw [g2]
                simp
              · rcases Array.mem_append.1 he with he | he
                · obtain rfl := by simpa using he
                  exact .inl ⟨_, _, rfl, ⟨b, g6.le _ _ hb⟩, fun _ => hlk⟩
                · exact g7 e he
    · refine .inl ⟨.stuck "store: not the value of one cell", wv, ?_, trivial⟩
      cases v with
      | agg cs => simp only [Sem.run]
      | tuple cs => simp only [Sem.run]
      | _ => exact absurd ⟨fun _ h => (by cases h), fun _ h => (by cases h)⟩ hone
  | @new ρ cs ds e k k' hc h ih =>
    intro wv wc es hw ht
    rcases ih wv.heap.size wc.heap.size _ _ es (hw.new e hc) ht with ⟨hh, w1, g1, g2⟩ | ⟨a, b', wv', wc', ρ', es', g1, g2, g3, g4, g5, g6, g7⟩
    · exact .inl ⟨hh, w1, g1, g2⟩
    · have hfoot : Foot Lk ρ (ρ.add wv.heap.size wc.heap.size) wv wc { wv with heap := wv.heap.push (.cells cs e) } { wc with heap := wc.heap.push (.cells ds e) } := ⟨BR.le_add _ _ _, fun b c hb => hb.elim .inl fun h => .inr ⟨0, by omega, by omega⟩, ⟨1, by simp, by simp, fun i hi => .inr ⟨by omega, by omega⟩⟩, fun q hq _ => by
        show (wc.heap.push _)[q]? = _
        rw [Array.getElem?_push, if_neg (by omega)], fun q hq _ => by
        show (wv.heap.push _)[q]? = _
        rw [Array.getElem?_push, if_neg (by omega)], rfl, rfl, rfl⟩
      exact .inr ⟨a, b', wv', wc', ρ', es', g1, g2, g3, g4, g5, hfoot.trans g6, g7⟩
  | @choose ρ q k k' h ih =>
    intro wv wc es hw ht
    by_cases hf : q.forced = true
    · rcases ih 0 wv wc es hw ht with ⟨hh, w1, g1, g2⟩ | ⟨a, b', wv', wc', ρ', es', g1, g2, g3, g4, g5, g6, g7⟩
      · exact .inl ⟨hh, w1, by simp only [Sem.run, hf, if_true]; exact g1, g2⟩
      · exact .inr ⟨a, b', wv', wc', ρ', es', by simp only [Sem.run, hf, if_true]; exact g1, by simp only [Sem.runT, hf, if_true]; exact g2, g3, g4, g5, g6, g7⟩
    · have hq : wv.tape wv.drawn q = wc.tape wc.drawn q := ht 0 q
      rcases ih (q.cut (wv.tape wv.drawn q)) { wv with drawn := wv.drawn + 1 } { wc with drawn := wc.drawn + 1 } es (hw.draw _ _) ht.step with ⟨hh, w1, g1, g2⟩ | ⟨a, b', wv', wc', ρ', es', g1, g2, g3, g4, g5, g6, g7⟩
      · exact .inl ⟨hh, w1, by simp only [Sem.run, hf]; exact g1, g2⟩
      · refine .inr ⟨a, b', wv', wc', ρ', es', by simp only [Sem.run, hf]; exact g1, by simp only [Sem.runT, hf]; rw [← hq]; exact g2, g3, g4, g5, ?_, g7⟩
        exact ⟨g6.le, g6.pair, g6.both, g6.far, g6.farv, g6.tape, g6.os, g6.output⟩
  | program k k' h ih => exact fun wv wc es hw ht => ih wv wc es hw ht
  | @room ρ k k' h ih =>
    intro wv wc es hw ht
    rcases ih wv wc (es.push ⟨.mark .noRoom, false, true⟩) hw ht with ⟨hh, w1, g1, g2⟩ | ⟨a, b', wv', wc', ρ', es', g1, g2, g3, g4, g5, g6, g7⟩
    · exact .inl ⟨hh, w1, g1, g2⟩
    · refine .inr ⟨a, b', wv', wc', ρ', #[⟨.mark .noRoom, false, true⟩] ++ es', g1, ?_, g3, g4, g5, g6, fun e he => ?_⟩
      · simp only [Sem.runT]
        rw [g2]
        simp
      · rcases Array.mem_append.1 he with he | he
        · obtain rfl := by simpa using he
          exact .inr (.inr rfl)
        · exact g7 e he
  | @shape ρ r r' k k' hb h ih =>
    intro wv wc es hw ht
    have hsh : wv.shape? r = wc.shape? r' := by
      rcases hw.obj r r' hb with ⟨cs, ds, e, f, f', h1, h2, h3, h4, h5⟩ | ⟨b', c', o', s', l, h1, h2, h3⟩
      · simp only [World.shape?, h1, h2, h3.1]
      · simp only [World.shape?, h1, h2]
    rcases ih (wc.shape? r') wv wc es hw ht with ⟨hh, w1, g1, g2⟩ | ⟨a, b', wv', wc', ρ', es', g1, g2, g3, g4, g5, g6, g7⟩
    · exact .inl ⟨hh, w1, by simp only [Sem.run, hsh]; exact g1, g2⟩
    · exact .inr ⟨a, b', wv', wc', ρ', es', by simp only [Sem.run, hsh]; exact g1, by simp only [Sem.runT]; exact g2, g3, g4, g5, g6, g7⟩
  | @getObj ρ r r' k k' hb h ih =>
    intro wv wc es hw ht
    rcases hw.obj r r' hb with ⟨cs, ds, e, f, f', h1, h2, h3, h4, h5⟩ | ⟨b1, c1, o1, s1, l1, h1, h2, h3⟩
    · exact .inl ⟨.stuck "getObj: a row of cells", wv, by simp only [Sem.run, h1], trivial⟩
    · rcases ih b1 c1 o1 s1 l1 h3 wv wc (es.push ⟨.obj r', false, false⟩) hw ht with ⟨hh, w1, g1, g2⟩ | ⟨a, b', wv', wc', ρ', es', g1, g2, g3, g4, g5, g6, g7⟩
      · exact .inl ⟨hh, w1, by simp only [Sem.run, h1]; exact g1, g2⟩
      · refine .inr ⟨a, b', wv', wc', ρ', #[⟨.obj r', false, false⟩] ++ es', by simp only [Sem.run, h1]; exact g1, ?_, g3, g4, g5, g6, fun e he => ?_⟩
        · simp only [Sem.runT, h2]
          rw [show (Obj.number ⟨c1, o1, s1⟩ l1).isChan = false from rfl, g2]
          simp
        · rcases Array.mem_append.1 he with he | he
          · obtain rfl := by simpa using he
            exact .inr (.inl ⟨_, rfl, r, g6.le _ _ hb⟩)
          · exact g7 e he
  | @newN ρ b c o s l k k' hb h ih =>
    intro wv wc es hw ht
    rcases ih wv.heap.size wc.heap.size _ _ es (hw.newNum hb o s l) ht with ⟨hh, w1, g1, g2⟩ | ⟨a, b', wv', wc', ρ', es', g1, g2, g3, g4, g5, g6, g7⟩
    · exact .inl ⟨hh, w1, g1, g2⟩
    · have hfoot : Foot Lk ρ (ρ.add wv.heap.size wc.heap.size) wv wc { wv with heap := wv.heap.push (.number ⟨b, o, s⟩ l) } { wc with heap := wc.heap.push (.number ⟨c, o, s⟩ l) } := ⟨BR.le_add _ _ _, fun b c hb => hb.elim .inl fun h => .inr ⟨0, by omega, by omega⟩, ⟨1, by simp, by simp, fun i hi => .inr ⟨by omega, by omega⟩⟩, fun q hq _ => by
        show (wc.heap.push _)[q]? = _
        rw [Array.getElem?_push, if_neg (by omega)], fun q hq _ => by
        show (wv.heap.push _)[q]? = _
        rw [Array.getElem?_push, if_neg (by omega)], rfl, rfl, rfl⟩
      exact .inr ⟨a, b', wv', wc', ρ', es', g1, g2, g3, g4, g5, hfoot.trans g6, g7⟩
  | given m m' h ih => exact fun wv wc es hw ht => ih hw.fn hw.inj hw.gl wv wc es hw ht
  | dies m m' h =>
    intro wv wc es hw ht
    obtain ⟨hh, w', h1, h2⟩ := dies_run (P := P) h wv
    exact .inl ⟨hh, w', h1, h2⟩
end Sim
end Go.Proofs.Ytaealkfnhhmmcaa
/- The operations of pure code are alike on values that are alike. No condition. -/
namespace Go.Proofs.Ytaealkfnhhmmcaa
namespace Sim
set_option linter.unusedVariables false
theorem Dies.bind {α β : Type} {m : Sem α} (h : Dies m) (f : α → Sem β) : Dies (m.bind f) := by
  induction h with
  | halt h hb => exact .halt h hb
  | shape r k h ih => exact .shape r _ ih
  | frozen a k h ih => exact .frozen a _ ih
  | choose q k h ih => exact .choose q _ ih
  | mark m k h ih => exact .mark m _ ih
  | new o k h ih => exact .new o _ ih
  | program k h ih => exact .program _ ih
section
variable {P : Program} {α β γ δ : Type} {R : BR → α → β → Prop} {S : BR → γ → δ → Prop}
theorem SR.bind {ρ : BR} {m : Sem α} {m' : Sem β} (h : SR P R ρ m m') {f : α → Sem γ} {g : β → Sem δ} (hf : ∀ ρ' a b, BR.le ρ ρ' → R ρ' a b → SR P S ρ' (f a) (g b)) : SR P S ρ (m.bind f) (m'.bind g) := by
  induction h with
  | pure a b h => exact hf _ a b (BR.le_refl _) h
  | load b c o s k k' hb h ih => exact .load b c o s _ _ hb fun v v' hv => ih v v' hv hf
  | store b c o s v v' k k' hb hv h ih => exact .store b c o s v v' _ _ hb hv (ih hf)
  | new cs ds e k k' hc h ih => exact .new cs ds e _ _ hc fun r r' => ih r r' fun ρ' a b hl hr => hf ρ' a b (BR.le_trans (BR.le_add _ _ _) hl) hr
  | choose q k k' h ih => exact .choose q _ _ fun n => ih n hf
  | program k k' h ih => exact .program _ _ (ih hf)
  | room k k' h ih => exact .room _ _ (ih hf)
  | dies m m' h => exact .dies _ _ (h.bind f)
  | shape r r' k k' hb h ih => exact .shape r r' _ _ hb fun x => ih x hf
  | given m m' h ih => exact .given _ _ fun h1 h2 h3 => ih h1 h2 h3 hf
  | getObj r r' k k' hb h ih => exact .getObj r r' _ _ hb fun b c o s l hbc => ih b c o s l hbc hf
  | newN b c o s l k k' hb h ih => exact .newN b c o s l _ _ hb fun r r' => ih r r' fun ρ' a b hl hr => hf ρ' a b (BR.le_trans (BR.le_add _ _ _) hl) hr
end
/-- Values. -/
def RV : BR → Value → Value → Prop := fun ρ a b => VR ρ a b
def RU : BR → Unit → Unit → Prop := fun _ _ _ => True
section
variable {P : Program} {γ δ : Type} {S : BR → γ → δ → Prop} {ρ : BR}
theorem sr_stuck {α β : Type} {R : BR → α → β → Prop} (why : String) (m : Sem β) : SR P R ρ (stuck why : Sem α) m := .dies _ _ (.halt _ trivial)
theorem sr_stuck_bind {α β : Type} {R : BR → γ → β → Prop} (why : String) (f : α → Sem γ) (m : Sem β) : SR P R ρ ((stuck why : Sem α) >>= f) m := .dies _ _ (.halt _ trivial)
theorem sr_und {t : TypeId} {f : TypeDesc → Sem γ} {g : TypeDesc → Sem δ} (h : ∀ d, P.underlying t = some d → SR P S ρ (f d) (g d)) : SR P S ρ (underlying t >>= f) (underlying t >>= g) := by
  refine .program _ _ ?_
  show SR P S ρ (Sem.bind (match P.underlying t with | some d => pure d | none => stuck "no such type") f) (Sem.bind (match P.underlying t with | some d => pure d | none => stuck "no such type") g)
  cases hd : P.underlying t with
  | none => exact .dies _ _ (.halt _ trivial)
  | some d => exact h d hd
theorem sr_info {t : TypeId} {f : TypeInfo → Sem γ} {g : TypeInfo → Sem δ} (h : ∀ d, P.info? t = some d → SR P S ρ (f d) (g d)) : SR P S ρ (typeInfo t >>= f) (typeInfo t >>= g) := by
  refine .program _ _ ?_
  show SR P S ρ (Sem.bind (match P.info? t with | some d => pure d | none => stuck "no such type") f) (Sem.bind (match P.info? t with | some d => pure d | none => stuck "no such type") g)
  cases hd : P.info? t with
  | none => exact .dies _ _ (.halt _ trivial)
  | some d => exact h d hd
theorem sr_size {t : TypeId} {f : Nat → Sem γ} {g : Nat → Sem δ} (h : ∀ i, P.info? t = some i → SR P S ρ (f i.size) (g i.size)) : SR P S ρ (sizeOf t >>= f) (sizeOf t >>= g) := by
  refine .program _ _ ?_
  show SR P S ρ (Sem.bind (Sem.bind (match P.info? t with | some d => pure d | none => stuck "no such type") fun i => pure i.size) f) (Sem.bind (Sem.bind (match P.info? t with | some d => pure d | none => stuck "no such type") fun i => pure i.size) g)
  cases hd : P.info? t with
  | none => exact .dies _ _ (.halt _ trivial)
  | some d => exact h d hd
theorem sr_isAgg {t : TypeId} {f : Bool → Sem γ} {g : Bool → Sem δ} (h : ∀ b, SR P S ρ (f b) (g b)) : SR P S ρ (isAgg t >>= f) (isAgg t >>= g) := by
  refine .program _ _ ?_
  show SR P S ρ (Sem.bind (Sem.bind (match P.underlying t with | some d => pure d | none => stuck "no such type") fun d => match d with | .struct _ | .array _ _ => pure true | _ => pure false) f) (Sem.bind (Sem.bind (match P.underlying t with | some d => pure d | none => stuck "no such type") fun d => match d with | .struct _ | .array _ _ => pure true | _ => pure false) g)
  cases hd : P.underlying t with
  | none => exact .dies _ _ (.halt _ trivial)
  | some d =>
    cases d <;> exact h _
theorem sr_zero {t : TypeId} {f : Value → Sem γ} {g : Value → Sem δ} (h : ∀ i z, P.info? t = some i → i.zero = some z → SR P S ρ (f z) (g z)) : SR P S ρ (zeroValue t >>= f) (zeroValue t >>= g) := by
  refine .program _ _ ?_
  show SR P S ρ (Sem.bind (Sem.bind (match P.info? t with | some d => pure d | none => stuck "no such type") fun i => match i.zero with | some v => pure v | none => unsupported (.resourceLimit "a value of more than 2^22 cells")) f) (Sem.bind (Sem.bind (match P.info? t with | some d => pure d | none => stuck "no such type") fun i => match i.zero with | some v => pure v | none => unsupported (.resourceLimit "a value of more than 2^22 cells")) g)
  cases hd : P.info? t with
  | none => exact .dies _ _ (.halt _ trivial)
  | some d =>
    show SR P S ρ (Sem.bind (match d.zero with | some v => pure v | none => unsupported (.resourceLimit "a value of more than 2^22 cells")) f) (Sem.bind (match d.zero with | some v => pure v | none => unsupported (.resourceLimit "a value of more than 2^22 cells")) g)
    cases hz : d.zero with
    | none => exact .dies _ _ (.halt _ trivial)
    | some z => exact h d z hd hz
/-- Addresses. -/
def AdR (ρ : BR) (a b : Addr) : Prop := ρ a.block b.block ∧ a.off = b.off ∧ a.spot = b.spot
theorem AdR.add {ρ : BR} {a b : Addr} (h : AdR ρ a b) (n : Nat) : AdR ρ (a.add n) (b.add n) := by
  unfold Addr.add
  split
  · exact h
  · exact ⟨h.1, by simp [h.2.1], rfl⟩
theorem sr_load1 {a b : Addr} (h : AdR ρ a b) {f : Value → Sem γ} {g : Value → Sem δ} (hf : ∀ v v', VR ρ v v' → SR P S ρ (f v) (g v')) : SR P S ρ (load a >>= f) (load b >>= g) := by
  obtain ⟨ab, ao, as⟩ := a
  obtain ⟨bb, bo, bs⟩ := b
  obtain ⟨h1, h2, h3⟩ := h
  dsimp only at h1 h2 h3
  subst h2 h3
  exact .load ab bb ao as _ _ h1 hf
theorem sr_store1 {a b : Addr} (h : AdR ρ a b) {v v' : Value} (hv : VR ρ v v') {f : Unit → Sem γ} {g : Unit → Sem δ} (hf : SR P S ρ (f ()) (g ())) : SR P S ρ (store a v >>= f) (store b v' >>= g) := by
  obtain ⟨ab, ao, as⟩ := a
  obtain ⟨bb, bo, bs⟩ := b
  obtain ⟨h1, h2, h3⟩ := h
  dsimp only at h1 h2 h3
  subst h2 h3
  exact .store ab bb ao as v v' _ _ h1 hv hf
theorem AR.push {ρ : BR} {cs ds : Array Value} (h : AR ρ cs ds) {v v' : Value} (hv : VR ρ v v') : AR ρ (cs.push v) (ds.push v') := by
  refine ⟨by simp [h.1], fun i x y hx hy => ?_⟩
  rw [Array.getElem?_push] at hx hy
  rw [h.1] at hx
  split at hx
  · rename_i hi
    rw [if_pos hi] at hy
    cases hx; cases hy
    exact hv
  · rename_i hi
    rw [if_neg hi] at hy
    exact h.2 i x y hx hy
theorem sr_loadFrom {a b : Addr} (h : AdR ρ a b) {f : Array Value → Sem γ} {g : Array Value → Sem δ} : ∀ (n i : Nat) (cs ds : Array Value), AR ρ cs ds → (∀ cs' ds', AR ρ cs' ds' → cs'.size = cs.size + n → SR P S ρ (f cs') (g ds')) → SR P S ρ (loadCellsFrom a i n cs >>= f) (loadCellsFrom b i n ds >>= g)
  | 0, i, cs, ds, hc, hf => hf cs ds hc rfl
  | n + 1, i, cs, ds, hc, hf => sr_load1 (f := fun v => loadCellsFrom a (i + 1) n (cs.push v) >>= f) (g := fun v => loadCellsFrom b (i + 1) n (ds.push v) >>= g) (h.add i) fun v v' hv => sr_loadFrom h n (i + 1) _ _ (hc.push hv) fun cs' ds' hc' hs => hf cs' ds' hc' (by rw [hs]; simp; omega)
theorem AR.nil (ρ : BR) : AR ρ #[] #[] := ⟨rfl, fun i x y hx => by simp at hx⟩
theorem sr_loadCells {a b : Addr} (h : AdR ρ a b) {f : Array Value → Sem γ} {g : Array Value → Sem δ} (n : Nat) (hf : ∀ cs ds, AR ρ cs ds → cs.size = n → SR P S ρ (f cs) (g ds)) : SR P S ρ (loadCells a n >>= f) (loadCells b n >>= g) :=
  sr_loadFrom h n 0 #[] #[] (AR.nil ρ) fun cs ds hc hs => hf cs ds hc (by simpa using hs)
/-- Lists. -/
def LR (ρ : BR) : List Value → List Value → Prop
  | [], [] => True
  | x :: xs, y :: ys => VR ρ x y ∧ LR ρ xs ys
  | _, _ => False
theorem AR.list {ρ : BR} {cs ds : Array Value} (h : AR ρ cs ds) : LR ρ cs.toList ds.toList := by
  obtain ⟨xs⟩ := cs
  obtain ⟨ys⟩ := ds
  obtain ⟨hs, hv⟩ := h
  simp only [List.size_toArray, List.getElem?_toArray] at hs hv
  show LR ρ xs ys
  induction xs generalizing ys with
  | nil => cases ys with
    | nil => trivial
    | cons y ys => simp at hs
  | cons x xs ih => cases ys with
    | nil => simp at hs
    | cons y ys => exact ⟨hv 0 x y rfl rfl, ih ys (by simpa using hs) fun i a b ha hb => hv (i + 1) a b (by simpa using ha) (by simpa using hb)⟩
theorem sr_storeCells {a b : Addr} (h : AdR ρ a b) {f : Unit → Sem γ} {g : Unit → Sem δ} (hf : SR P S ρ (f ()) (g ())) : ∀ (xs ys : List Value) (i : Nat), LR ρ xs ys → SR P S ρ (storeCells a xs i >>= f) (storeCells b ys i >>= g)
  | [], [], i, _ => hf
  | x :: xs, y :: ys, i, hl => sr_store1 (f := fun _ => storeCells a xs (i + 1) >>= f) (g := fun _ => storeCells b ys (i + 1) >>= g) (h.add i) hl.1 (sr_storeCells h hf xs ys (i + 1) hl.2)
  | [], _ :: _, i, hl => hl.elim
  | _ :: _, [], i, hl => hl.elim
theorem sr_newRow {cs ds : Array Value} (hc : AR ρ cs ds) (e : TypeId) {f : Addr → Sem γ} {g : Addr → Sem δ} (hf : ∀ r r', SR P S (ρ.add r r') (f ⟨r, 0, none⟩) (g ⟨r', 0, none⟩)) : SR P S ρ (newRow e cs >>= f) (newRow e ds >>= g) :=
  .new cs ds e _ _ hc fun r r' => hf r r'
theorem VR.cells {ρ : BR} {x y : Value} (h : VR ρ x y) : AR ρ x.cells y.cells := by
  have one : ∀ (x y : Value), VR ρ x y → AR ρ #[x] #[y] := fun x y h => ⟨rfl, fun i a b ha hb => by
    rcases i with _ | i
    · cases ha; cases hb; exact h
    · simp at ha⟩
  cases h with
  | agg cs ds h hv => exact ⟨h, hv⟩
  | tuple cs ds h hv => exact one _ _ (.tuple cs ds h hv)
  | bool b => exact one _ _ (.bool b)
  | int k n => exact one _ _ (.int k n)
  | str s => exact one _ _ (.str s)
  | ptr0 => exact one _ _ .ptr0
  | ptr b c o s h => exact one _ _ (.ptr b c o s h)
  | slice0 n m => exact one _ _ (.slice0 n m)
  | slice b c o s n m h => exact one _ _ (.slice b c o s n m h)
  | nilFunc => exact one _ _ .nilFunc
  | nilIface => exact one _ _ .nilIface
  | func f => exact one _ _ (.func f)
end
end Sim
end Go.Proofs.Ytaealkfnhhmmcaa
/- The operations of pure code, one by one. No condition. -/
namespace Go.Proofs.Ytaealkfnhhmmcaa
namespace Sim
set_option linter.unusedVariables false
def okV1 : Value → Bool
  | .bool _ | .int _ _ | .string _ | .pointer none | .slice none _ _ | .nilFunc | .nilIface => true
  | _ => false
def okV : Value → Bool
  | .agg cs => cs.all okV1
  | v => okV1 v
theorem vr_ok1 (ρ : BR) {v : Value} (h : okV1 v = true) : VR ρ v v := by
  unfold okV1 at h
  split at h
  · exact .bool _
  · exact .int _ _
  · exact .str _
  · exact .ptr0
  · exact .slice0 _ _
  · exact .nilFunc
  · exact .nilIface
  · cases h
theorem vr_ok (ρ : BR) {v : Value} (h : okV v = true) : VR ρ v v := by
  cases v with
  | agg cs =>
    refine .agg cs cs rfl fun i x y hx hy => ?_
    rw [hx] at hy
    cases hy
    have hi := getElem?_lt hx
    have := Array.all_eq_true.1 (show cs.all okV1 = true from h) i hi
    rw [Array.getElem?_eq_getElem hi] at hx
    cases hx
    exact vr_ok1 ρ this
  | _ => exact vr_ok1 ρ h
/-- The type's zero value names no block. -/
def okZ (P : Program) (t : TypeId) : Bool := match (P.info? t).bind (·.zero) with | some z => okV z | none => true
theorem okZ_vr {P : Program} {t : TypeId} (h : okZ P t = true) {i : TypeInfo} {z : Value} (hi : P.info? t = some i) (hz : i.zero = some z) (ρ : BR) : VR ρ z z := by
  simp only [okZ, hi, Option.bind_some, hz] at h
  exact vr_ok ρ h
def okField (P : Program) (t : TypeId) (n : Nat) : Bool := match P.underlying t with
  | some (.struct fs) => (match fs[n]? with | some f => (P.info? f.type).any (·.size != 0) | none => true)
  | _ => true
theorem dies_ite {α : Type} {c : Prop} [Decidable c] {a b : Sem α} (ha : Dies a) (hb : Dies b) : Dies (if c then a else b) := by
  split
  · exact ha
  · exact hb
theorem bind_pure' {α : Type} (m : Sem α) : m.bind Sem.pure = m := by
  induction m with
  | pure a => rfl
  | load m a k ih => simp only [Sem.bind, ih]
  | store m a v k ih => simp only [Sem.bind, ih]
  | new o k ih => simp only [Sem.bind, ih]
  | shape r k ih => simp only [Sem.bind, ih]
  | freeze a n k ih => simp only [Sem.bind, ih]
  | frozen a k ih => simp only [Sem.bind, ih]
  | getObj r k ih => simp only [Sem.bind, ih]
  | setObj r o k ih => simp only [Sem.bind, ih]
  | choose q k ih => simp only [Sem.bind, ih]
  | sys c k ih => simp only [Sem.bind, ih]
  | program k ih => simp only [Sem.bind, ih]
  | mark m k ih => simp only [Sem.bind, ih]
  | halt h => rfl
theorem dies_panic {α : Type} (v : Value) : Dies (goPanic v : Sem α) := .halt _ trivial
theorem dies_nil {α : Type} : Dies (runtimePanic .nilDeref : Sem α) := .program _ fun _ => dies_panic _
theorem dies_error {α : Type} (m : String) : Dies (runtimePanic (.error m) : Sem α) := .program _ fun _ => dies_panic _
theorem dies_bounds {α : Type} (x y : Int) (s : Bool) (c : BoundsCode) : Dies (runtimePanic (.bounds x y s c) : Sem α) := .program _ fun _ => dies_panic _
theorem dies_boundsPanic {α : Type} (k : IntKind) (x y : Int) (c : BoundsCode) : Dies (boundsPanic k x y c : Sem α) := by
  unfold boundsPanic
  split
  · exact .choose _ _ fun n => dies_bounds _ _ _ _
  · exact dies_bounds _ _ _ _
section
variable {P : Program} {ρ : BR}
theorem sr_pureV {x y : Value} (h : VR ρ x y) : SR P RV ρ (pure x) (pure y) := .pure x y h
theorem VR.ofAd {a b : Addr} (h : AdR ρ a b) : VR ρ (.pointer (some a)) (.pointer (some b)) := by
  obtain ⟨ab, ao, as⟩ := a
  obtain ⟨bb, bo, bs⟩ := b
  obtain ⟨h1, h2, h3⟩ := h
  dsimp only at h1 h2 h3
  subst h2 h3
  exact .ptr _ _ _ _ h1
theorem VR.ofAdS {a b : Addr} (h : AdR ρ a b) (n m : Nat) : VR ρ (.slice (some a) n m) (.slice (some b) n m) := by
  obtain ⟨ab, ao, as⟩ := a
  obtain ⟨bb, bo, bs⟩ := b
  obtain ⟨h1, h2, h3⟩ := h
  dsimp only at h1 h2 h3
  subst h2 h3
  exact .slice _ _ _ _ _ _ h1
theorem sr_sure {γ δ : Type} {S : BR → γ → δ → Prop} {x y : Value} (h : VR ρ x y) {f : Addr → Sem γ} {g : Addr → Sem δ} (hf : ∀ a b, AdR ρ a b → SR P S ρ (f a) (g b)) : SR P S ρ (Instr.sureAddr x >>= f) (Instr.sureAddr y >>= g) := by
  cases h with
  | ptr b c o s h => exact hf _ _ ⟨h, rfl, rfl⟩
  | _ => exact .dies _ _ (.halt _ (by trivial))
theorem sr_loadVar {t : TypeId} {a b : Addr} (h : AdR ρ a b) : SR P RV ρ (loadVar t a) (loadVar t b) := by
  unfold loadVar
  refine sr_isAgg fun bb => ?_
  cases bb with
  | true =>
    refine sr_size fun i hi => ?_
    exact sr_loadCells h _ fun cs ds hc hs => sr_pureV (.agg cs ds hc.1 hc.2)
  | false => exact sr_load1 (f := Sem.pure) (g := Sem.pure) h fun v v' hv => .pure v v' hv
theorem sr_loadAt {t : TypeId} {x y : Value} (h : VR ρ x y) : SR P RV ρ (Instr.loadAt t x) (Instr.loadAt t y) := sr_sure h fun a b hab => sr_loadVar hab
theorem sr_storeVar {t : TypeId} {a b : Addr} (h : AdR ρ a b) {x y : Value} (hv : VR ρ x y) : SR P RU ρ (storeVar t a x) (storeVar t b y) := by
  unfold storeVar
  refine sr_size fun i hi => ?_
  have hc := hv.cells
  have hs : y.cells.size = x.cells.size := hc.1.symm
  rw [hs]
  split
  · exact .dies _ _ (.halt _ (by trivial))
  · show SR P RU ρ (storeCells a x.cells.toList) (storeCells b y.cells.toList)
    rw [← bind_pure' (storeCells a x.cells.toList), ← bind_pure' (storeCells b y.cells.toList)]
    exact sr_storeCells (S := RU) (f := Sem.pure) (g := Sem.pure) h (.pure _ _ trivial) _ _ 0 hc.list
theorem sr_storeAt {t : TypeId} {x y u v : Value} (h : VR ρ x y) (hv : VR ρ u v) : SR P RU ρ (Instr.storeAt t x u) (Instr.storeAt t y v) := sr_sure h fun a b hab => sr_storeVar hab hv
theorem sr_newVar {t : TypeId} {x y : Value} (hv : VR ρ x y) : SR P RV ρ (do pure (.pointer (some (← newVar t x))) : Sem Value) (do pure (.pointer (some (← newVar t y))) : Sem Value) :=
  sr_newRow hv.cells t fun r r' => sr_pureV (.ptr r r' 0 none (.inr ⟨rfl, rfl⟩))
theorem sr_alloc {t : TypeId} (h : okZ P t = true) : SR P RV ρ (Instr.alloc t true (.tuple #[])) (Instr.alloc t true (.tuple #[])) := by
  unfold Instr.alloc
  exact sr_zero fun i z hi hz => sr_newVar (okZ_vr h hi hz ρ)
theorem sr_box {t : TypeId} {x y : Value} (hv : VR ρ x y) : SR P RV ρ (Instr.box t x) (Instr.box t y) := sr_newVar hv
theorem sr_extract {x y : Value} (h : VR ρ x y) (n : Nat) : SR P RV ρ (Instr.extract x n) (Instr.extract y n) := by
  cases h with
  | tuple cs ds hs hv =>
    unfold Instr.extract
    cases hx : cs[n]? with
    | none =>
      simp only [hx]
      exact .dies _ _ (.halt _ (by trivial))
    | some v =>
      obtain ⟨v', hv', hr⟩ := AR.get ⟨hs, hv⟩ hx
      simp only [hx, hv']
      exact sr_pureV hr
  | _ => exact .dies _ _ (.halt _ (by trivial))
theorem sr_fieldAt {t : TypeId} {x y : Value} (h : VR ρ x y) (n : Nat) (hok : okField P t n = true) :
    SR P RV ρ (Instr.fieldAt t x n) (Instr.fieldAt t y n) := by
  unfold Instr.fieldAt
  refine sr_und fun d hd => ?_
  simp only [okField, hd] at hok
  cases d with
  | struct fs =>
    dsimp only at hok ⊢
    cases hf : fs[n]? with
    | none => exact .dies _ _ (.halt _ (by trivial))
    | some f =>
      rw [hf] at hok
      dsimp only at hok ⊢
      refine sr_sure h fun a b hab => ?_
      unfold fieldPlace
      refine SR.bind (R := fun ρ a b => AdR ρ a b) ?_ fun ρ' a b hl hab => sr_pureV (.ofAd hab)
      refine sr_size fun i hi => ?_
      rw [hi] at hok
      have hne : ¬ i.size = 0 := by simpa using hok
      rw [if_neg hne, if_neg hne]
      exact .pure _ _ (hab.add _)
  | _ => exact .dies _ _ (.halt _ (by trivial))
theorem sr_asInt {γ δ : Type} {S : BR → γ → δ → Prop} {x y : Value} (h : VR ρ x y) {f : IntKind × Int → Sem γ} {g : IntKind × Int → Sem δ} (hf : ∀ k n, SR P S ρ (f (k, n)) (g (k, n))) : SR P S ρ (asIntOf x >>= f) (asIntOf y >>= g) := by
  cases h with
  | int k n => exact hf k n
  | _ => exact .dies _ _ (.halt _ (by trivial))
def idxRest (t : TypeId) (k : IntKind) (i : Int) (b : Option Addr × Nat × TypeId) : Sem Value := do
  let tiny := b.2.1 ≤ 1 && (match ← underlying t with | .array .. => true | _ => false)
  match b.1 with
  | some a =>
    if 0 ≤ i ∧ i < b.2.1 then pure (.pointer (some (a.add (i.toNat * (← sizeOf b.2.2)))))
    else if tiny then unsupported (.noEntry "op/indexAddr.an index out of range at an array of length 0 or 1 (ledger 616)")
    else boundsPanic k i b.2.1 .index
  | none => boundsPanic k i 0 .index
theorem sr_idxRest {t : TypeId} {k : IntKind} {n : Int} {len : Nat} {elem : TypeId} {a b : Option Addr} (h : (a = none ∧ b = none) ∨ ∃ p q, a = some p ∧ b = some q ∧ AdR ρ p q) : SR P RV ρ (idxRest t k n (a, len, elem)) (idxRest t k n (b, len, elem)) := by
  unfold idxRest
  refine sr_und fun d hd => ?_
  rcases h with ⟨rfl, rfl⟩ | ⟨p, q, rfl, rfl, hpq⟩
  · exact .dies _ _ (dies_boundsPanic _ _ _ _)
  · dsimp only
    split
    · exact sr_size fun i hi => sr_pureV (.ofAd (hpq.add _))
    · exact .dies _ _ (dies_ite (.halt _ (by trivial)) (dies_boundsPanic _ _ _ _))
theorem sr_indexAt {t : TypeId} {x y i j : Value} (h : VR ρ x y) (hi : VR ρ i j) : SR P RV ρ (Instr.indexAt t x i) (Instr.indexAt t y j) := by
  unfold Instr.indexAt
  refine sr_asInt hi fun k n => ?_
  dsimp only
  refine sr_und fun d hd => ?_
  cases d with
  | array len elem => exact sr_sure (f := fun a => idxRest t k n (some a, len, elem)) (g := fun a => idxRest t k n (some a, len, elem)) h fun a b hab => sr_idxRest (.inr ⟨a, b, rfl, rfl, hab⟩)
  | slice elem =>
    cases h with
    | slice0 n' m => exact sr_idxRest (t := t) (k := k) (n := n) (len := n') (elem := elem) (a := none) (b := none) (.inl ⟨rfl, rfl⟩)
    | slice b c o s n' m h => exact sr_idxRest (t := t) (k := k) (n := n) (len := n') (elem := elem) (a := some ⟨b, o, s⟩) (b := some ⟨c, o, s⟩) (.inr ⟨_, _, rfl, rfl, h, rfl, rfl⟩)
    | _ => exact .dies _ _ (.halt _ (by trivial))
  | _ => exact .dies _ _ (.halt _ (by trivial))
end
end Sim
end Go.Proofs.Ytaealkfnhhmmcaa
/- The operations of pure code, one by one: building, comparing, appending. No condition. -/
namespace Go.Proofs.Ytaealkfnhhmmcaa
namespace Sim
set_option linter.unusedVariables false
/-- Parts to build of. -/
def PL (ρ : BR) : List (Nat × Value) → List (Nat × Value) → Prop
  | [], [] => True
  | (i, x) :: xs, (j, y) :: ys => i = j ∧ VR ρ x y ∧ PL ρ xs ys
  | _, _ => False
section
variable {P : Program} {ρ : BR}
theorem fold_set {vs ws : List Value} (h : LR ρ vs ws) (off : Nat) : ∀ (k : Nat) (cs ds : Array Value), AR ρ cs ds →
    AR ρ ((vs.zipIdx k).foldl (fun cs (c, j) => cs.setIfInBounds (off + j) c) cs) ((ws.zipIdx k).foldl (fun cs (c, j) => cs.setIfInBounds (off + j) c) ds) := by
  induction vs generalizing ws with
  | nil => cases ws with
    | nil => exact fun k cs ds hc => hc
    | cons y ys => exact h.elim
  | cons x xs ih => cases ws with
    | nil => exact h.elim
    | cons y ys => exact fun k cs ds hc => ih h.2 (k + 1) _ _ (hc.set (off + k) h.1)
theorem fill_alike (place : Nat → Option (Nat × Nat)) : ∀ (ps qs : List (Nat × Value)) (cs ds : Array Value), PL ρ ps qs → AR ρ cs ds →
    (Instr.fill place cs ps = none ∧ Instr.fill place ds qs = none) ∨ ∃ a b, Instr.fill place cs ps = some a ∧ Instr.fill place ds qs = some b ∧ AR ρ a b
  | [], [], cs, ds, _, hc => .inr ⟨cs, ds, rfl, rfl, hc⟩
  | (i, x) :: ps, (j, y) :: qs, cs, ds, hp, hc => by
    obtain ⟨rfl, hx, hp⟩ := hp
    have hcl := hx.cells
    unfold Instr.fill
    cases hpl : place i with
    | none => exact .inl ⟨rfl, rfl⟩
    | some os =>
      obtain ⟨off, size⟩ := os
      dsimp only
      rw [← hcl.1, ← hc.1]
      split
      · exact .inl ⟨rfl, rfl⟩
      · refine fill_alike place ps qs _ _ hp ?_
        have := fold_set hcl.list off 0 cs ds hc
        have e : ∀ (vs cs : Array Value), vs.zipIdx.foldl (fun cs (c, j) => cs.setIfInBounds (off + j) c) cs = (vs.toList.zipIdx 0).foldl (fun cs (c, j) => cs.setIfInBounds (off + j) c) cs := fun vs cs => by
          rw [← Array.foldl_toList, Array.toList_zipIdx]
        rw [e, e]
        exact this
  | [], _ :: _, _, _, hp, _ => hp.elim
  | _ :: _, [], _, _, hp, _ => hp.elim
theorem sr_fill {place : Nat → Option (Nat × Nat)} {ps qs : List (Nat × Value)} {cs ds : Array Value} (hp : PL ρ ps qs) (hc : AR ρ cs ds) {γ δ : Type} {S : BR → γ → δ → Prop} {f : Option (Array Value) → Sem γ} {g : Option (Array Value) → Sem δ}
    (h0 : SR P S ρ (f none) (g none)) (h1 : ∀ a b, AR ρ a b → SR P S ρ (f (some a)) (g (some b))) : SR P S ρ (f (Instr.fill place cs ps)) (g (Instr.fill place ds qs)) := by
  rcases fill_alike place ps qs cs ds hp hc with ⟨e1, e2⟩ | ⟨a, b, e1, e2, hab⟩
  · rw [e1, e2]; exact h0
  · rw [e1, e2]; exact h1 a b hab
/-- The same on both sides. -/
def Same (P : Program) {α : Type} (m : Sem α) : Prop := ∀ ρ, SR P (fun _ (a b : α) => a = b) ρ m m
theorem Same.pure {α : Type} (a : α) : Same P (Sem.pure a) := fun _ => .pure _ _ rfl
theorem Same.bind {α β : Type} {m : Sem α} (h : Same P m) {f : α → Sem β} (hf : ∀ a, Same P (f a)) : Same P (m.bind f) := fun ρ => (h ρ).bind fun ρ' a b _ hab => by subst hab; exact hf a ρ'
theorem Same.dies {α : Type} {m : Sem α} (h : Dies m) : Same P m := fun _ => .dies _ _ h
theorem Same.size (t : TypeId) : Same P (sizeOf t) := fun ρ => by
  have := sr_size (P := P) (ρ := ρ) (S := fun _ (a b : Nat) => a = b) (t := t) (f := Sem.pure) (g := Sem.pure) fun i hi => .pure _ _ rfl
  rwa [show (sizeOf t >>= Sem.pure) = sizeOf t from bind_pure' _] at this
theorem Same.listM {α β : Type} {f : α → Sem β} (h : ∀ a, Same P (f a)) : ∀ l : List α, Same P (l.mapM f)
  | [] => by rw [List.mapM_nil]; exact Same.pure _
  | a :: l => by
    rw [List.mapM_cons]
    exact (h a).bind fun b => (Same.listM h l).bind fun bs => Same.pure _
theorem Same.mapM {α β : Type} {f : α → Sem β} (h : ∀ a, Same P (f a)) (as : Array α) : Same P (as.mapM f) := by
  rw [Array.mapM_eq_mapM_toList, map_eq_pure_bind]
  exact (Same.listM h _).bind fun bs => Same.pure _
theorem sr_same {α γ δ : Type} {S : BR → γ → δ → Prop} {m : Sem α} (h : Same P m) {f : α → Sem γ} {g : α → Sem δ} (hf : ∀ ρ', BR.le ρ ρ' → ∀ a, SR P S ρ' (f a) (g a)) : SR P S ρ (m >>= f) (m >>= g) :=
  (h ρ).bind fun ρ' a b hl hab => by subst hab; exact hf ρ' hl a
theorem PL.le {ρ ρ' : BR} (hl : BR.le ρ ρ') : ∀ {ps qs : List (Nat × Value)}, PL ρ ps qs → PL ρ' ps qs
  | [], [], _ => trivial
  | (i, x) :: ps, (j, y) :: qs, h => ⟨h.1, h.2.1.le hl, h.2.2.le hl⟩
  | [], _ :: _, h => h.elim
  | _ :: _, [], h => h.elim
theorem sr_build {t : TypeId} {ps qs : Array (Nat × Value)} (hok : okZ P t = true) (hp : PL ρ ps.toList qs.toList) : SR P RV ρ (Instr.build t ps) (Instr.build t qs) := by
  unfold Instr.build
  refine sr_zero fun i z hi hz => ?_
  have hzz := okZ_vr hok hi hz
  refine sr_und fun d hd => ?_
  cases d with
  | struct fs =>
    refine sr_same (Same.mapM (fun x => (Same.size x.type).bind fun n => Same.pure _) fs) fun ρ' hl l => ?_
    exact sr_fill (f := fun o => match o with | some cells => (Pure.pure (Value.agg cells) : Sem Value) | x => stuck "build: no such field, or a part of the wrong size") (g := fun o => match o with | some cells => (Pure.pure (Value.agg cells) : Sem Value) | x => stuck "build: no such field, or a part of the wrong size") (hp.le hl) ((hzz ρ').cells) (.dies _ _ (.halt _ (by trivial))) fun a b hab => sr_pureV (.agg a b hab.1 hab.2)
  | array n e =>
    refine sr_size fun i hi => ?_
    exact sr_fill (f := fun o => match o with | some cells => (Pure.pure (Value.agg cells) : Sem Value) | x => stuck "build: a part of the wrong size") (g := fun o => match o with | some cells => (Pure.pure (Value.agg cells) : Sem Value) | x => stuck "build: a part of the wrong size") hp ((hzz ρ).cells) (.dies _ _ (.halt _ (by trivial))) fun a b hab => sr_pureV (.agg a b hab.1 hab.2)
  | _ => exact .dies _ _ (.halt _ (by trivial))
end
end Sim
end Go.Proofs.Ytaealkfnhhmmcaa
/- The operations of pure code, one by one: slices, numbers, comparisons. No condition. -/
namespace Go.Proofs.Ytaealkfnhhmmcaa
namespace Sim
set_option linter.unusedVariables false
section
variable {P : Program} {ρ : BR}
theorem ar_rep {z : Array Value} (h : AR ρ z z) (n : Nat) : AR ρ ((Array.range n).map (z[· % z.size]!)) ((Array.range n).map (z[· % z.size]!)) := by
  refine ⟨rfl, fun i x y hx hy => ?_⟩
  rw [hx] at hy
  cases hy
  have hi := getElem?_lt hx
  simp only [Array.size_map, Array.size_range] at hi
  rw [Array.getElem?_map, Array.getElem?_range, if_pos hi] at hx
  simp only [Option.map_some, Option.some.injEq] at hx
  rw [← hx]
  rw [getElem!_def]
  cases hz : z[i % z.size]? with
  | none => exact .bool _
  | some v => exact h.2 _ _ _ hz hz
def bsRest (t : TypeId) (len : Nat) (elem : TypeId) (size : Nat) (parts : Array (Nat × Value)) (zero : Array Value) : Sem Value := do
  let some cells := Instr.fill (fun i => some (i * size, size)) ((Array.range (len * size)).map (zero[· % zero.size]!)) parts.toList
    | stuck "buildSlice: a part of the wrong size"
  pure (.slice (some (← newRow elem cells)) len len)
theorem sr_bsRest {t : TypeId} {len : Nat} {elem : TypeId} {size : Nat} {ps qs : Array (Nat × Value)} {z : Array Value} (hz : AR ρ z z) (hp : PL ρ ps.toList qs.toList) : SR P RV ρ (bsRest t len elem size ps z) (bsRest t len elem size qs z) := by
  unfold bsRest
  exact sr_fill (f := fun o => match o with | some cells => (do pure (.slice (some (← newRow elem cells)) len len) : Sem Value) | x => stuck "buildSlice: a part of the wrong size") (g := fun o => match o with | some cells => (do pure (.slice (some (← newRow elem cells)) len len) : Sem Value) | x => stuck "buildSlice: a part of the wrong size") hp (ar_rep hz _) (.dies _ _ (.halt _ (by trivial)))
    fun a b hab => sr_newRow hab elem fun r r' => sr_pureV (.slice r r' 0 none len len (.inr ⟨rfl, rfl⟩))
theorem sr_buildSlice {t : TypeId} {len : Nat} {ps qs : Array (Nat × Value)} (hok : ∀ e, P.underlying t = some (.slice e) → okZ P e = true) (hp : PL ρ ps.toList qs.toList) : SR P RV ρ (Instr.buildSlice t len ps) (Instr.buildSlice t len qs) := by
  unfold Instr.buildSlice
  refine sr_und fun d hd => ?_
  cases d with
  | slice elem =>
    refine sr_size fun i hi => ?_
    by_cases h1 : len * i.size > 2 ^ 24
    · simp only [if_pos h1]
      exact .dies _ _ (.halt _ (by trivial))
    · simp only [if_neg h1]
      by_cases h2 : len * i.size = 0
      · simp only [if_pos h2]
        exact sr_bsRest (t := t) (elem := elem) (size := i.size) (len := len) (AR.nil ρ) hp
      · simp only [if_neg h2]
        exact sr_zero (f := fun z => bsRest t len elem i.size ps z.cells) (g := fun z => bsRest t len elem i.size qs z.cells) fun i' z hi' hz => sr_bsRest (t := t) ((okZ_vr (hok _ hd) hi' hz ρ).cells) hp
  | _ => exact .dies _ _ (.halt _ (by trivial))
def msRest (elem : TypeId) (l c : Int) (n : Nat) (zero : Array Value) : Sem Value := do
  let a ← newRow elem ((Array.range n).map (zero[· % zero.size]!))
  pure (.slice (some a) l.toNat c.toNat)
theorem sr_msRest {elem : TypeId} {l c : Int} {n : Nat} {z : Array Value} (hz : AR ρ z z) : SR P RV ρ (msRest elem l c n z) (msRest elem l c n z) :=
  sr_newRow (ar_rep hz n) elem fun r r' => sr_pureV (.slice r r' 0 none _ _ (.inr ⟨rfl, rfl⟩))
theorem sr_room {γ δ : Type} {S : BR → γ → δ → Prop} (n : Nat) {f : Unit → Sem γ} {g : Unit → Sem δ} (h : SR P S ρ (f ()) (g ())) : SR P S ρ (askRoom n >>= f) (askRoom n >>= g) := by
  unfold askRoom
  split
  · exact .room _ _ h
  · exact h
theorem sr_asInt2 {γ δ : Type} {S : BR → γ → δ → Prop} {x y : Value} (h : VR ρ x y) {f : Int → Sem γ} {g : Int → Sem δ} (hf : ∀ n, SR P S ρ (f n) (g n)) : SR P S ρ (asInt x >>= f) (asInt y >>= g) := by
  cases h with
  | int k n => exact hf n
  | _ => exact .dies _ _ (.halt _ (by trivial))
theorem sr_makeSlice {t : TypeId} {x y u v : Value} (hok : ∀ e, P.underlying t = some (.slice e) → okZ P e = true) (hx : VR ρ x y) (hu : VR ρ u v) : SR P RV ρ (Instr.makeSlice t x u) (Instr.makeSlice t y v) := by
  unfold Instr.makeSlice
  refine sr_und fun d hd => ?_
  cases d with
  | slice elem =>
    refine sr_asInt2 hx fun n => ?_
    refine sr_asInt2 hu fun n' => ?_
    refine sr_info fun i hi => ?_
    generalize hb : ((decide (IntKind.i64.wrap n' < 0) || decide ((i.bytes : Int) * IntKind.i64.wrap n' > 2 ^ 48)) || decide (IntKind.i64.wrap n < 0) || decide (IntKind.i64.wrap n > IntKind.i64.wrap n')) = b
    simp only [hb]
    cases b with
    | true =>
      simp only [if_true]
      refine .dies _ _ (dies_ite ((dies_error _).bind _) (dies_ite ((dies_error _).bind _) ?_))
      exact .choose _ _ fun r => (dies_error _).bind _
    | false =>
      simp only [Bool.false_eq_true, if_false]
      refine sr_room _ ?_
      refine sr_size fun i' hi' => ?_
      by_cases h2 : (IntKind.i64.wrap n').toNat * i'.size = 0
      · simp only [if_pos h2]
        exact sr_msRest (AR.nil ρ)
      · simp only [if_neg h2]
        exact sr_zero (f := fun z => msRest elem _ _ _ z.cells) (g := fun z => msRest elem _ _ _ z.cells) fun i' z hi' hz => sr_msRest ((okZ_vr (hok _ hd) hi' hz ρ).cells)
  | _ => exact .dies _ _ (.halt _ (by trivial))
theorem sr_unary (op : UnOp) {x y : Value} (h : VR ρ x y) : SR P RV ρ (Op.unary op x) (Op.unary op y) := by
  cases h with
  | int k n => cases op <;> first | exact sr_pureV (.int _ _) | exact .dies _ _ (.halt _ (by trivial))
  | bool b => cases op <;> first | exact sr_pureV (.bool _) | exact .dies _ _ (.halt _ (by trivial))
  | _ => cases op <;> exact .dies _ _ (.halt _ (by trivial))
theorem sr_convert {s d : TypeId} {ks kd : IntKind} (hs : P.underlying s = some (.int ks)) (hd : P.underlying d = some (.int kd)) {x y : Value} (h : VR ρ x y) : SR P RV ρ (convert s d x) (convert s d y) := by
  unfold convert
  refine sr_und fun a ha => ?_
  rw [hs] at ha
  cases ha
  refine sr_und fun b hb => ?_
  rw [hd] at hb
  cases hb
  cases h with
  | int k n => exact sr_pureV (.int _ _)
  | _ => exact .dies _ _ (.halt _ (by trivial))
theorem sr_len {ts : Array TypeId} {t : TypeId} {x y : Value} (h : VR ρ x y) : SR P RV ρ (Builtin.len_ ts t #[x]) (Builtin.len_ ts t #[y]) := by
  unfold Builtin.len_
  cases ht : ts[0]? with
  | none => exact .dies _ _ (.halt _ (by trivial))
  | some t0 =>
    simp only [List.getElem?_toArray, List.getElem?_cons_zero]
    refine sr_und fun d hd => ?_
    cases d with
    | string => cases h <;> first | exact sr_pureV (.int _ _) | exact .dies _ _ (.halt _ (by trivial))
    | array n e => exact sr_pureV (.int _ _)
    | pointer arr =>
      refine sr_und fun d' hd' => ?_
      cases d' <;> first | exact sr_pureV (.int _ _) | exact .dies _ _ (.halt _ (by trivial))
    | slice e => cases h <;> first | exact sr_pureV (.int _ _) | exact .dies _ _ (.halt _ (by trivial))
    | map a b => cases h <;> exact .dies _ _ (.halt _ (by trivial))
    | chan a b => cases h <;> exact .dies _ _ (.halt _ (by trivial))
    | _ => exact .dies _ _ (.halt _ (by trivial))
end
end Sim
end Go.Proofs.Ytaealkfnhhmmcaa
/- The operations of pure code: comparing. No condition. -/
namespace Go.Proofs.Ytaealkfnhhmmcaa
namespace Sim
set_option linter.unusedVariables false
/-- Types whose values name no block. -/
def okEq (P : Program) : Nat → TypeId → Bool
  | 0, _ => false
  | n + 1, t => match P.underlying t with
    | some .bool | some (.int _) | some .string => true
    | some (.struct fs) => fs.toList.all fun f => okEq P n f.type
    | some (.array _ e) => okEq P n e
    | _ => false
def RE {α : Type} : BR → α → α → Prop := fun _ a b => a = b
section
variable {P : Program} {ρ : BR}
theorem pb {α β : Type} (a : α) (f : α → Sem β) : (Sem.pure a).bind f = f a := rfl
theorem sr_part {t : TypeId} {cs ds : Array Value} (h : AR ρ cs ds) (off : Nat) : SR P RV ρ (part t cs off) (part t ds off) := by
  unfold part
  refine sr_isAgg fun b => ?_
  cases b with
  | true =>
    refine sr_size fun i hi => sr_pureV (.agg _ _ (by simp [h.1]) fun j x y hx hy => ?_)
    rw [Array.getElem?_extract] at hx hy
    rw [h.1] at hx
    split at hx
    · rename_i hj
      rw [if_pos hj] at hy
      exact h.2 _ _ _ hx hy
    · cases hx
  | false =>
    cases hx : cs[off]? with
    | none =>
      exact .dies _ _ (.halt _ (by trivial))
    | some v =>
      obtain ⟨v', hv', hr⟩ := h.get hx
      simp only [hv']
      exact sr_pureV hr
theorem sr_behind {γ δ : Type} {S : BR → γ → δ → Prop} {a b : Addr} (h : AdR ρ a b) {f : Addr × Bool → Sem γ} {g : Addr × Bool → Sem δ} (hf : ∀ a b l, AdR ρ a b → SR P S ρ (f (a, l)) (g (b, l))) : SR P S ρ (behindNumber a >>= f) (behindNumber b >>= g) :=
  .shape _ _ _ _ h.1 fun x => match x with
    | some x => hf a b false h
    | none => .getObj _ _ _ _ h.1 fun b1 c1 o1 s1 l1 h1 => hf ⟨b1, o1, s1⟩ ⟨c1, o1, s1⟩ l1 ⟨h1, rfl, rfl⟩
theorem sr_viewAt {γ δ : Type} {S : BR → γ → δ → Prop} {a b : Nat} (h : ρ a b) {f : Option (Addr × TypeId) → Sem γ} {g : Option (Addr × TypeId) → Sem δ} (hf : SR P S ρ (f none) (g none)) : SR P S ρ (viewAt a >>= f) (viewAt b >>= g) :=
  .shape _ _ _ _ h fun x => match x with
    | some x => hf
    | none => .getObj _ _ _ _ h fun b1 c1 o1 s1 l1 h1 => hf
theorem sr_byteOf {a b : Addr} (h : AdR ρ a b) : SR P RE ρ (byteOf a) (byteOf b) := by
  obtain ⟨ab, ao, as⟩ := a
  obtain ⟨bb, bo, bs⟩ := b
  obtain ⟨h1, h2, h3⟩ := h
  dsimp only at h1 h2 h3
  subst h2 h3
  unfold byteOf
  cases as with
  | some s => exact .pure _ _ rfl
  | none =>
    refine .program _ _ ?_
    have hrest : ∀ x : Option (TypeId × Nat), SR P RE ρ (match x with
        | some (e, _) => if P.cellsOf e = 0 then (Sem.pure 0 : Sem Nat) else (match byteOfCell P P.depth e (ao % P.cellsOf e) with | some b => Sem.pure (ao / P.cellsOf e * P.bytesOf e + b) | _ => stuck "byteOf: no such cell")
        | _ => stuck "byteOf: no such block") (match x with
        | some (e, _) => if P.cellsOf e = 0 then (Sem.pure 0 : Sem Nat) else (match byteOfCell P P.depth e (ao % P.cellsOf e) with | some b => Sem.pure (ao / P.cellsOf e * P.bytesOf e + b) | _ => stuck "byteOf: no such cell")
        | _ => stuck "byteOf: no such block") := by
      intro x
      cases x with
      | none => exact .dies _ _ (.halt _ (by trivial))
      | some y =>
        obtain ⟨e, n⟩ := y
        dsimp only
        split
        · exact .pure _ _ rfl
        · cases hb : byteOfCell P P.depth e (ao % P.cellsOf e) with
          | none => exact .dies _ _ (.halt _ (by trivial))
          | some n => exact .pure _ _ rfl
    refine .shape _ _ _ _ h1 fun x => ?_
    cases x with
    | some x => exact .shape _ _ _ _ h1 fun y => match y with
      | none => hrest none
      | some y => hrest (some y)
    | none => exact .getObj _ _ _ _ h1 fun b1 c1 o1 s1 l1 h3 => .shape _ _ _ _ h1 fun y => match y with
      | none => hrest none
      | some y => hrest (some y)
theorem AdR.beq {a b c d : Addr} (h : AdR ρ a b) (k : AdR ρ c d) (hf : ∀ b c c', ρ b c → ρ b c' → c = c') (hi : ∀ b b' c, ρ b c → ρ b' c → b = b') : (a == c) = (b == d) ∧ (a.block == c.block) = (b.block == d.block) := by
  have e : a.block = c.block ↔ b.block = d.block := ⟨fun e => hf a.block _ _ h.1 (e ▸ k.1), fun e => hi _ _ b.block h.1 (e ▸ k.1)⟩
  refine ⟨?_, ?_⟩
  · have e2 : a = c ↔ b = d := by
      obtain ⟨ab, ao, as⟩ := a
      obtain ⟨bb, bo, bs⟩ := b
      obtain ⟨cb, co, cs⟩ := c
      obtain ⟨db, do', ds⟩ := d
      obtain ⟨_, h2, h3⟩ := h
      obtain ⟨_, k2, k3⟩ := k
      dsimp only at h2 h3 k2 k3 e
      subst h2 h3 k2 k3
      simp only [Addr.mk.injEq, e]
    rw [Bool.eq_iff_iff, beq_iff_eq, beq_iff_eq]
    exact e2
  · rw [Bool.eq_iff_iff, beq_iff_eq, beq_iff_eq]
    exact e
theorem sr_forIn {α β : Type} {f g : α → β → Sem (ForInStep β)} : ∀ (l : List α) (ρ : BR) (b : β), (∀ ρ', BR.le ρ ρ' → ∀ a b, a ∈ l → SR P RE ρ' (f a b) (g a b)) → SR P RE ρ (forIn l b f) (forIn l b g)
  | [], ρ, b, h => by
    rw [List.forIn_nil, List.forIn_nil]
    exact .pure _ _ rfl
  | a :: l, ρ, b, h => by
    rw [List.forIn_cons, List.forIn_cons]
    refine (h ρ (BR.le_refl _) a b (by simp)).bind fun ρ' s s' hl hs => ?_
    cases hs
    cases s with
    | done b => exact .pure _ _ rfl
    | yield b => exact sr_forIn l ρ' b fun ρ'' hl' a b ha => h ρ'' (BR.le_trans hl hl') a b (by simp [ha])
theorem sr_equalIn : ∀ (n d : Nat) (t : TypeId) (ρ : BR) {x x' y y' : Value}, okEq P n t = true → VR ρ x x' → VR ρ y y' → SR P RE ρ (Op.equalIn d t x y) (Op.equalIn d t x' y')
  | 0, _, _, _, _, _, _, _, h, _, _ => by simp [okEq] at h
  | n + 1, 0, t, ρ, x, x', y, y', h, hx, hy => by
    unfold Op.equalIn
    exact .dies _ _ (.halt _ (by trivial))
  | n + 1, d + 1, t, ρ, x, x', y, y', h, hx, hy => by
    unfold Op.equalIn
    refine sr_und fun dd hd => ?_
    rw [okEq, hd] at h
    cases dd with
    | bool => cases hx <;> cases hy <;> first | exact .pure _ _ rfl | exact .dies _ _ (.halt _ (by trivial))
    | string => cases hx <;> cases hy <;> first | exact .pure _ _ rfl | exact .dies _ _ (.halt _ (by trivial))
    | int k =>
      cases hx with
      | int k1 n1 => cases hy with
        | int k2 n2 =>
          dsimp only
          split
          · exact .pure _ _ rfl
          · exact .dies _ _ (.halt _ (by trivial))
        | ptr b c o s hb => rcases n1 with (_ | n1) | n1 <;> first | exact .pure _ _ rfl | exact .dies _ _ (.halt _ (by trivial))
        | _ => exact .dies _ _ (.halt _ (by trivial))
      | ptr b c o s hb =>
        cases hy with
        | int k2 n2 => rcases n2 with (_ | n2) | n2 <;> first | exact .pure _ _ rfl | exact .dies _ _ (.halt _ (by trivial))
        | ptr b2 c2 o2 s2 hb2 =>
          dsimp only
          refine sr_behind (a := ⟨b, o, s⟩) (b := ⟨c, o, s⟩) ⟨hb, rfl, rfl⟩ fun a1 b1 l1 h1 => ?_
          refine sr_behind (a := ⟨b2, o2, s2⟩) (b := ⟨c2, o2, s2⟩) ⟨hb2, rfl, rfl⟩ fun a2 b2 l2 h2 => ?_
          refine .given _ _ fun g1 g2 g3 => .program _ _ ?_
          obtain ⟨q1, q2⟩ := AdR.beq h1 h2 g1 g2
          have g4 : decide (a1.block < P.globals.size) = decide (b1.block < P.globals.size) := by rw [decide_eq_decide]; exact g3 _ _ h1.1
          dsimp only
          rw [q2]
          simp only [pb, g4]
          by_cases hc : (b1.block == b2.block && decide (b1.block < P.globals.size)) = true
          · simp only [if_pos hc]
            refine (sr_byteOf h1).bind fun ρ1 u u' hl hu => ?_
            refine (sr_byteOf (ρ := ρ1) (a := a2) (b := b2) ⟨hl _ _ h2.1, h2.2⟩).bind fun ρ2 v v' hl2 hv => ?_
            cases hu
            cases hv
            exact .pure _ _ rfl
          · simp only [if_neg hc]
            refine sr_info fun i hi => ?_
            split
            · rw [q1]
              split
              · exact .pure _ _ rfl
              · exact .dies _ _ (.halt _ (by trivial))
            · exact .dies _ _ (.halt _ (by trivial))
        | _ => exact .dies _ _ (.halt _ (by trivial))
      | _ => cases hy <;> exact .dies _ _ (.halt _ (by trivial))
    | struct fs =>
      cases hx with
      | agg cs ds hs hv => cases hy with
        | agg cs2 ds2 hs2 hv2 =>
          refine .program _ _ ?_
          simp only [pb]
          by_cases hst : P.stoodInHeld t = true
          · simp only [if_pos hst]
            exact .dies _ _ (.halt _ (by trivial))
          · simp only [if_neg hst]
            refine SR.bind (R := RE) ?_ fun ρ' r r' hl hr => ?_
            · rw [← Array.forIn_toList, ← Array.forIn_toList]
              refine sr_forIn _ _ _ fun ρ' hl f b hf => ?_
              have hokf := List.all_eq_true.1 h f hf
              split
              · refine (sr_part (ρ := ρ') ⟨hs, fun i x y hx hy => (hv i x y hx hy).le hl⟩ _).bind fun ρ2 u u' hl2 hu => ?_
                refine (sr_part (ρ := ρ2) ⟨hs2, fun i x y hx hy => ((hv2 i x y hx hy).le hl).le hl2⟩ _).bind fun ρ3 v v' hl3 hv' => ?_
                refine (sr_equalIn n d f.type ρ3 hokf (hu.le hl3) hv').bind fun ρ4 r r' hl4 hr => ?_
                cases hr
                cases r <;> exact .pure _ _ rfl
              · exact .pure _ _ rfl
            · cases hr
              obtain ⟨o, u⟩ := r
              cases o <;> exact .pure _ _ rfl
        | _ => exact .dies _ _ (.halt _ (by trivial))
      | _ => exact .dies _ _ (.halt _ (by trivial))
    | array m e =>
      cases hx with
      | agg cs ds hs hv => cases hy with
        | agg cs2 ds2 hs2 hv2 =>
          refine sr_size fun i hi => ?_
          refine SR.bind (R := RE) ?_ fun ρ' r r' hl hr => ?_
          · rw [Std.Legacy.Range.forIn_eq_forIn_range', Std.Legacy.Range.forIn_eq_forIn_range']
            refine sr_forIn _ _ _ fun ρ' hl k b hf => ?_
            refine (sr_part (ρ := ρ') ⟨hs, fun i x y hx hy => (hv i x y hx hy).le hl⟩ _).bind fun ρ2 u u' hl2 hu => ?_
            refine (sr_part (ρ := ρ2) ⟨hs2, fun i x y hx hy => ((hv2 i x y hx hy).le hl).le hl2⟩ _).bind fun ρ3 v v' hl3 hv' => ?_
            refine (sr_equalIn n d e ρ3 h (hu.le hl3) hv').bind fun ρ4 r r' hl4 hr => ?_
            cases hr
            cases r <;> exact .pure _ _ rfl
          · cases hr
            obtain ⟨o, u⟩ := r
            cases o <;> exact .pure _ _ rfl
        | _ => exact .dies _ _ (.halt _ (by trivial))
      | _ => exact .dies _ _ (.halt _ (by trivial))
    | _ => cases h
end
end Sim
end Go.Proofs.Ytaealkfnhhmmcaa
/- The operations of pure code: reckoning. No condition. -/
namespace Go.Proofs.Ytaealkfnhhmmcaa
namespace Sim
set_option linter.unusedVariables false
section
variable {P : Program} {ρ : BR}
/-- Addresses that are there. -/
def RP : BR → Value → Value → Prop := fun ρ x y => ∃ b c o s, ρ b c ∧ x = .pointer (some ⟨b, o, s⟩) ∧ y = .pointer (some ⟨c, o, s⟩)
theorem SR.mono {α β : Type} {R R' : BR → α → β → Prop} {m : Sem α} {m' : Sem β} (h : SR P R ρ m m') (hr : ∀ ρ a b, R ρ a b → R' ρ a b) : SR P R' ρ m m' := by
  rw [← bind_pure' m, ← bind_pure' m']
  exact h.bind fun ρ' a b hl hab => .pure _ _ (hr _ _ _ hab)
theorem RP.vr {x y : Value} (h : RP ρ x y) : VR ρ x y := by
  obtain ⟨b, c, o, s, hb, rfl, rfl⟩ := h
  exact .ptr b c o s hb
theorem sr_unsafeAdd {t : TypeId} {x x' y y' : Value} (hx : VR ρ x x') (hy : VR ρ y y') : SR P RP ρ (Builtin.unsafeAdd_ #[] t #[x, y]) (Builtin.unsafeAdd_ #[] t #[x', y']) := by
  unfold Builtin.unsafeAdd_
  cases hx with
  | ptr0 =>
    refine sr_asInt2 hy fun n => ?_
    by_cases h1 : n = 0
    · simp only [if_pos h1]
      exact .dies _ _ (.halt _ (by trivial))
    · simp only [if_neg h1]
      by_cases h2 : n < 0
      · simp only [if_pos h2]
        exact .dies _ _ (.halt _ (by trivial))
      · simp only [if_neg h2]
        exact .dies _ _ (.halt _ (by trivial))
  | ptr b c o s hb =>
    refine sr_asInt2 hy fun n => ?_
    by_cases h1 : n = 0
    · simp only [if_pos h1]
      exact sr_viewAt hb (.pure _ _ ⟨b, c, o, s, hb, rfl, rfl⟩)
    · simp only [if_neg h1]
      by_cases h2 : n < 0
      · simp only [if_pos h2]
        exact .dies _ _ (.halt _ (by trivial))
      · simp only [if_neg h2]
        refine .shape _ _ _ _ hb fun x => ?_
        cases x with
        | none => exact .dies _ _ (.halt _ (by trivial))
        | some x =>
          obtain ⟨e, cells⟩ := x
          refine .program _ _ ?_
          simp only [pb]
          cases hc : cellAtBytes P P.depth e (cells / P.cellsOf e) o n with
          | none => exact .dies _ _ (.halt _ (by trivial))
          | some off => exact .pure _ _ ⟨b, c, off, s, hb, rfl, rfl⟩
  | _ => exact .dies _ _ (.halt _ (by trivial))
theorem sr_moved {t : TypeId} {x x' y y' : Value} (hx : VR ρ x x') (hy : VR ρ y y') : SR P RV ρ (movedNumber t x y) (movedNumber t x' y') := by
  unfold movedNumber
  refine sr_und fun d hd => ?_
  have hrest : ∀ {x x' : Value}, VR ρ x x' → SR P RV ρ (match x with
      | .pointer (some n) => (behindNumber n >>= fun q => Builtin.unsafeAdd_ #[] t #[.pointer (some q.1), y] >>= fun r => match r with
        | .pointer (some b) => asNumber b q.2
        | v => pure v : Sem Value)
      | x => Builtin.unsafeAdd_ #[] t #[x, y]) (match x' with
      | .pointer (some n) => (behindNumber n >>= fun q => Builtin.unsafeAdd_ #[] t #[.pointer (some q.1), y'] >>= fun r => match r with
        | .pointer (some b) => asNumber b q.2
        | v => pure v : Sem Value)
      | x => Builtin.unsafeAdd_ #[] t #[x, y']) := by
    intro x x' hx
    cases hx with
    | ptr b c o s hb =>
      refine sr_behind (a := ⟨b, o, s⟩) (b := ⟨c, o, s⟩) ⟨hb, rfl, rfl⟩ fun a1 b1 l h1 => ?_
      refine (sr_unsafeAdd (t := t) (VR.ofAd h1) hy).bind fun ρ' u u' hl hu => ?_
      obtain ⟨b2, c2, o2, s2, hb2, rfl, rfl⟩ := hu
      exact .newN b2 c2 o2 s2 l _ _ hb2 fun r r' => sr_pureV (.ptr r r' 0 none (.inr ⟨rfl, rfl⟩))
    | ptr0 => exact (sr_unsafeAdd .ptr0 hy).mono fun _ _ _ h => h.vr
    | _ => exact .dies _ _ (.halt _ (by trivial))
  cases d with
  | unsafePointer => exact .dies _ _ (.halt _ (by trivial))
  | _ =>
    simp only [Bool.false_eq_true, if_false]
    cases hx with
    | ptr b c o s hb => exact hrest (.ptr b c o s hb)
    | ptr0 => exact hrest .ptr0
    | _ => exact .dies _ _ (.halt _ (by trivial))
theorem sr_two {a b c d : Addr} (h : AdR ρ a b) (k : AdR ρ c d) : SR P RE ρ (Op.twoPlaces a c) (Op.twoPlaces b d) := by
  unfold Op.twoPlaces
  refine .given _ _ fun g1 g2 g3 => .program _ _ ?_
  obtain ⟨q1, q2⟩ := AdR.beq h k g1 g2
  have g4 : decide (a.block ≥ P.globals.size) = decide (b.block ≥ P.globals.size) := by rw [decide_eq_decide]; have := g3 _ _ h.1; omega
  simp only [pb, bne, q2, g4]
  by_cases hc : (!(b.block == d.block) || decide (b.block ≥ P.globals.size)) = true
  · simp only [if_pos hc]
    exact .dies _ _ (.halt _ (by trivial))
  · simp only [if_neg hc]
    refine (sr_byteOf h).bind fun ρ1 u u' hl hu => ?_
    refine (sr_byteOf (ρ := ρ1) (a := c) (b := d) ⟨hl _ _ k.1, k.2⟩).bind fun ρ2 v v' hl2 hv => ?_
    cases hu
    cases hv
    exact .pure _ _ rfl
theorem sr_addrSub {k : IntKind} {a b c d : Addr} (h : AdR ρ a b) (h2 : AdR ρ c d) : SR P RV ρ (Op.addrSub k a c) (Op.addrSub k b d) := by
  unfold Op.addrSub
  refine (sr_two h h2).bind fun ρ1 u u' hl hu => ?_
  cases hu
  exact sr_pureV (.int _ _)
theorem sr_addrCmp {op : BinOp} {a b c d : Addr} (h : AdR ρ a b) (h2 : AdR ρ c d) : SR P RV ρ (Op.addrCmp op a c) (Op.addrCmp op b d) := by
  unfold Op.addrCmp
  refine (sr_two h h2).bind fun ρ1 u u' hl hu => ?_
  cases hu
  cases op <;> first | exact sr_pureV (.bool _) | exact .dies _ _ (.halt _ (by trivial))
theorem sr_addrMod {k : IntKind} {a b : Addr} (h : AdR ρ a b) (n : Int) : SR P RV ρ (Op.addrMod k a n) (Op.addrMod k b n) := by
  unfold Op.addrMod
  refine .shape _ _ _ _ h.1 fun x => ?_
  cases x with
  | none => exact .dies _ _ (.halt _ (by trivial))
  | some x =>
    obtain ⟨e, m⟩ := x
    refine sr_info fun i hi => ?_
    by_cases hc : (decide (n < 1) || decide (n.toNat > i.align) || i.align % n.toNat != 0) = true
    · simp only [if_pos hc]
      exact .dies _ _ (.halt _ (by trivial))
    · simp only [if_neg hc]
      refine (sr_byteOf h).bind fun ρ1 u u' hl hu => ?_
      cases hu
      exact sr_pureV (.int _ _)
theorem same_int (op : BinOp) (k : IntKind) (a b : Int) : SR P RV ρ (Op.intArith op k a b) (Op.intArith op k a b) := by
  unfold Op.intArith
  split <;> first | exact sr_pureV (.int _ _) | exact .dies _ _ (.halt _ (by trivial))
theorem same_div (op : BinOp) (k : IntKind) (a b : Int) : SR P RV ρ (Op.intDiv op k a b) (Op.intDiv op k a b) := by
  unfold Op.intDiv
  split
  · exact .dies _ _ (dies_error _)
  · split <;> first | exact sr_pureV (.int _ _) | exact .dies _ _ (.halt _ (by trivial))
theorem same_bits (op : BinOp) (k : IntKind) (a b : Int) : SR P RV ρ (Op.intBits op k a b) (Op.intBits op k a b) := by
  unfold Op.intBits
  cases op <;> first | exact sr_pureV (.int _ _) | exact .dies _ _ (.halt _ (by trivial))
theorem same_cmp (op : BinOp) (a b : Int) : SR P RV ρ (Op.intCmp op a b) (Op.intCmp op a b) := by
  unfold Op.intCmp
  split <;> first | exact sr_pureV (.bool _) | exact .dies _ _ (.halt _ (by trivial))
theorem same_str (op : BinOp) (a b : ByteArray) : SR P RV ρ (Op.stringOp op a b) (Op.stringOp op a b) := by
  unfold Op.stringOp
  cases op <;> first | exact sr_pureV (.bool _) | exact .dies _ _ (.halt _ (by trivial)) | skip
  dsimp only
  split
  · exact .dies _ _ (.halt _ (by trivial))
  · exact sr_pureV (.str _)
theorem sr_bMod {k : IntKind} {a b : Addr} (h : AdR ρ a b) (n : Int) : SR P RV ρ (do Op.addrMod k (← behindNumber a).1 n : Sem Value) (do Op.addrMod k (← behindNumber b).1 n : Sem Value) := sr_behind h fun a b l h => sr_addrMod h n
theorem sr_bSub {k : IntKind} {a b c d : Addr} (h : AdR ρ a b) (h2 : AdR ρ c d) : SR P RV ρ (do Op.addrSub k (← behindNumber a).1 (← behindNumber c).1 : Sem Value) (do Op.addrSub k (← behindNumber b).1 (← behindNumber d).1 : Sem Value) := sr_behind h fun a b l h => sr_behind h2 fun c d l h2 => sr_addrSub h h2
theorem sr_bCmp {op : BinOp} {a b c d : Addr} (h : AdR ρ a b) (h2 : AdR ρ c d) : SR P RV ρ (do Op.addrCmp op (← behindNumber a).1 (← behindNumber c).1 : Sem Value) (do Op.addrCmp op (← behindNumber b).1 (← behindNumber d).1 : Sem Value) := sr_behind h fun a b l h => sr_behind h2 fun c d l h2 => sr_addrCmp h h2
theorem sr_add0 {t : TypeId} {x x' y y' : Value} (hx : VR ρ x x') (hy : VR ρ y y') : SR P RV ρ (do if (← underlying t) matches .unsafePointer then movedPointer t x y else movedNumber t x y : Sem Value) (do if (← underlying t) matches .unsafePointer then movedPointer t x' y' else movedNumber t x' y' : Sem Value) := by
  refine sr_und fun d hd => ?_
  cases d with
  | unsafePointer =>
    simp only [if_true]
    unfold movedPointer
    have hadd := (sr_unsafeAdd (P := P) (t := t) hx hy).mono (R' := RV) fun _ _ _ h => h.vr
    cases hx with
    | ptr b c o s hb =>
      refine .shape _ _ _ _ hb fun q => ?_
      cases q with
      | some q => exact hadd
      | none => exact .getObj _ _ _ _ hb fun b1 c1 o1 s1 l1 h1 => .dies _ _ (.halt _ (by trivial))
    | ptr0 => exact hadd
    | _ => exact .dies _ _ (.halt _ (by trivial))
  | _ =>
    simp only [Bool.false_eq_true, if_false]
    exact sr_moved hx hy
/-- What a comparison or a reckoning of whole numbers wants. -/
def okBin (P : Program) (op : BinOp) (t : TypeId) : Bool := match op with
  | .shl | .shr | .and | .or | .xor | .andNot => false
  | .eql | .neq => okEq P 10 t && !P.eqGuardType P.depth t
  | _ => true
theorem sr_eql {t : TypeId} {x x' y y' : Value} (h : okEq P 10 t = true) (hx : VR ρ x x') (hy : VR ρ y y') : SR P RV ρ (do pure (.bool (← Op.equal t x y)) : Sem Value) (do pure (.bool (← Op.equal t x' y')) : Sem Value) :=
  (sr_equalIn 10 Op.maxDepth t ρ h hx hy).bind fun ρ' a b hl hab => by
    cases hab
    exact sr_pureV (.bool _)
theorem sr_neq {t : TypeId} {x x' y y' : Value} (h : okEq P 10 t = true) (hx : VR ρ x x') (hy : VR ρ y y') : SR P RV ρ (do pure (.bool (!(← Op.equal t x y))) : Sem Value) (do pure (.bool (!(← Op.equal t x' y'))) : Sem Value) :=
  (sr_equalIn 10 Op.maxDepth t ρ h hx hy).bind fun ρ' a b hl hab => by
    cases hab
    exact sr_pureV (.bool _)
end
end Sim
end Go.Proofs.Ytaealkfnhhmmcaa
/- The operations of pure code: the operation itself. No condition. -/
namespace Go.Proofs.Ytaealkfnhhmmcaa
namespace Sim
set_option linter.unusedVariables false
section
variable {P : Program} {ρ : BR}
theorem dies_eqR (t : TypeId) (x : Value) : Dies (Op.equal t x undef) := by
  refine .program _ fun p => ?_
  show Dies (Sem.bind (match p.underlying t with | some d => pure d | none => stuck "no such type") _)
  cases p.underlying t with
  | none => exact .halt _ (by trivial)
  | some d =>
    cases d <;> (cases x <;> first | exact .halt _ (by trivial) | (rename_i a; cases a <;> exact .halt _ (by trivial)) | (rename_i a n c; cases a <;> exact .halt _ (by trivial)))
theorem dies_eqL (t : TypeId) (x : Value) : Dies (Op.equal t undef x) := by
  refine .program _ fun p => ?_
  show Dies (Sem.bind (match p.underlying t with | some d => pure d | none => stuck "no such type") _)
  cases p.underlying t with
  | none => exact .halt _ (by trivial)
  | some d =>
    cases d <;> (cases x <;> first | exact .halt _ (by trivial) | (rename_i a; cases a <;> exact .halt _ (by trivial)) | (rename_i a n c; cases a <;> exact .halt _ (by trivial)))
set_option maxHeartbeats 4000000 in
theorem sr_binOp {op : BinOp} {t : TypeId} {x x' y y' : Value} (h : okBin P op t = true) (hx : VR ρ x x') (hy : VR ρ y y') : SR P RV ρ (binOp op t x y) (binOp op t x' y') := by
  have heq : op = .eql ∨ op = .neq → okEq P 10 t = true := by
    rintro (rfl | rfl) <;> (simp only [okBin, Bool.and_eq_true] at h; exact h.1)
  have hX := hx
  have hY := hy
  cases hx with
  | int k a => cases hy with
    | int k' b =>
      by_cases hk : k = k'
      · subst hk
        cases op <;> first | (cases h; done) | (simp only [binOp, ne_eq, not_true_eq_false, if_false]; first | exact same_int _ _ _ _ | exact same_div _ _ _ _ | exact same_bits _ _ _ _ | exact same_cmp _ _ _)
      · cases op <;> first | (cases h; done) | (simp only [binOp, ne_eq, hk, not_false_eq_true, if_true]; exact .dies _ _ (.halt _ (by trivial)))
    | ptr b c o s hb => cases op <;> first | (cases h; done) | exact sr_moved hY hX | exact sr_eql (heq (.inl rfl)) hX hY | exact sr_neq (heq (.inr rfl)) hX hY | exact .dies _ _ (.halt _ (by trivial)) | exact .dies _ _ ((dies_eqL t _).bind _) | exact .dies _ _ ((dies_eqR t _).bind _)
    | ptr0 => cases op <;> first | (cases h; done) | exact sr_moved hY hX | exact sr_eql (heq (.inl rfl)) hX hY | exact sr_neq (heq (.inr rfl)) hX hY | exact .dies _ _ (.halt _ (by trivial)) | exact .dies _ _ ((dies_eqL t _).bind _) | exact .dies _ _ ((dies_eqR t _).bind _)
    | _ => cases op <;> first | (cases h; done) | exact sr_eql (heq (.inl rfl)) hX hY | exact sr_neq (heq (.inr rfl)) hX hY | exact .dies _ _ (.halt _ (by trivial)) | exact .dies _ _ ((dies_eqL t _).bind _) | exact .dies _ _ ((dies_eqR t _).bind _)
  | str a => cases hy with
    | str b => cases op <;> first | (cases h; done) | (simp only [binOp]; exact same_str _ _ _)
    | _ => cases op <;> first | (cases h; done) | exact sr_eql (heq (.inl rfl)) hX hY | exact sr_neq (heq (.inr rfl)) hX hY | exact .dies _ _ (.halt _ (by trivial)) | exact .dies _ _ ((dies_eqL t _).bind _) | exact .dies _ _ ((dies_eqR t _).bind _)
  | ptr b c o s hb => cases hy with
    | int k a => cases op <;> first | (cases h; done) | exact sr_add0 hX hY | exact sr_moved hX (.int _ _) | exact sr_eql (heq (.inl rfl)) hX hY | exact sr_neq (heq (.inr rfl)) hX hY | exact sr_bMod (a := ⟨b, o, s⟩) (b := ⟨c, o, s⟩) ⟨hb, rfl, rfl⟩ _ | exact .dies _ _ (.halt _ (by trivial)) | exact .dies _ _ ((dies_eqL t _).bind _) | exact .dies _ _ ((dies_eqR t _).bind _)
    | ptr b2 c2 o2 s2 hb2 => cases op <;> first | (cases h; done) | exact sr_bSub (a := ⟨b, o, s⟩) (b := ⟨c, o, s⟩) (c := ⟨b2, o2, s2⟩) (d := ⟨c2, o2, s2⟩) ⟨hb, rfl, rfl⟩ ⟨hb2, rfl, rfl⟩ | exact sr_bCmp (a := ⟨b, o, s⟩) (b := ⟨c, o, s⟩) (c := ⟨b2, o2, s2⟩) (d := ⟨c2, o2, s2⟩) ⟨hb, rfl, rfl⟩ ⟨hb2, rfl, rfl⟩ | exact sr_eql (heq (.inl rfl)) hX hY | exact sr_neq (heq (.inr rfl)) hX hY | exact .dies _ _ (.halt _ (by trivial)) | exact .dies _ _ ((dies_eqL t _).bind _) | exact .dies _ _ ((dies_eqR t _).bind _)
    | _ => cases op <;> first | (cases h; done) | exact sr_eql (heq (.inl rfl)) hX hY | exact sr_neq (heq (.inr rfl)) hX hY | exact .dies _ _ (.halt _ (by trivial)) | exact .dies _ _ ((dies_eqL t _).bind _) | exact .dies _ _ ((dies_eqR t _).bind _)
  | ptr0 => cases hy with
    | int k a => cases op <;> first | (cases h; done) | exact sr_add0 hX hY | exact sr_moved hX (.int _ _) | exact sr_eql (heq (.inl rfl)) hX hY | exact sr_neq (heq (.inr rfl)) hX hY | exact .dies _ _ (.halt _ (by trivial)) | exact .dies _ _ ((dies_eqL t _).bind _) | exact .dies _ _ ((dies_eqR t _).bind _)
    | _ => cases op <;> first | (cases h; done) | exact sr_eql (heq (.inl rfl)) hX hY | exact sr_neq (heq (.inr rfl)) hX hY | exact .dies _ _ (.halt _ (by trivial)) | exact .dies _ _ ((dies_eqL t _).bind _) | exact .dies _ _ ((dies_eqR t _).bind _)
  | _ => cases hy <;> (cases op <;> first | (cases h; done) | exact sr_eql (heq (.inl rfl)) hX hY | exact sr_neq (heq (.inr rfl)) hX hY | exact .dies _ _ (.halt _ (by trivial)) | exact .dies _ _ ((dies_eqL t _).bind _) | exact .dies _ _ ((dies_eqR t _).bind _))
end
end Sim
end Go.Proofs.Ytaealkfnhhmmcaa
/- The operations of pure code: the operation itself. No condition. -/
namespace Go.Proofs.Ytaealkfnhhmmcaa
namespace Sim
set_option linter.unusedVariables false
section
variable {P : Program} {ρ : BR}
theorem sr_guardIn {t : TypeId} (n : Nat) (h : okEq P (n + 1) t = true) {γ δ : Type} {S : BR → γ → δ → Prop} {f : Bool → Sem γ} {g : Bool → Sem δ} (hf : SR P S ρ (f false) (g false)) : SR P S ρ (Op.eqGuardIn Op.maxDepth t .nilIface .nilIface >>= f) (Op.eqGuardIn Op.maxDepth t .nilIface .nilIface >>= g) := by
  have e : Op.eqGuardIn Op.maxDepth t .nilIface .nilIface = Op.eqGuardIn (9999 + 1) t .nilIface .nilIface := rfl
  rw [e]
  unfold Op.eqGuardIn
  refine .program _ _ ?_
  show SR P S ρ (Sem.bind (Sem.bind (match P.underlying t with | some d => pure d | none => stuck "no such type") _) f) (Sem.bind (Sem.bind (match P.underlying t with | some d => pure d | none => stuck "no such type") _) g)
  cases hd : P.underlying t with
  | none => exact .dies _ _ (.halt _ (by trivial))
  | some d =>
    rw [okEq, hd] at h
    cases d <;> first | (cases h; done) | exact hf
theorem sr_guardBin {op : BinOp} {t : TypeId} (u v : Operand) {x x' y y' : Value} (h : okBin P op t = true) (hx : VR ρ x x') (hy : VR ρ y y') :
    SR P RV ρ (do eqGuard op t u v x y; binOp op t x y : Sem Value) (do eqGuard op t u v x' y'; binOp op t x' y' : Sem Value) := by
  have hb := sr_binOp h hx hy
  have h2 : op = .eql ∨ op = .neq → okEq P 10 t = true ∧ P.eqGuardType P.depth t = false := by
    rintro (rfl | rfl) <;> (simp only [okBin, Bool.and_eq_true, Bool.not_eq_true'] at h; exact h)
  by_cases hop : op = .eql ∨ op = .neq
  · obtain ⟨h3, h4⟩ := h2 hop
    have e1 : ∀ a b : Value, eqGuard op t u v a b = (match a, b with
      | .nilIface, .nilIface => (do
        if (u matches .const _) || (v matches .const _) then return
        if ← Op.eqGuardIn Op.maxDepth t a b then unsupported (.noEntry "binop/eql: two nil values of an interface type with methods, neither of them the literal nil") : Sem Unit)
      | .agg _, .agg _ => (do
        if !(← program).eqGuardType (← program).depth t then return
        if ← Op.eqGuardIn Op.maxDepth t a b then unsupported (.noEntry "binop/eql: two nil values of an interface type with methods, in a part of a struct or an array") : Sem Unit)
      | _, _ => pure ()) := by
      intro a b
      unfold eqGuard
      rcases hop with rfl | rfl <;> rfl
    rw [e1, e1]
    have hdr : ∀ x, Dies (binOp op t x undef) := fun x => by
      rcases hop with rfl | rfl <;> (cases x <;> exact (dies_eqR t _).bind _)
    have hdl : ∀ y, Dies (binOp op t undef y) := fun y => by
      rcases hop with rfl | rfl <;> (cases y <;> exact (dies_eqL t _).bind _)
    cases hx with
    | nilIface => cases hy with
      | nilIface =>
        refine SR.bind (R := RU) ?_ fun ρ' a b hl _ => sr_binOp h .nilIface .nilIface
        dsimp only
        have hg : SR P RU ρ (Op.eqGuardIn Op.maxDepth t .nilIface .nilIface >>= fun b => if b = true then unsupported (.noEntry "binop/eql: two nil values of an interface type with methods, neither of them the literal nil") else pure ()) (Op.eqGuardIn Op.maxDepth t .nilIface .nilIface >>= fun b => if b = true then unsupported (.noEntry "binop/eql: two nil values of an interface type with methods, neither of them the literal nil") else pure ()) := by
          refine sr_guardIn (S := RU) 9 h3 ?_
          simp only [Bool.false_eq_true, if_false]
          exact .pure _ _ trivial
        cases u <;> cases v <;> first | exact .pure _ _ trivial | exact hg
      | _ => exact hb
    | agg cs ds hs hv => cases hy with
      | agg cs2 ds2 hs2 hv2 =>
        refine .program _ _ (.program _ _ ?_)
        simp only [pb, h4, Bool.not_false, if_true]
        exact hb
      | _ => exact hb
    | _ => cases hy <;> first | exact hb | exact .dies _ _ (hdr _)
  · have e1 : ∀ a b : Value, eqGuard op t u v a b = pure () := by
      intro a b
      unfold eqGuard
      cases op <;> first | rfl | (exact absurd (.inl rfl) hop) | (exact absurd (.inr rfl) hop)
    rw [e1, e1]
    exact hb
/-- A slice of the type's elements holds them all. -/
theorem sr_firstCells {size n : Nat} {x y : Value} (h : VR ρ x y) {γ δ : Type} {S : BR → γ → δ → Prop} {f : Array Value → Sem γ} {g : Array Value → Sem δ} (hf : ∀ cs ds, AR ρ cs ds → SR P S ρ (f cs) (g ds)) : SR P S ρ (Builtin.firstCells size n x >>= f) (Builtin.firstCells size n y >>= g) := by
  cases h with
  | slice0 a b => exact hf _ _ (AR.nil ρ)
  | slice b c o s a b' hb => exact sr_loadCells (a := ⟨b, o, s⟩) (b := ⟨c, o, s⟩) ⟨hb, rfl, rfl⟩ _ fun cs ds hc _ => hf cs ds hc
  | str s =>
    refine hf _ _ ⟨rfl, fun i a b ha hb => ?_⟩
    rw [ha] at hb
    cases hb
    simp only [Array.getElem?_map, Option.map_eq_some_iff] at ha
    obtain ⟨u, _, rfl⟩ := ha
    exact .int _ _
  | _ => exact .dies _ _ (.halt _ (by trivial))
theorem AR.app {a b c d : Array Value} (h : AR ρ a b) (k : AR ρ c d) : AR ρ (a ++ c) (b ++ d) := by
  refine ⟨by simp [h.1, k.1], fun i x y hx hy => ?_⟩
  rw [Array.getElem?_append] at hx hy
  rw [h.1] at hx
  split at hx
  · rename_i hi
    rw [if_pos hi] at hy
    exact h.2 i x y hx hy
  · rename_i hi
    rw [if_neg hi] at hy
    exact k.2 _ x y hx hy
theorem ar_zeros {z : Array Value} (h : AR ρ z z) (n : Nat) : AR ρ (Builtin.zeroCells z n) (Builtin.zeroCells z n) := ar_rep h (n * z.size)
/-- A question that looks at shapes and marks alone. -/
inductive Looks {α : Type} : Sem α → Prop
  | pure (a : α) : Looks (.pure a)
  | shape (r : Nat) (k : Option (TypeId × Nat) → Sem α) (h : ∀ s, Looks (k s)) : Looks (.shape r k)
  | frozen (a : Addr) (k : Bool → Sem α) (h : ∀ s, Looks (k s)) : Looks (.frozen a k)
theorem Looks.bind {α β : Type} {m : Sem α} (h : Looks m) {f : α → Sem β} (hf : ∀ a, Looks (f a)) : Looks (m.bind f) := by
  induction h with
  | pure a => exact hf a
  | shape r k h ih => exact .shape r _ ih
  | frozen a k h ih => exact .frozen a _ ih
theorem Looks.dies {α β : Type} {m : Sem α} (h : Looks m) {f : α → Sem β} (hf : ∀ a, Dies (f a)) : Dies (m.bind f) := by
  induction h with
  | pure a => exact hf a
  | shape r k h ih => exact .shape r _ ih
  | frozen a k h ih => exact .frozen a _ ih
theorem looks_holds (a : Addr) (n : Nat) : Looks (Builtin.holdsCells a n) := by
  refine .shape _ _ fun s => ?_
  cases s with
  | none => exact .pure _
  | some s => exact .pure _
theorem looks_share (size sLen n : Nat) (base : Option Addr) (x : Value) : Looks (Builtin.mayShare size sLen n base x) := by
  unfold Builtin.mayShare
  have hrest : ∀ there : Bool, Looks (if (!there) = true then (Sem.pure true : Sem Bool) else (match x with
      | .slice (some b) _ _ => (do pure (!(← Builtin.holdsCells b (n * size)) || base.any (·.block == b.block)) : Sem Bool)
      | _ => Sem.pure false)) := by
    intro there
    split
    · exact .pure _
    · split
      · exact (looks_holds _ _).bind fun _ => .pure _
      · exact .pure _
  cases base with
  | none => exact hrest true
  | some a => exact ((looks_holds _ _).bind fun b => .frozen _ _ fun s => hrest _)
end
end Sim
end Go.Proofs.Ytaealkfnhhmmcaa
/- The operations of pure code: append, and the operation itself. No condition. -/
namespace Go.Proofs.Ytaealkfnhhmmcaa
namespace Sim
set_option linter.unusedVariables false
section
variable {P : Program} {ρ : BR}
theorem sr_lenOf {x y : Value} (h : VR ρ x y) {γ δ : Type} {S : BR → γ → δ → Prop} {f : Nat → Sem γ} {g : Nat → Sem δ} (hf : ∀ n, SR P S ρ (f n) (g n)) : SR P S ρ (Builtin.lenOf x >>= f) (Builtin.lenOf y >>= g) := by
  cases h with
  | slice0 a b => exact hf _
  | slice b c o s a b' hb => exact hf _
  | str s => exact hf _
  | _ => exact .dies _ _ (.halt _ (by trivial))
theorem sr_max {ts : Array TypeId} {t : TypeId} {x x' y y' : Value} (hx : VR ρ x x') (hy : VR ρ y y') : SR P RV ρ (Builtin.max_ ts t #[x, y]) (Builtin.max_ ts t #[x', y']) := by
  have e : ∀ a b : Value, Builtin.max_ ts t #[a, b] = (Builtin.max2 a b >>= fun v => pure v) := fun a b => rfl
  rw [e, e]
  refine SR.bind (R := RV) ?_ fun ρ' a b hl hab => .pure _ _ hab
  cases hx with
  | int k n =>
    cases hy with
    | int k' n' => exact .pure _ _ (.int _ _)
    | ptr b c o s h => exact .dies _ _ (.halt _ (by trivial))
    | _ => exact .dies _ _ (.halt _ (by trivial))
  | str s =>
    cases hy with
    | str s' => exact SR.pure (Value.string _) (Value.string _) (VR.str _)
    | ptr b c o s h => exact .dies _ _ (.halt _ (by trivial))
    | _ => exact .dies _ _ (.halt _ (by trivial))
  | ptr b c o s h => exact .dies _ _ (.halt _ (by trivial))
  | _ => cases hy <;> exact .dies _ _ (.halt _ (by trivial))
theorem sr_append {T ty e : TypeId} (hT : P.underlying T = some (.slice e)) (hz : okZ P e = true) {x x' y y' : Value} (hx : VR ρ x x') (hy : VR ρ y y') : SR P RV ρ (Builtin.append_ #[T, T] ty #[x, y]) (Builtin.append_ #[T, T] ty #[x', y']) := by
  unfold Builtin.append_
  simp only [List.getElem?_toArray, List.getElem?_cons_zero, List.getElem?_cons_succ]
  refine sr_und fun d hd => ?_
  rw [hT] at hd
  cases hd
  cases hx with
  | slice0 sLen sCap =>
    refine sr_size fun i hi => ?_
    refine sr_und fun d hd => ?_
    rw [hT] at hd
    cases hd
    simp only [pure_bind, Bool.false_eq_true, if_false, Bool.not_false, if_true, false_or]
    refine sr_lenOf hy fun n => ?_
    by_cases h1 : sLen + n ≤ sCap
    · simp only [if_pos h1]
      refine sr_firstCells hy fun cs ds hc => ?_
      exact sr_pureV (.slice0 _ _)
    · simp only [if_neg h1]
      refine sr_info fun i2 hi2 => ?_
      by_cases h2 : ((sLen + n : Nat) : Int) > IntKind.i64.max ∧ i2.bytes = 0
      · simp only [if_pos h2]
        exact .dies _ _ ((dies_error _).bind _)
      · simp only [if_neg h2]
        refine sr_info fun i3 hi3 => ?_
        by_cases h3 : Builtin.nextslicecap (sLen + n) sCap * i3.bytes > 2 ^ 48
        · simp only [if_pos h3]
          refine .dies _ _ (Dies.bind ((looks_share _ _ _ _ _).dies fun b => ?_) _)
          exact dies_ite (.mark _ _ (.halt _ (by trivial))) (.halt _ (by trivial))
        · simp only [if_neg h3]
          refine .choose _ _ _ fun newCap => sr_info fun i4 hi4 => sr_room _ ?_
          refine sr_firstCells (.slice0 sLen sCap) fun cs ds hc => ?_
          refine sr_firstCells hy fun cs2 ds2 hc2 => ?_
          refine sr_zero fun i5 z hi5 hz5 => ?_
          refine sr_newRow ((hc.app hc2).app (ar_zeros ((okZ_vr hz hi5 hz5 ρ).cells) _)) e fun r r' => ?_
          exact sr_pureV (.slice r r' 0 none _ _ (.inr ⟨rfl, rfl⟩))
  | slice b c o s sLen sCap hb =>
    refine sr_size fun i hi => ?_
    refine sr_und fun d hd => ?_
    rw [hT] at hd
    cases hd
    simp only [pure_bind, Bool.false_eq_true, if_false, Bool.not_false, if_true, false_or]
    refine sr_lenOf hy fun n => ?_
    by_cases h1 : sLen + n ≤ sCap
    · simp only [if_pos h1]
      refine sr_firstCells hy fun cs ds hc => ?_
      exact sr_storeCells (f := fun _ => Sem.pure _) (g := fun _ => Sem.pure _) (AdR.add (a := ⟨b, o, s⟩) (b := ⟨c, o, s⟩) ⟨hb, rfl, rfl⟩ _) (sr_pureV (.slice b c o s _ _ hb)) _ _ 0 hc.list
    · simp only [if_neg h1]
      refine sr_info fun i2 hi2 => ?_
      by_cases h2 : ((sLen + n : Nat) : Int) > IntKind.i64.max ∧ i2.bytes = 0
      · simp only [if_pos h2]
        exact .dies _ _ ((dies_error _).bind _)
      · simp only [if_neg h2]
        refine sr_info fun i3 hi3 => ?_
        by_cases h3 : Builtin.nextslicecap (sLen + n) sCap * i3.bytes > 2 ^ 48
        · simp only [if_pos h3]
          refine .dies _ _ (Dies.bind ((looks_share _ _ _ _ _).dies fun b => ?_) _)
          exact dies_ite (.mark _ _ (.halt _ (by trivial))) (.halt _ (by trivial))
        · simp only [if_neg h3]
          refine .choose _ _ _ fun newCap => sr_info fun i4 hi4 => sr_room _ ?_
          refine sr_firstCells (.slice b c o s sLen sCap hb) fun cs ds hc => ?_
          refine sr_firstCells hy fun cs2 ds2 hc2 => ?_
          refine sr_zero fun i5 z hi5 hz5 => ?_
          refine sr_newRow ((hc.app hc2).app (ar_zeros ((okZ_vr hz hi5 hz5 ρ).cells) _)) e fun r r' => ?_
          exact sr_pureV (.slice r r' 0 none _ _ (.inr ⟨rfl, rfl⟩))
  | _ => exact .dies _ _ (.halt _ (by trivial))
/-- The functions that are pure code; of a frame the temporaries that its code never names. -/
structure LSet where
  ok : FuncId → Bool
  dead : FuncId → Nat → Bool
/-- What an operation yields. -/
inductive NR (L : LSet) (ρ : BR) : Next → Next → Prop
  | value (v v' : Value) (h : VR ρ v v') : NR L ρ (.value v) (.value v')
  | skip : NR L ρ .skip .skip
  | enter (f : FuncId) (xs ys : Array Value) (h : AR ρ xs ys) (hb : L.ok f = true) : NR L ρ (.enter f xs) (.enter f ys)
def RN (L : LSet) : BR → Next → Next → Prop := fun ρ a b => NR L ρ a b
def okX (dd : Nat → Bool) : Operand → Bool
  | .tmp t => !dd t
  | .const v => okV v
  | .global _ => false
  | .func _ => true
def okSl (P : Program) (t : TypeId) : Bool := match P.underlying t with
  | some (.slice e) => okZ P e
  | _ => true
def okCall (P : Program) (L : LSet) (dd : Nat → Bool) (c : Call) : Bool := c.args.all (okX dd) && (match c.callee with
  | .value (.func f) => L.ok f && (match P.funcs[f]? with | some fn => fn.body.isSome && fn.name != "runtime.NumGoroutine" | none => false)
  | .builtin .len => c.args.size == 1
  | .builtin .max => c.args.size == 2
  | .builtin .append => c.args.size == 2 && c.argTypes.size == 2 && c.argTypes[0]? == c.argTypes[1]? && (match c.argTypes[0]? with | some t => (match P.underlying t with | some (.slice e) => okZ P e | _ => false) | none => false)
  | _ => false)
def okOp (P : Program) (L : LSet) (dd : Nat → Bool) : Op → Bool
  | .move x | .assign x => (okX dd) x
  | .pick c a b => (okX dd) c && (okX dd) a && (okX dd) b
  | .alloc t => okZ P t
  | .box _ x => (okX dd) x
  | .build t ps => okZ P t && ps.toList.all fun p => (okX dd) p.2
  | .buildSlice t _ ps => okSl P t && ps.toList.all fun p => (okX dd) p.2
  | .load _ a => (okX dd) a
  | .store _ a x => (okX dd) a && (okX dd) x
  | .binOp op t x y _ => okBin P op t && (okX dd) x && (okX dd) y
  | .unOp _ _ x => (okX dd) x
  | .convert s d x => (match P.underlying s, P.underlying d with | some (.int _), some (.int _) => true | _, _ => false) && (okX dd) x
  | .makeSlice t l c => okSl P t && (okX dd) l && (okX dd) c
  | .fieldAddr s x f => okField P s f && (okX dd) x
  | .indexAddr _ x i => (okX dd) x && (okX dd) i
  | .extract x _ => (okX dd) x
  | .call c => okCall P L dd c
  | _ => false
theorem pl_map {dd : Nat → Bool} {ev ev' : Operand → Value} (h : ∀ x, (okX dd) x = true → VR ρ (ev x) (ev' x)) : ∀ l : List (Nat × Operand), (l.all fun p => (okX dd) p.2) = true → PL ρ (l.map fun (i, x) => (i, ev x)) (l.map fun (i, x) => (i, ev' x))
  | [], _ => trivial
  | (i, x) :: l, hl => by
    simp only [List.all_cons, Bool.and_eq_true] at hl
    exact ⟨rfl, h x hl.1, pl_map h l hl.2⟩
theorem ar_map {dd : Nat → Bool} {ev ev' : Operand → Value} (h : ∀ x, (okX dd) x = true → VR ρ (ev x) (ev' x)) {xs : Array Operand} (hl : xs.all (okX dd) = true) : AR ρ (xs.map ev) (xs.map ev') := by
  refine ⟨by simp, fun i a b ha hb => ?_⟩
  simp only [Array.getElem?_map, Option.map_eq_some_iff] at ha hb
  obtain ⟨x, hx, rfl⟩ := ha
  obtain ⟨y, hy, rfl⟩ := hb
  rw [hx] at hy
  cases hy
  have hi := getElem?_lt hx
  have := Array.all_eq_true.1 hl i hi
  rw [Array.getElem?_eq_getElem hi] at hx
  cases hx
  exact h _ this
theorem sr_v {L : LSet} {m m' : Sem Value} (h : SR P RV ρ m m') : SR P (RN L) ρ (do pure (.value (← m)) : Sem Next) (do pure (.value (← m')) : Sem Next) := h.bind fun ρ' a b hl hab => .pure _ _ (.value a b hab)
theorem sr_u {L : LSet} {m m' : Sem Unit} (h : SR P RU ρ m m') : SR P (RN L) ρ (do m; pure .skip : Sem Next) (do m'; pure .skip : Sem Next) := h.bind fun ρ' a b hl hab => .pure _ _ .skip
theorem size1 {α : Type} {xs : Array α} (h : xs.size = 1) : ∃ a, xs = #[a] := by
  obtain ⟨l⟩ := xs
  match l, h with
  | [a], _ => exact ⟨a, rfl⟩
theorem size2 {α : Type} {xs : Array α} (h : xs.size = 2) : ∃ a b, xs = #[a, b] := by
  obtain ⟨l⟩ := xs
  match l, h with
  | [a, b], _ => exact ⟨a, b, rfl⟩
/-- ████ THE OPERATION. ████ -/
theorem sr_exec {dd : Nat → Bool} {L : LSet} {ev ev' : Operand → Value} {o : Oper} (hok : okOp P L dd o.op = true) (h : ∀ x, (okX dd) x = true → VR ρ (ev x) (ev' x)) (hf : ∀ f, ev (.func f) = .func (.func f) #[] #[]) (hf' : ∀ f, ev' (.func f) = .func (.func f) #[] #[]) : SR P (RN L) ρ (execOp ev o) (execOp ev' o) := by
  obtain ⟨dst, op, ty, pos, after, guard⟩ := o
  dsimp only at hok
  cases op with
  | move x => exact .pure _ _ (.value _ _ (h x hok))
  | assign x => exact .pure _ _ (.value _ _ (h x hok))
  | pick c a b =>
    simp only [okOp, Bool.and_eq_true] at hok
    have hc := h c hok.1.1
    have ha := h a hok.1.2
    have hb := h b hok.2
    unfold execOp
    dsimp only
    generalize ev c = x at hc ⊢
    generalize ev' c = x' at hc ⊢
    cases hc with
    | bool b' => cases b' <;> exact .pure _ _ (.value _ _ (by first | exact hb | exact ha))
    | _ => exact .dies _ _ (.halt _ (by trivial))
  | alloc t => exact sr_v (sr_alloc hok)
  | box t x => exact sr_v (sr_box (h x hok))
  | build t ps =>
    simp only [okOp, Bool.and_eq_true] at hok
    exact sr_v (sr_build hok.1 (by rw [Array.toList_map, Array.toList_map]; exact pl_map h _ hok.2))
  | buildSlice t n ps =>
    simp only [okOp, Bool.and_eq_true] at hok
    exact sr_v (sr_buildSlice (fun e he => by have := hok.1; rw [okSl, he] at this; exact this) (by rw [Array.toList_map, Array.toList_map]; exact pl_map h _ hok.2))
  | load t a => exact sr_v (sr_loadAt (h a hok))
  | store t a x =>
    simp only [okOp, Bool.and_eq_true] at hok
    exact sr_u (sr_storeAt (h a hok.1) (h x hok.2))
  | binOp op t x y t2 =>
    simp only [okOp, Bool.and_eq_true] at hok
    exact sr_v (sr_guardBin x y hok.1.1 (h x hok.1.2) (h y hok.2))
  | unOp op t x => exact sr_v (sr_unary op (h x hok))
  | convert s d x =>
    simp only [okOp, Bool.and_eq_true] at hok
    obtain ⟨h1, h2⟩ := hok
    cases hs : P.underlying s with
    | none => rw [hs] at h1; cases h1
    | some a => cases hd : P.underlying d with
      | none => rw [hs, hd] at h1; cases a <;> cases h1
      | some b =>
        rw [hs, hd] at h1
        cases a <;> cases b <;> first | (cases h1; done) | exact sr_v (sr_convert hs hd (h x h2))
  | makeSlice t l c =>
    simp only [okOp, Bool.and_eq_true] at hok
    exact sr_v (sr_makeSlice (fun e he => by have := hok.1.1; rw [okSl, he] at this; exact this) (h l hok.1.2) (h c hok.2))
  | fieldAddr s x f =>
    simp only [okOp, Bool.and_eq_true] at hok
    exact sr_v (sr_fieldAt (h x hok.2) f hok.1)
  | indexAddr t x i =>
    simp only [okOp, Bool.and_eq_true] at hok
    exact sr_v (sr_indexAt (h x hok.1) (h i hok.2))
  | extract x n => exact sr_v (sr_extract (h x hok) n)
  | call c =>
    obtain ⟨callee, args, ats⟩ := c
    simp only [okOp, okCall, Bool.and_eq_true] at hok
    obtain ⟨h1, h2⟩ := hok
    have ha := ar_map h h1
    cases callee with
    | value f => cases f with
      | func f =>
        dsimp only at h2
        cases hff : P.funcs[f]? with
        | none => rw [hff] at h2; simp at h2
        | some fn =>
          rw [hff] at h2
          simp only [Bool.and_eq_true, bne_iff_ne, ne_eq] at h2
          obtain ⟨hL, h3, h4⟩ := h2
          have hb : fn.body.isNone = false := by cases hx : fn.body <;> simp_all
          have hn : (fn.name == "runtime.NumGoroutine") = false := by simpa using h4
          have e2 : ∀ xs : Array Value, ((#[] ++ xs) ++ #[] : Array Value) = xs := fun xs => by simp
          show SR P (RN L) ρ (Sem.bind (Deferred.ofValue (ev (.func f)) (args.map ev)) fun d => invoke d.target d.args) (Sem.bind (Deferred.ofValue (ev' (.func f)) (args.map ev')) fun d => invoke d.target d.args)
          rw [hf, hf']
          show SR P (RN L) ρ (callFunc f ((#[] ++ args.map ev) ++ #[])) (callFunc f ((#[] ++ args.map ev') ++ #[]))
          rw [e2, e2]
          refine .program _ _ ?_
          simp only [pb, hff, hn, hb, Bool.false_eq_true, if_false]
          exact .pure _ _ (.enter f _ _ ha hL)
      | _ => cases h2
    | builtin b => cases b with
      | len =>
        obtain ⟨a, rfl⟩ := size1 (by simpa using h2)
        have hx : (okX dd) a = true := by simpa using h1
        refine sr_v (m := Builtin.len_ ats ty ((#[a]).map ev)) (m' := Builtin.len_ ats ty ((#[a]).map ev')) ?_
        rw [show (#[a]).map ev = #[ev a] from by simp, show (#[a]).map ev' = #[ev' a] from by simp]
        exact sr_len (h a hx)
      | max =>
        obtain ⟨a, b, rfl⟩ := size2 (by simpa using h2)
        have hx : (okX dd) a = true ∧ (okX dd) b = true := by simpa using h1
        refine sr_v (m := Builtin.max_ ats ty ((#[a, b]).map ev)) (m' := Builtin.max_ ats ty ((#[a, b]).map ev')) ?_
        rw [show (#[a, b]).map ev = #[ev a, ev b] from by simp, show (#[a, b]).map ev' = #[ev' a, ev' b] from by simp]
        exact sr_max (h a hx.1) (h b hx.2)
      | append =>
        simp only [Bool.and_eq_true, beq_iff_eq] at h2
        obtain ⟨⟨⟨h3, h4⟩, h5⟩, h6⟩ := h2
        obtain ⟨a, b, rfl⟩ := size2 h3
        obtain ⟨T, U, rfl⟩ := size2 h4
        have hx : (okX dd) a = true ∧ (okX dd) b = true := by simpa using h1
        have hTU : T = U := by simpa using h5
        subst hTU
        simp only [List.getElem?_toArray, List.getElem?_cons_zero] at h6
        cases hu : P.underlying T with
        | none => rw [hu] at h6; cases h6
        | some d =>
          rw [hu] at h6
          cases d with
          | slice e =>
            refine sr_v (m := Builtin.append_ #[T, T] ty ((#[a, b]).map ev)) (m' := Builtin.append_ #[T, T] ty ((#[a, b]).map ev')) ?_
            rw [show (#[a, b]).map ev = #[ev a, ev b] from by simp, show (#[a, b]).map ev' = #[ev' a, ev' b] from by simp]
            exact sr_append hu h6 (h a hx.1) (h b hx.2)
          | _ => cases h6
      | _ => cases h2
    | invoke r n => cases h2
  | _ => cases hok
end
end Sim
end Go.Proofs.Ytaealkfnhhmmcaa
