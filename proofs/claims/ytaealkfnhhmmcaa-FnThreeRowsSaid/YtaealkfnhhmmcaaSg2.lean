/- Runs without a system call, of pure code: what a step is on both sides. No condition. -/
import Derived.Test.YtaealkfnhhmmcaaSg1
import Derived.Conc.Listed
/- A program that asks nothing of the system hangs on the draws that it takes alone. No condition. -/
namespace Go.Proofs.Ytaealkfnhhmmcaa
namespace Sim
open Go.Conc
set_option linter.unusedVariables false
/-- It takes but finitely many values. -/
def FinIm {α : Type} (f : Nat → α) : Prop := ∃ l : List Nat, ∀ t, ∃ n, n ∈ l ∧ f t = f n
/-- No call of the system; a draw leads on in finitely many ways. -/
def NS (P : Program) {α : Type} : Sem α → Prop
  | .pure _ => True
  | .load _ _ k => ∀ v, NS P (k v)
  | .store _ _ _ k => NS P k
  | .new _ k => ∀ r, NS P (k r)
  | .shape _ k => ∀ s, NS P (k s)
  | .freeze _ _ k => NS P k
  | .frozen _ k => ∀ b, NS P (k b)
  | .getObj _ k => ∀ o, NS P (k o)
  | .setObj _ _ k => NS P k
  | .choose q k => FinIm (fun t => k (q.cut t)) ∧ ∀ n, NS P (k n)
  | .sys _ _ => False
  | .program k => NS P (k P)
  | .mark _ k => NS P k
  | .halt _ => True
theorem NS.bind {P : Program} {α β : Type} {m : Sem α} {f : α → Sem β} : NS P m → (∀ a, NS P (f a)) → NS P (m.bind f) := by
  induction m with
  | pure a => exact fun _ hf => hf a
  | load m a k ih => exact fun h hf v => ih v (h v) hf
  | store m a v k ih => exact fun h hf => ih h hf
  | new o k ih => exact fun h hf r => ih r (h r) hf
  | shape r k ih => exact fun h hf s => ih s (h s) hf
  | freeze a n k ih => exact fun h hf => ih h hf
  | frozen a k ih => exact fun h hf s => ih s (h s) hf
  | getObj r k ih => exact fun h hf s => ih s (h s) hf
  | setObj r o k ih => exact fun h hf => ih h hf
  | choose q k ih =>
    refine fun h hf => ⟨?_, fun s => ih s (h.2 s) hf⟩
    obtain ⟨l, hl⟩ := h.1
    refine ⟨l, fun t => ?_⟩
    obtain ⟨n, hn, e⟩ := hl t
    exact ⟨n, hn, congrArg (fun x => Sem.bind x f) e⟩
  | sys c k ih => exact fun h hf => h.elim
  | program k ih => exact fun h hf => ih P h hf
  | mark m k ih => exact fun h hf => ih h hf
  | halt h => exact fun _ _ => trivial
theorem NS.bind' {P : Program} {α β : Type} {m : Sem α} {f : α → Sem β} (h : NS P m) (hf : ∀ a, NS P (f a)) : NS P (m >>= f) := NS.bind h hf
theorem FinIm.below {α : Type} {q : Question} {k : Nat → α} (N : Nat) (h : ∀ t, q.cut t < N) : FinIm (fun t => k (q.cut t)) := by
  have e : ∀ m, m < N → ∃ l : List Nat, ∀ t, q.cut t ≤ m → ∃ n, n ∈ l ∧ k (q.cut t) = k (q.cut n) := by
    intro m hm
    induction m with
    | zero =>
      by_cases h0 : ∃ n, q.cut n = 0
      · obtain ⟨n, hn⟩ := h0
        exact ⟨[n], fun t ht => ⟨n, by simp, by rw [hn, Nat.le_zero.1 ht]⟩⟩
      · exact ⟨[], fun t ht => absurd ⟨t, Nat.le_zero.1 ht⟩ h0⟩
    | succ m ih =>
      obtain ⟨l, hl⟩ := ih (by omega)
      by_cases h0 : ∃ n, q.cut n = m + 1
      · obtain ⟨n, hn⟩ := h0
        refine ⟨n :: l, fun t ht => ?_⟩
        rcases Nat.lt_or_ge (q.cut t) (m + 1) with hlt | hge
        · obtain ⟨n', h1, h2⟩ := hl t (by omega)
          exact ⟨n', List.mem_cons_of_mem _ h1, h2⟩
        · exact ⟨n, List.mem_cons_self, by rw [hn, show q.cut t = m + 1 by omega]⟩
      · refine ⟨l, fun t ht => hl t ?_⟩
        rcases Nat.lt_or_ge (q.cut t) (m + 1) with hlt | hge
        · omega
        · exact absurd ⟨t, by omega⟩ h0
  obtain ⟨l, hl⟩ := e (N - 1) (by have := h 0; omega)
  exact ⟨l, fun t => hl t (by have := h t; omega)⟩
theorem ns_choose {P : Program} {q : Question} (N : Nat) (h : ∀ t, q.cut t < N) : NS P (choose q) := ⟨.below N h, fun _ => trivial⟩
theorem ns_cap {P : Program} {a b : Nat} {e : TypeId} (h : a < 2 ^ 63) : NS P (choose (.appendCap a b e)) := ns_choose (2 ^ 63) (fun t => by
  show a + t % (2 ^ 63 - a) < _
  have := Nat.mod_lt t (show 0 < 2 ^ 63 - a by omega)
  omega)
theorem ns_choose2 {P : Program} {q : Question} (h : ∀ t, q.cut t = t % 2) : NS P (choose q) := ns_choose 2 (fun t => by rw [h]; exact Nat.mod_lt _ (by omega))
theorem ns_zeq {P : Program} : NS P (choose .zeroSizeEq) := ns_choose 2 (fun t => Nat.mod_lt _ (by omega))
abbrev Tp := Nat → Question → Nat
def wt (w : World) (T : Tp) : World := { w with tape := T }
theorem wt_wt (w : World) (T T' : Tp) : wt (wt w T) T' = wt w T' := rfl
theorem wt_self (w : World) : wt w w.tape = w := rfl
def Agree (a b : Nat) (T T' : Tp) : Prop := ∀ n q, a ≤ n → n < b → T n q = T' n q
theorem viewS_wt {P : Program} (w : World) (T : Tp) (b : Addr) (u : TypeId) (a : Addr) (v : Value) (t : Bool) : (wt w T).viewStore P b u a v t = match w.viewStore P b u a v t with
    | .ok (w1, l) => .ok (wt w1 T, l)
    | .error h => .error h := by
  unfold World.viewStore
  have es : (wt w T).seen P b u a t = w.seen P b u a t := rfl
  cases ht : tight P P.depth u with
  | false => rfl
  | true =>
    simp only [Bool.not_true, Bool.false_eq_true, if_false]
    rw [es]
    cases w.seen P b u a t with
    | error e => rfl
    | ok r =>
      obtain ⟨c, e, frozen, first, like, cells⟩ := r
      cases hb : v.bytes? with
      | none => rfl
      | some bytes =>
        simp only [bind, Except.bind, pure, Except.pure]
        split
        · rfl
        · split <;> rfl
theorem farS_wt {P : Program} (w : World) (T : Tp) (a : Addr) (v : Value) (b : Bool) : (wt w T).farStore P a v b = match w.farStore P a v b with
    | .ok (w1, l) => .ok (wt w1 T, l)
    | .error h => .error h := by
  unfold World.farStore
  have e : (wt w T).heap[a.block]? = w.heap[a.block]? := rfl
  have e2 : (wt w T).noCell a "store: no such cell" = w.noCell a "store: no such cell" := rfl
  rw [e, e2]
  split
  · rename_i at_ u _
    rw [viewS_wt]
    cases w.viewStore P at_ u a v b with
    | error e => rfl
    | ok r => rfl
  · rfl
theorem viewS_drawn {P : Program} {w w1 : World} {b : Addr} {u : TypeId} {a : Addr} {v : Value} {t : Bool} {l : List Addr} (h : w.viewStore P b u a v t = .ok (w1, l)) : w1.drawn = w.drawn := by
  unfold World.viewStore at h
  cases ht : tight P P.depth u with
  | false => rw [ht] at h; cases h
  | true =>
    rw [ht] at h
    simp only [Bool.not_true, Bool.false_eq_true, if_false] at h
    cases hs : w.seen P b u a t with
    | error e => rw [hs] at h; cases h
    | ok r =>
      rw [hs] at h
      obtain ⟨c, e, frozen, first, like, cells⟩ := r
      cases hb : v.bytes? with
      | none => rw [hb] at h; cases h
      | some bytes =>
        rw [hb] at h
        simp only [bind, Except.bind, pure, Except.pure] at h
        split at h
        · cases h
        · split at h
          · cases h
          · cases h; rfl
theorem farS_drawn {P : Program} {w w1 : World} {a : Addr} {v : Value} {t : Bool} {l : List Addr} (h : w.farStore P a v t = .ok (w1, l)) : w1.drawn = w.drawn := by
  unfold World.farStore at h
  split at h
  · rename_i at_ u _
    cases hv : w.viewStore P at_ u a v t with
    | error e => rw [hv] at h; cases h
    | ok r =>
      rw [hv] at h
      obtain ⟨w2, l2⟩ := r
      cases h
      exact viewS_drawn hv
  · cases h
theorem run_local {α : Type} {P : Program} {m : Sem α} : NS P m → ∀ {w : World} {T T' : Tp} {a : α} {w' : World}, m.run P (wt w T) = .ok a w' → Agree w.drawn w'.drawn T T' → m.run P (wt w T') = .ok a (wt w' T') ∧ w.drawn ≤ w'.drawn ∧ w'.tape = T := by
  induction m with
  | pure a =>
    intro _ w T T' a w' h hA
    cases h
    exact ⟨rfl, Nat.le_refl _, rfl⟩
  | load md ad k ih =>
    intro hn w T T' a w' h hA
    simp only [Sem.run] at h ⊢
    have e1 : (wt w T).cell? ad = w.cell? ad := rfl
    have e2 : (wt w T').cell? ad = w.cell? ad := rfl
    have e3 : (wt w T).farLoad P ad (md == .atomic) = w.farLoad P ad (md == .atomic) := rfl
    have e4 : (wt w T').farLoad P ad (md == .atomic) = w.farLoad P ad (md == .atomic) := rfl
    rw [e1, e3] at h
    rw [e2, e4]
    cases hc : w.cell? ad with
    | some v =>
      rw [hc] at h
      exact ih v (hn v) h hA
    | none =>
      rw [hc] at h
      dsimp only at h ⊢
      cases hf : w.farLoad P ad (md == .atomic) with
      | error e => rw [hf] at h; cases h
      | ok r =>
        obtain ⟨v, l⟩ := r
        rw [hf] at h
        exact ih v (hn v) h hA
  | store md ad v k ih =>
    intro hn w T T' a w' h hA
    by_cases hone : One v
    · rw [run_store_one hone] at h ⊢
      have e1 : ∀ T, (wt w T).cell? ad = w.cell? ad := fun T => rfl
      have e2 : ∀ T, (wt w T).frozen? ad = w.frozen? ad := fun T => rfl
      rw [e1, e2, farS_wt] at h
      rw [e1, e2, farS_wt]
      cases hc : w.cell? ad with
      | some u =>
        rw [hc] at h
        dsimp only at h ⊢
        cases hf : w.frozen? ad with
        | true => rw [hf] at h; cases h
        | false =>
          rw [hf] at h
          exact ih hn (w := w.setCell ad v) h hA
      | none =>
        rw [hc] at h
        dsimp only at h ⊢
        cases hf : w.farStore P ad v (md == .atomic) with
        | error e => rw [hf] at h; cases h
        | ok r =>
          obtain ⟨w1, l⟩ := r
          rw [hf] at h
          have hd := farS_drawn hf
          have := ih hn (w := w1) h (by rw [hd]; exact hA)
          rwa [hd] at this
    · cases v with
      | agg cs => simp only [Sem.run] at h; cases h
      | tuple cs => simp only [Sem.run] at h; cases h
      | _ => exact absurd ⟨fun _ h => (by cases h), fun _ h => (by cases h)⟩ hone
  | new o k ih => exact fun hn w T T' a w' h hA => ih w.heap.size (hn _) (w := { w with heap := w.heap.push o }) h hA
  | shape r k ih => exact fun hn w T T' a w' h hA => ih (w.shape? r) (hn _) (w := w) h hA
  | freeze ad n k ih =>
    intro hn w T T' a w' h hA
    simp only [Sem.run] at h ⊢
    have e : ∀ T, (wt w T).freeze ad n = wt (w.freeze ad n) T := fun T => by unfold World.freeze wt; split <;> rfl
    rw [e] at h ⊢
    have hd : (w.freeze ad n).drawn = w.drawn := by unfold World.freeze; split <;> rfl
    have := ih hn (w := w.freeze ad n) h (by rw [hd]; exact hA)
    rwa [hd] at this
  | frozen ad k ih => exact fun hn w T T' a w' h hA => ih (w.frozen? ad) (hn _) (w := w) h hA
  | getObj r k ih =>
    intro hn w T T' a w' h hA
    simp only [Sem.run] at h ⊢
    have e : ∀ T, (wt w T).heap[r]? = w.heap[r]? := fun T => rfl
    rw [e] at h ⊢
    cases ho : w.heap[r]? with
    | none => rw [ho] at h; cases h
    | some o =>
      rw [ho] at h
      cases o <;> first | (cases h; done) | exact ih _ (hn _) h hA
  | setObj r o k ih =>
    intro hn w T T' a w' h hA
    simp only [Sem.run] at h ⊢
    have e : ∀ T, (wt w T).heap[r]? = w.heap[r]? := fun T => rfl
    rw [e] at h ⊢
    cases ho : w.heap[r]? with
    | none => rw [ho] at h; cases h
    | some o' =>
      rw [ho] at h
      cases o' <;> first | (cases h; done) | exact ih hn (w := { w with heap := w.heap.setIfInBounds r o }) h hA
  | choose q k ih =>
    intro hn w T T' a w' h hA
    simp only [Sem.run] at h ⊢
    by_cases hf : q.forced = true
    · rw [if_pos hf] at h ⊢
      exact ih 0 (hn.2 _) h hA
    · rw [if_neg hf] at h ⊢
      have hlt : w.drawn + 1 ≤ w'.drawn := by
        have := (ih (q.cut (T w.drawn q)) (hn.2 _) (w := { w with drawn := w.drawn + 1 }) (T := T) (T' := T) h (fun _ _ _ _ => rfl)).2.1
        exact this
      have hq : T w.drawn q = T' w.drawn q := hA _ _ (Nat.le_refl _) hlt
      have := ih (q.cut (T w.drawn q)) (hn.2 _) (w := { w with drawn := w.drawn + 1 }) (T := T) (T' := T') h (fun n q' h1 h2 => hA n q' (by simp at h1; omega) h2)
      refine ⟨?_, by omega, this.2.2⟩
      show Sem.run P (k (q.cut (T' w.drawn q))) _ = _
      rw [← hq]
      exact this.1
  | sys c k ih => exact fun hn => hn.elim
  | program k ih => exact fun hn w T T' a w' h hA => ih P hn (w := w) h hA
  | mark md k ih => exact fun hn w T T' a w' h hA => ih hn (w := w) h hA
  | halt h => exact fun _ w T T' a w' h hA => by cases h
end Sim
end Go.Proofs.Ytaealkfnhhmmcaa
/- The operations of pure code ask nothing of the system. No condition. -/
namespace Go.Proofs.Ytaealkfnhhmmcaa
namespace Sim
open Go.Conc
set_option linter.unusedVariables false
section
variable {P : Program}
theorem ns_pure {α : Type} (a : α) : NS P (pure a : Sem α) := trivial
theorem ns_stuck {α : Type} (s : String) : NS P (stuck s : Sem α) := trivial
theorem ns_uns {α : Type} (u : Unsupported) : NS P (unsupported u : Sem α) := trivial
theorem ns_panic {α : Type} (v : Value) : NS P (goPanic v : Sem α) := trivial
theorem ns_program : NS P program := trivial
theorem ns_und (t : TypeId) : NS P (underlying t) := by
  show NS P (match P.underlying t with | some d => pure d | none => stuck "no such type")
  cases P.underlying t <;> trivial
theorem ns_info (t : TypeId) : NS P (typeInfo t) := by
  show NS P (match P.info? t with | some d => pure d | none => stuck "no such type")
  cases P.info? t <;> trivial
theorem ns_infoE {α : Type} {t : TypeId} {f : TypeInfo → Sem α} (h : ∀ i, P.info? t = some i → NS P (f i)) : NS P (typeInfo t >>= f) := by
  show NS P (Sem.bind (match P.info? t with | some d => pure d | none => stuck "no such type") f)
  cases hd : P.info? t with
  | none => trivial
  | some d => exact h d hd
theorem ns_size (t : TypeId) : NS P (sizeOf t) := (ns_info t).bind' fun _ => trivial
theorem ns_isAgg (t : TypeId) : NS P (isAgg t) := (ns_und t).bind' fun d => by cases d <;> trivial
theorem ns_zero (t : TypeId) : NS P (zeroValue t) := (ns_info t).bind' fun i => by
  show NS P (match i.zero with | some v => pure v | none => unsupported (.resourceLimit "a value of more than 2^22 cells"))
  cases i.zero <;> trivial
theorem ns_load (a : Addr) : NS P (load a) := fun _ => trivial
theorem ns_store (a : Addr) (v : Value) : NS P (store a v) := trivial
theorem ns_newRow (e : TypeId) (c : Array Value) : NS P (newRow e c) := fun _ => trivial
theorem ns_newVar (e : TypeId) (v : Value) : NS P (newVar e v) := fun _ => trivial
theorem ns_loadFrom (a : Addr) : ∀ (n i : Nat) (acc : Array Value), NS P (loadCellsFrom a i n acc)
  | 0, _, _ => trivial
  | n + 1, i, acc => (ns_load _).bind' fun v => ns_loadFrom a n (i + 1) _
theorem ns_loadCells (a : Addr) (n : Nat) : NS P (loadCells a n) := ns_loadFrom a n 0 #[]
theorem ns_storeCells (a : Addr) : ∀ (vs : List Value) (i : Nat), NS P (storeCells a vs i)
  | [], _ => trivial
  | v :: vs, i => (ns_store _ _).bind' fun _ => ns_storeCells a vs (i + 1)
theorem ns_loadVar (t : TypeId) (a : Addr) : NS P (loadVar t a) := (ns_isAgg t).bind' fun b => by
  cases b
  · exact ns_load a
  · exact (ns_size t).bind' fun n => (ns_loadCells a n).bind' fun _ => trivial
theorem ns_ite {α : Type} {c : Prop} [Decidable c] {a b : Sem α} (ha : NS P a) (hb : NS P b) : NS P (if c then a else b) := by
  split
  · exact ha
  · exact hb
theorem ns_storeVar (t : TypeId) (a : Addr) (v : Value) : NS P (storeVar t a v) := (ns_size t).bind' fun n => ns_ite (trivial) (ns_storeCells a _ 0)
theorem ns_sure (v : Value) : NS P (Instr.sureAddr v) := by
  unfold Instr.sureAddr
  split <;> trivial
theorem ns_intOf (v : Value) : NS P (asIntOf v) := by
  unfold asIntOf
  split <;> trivial
theorem ns_int (v : Value) : NS P (asInt v) := (ns_intOf v).bind' fun _ => trivial
theorem ns_err {α : Type} (m : String) : NS P (runtimePanic (.error m) : Sem α) := trivial
theorem ns_nil {α : Type} : NS P (runtimePanic .nilDeref : Sem α) := trivial
theorem ns_bnd {α : Type} (x y : Int) (s : Bool) (c : BoundsCode) : NS P (runtimePanic (.bounds x y s c) : Sem α) := trivial
theorem ns_bounds {α : Type} (k : IntKind) (x y : Int) (c : BoundsCode) : NS P (boundsPanic k x y c : Sem α) := by
  unfold boundsPanic
  split
  · exact NS.bind' (m := Functor.map (· == 1) (choose _)) (NS.bind' (m := choose _) (f := fun n => pure (n == 1)) (ns_choose2 fun t => rfl) fun n => trivial) fun n => ns_bnd _ _ _ _
  · exact ns_bnd _ _ _ _
theorem ns_room (n : Nat) : NS P (askRoom n) := ns_ite trivial trivial
theorem ns_view (r : Nat) : NS P (viewAt r) := fun s => by
  cases s
  · exact fun o => by cases o <;> trivial
  · trivial
theorem ns_num (r : Nat) : NS P (numberAt r) := fun s => by
  cases s
  · exact fun o => by cases o <;> trivial
  · trivial
theorem ns_behind (a : Addr) : NS P (behindNumber a) := (ns_num _).bind' fun _ => trivial
theorem ns_shape (r : Nat) : NS P (shape r) := fun _ => trivial
theorem ns_noView (a : Addr) : NS P (noView a) := (ns_view _).bind' fun o => ns_ite trivial trivial
theorem ns_byteOf (a : Addr) : NS P (byteOf a) := by
  unfold byteOf
  split
  · trivial
  · refine ns_program.bind' fun p => (ns_noView a).bind' fun _ => (ns_shape _).bind' fun s => ?_
    split
    · refine ns_ite trivial ?_
      split <;> trivial
    · trivial
theorem ns_part (t : TypeId) (cs : Array Value) (n : Nat) : NS P (part t cs n) := (ns_isAgg t).bind' fun b => by
  cases b
  · show NS P (match cs[n]? with | some v => pure v | none => stuck "part: no such cell")
    cases cs[n]? <;> trivial
  · exact (ns_size t).bind' fun _ => trivial
theorem ns_forIn {α β : Type} {f : α → β → Sem (ForInStep β)} (h : ∀ a b, NS P (f a b)) : ∀ (l : List α) (b : β), NS P (forIn l b f)
  | [], b => by rw [List.forIn_nil]; trivial
  | a :: l, b => by
    rw [List.forIn_cons]
    refine (h a b).bind' fun s => ?_
    cases s with
    | done b => trivial
    | yield b => exact ns_forIn h l b
theorem ns_listM {α β : Type} {f : α → Sem β} (h : ∀ a, NS P (f a)) : ∀ l : List α, NS P (l.mapM f)
  | [] => by rw [List.mapM_nil]; trivial
  | a :: l => by
    rw [List.mapM_cons]
    exact (h a).bind' fun _ => (ns_listM h l).bind' fun _ => trivial
theorem ns_mapM {α β : Type} {f : α → Sem β} (h : ∀ a, NS P (f a)) (as : Array α) : NS P (as.mapM f) := by
  rw [Array.mapM_eq_mapM_toList, map_eq_pure_bind]
  exact (ns_listM h _).bind' fun _ => trivial
theorem ns_holds (a : Addr) (n : Nat) : NS P (Builtin.holdsCells a n) := fun s => by cases s <;> trivial
theorem ns_share (size sLen n : Nat) (base : Option Addr) (x : Value) : NS P (Builtin.mayShare size sLen n base x) := by
  unfold Builtin.mayShare
  have hrest : ∀ there : Bool, NS P (if (!there) = true then (Sem.pure true : Sem Bool) else (match x with
      | .slice (some b) _ _ => (do pure (!(← Builtin.holdsCells b (n * size)) || base.any (·.block == b.block)) : Sem Bool)
      | _ => Sem.pure false)) := by
    intro there
    refine ns_ite trivial ?_
    split
    · exact (ns_holds _ _).bind' fun _ => trivial
    · trivial
  cases base with
  | none => exact hrest true
  | some a => exact (ns_holds _ _).bind' fun b => fun s => hrest _
theorem ns_first (size n : Nat) (v : Value) : NS P (Builtin.firstCells size n v) := by
  unfold Builtin.firstCells
  split
  · exact ns_loadCells _ _
  · trivial
  · trivial
  · trivial
theorem ns_lenOf (v : Value) : NS P (Builtin.lenOf v) := by
  unfold Builtin.lenOf
  split <;> trivial
end
end Sim
end Go.Proofs.Ytaealkfnhhmmcaa
/- The operation of pure code asks nothing of the system. No condition. -/
namespace Go.Proofs.Ytaealkfnhhmmcaa
namespace Sim
open Go.Conc
set_option linter.unusedVariables false
section
variable {P : Program}
theorem ns_undE {α : Type} {t : TypeId} {f : TypeDesc → Sem α} (h : ∀ d, P.underlying t = some d → NS P (f d)) : NS P (underlying t >>= f) := by
  show NS P (Sem.bind (match P.underlying t with | some d => pure d | none => stuck "no such type") f)
  cases hd : P.underlying t with
  | none => trivial
  | some d => exact h d hd
theorem ns_newVarV (t : TypeId) (v : Value) : NS P (do pure (.pointer (some (← newVar t v))) : Sem Value) := (ns_newVar t v).bind' fun _ => trivial
theorem ns_alloc (t : TypeId) : NS P (Instr.alloc t true (.tuple #[])) := (ns_zero t).bind' fun z => ns_newVarV t z
theorem ns_fill {place : Nat → Option (Nat × Nat)} {cs : Array Value} {ps : List (Nat × Value)} {f : Option (Array Value) → Sem Value} (h : ∀ o, NS P (f o)) : NS P (f (Instr.fill place cs ps)) := h _
theorem ns_build (t : TypeId) (ps : Array (Nat × Value)) : NS P (Instr.build t ps) := by
  unfold Instr.build
  refine (ns_zero t).bind' fun z => (ns_und t).bind' fun d => ?_
  cases d with
  | struct fs =>
    refine (ns_mapM (f := fun x => (do pure (x.offset, ← sizeOf x.type) : Sem (Nat × Nat))) (fun x => (ns_size x.type).bind' fun n => ns_pure _) fs).bind' fun l => ?_
    exact ns_fill (f := fun o => match o with | some cells => (Pure.pure (Value.agg cells) : Sem Value) | x => stuck "build: no such field, or a part of the wrong size") fun o => by cases o <;> trivial
  | array n e =>
    refine (ns_size e).bind' fun l => ?_
    exact ns_fill (f := fun o => match o with | some cells => (Pure.pure (Value.agg cells) : Sem Value) | x => stuck "build: a part of the wrong size") fun o => by cases o <;> trivial
  | _ => trivial
theorem ns_bsRest (t : TypeId) (len : Nat) (elem : TypeId) (size : Nat) (ps : Array (Nat × Value)) (z : Array Value) : NS P (bsRest t len elem size ps z) := by
  unfold bsRest
  exact ns_fill (f := fun o => match o with | some cells => (do pure (.slice (some (← newRow elem cells)) len len) : Sem Value) | x => stuck "buildSlice: a part of the wrong size") fun o => by
    cases o with
    | none => trivial
    | some c => exact (ns_newRow elem c).bind' fun _ => trivial
theorem ns_buildSlice (t : TypeId) (len : Nat) (ps : Array (Nat × Value)) : NS P (Instr.buildSlice t len ps) := by
  unfold Instr.buildSlice
  refine (ns_und t).bind' fun d => ?_
  cases d with
  | slice elem =>
    refine (ns_size elem).bind' fun size => ?_
    by_cases h1 : len * size > 2 ^ 24
    · simp only [if_pos h1]
      trivial
    · simp only [if_neg h1]
      by_cases h2 : len * size = 0
      · simp only [if_pos h2]
        exact ns_bsRest t len elem size ps #[]
      · simp only [if_neg h2]
        exact (ns_zero elem).bind' fun z => ns_bsRest t len elem size ps z.cells
  | _ => trivial
theorem ns_makeSlice (t : TypeId) (x u : Value) : NS P (Instr.makeSlice t x u) := by
  unfold Instr.makeSlice
  refine (ns_und t).bind' fun d => ?_
  cases d with
  | slice elem =>
    refine (ns_int x).bind' fun n => (ns_int u).bind' fun n' => (ns_info elem).bind' fun i => ?_
    have tail : NS P (do
        askRoom ((IntKind.i64.wrap n').toNat * i.bytes)
        let s ← sizeOf elem
        if (IntKind.i64.wrap n').toNat * s = 0 then do
            let zero ← pure #[]
            let a ← newRow elem ((Array.range ((IntKind.i64.wrap n').toNat * s)).map (zero[· % zero.size]!))
            pure (Value.slice (some a) (IntKind.i64.wrap n).toNat (IntKind.i64.wrap n').toNat)
          else do
            let z ← zeroValue elem
            let zero ← pure z.cells
            let a ← newRow elem ((Array.range ((IntKind.i64.wrap n').toNat * s)).map (zero[· % zero.size]!))
            pure (Value.slice (some a) (IntKind.i64.wrap n).toNat (IntKind.i64.wrap n').toNat) : Sem Value) := by
      refine (ns_room _).bind' fun _ => (ns_size elem).bind' fun s => ns_ite ?_ ?_
      · exact (ns_newRow elem _).bind' fun _ => trivial
      · exact (ns_zero elem).bind' fun z => (ns_newRow elem _).bind' fun _ => trivial
    generalize hb : ((decide (IntKind.i64.wrap n' < 0) || decide ((i.bytes : Int) * IntKind.i64.wrap n' > 2 ^ 48)) || decide (IntKind.i64.wrap n < 0) || decide (IntKind.i64.wrap n > IntKind.i64.wrap n')) = b
    simp only [hb]
    cases b with
    | true =>
      simp only [if_true]
      exact ns_ite ((ns_err _).bind' fun _ => tail) (ns_ite ((ns_err _).bind' fun _ => tail) (NS.bind' (m := choose _) (ns_choose2 fun t => rfl) fun r => (ns_err _).bind' fun _ => tail))
    | false =>
      simp only [Bool.false_eq_true, if_false]
      exact tail
  | _ => trivial
theorem ns_unary (op : UnOp) (v : Value) : NS P (Op.unary op v) := by
  unfold Op.unary
  split <;> first | trivial | (unfold Op.intArith; split <;> trivial) | (unfold Op.intBits; split <;> trivial)
theorem ns_convert {ρ : BR} {s d : TypeId} {ks kd : IntKind} (hs : P.underlying s = some (.int ks)) (hd : P.underlying d = some (.int kd)) {x x' : Value} (hx : VR ρ x x') : NS P (convert s d x) := by
  unfold convert
  refine ns_undE fun a ha => ns_undE fun b hb => ?_
  rw [hs] at ha
  rw [hd] at hb
  cases ha
  cases hb
  cases hx <;> trivial
theorem ns_fieldAt (t : TypeId) (x : Value) (n : Nat) (hok : okField P t n = true) : NS P (Instr.fieldAt t x n) := by
  unfold Instr.fieldAt
  refine ns_undE fun d hd => ?_
  cases d with
  | struct fs =>
    dsimp only
    cases hf : fs[n]? with
    | none => trivial
    | some f =>
      refine (ns_sure x).bind' fun a => ?_
      unfold fieldPlace
      refine NS.bind' (NS.bind' (ns_size f.type) fun s => ns_ite ?_ trivial) fun _ => trivial
      exact (ns_byteOf _).bind' fun b => (ns_byteOf _).bind' fun b2 => trivial
  | _ => trivial
theorem ns_idxRest (t : TypeId) (k : IntKind) (n : Int) (b : Option Addr × Nat × TypeId) : NS P (idxRest t k n b) := by
  unfold idxRest
  refine (ns_und t).bind' fun d => ?_
  obtain ⟨a, len, e⟩ := b
  cases a with
  | none => exact ns_bounds _ _ _ _
  | some a => exact ns_ite ((ns_size e).bind' fun _ => trivial) (ns_ite trivial (ns_bounds _ _ _ _))
theorem ns_indexAt (t : TypeId) (x i : Value) : NS P (Instr.indexAt t x i) := by
  unfold Instr.indexAt
  refine (ns_intOf i).bind' fun kn => ?_
  obtain ⟨k, n⟩ := kn
  dsimp only
  refine (ns_und t).bind' fun d => ?_
  cases d with
  | array len e => exact (ns_sure x).bind' fun a => ns_idxRest t k n (some a, len, e)
  | slice e =>
    cases x with
    | slice b l c => exact ns_idxRest t k n (b, l, e)
    | _ => trivial
  | _ => trivial
theorem ns_extract (v : Value) (n : Nat) : NS P (Instr.extract v n) := by
  unfold Instr.extract
  split
  · split <;> trivial
  · trivial
theorem ns_len (ts : Array TypeId) (t : TypeId) (x : Value) : NS P (Builtin.len_ ts t #[x]) := by
  unfold Builtin.len_
  cases ht : ts[0]? with
  | none => trivial
  | some t0 =>
    simp only [List.getElem?_toArray, List.getElem?_cons_zero]
    refine (ns_und t0).bind' fun d => ?_
    cases d with
    | pointer arr => exact (ns_und arr).bind' fun d => by cases d <;> trivial
    | slice e => cases x <;> trivial
    | string => cases x <;> trivial
    | map a b =>
      cases x with
      | map r => cases r with
        | none => trivial
        | some r => exact NS.bind' (m := getObj r) (fun _ => trivial) fun o => by cases o <;> trivial
      | _ => trivial
    | chan a b =>
      cases x with
      | chan r => cases r with
        | none => trivial
        | some r => exact NS.bind' (m := getObj r) (fun _ => trivial) fun o => by cases o <;> trivial
      | _ => trivial
    | _ => cases x <;> trivial
end
end Sim
end Go.Proofs.Ytaealkfnhhmmcaa
/- The operation of pure code asks nothing of the system: reckoning, appending, all. No condition. -/
namespace Go.Proofs.Ytaealkfnhhmmcaa
namespace Sim
open Go.Conc
set_option linter.unusedVariables false
section
variable {P : Program} {ρ : BR}
theorem ns_intArith (op : BinOp) (k : IntKind) (a b : Int) : NS P (Op.intArith op k a b) := by unfold Op.intArith; split <;> trivial
theorem ns_intDiv (op : BinOp) (k : IntKind) (a b : Int) : NS P (Op.intDiv op k a b) := by
  unfold Op.intDiv
  split
  · trivial
  · split <;> trivial
theorem ns_intBits (op : BinOp) (k : IntKind) (a b : Int) : NS P (Op.intBits op k a b) := by unfold Op.intBits; cases op <;> trivial
theorem ns_intCmp (op : BinOp) (a b : Int) : NS P (Op.intCmp op a b) := by unfold Op.intCmp; split <;> trivial
theorem ns_str (op : BinOp) (a b : ByteArray) : NS P (Op.stringOp op a b) := by
  unfold Op.stringOp
  cases op <;> first | trivial | (dsimp only; split <;> trivial)
theorem ns_uAdd (t : TypeId) (x y : Value) : NS P (Builtin.unsafeAdd_ #[] t #[x, y]) := by
  unfold Builtin.unsafeAdd_
  cases x with
  | pointer ptr =>
    refine (ns_int y).bind' fun n => ?_
    by_cases h1 : n = 0
    · simp only [if_pos h1]
      cases ptr with
      | none => trivial
      | some a => exact (ns_view _).bind' fun o => ns_ite trivial trivial
    · simp only [if_neg h1]
      by_cases h2 : n < 0
      · simp only [if_pos h2]
        trivial
      · simp only [if_neg h2]
        cases ptr with
        | none => trivial
        | some a =>
          refine (ns_shape _).bind' fun s => ?_
          cases s with
          | none => trivial
          | some s =>
            obtain ⟨e, cells⟩ := s
            refine ns_program.bind' fun p => ?_
            split <;> trivial
  | _ => trivial
theorem ns_moved (t : TypeId) (x y : Value) : NS P (movedNumber t x y) := by
  unfold movedNumber
  refine (ns_und t).bind' fun d => ?_
  have hrest : NS P (match x with
      | .pointer (some n) => (behindNumber n >>= fun q => Builtin.unsafeAdd_ #[] t #[.pointer (some q.1), y] >>= fun r => match r with
        | .pointer (some b) => asNumber b q.2
        | v => pure v : Sem Value)
      | x_1 => Builtin.unsafeAdd_ #[] t #[x, y]) := by
    cases x with
    | pointer a => cases a with
      | some a =>
        refine (ns_behind a).bind' fun q => (ns_uAdd _ _ _).bind' fun r => ?_
        cases r with
        | pointer b => cases b with
          | some b => exact fun _ => trivial
          | none => trivial
        | _ => trivial
      | none => exact ns_uAdd _ _ _
    | _ => exact ns_uAdd _ _ _
  cases d with
  | unsafePointer => trivial
  | _ =>
    simp only [Bool.false_eq_true, if_false]
    exact hrest
theorem ns_add0 (t : TypeId) (x y : Value) : NS P (do if (← underlying t) matches .unsafePointer then movedPointer t x y else movedNumber t x y : Sem Value) := by
  refine (ns_und t).bind' fun d => ?_
  cases d with
  | unsafePointer =>
    simp only [if_true]
    unfold movedPointer
    split
    · exact (ns_num _).bind' fun o => ns_ite trivial (ns_uAdd _ _ _)
    · exact ns_uAdd _ _ _
  | _ =>
    simp only [Bool.false_eq_true, if_false]
    exact ns_moved t x y
theorem ns_two (a b : Addr) : NS P (Op.twoPlaces a b) := by
  unfold Op.twoPlaces
  refine ns_program.bind' fun p => ns_ite trivial ?_
  exact (ns_byteOf _).bind' fun _ => (ns_byteOf _).bind' fun _ => trivial
theorem ns_bSub (k : IntKind) (a c : Addr) : NS P (do Op.addrSub k (← behindNumber a).1 (← behindNumber c).1 : Sem Value) := (ns_behind _).bind' fun _ => (ns_behind _).bind' fun _ => (ns_two _ _).bind' fun _ => trivial
theorem ns_bCmp (op : BinOp) (a c : Addr) : NS P (do Op.addrCmp op (← behindNumber a).1 (← behindNumber c).1 : Sem Value) := (ns_behind _).bind' fun _ => (ns_behind _).bind' fun _ => (ns_two _ _).bind' fun _ => by cases op <;> trivial
theorem ns_bMod (k : IntKind) (a : Addr) (n : Int) : NS P (do Op.addrMod k (← behindNumber a).1 n : Sem Value) := (ns_behind _).bind' fun q => by
  unfold Op.addrMod
  refine (ns_shape _).bind' fun s => ?_
  cases s with
  | none => trivial
  | some s =>
    obtain ⟨e, m⟩ := s
    exact (ns_info _).bind' fun i => ns_ite trivial ((ns_byteOf _).bind' fun _ => trivial)
theorem ns_equalIn : ∀ (n d : Nat) (t : TypeId) {x y : Value}, okEq P n t = true → NS P (Op.equalIn d t x y)
  | 0, _, _, _, _, h => by simp [okEq] at h
  | n + 1, 0, t, x, y, h => by unfold Op.equalIn; trivial
  | n + 1, d + 1, t, x, y, h => by
    unfold Op.equalIn
    refine ns_undE fun dd hd => ?_
    rw [okEq, hd] at h
    cases dd with
    | bool => cases x <;> cases y <;> trivial
    | string => cases x <;> cases y <;> trivial
    | int k =>
      have hpp : ∀ a b : Addr, NS P (do
          let (a, b) := ((← behindNumber a).1, (← behindNumber b).1)
          if a.block == b.block && a.block < (← program).globals.size then return (← byteOf a) == (← byteOf b)
          let .named "sync.copyChecker" _ := (← typeInfo t).desc | unsupported .addressObserved
          if a == b then pure true else unsupported .addressObserved : Sem Bool) := by
        intro a b
        refine (ns_behind a).bind' fun q => (ns_behind b).bind' fun q2 => ns_program.bind' fun p => ns_ite ?_ ?_
        · exact (ns_byteOf _).bind' fun _ => (ns_byteOf _).bind' fun _ => trivial
        · refine (ns_info t).bind' fun i => ?_
          split
          · exact ns_ite trivial trivial
          · trivial
      cases x with
      | int k1 n1 => cases y with
        | int k2 n2 => exact ns_ite trivial trivial
        | pointer a => cases a with
          | some a => rcases n1 with (_ | n1) | n1 <;> trivial
          | none => trivial
        | _ => trivial
      | pointer a => cases a with
        | some a => cases y with
          | int k2 n2 => rcases n2 with (_ | n2) | n2 <;> trivial
          | pointer b => cases b with
            | some b => exact hpp a b
            | none => trivial
          | _ => trivial
        | none => cases y <;> trivial
      | _ => cases y <;> trivial
    | struct fs =>
      cases x with
      | agg cs => cases y with
        | agg cs2 =>
          refine ns_program.bind' fun p => ns_ite trivial ?_
          refine NS.bind' ?_ fun r => by obtain ⟨o, u⟩ := r; cases o <;> trivial
          rw [← Array.forIn_toList]
          have hall : ∀ (l : List Field) (b : Option Bool × Unit), (∀ f ∈ l, okEq P n f.type = true) → NS P (forIn l b fun f __s => if f.name ≠ "_" then (do
              let u ← part f.type cs f.offset
              let v ← part f.type cs2 f.offset
              let r ← Op.equalIn d f.type u v
              if (!r) = true then pure (ForInStep.done (some false, ())) else pure (ForInStep.yield (none, ()))) else pure (ForInStep.yield (none, ()))) := by
            intro l
            induction l with
            | nil => intro b _; rw [List.forIn_nil]; trivial
            | cons f l ih =>
              intro b hl
              rw [List.forIn_cons]
              refine NS.bind' ?_ fun s => by
                cases s with
                | done b => trivial
                | yield b => exact ih b fun f hf => hl f (by simp [hf])
              refine ns_ite ?_ trivial
              refine (ns_part _ _ _).bind' fun u => (ns_part _ _ _).bind' fun v => (ns_equalIn n d f.type (hl f (by simp))).bind' fun r => ns_ite trivial trivial
          exact hall _ _ fun f hf => List.all_eq_true.1 h f hf
        | _ => trivial
      | _ => cases y <;> trivial
    | array m e =>
      cases x with
      | agg cs => cases y with
        | agg cs2 =>
          refine (ns_size e).bind' fun s => NS.bind' ?_ fun r => by obtain ⟨o, u⟩ := r; cases o <;> trivial
          rw [Std.Legacy.Range.forIn_eq_forIn_range']
          refine ns_forIn (fun k b => ?_) _ _
          exact (ns_part _ _ _).bind' fun u => (ns_part _ _ _).bind' fun v => (ns_equalIn n d e h).bind' fun r => ns_ite trivial trivial
        | _ => trivial
      | _ => cases y <;> trivial
    | _ => cases h
theorem ns_eql {t : TypeId} {x y : Value} (h : okEq P 10 t = true) : NS P (do pure (.bool (← Op.equal t x y)) : Sem Value) := (ns_equalIn 10 Op.maxDepth t h).bind' fun _ => trivial
theorem ns_neq {t : TypeId} {x y : Value} (h : okEq P 10 t = true) : NS P (do pure (.bool (!(← Op.equal t x y))) : Sem Value) := (ns_equalIn 10 Op.maxDepth t h).bind' fun _ => trivial
theorem ns_movedV {t : TypeId} {x x' y y' : Value} (hx : VR ρ x x') (hy : VR ρ y y') : NS P (movedNumber t x y) := ns_moved t x y
set_option maxHeartbeats 4000000 in
theorem ns_binOp {op : BinOp} {t : TypeId} {x x' y y' : Value} (h : okBin P op t = true) (hx : VR ρ x x') (hy : VR ρ y y') : NS P (binOp op t x y) := by
  have heq : op = .eql ∨ op = .neq → okEq P 10 t = true := by
    rintro (rfl | rfl) <;> (simp only [okBin, Bool.and_eq_true] at h; exact h.1)
  have hX := hx
  have hY := hy
  cases hx with
  | int k a => cases hy with
    | int k' b =>
      by_cases hk : k = k'
      · subst hk
        cases op <;> first | (cases h; done) | (simp only [binOp, ne_eq, not_true_eq_false, if_false]; first | exact ns_intArith _ _ _ _ | exact ns_intDiv _ _ _ _ | exact ns_intBits _ _ _ _ | exact ns_intCmp _ _ _)
      · cases op <;> first | (cases h; done) | (simp only [binOp, ne_eq, hk, not_false_eq_true, if_true]; trivial)
    | _ => cases op <;> first | (cases h; done) | trivial | exact ns_movedV hY hX | exact ns_eql (heq (.inl rfl)) | exact ns_neq (heq (.inr rfl))
  | str a => cases hy with
    | str b => cases op <;> first | (cases h; done) | (simp only [binOp]; exact ns_str _ _ _)
    | _ => cases op <;> first | (cases h; done) | trivial | exact ns_eql (heq (.inl rfl)) | exact ns_neq (heq (.inr rfl))
  | ptr b c o s hb => cases hy with
    | int k a => cases op <;> first | (cases h; done) | trivial | exact ns_add0 _ _ _ | exact ns_movedV hX (.int _ _) | exact ns_bMod _ _ _ | exact ns_eql (heq (.inl rfl)) | exact ns_neq (heq (.inr rfl))
    | ptr b2 c2 o2 s2 hb2 => cases op <;> first | (cases h; done) | trivial | exact ns_bSub _ _ _ | exact ns_bCmp _ _ _ | exact ns_eql (heq (.inl rfl)) | exact ns_neq (heq (.inr rfl))
    | _ => cases op <;> first | (cases h; done) | trivial | exact ns_eql (heq (.inl rfl)) | exact ns_neq (heq (.inr rfl))
  | ptr0 => cases hy with
    | int k a => cases op <;> first | (cases h; done) | trivial | exact ns_add0 _ _ _ | exact ns_movedV hX (.int _ _) | exact ns_eql (heq (.inl rfl)) | exact ns_neq (heq (.inr rfl))
    | _ => cases op <;> first | (cases h; done) | trivial | exact ns_eql (heq (.inl rfl)) | exact ns_neq (heq (.inr rfl))
  | _ => cases hy <;> (cases op <;> first | (cases h; done) | trivial | exact ns_eql (heq (.inl rfl)) | exact ns_neq (heq (.inr rfl)))
end
end Sim
end Go.Proofs.Ytaealkfnhhmmcaa
/- The operation of pure code asks nothing of the system: all. No condition. -/
namespace Go.Proofs.Ytaealkfnhhmmcaa
namespace Sim
open Go.Conc
set_option linter.unusedVariables false
section
variable {P : Program} {ρ : BR}
theorem ns_guardIn : ∀ (n d : Nat) (t : TypeId) {x y : Value}, okEq P n t = true → NS P (Op.eqGuardIn d t x y)
  | 0, _, _, _, _, h => by simp [okEq] at h
  | n + 1, 0, t, x, y, h => by unfold Op.eqGuardIn; trivial
  | n + 1, d + 1, t, x, y, h => by
    unfold Op.eqGuardIn
    refine ns_undE fun dd hd => ?_
    rw [okEq, hd] at h
    cases dd with
    | struct fs =>
      cases x with
      | agg cs => cases y with
        | agg cs2 =>
          refine NS.bind' ?_ fun r => by obtain ⟨o, u⟩ := r; cases o <;> trivial
          rw [← Array.forIn_toList]
          have hall : ∀ (l : List Field) (b : Option Bool × Unit), (∀ f ∈ l, okEq P n f.type = true) → NS P (forIn l b fun f __s => if f.name ≠ "_" then (do
              let u ← part f.type cs f.offset
              let v ← part f.type cs2 f.offset
              let r ← Op.eqGuardIn d f.type u v
              if r = true then pure (ForInStep.done (some true, ())) else pure (ForInStep.yield (none, ()))) else pure (ForInStep.yield (none, ()))) := by
            intro l
            induction l with
            | nil => intro b _; rw [List.forIn_nil]; trivial
            | cons f l ih =>
              intro b hl
              rw [List.forIn_cons]
              refine NS.bind' ?_ fun s => by
                cases s with
                | done b => trivial
                | yield b => exact ih b fun f hf => hl f (by simp [hf])
              refine ns_ite ?_ trivial
              refine (ns_part _ _ _).bind' fun u => (ns_part _ _ _).bind' fun v => (ns_guardIn n d f.type (hl f (by simp))).bind' fun r => ns_ite trivial trivial
          exact hall _ _ fun f hf => List.all_eq_true.1 h f hf
        | _ => trivial
      | _ => cases y <;> trivial
    | array m e =>
      cases x with
      | agg cs => cases y with
        | agg cs2 =>
          refine (ns_size e).bind' fun s => NS.bind' ?_ fun r => by obtain ⟨o, u⟩ := r; cases o <;> trivial
          rw [Std.Legacy.Range.forIn_eq_forIn_range']
          refine ns_forIn (fun k b => ?_) _ _
          exact (ns_part _ _ _).bind' fun u => (ns_part _ _ _).bind' fun v => (ns_guardIn n d e h).bind' fun r => ns_ite trivial trivial
        | _ => trivial
      | _ => cases y <;> trivial
    | _ => first | (cases h; done) | (cases x <;> cases y <;> trivial)
theorem ns_eqGuard {op : BinOp} {t : TypeId} (u v : Operand) (h : okBin P op t = true) (x y : Value) : NS P (eqGuard op t u v x y) := by
  have h2 : op = .eql ∨ op = .neq → okEq P 10 t = true := by
    rintro (rfl | rfl) <;> (simp only [okBin, Bool.and_eq_true] at h; exact h.1)
  by_cases hop : op = .eql ∨ op = .neq
  · have h3 := h2 hop
    have e1 : eqGuard op t u v x y = (match x, y with
      | .nilIface, .nilIface => (do
        if (u matches .const _) || (v matches .const _) then return
        if ← Op.eqGuardIn Op.maxDepth t x y then unsupported (.noEntry "binop/eql: two nil values of an interface type with methods, neither of them the literal nil") : Sem Unit)
      | .agg _, .agg _ => (do
        if !(← program).eqGuardType (← program).depth t then return
        if ← Op.eqGuardIn Op.maxDepth t x y then unsupported (.noEntry "binop/eql: two nil values of an interface type with methods, in a part of a struct or an array") : Sem Unit)
      | _, _ => pure ()) := by
      unfold eqGuard
      rcases hop with rfl | rfl <;> rfl
    rw [e1]
    cases x with
    | nilIface => cases y with
      | nilIface =>
        dsimp only
        exact ns_ite trivial ((ns_guardIn 10 _ _ h3).bind' fun b => ns_ite trivial trivial)
      | _ => trivial
    | agg cs => cases y with
      | agg cs2 =>
        dsimp only
        exact ns_program.bind' fun p => ns_program.bind' fun p2 => ns_ite trivial ((ns_guardIn 10 _ _ h3).bind' fun b => ns_ite trivial trivial)
      | _ => trivial
    | _ => cases y <;> trivial
  · have e1 : eqGuard op t u v x y = pure () := by
      unfold eqGuard
      cases op <;> first | rfl | (exact absurd (.inl rfl) hop) | (exact absurd (.inr rfl) hop)
    rw [e1]
    trivial
theorem bindA {α β γ : Type} {f : α → Sem β} {g : β → Sem γ} (m : Sem α) : (m.bind f).bind g = m.bind fun a => (f a).bind g := by
  induction m with
  | pure a => rfl
  | load m a k ih => simp only [Sem.bind, ih]
  | store m a v k ih => simp only [Sem.bind, ih]
  | new o k ih => simp only [Sem.bind, ih]
  | shape r k ih => simp only [Sem.bind, ih]
  | freeze a n k ih => simp only [Sem.bind, ih]
  | frozen a k ih => simp only [Sem.bind, ih]
  | getObj r k ih => simp only [Sem.bind, ih]
  | setObj r o k ih => simp only [Sem.bind, ih]
  | choose q k ih => simp only [Sem.bind, ih]
  | sys c k ih => simp only [Sem.bind, ih]
  | program k ih => simp only [Sem.bind, ih]
  | mark m k ih => simp only [Sem.bind, ih]
  | halt h => rfl
theorem ns_bind2 {α β γ : Type} {m : Sem α} {g : α → Sem β} {f : β → Sem γ} (h : NS P m) (hg : ∀ a, NS P ((g a).bind f)) : NS P ((m >>= g) >>= f) := by
  show NS P ((m.bind g).bind f)
  rw [bindA]
  exact h.bind hg
theorem growBy_ge (n : Nat) : ∀ r c, c ≤ Builtin.growBy n r c
  | 0, c => Nat.le_refl _
  | r + 1, c => by
    unfold Builtin.growBy
    split
    · exact Nat.le_refl _
    · exact Nat.le_trans (Nat.le_add_right _ _) (growBy_ge n r _)
theorem next_ge (n c : Nat) : n ≤ 2 * Builtin.nextslicecap n c := by
  unfold Builtin.nextslicecap
  split
  · omega
  · split
    · omega
    · have := growBy_ge n 4 c
      omega
theorem cap_small {n c b : Nat} (h1 : ¬ ((n : Int) > IntKind.i64.max ∧ b = 0)) (h2 : ¬ Builtin.nextslicecap n c * b > 2 ^ 48) : n < 2 ^ 63 := by
  by_cases h : n < 2 ^ 63
  · exact h
  · exfalso
    have e : IntKind.i64.max = 2 ^ 63 - 1 := by decide
    have hb : b ≠ 0 := fun h0 => h1 ⟨by rw [e]; omega, h0⟩
    have := next_ge n c
    refine h2 (Nat.lt_of_lt_of_le (show 2 ^ 48 < Builtin.nextslicecap n c by omega) (Nat.le_mul_of_pos_right _ (by omega)))
theorem ns_append {T ty e : TypeId} (hT : P.underlying T = some (.slice e)) (x y : Value) : NS P (Builtin.append_ #[T, T] ty #[x, y]) := by
  unfold Builtin.append_
  simp only [List.getElem?_toArray, List.getElem?_cons_zero, List.getElem?_cons_succ]
  refine ns_undE fun d hd => ?_
  rw [hT] at hd
  cases hd
  cases x with
  | slice base sLen sCap =>
    refine (ns_size e).bind' fun size => ?_
    refine ns_undE fun d hd => ?_
    rw [hT] at hd
    cases hd
    simp only [pure_bind, Bool.false_eq_true, if_false, Bool.not_false, if_true, false_or]
    refine (ns_lenOf y).bind' fun n => ns_ite ((ns_first _ _ _).bind' fun cs => ?_) ?_
    · cases base with
      | none => trivial
      | some a => exact (ns_storeCells _ _ 0).bind' fun _ => trivial
    · have t2 : sLen + n < 2 ^ 63 → NS P (do
              let newCap ← choose (Question.appendCap (sLen + n) sCap e)
              let i ← typeInfo e
              askRoom (newCap * i.bytes)
              let old ← Builtin.firstCells size sLen (Value.slice base sLen sCap)
              let new ← Builtin.firstCells size n y
              let z ← zeroValue e
              let r ← newRow e (old ++ new ++ Builtin.zeroCells z.cells (newCap - (sLen + n)))
              pure (Value.slice (some r) (sLen + n) newCap) : Sem Value) := fun h =>
          NS.bind' (m := choose _) (ns_cap h) fun newCap => (ns_info e).bind' fun i => (ns_room _).bind' fun _ => (ns_first _ _ _).bind' fun old => (ns_first _ _ _).bind' fun new => (ns_zero e).bind' fun z => (ns_newRow e _).bind' fun r => trivial
      refine ns_infoE fun i hi => ?_
      by_cases h1 : ((sLen + n : Nat) : Int) > IntKind.i64.max ∧ i.bytes = 0
      · simp only [if_pos h1]
        exact trivial
      · simp only [if_neg h1]
        refine ns_infoE fun i2 hi2 => ?_
        rw [hi] at hi2
        cases hi2
        by_cases h2 : Builtin.nextslicecap (sLen + n) sCap * i.bytes > 2 ^ 48
        · simp only [if_pos h2]
          refine ns_bind2 (ns_share _ _ _ _ _) fun b => ?_
          cases b <;> trivial
        · simp only [if_neg h2]
          exact t2 (cap_small h1 h2)
  | _ => trivial
theorem ns_v {m : Sem Value} (h : NS P m) : NS P (do pure (.value (← m)) : Sem Next) := h.bind' fun _ => trivial
theorem ns_u {m : Sem Unit} (h : NS P m) : NS P (do m; pure .skip : Sem Next) := h.bind' fun _ => trivial
theorem ns_max {ρ : BR} {ts : Array TypeId} {t : TypeId} {x x' y y' : Value} (hx : VR ρ x x') (hy : VR ρ y y') : NS P (Builtin.max_ ts t #[x, y]) := by
  have e : ∀ a b : Value, Builtin.max_ ts t #[a, b] = (Builtin.max2 a b >>= fun v => pure v) := fun a b => rfl
  rw [e]
  refine NS.bind' ?_ fun v => trivial
  cases hx with
  | int k n => cases hy <;> trivial
  | str s => cases hy <;> trivial
  | _ => cases hy <;> trivial
theorem ns_exec {L : LSet} {dd : Nat → Bool} {ev ev' : Operand → Value} {o : Oper} (hok : okOp P L dd o.op = true) (h : ∀ x, okX dd x = true → VR ρ (ev x) (ev' x)) (hf : ∀ f, ev (.func f) = .func (.func f) #[] #[]) : NS P (execOp ev o) := by
  obtain ⟨dst, op, ty, pos, after, guard⟩ := o
  dsimp only at hok
  cases op with
  | move x => trivial
  | assign x => trivial
  | pick c a b =>
    unfold execOp
    dsimp only
    cases ev c <;> trivial
  | alloc t => exact ns_v (ns_alloc t)
  | box t x => exact ns_v (ns_newVarV t _)
  | build t ps => exact ns_v (ns_build t _)
  | buildSlice t n ps => exact ns_v (ns_buildSlice t n _)
  | load t a => exact ns_v ((ns_sure _).bind' fun a => ns_loadVar t a)
  | store t a x => exact ns_u ((ns_sure _).bind' fun a => ns_storeVar t a _)
  | binOp op t x y t2 =>
    simp only [okOp, Bool.and_eq_true] at hok
    exact ns_v ((ns_eqGuard x y hok.1.1 _ _).bind' fun _ => ns_binOp hok.1.1 (h x hok.1.2) (h y hok.2))
  | unOp op t x => exact ns_v (ns_unary op _)
  | convert s d x =>
    simp only [okOp, Bool.and_eq_true] at hok
    obtain ⟨h1, h2⟩ := hok
    cases hs : P.underlying s with
    | none => rw [hs] at h1; cases h1
    | some a => cases hd : P.underlying d with
      | none => rw [hs, hd] at h1; cases a <;> cases h1
      | some b =>
        rw [hs, hd] at h1
        cases a <;> cases b <;> first | (cases h1; done) | exact ns_v (ns_convert hs hd (h x h2))
  | makeSlice t l c => exact ns_v (ns_makeSlice t _ _)
  | fieldAddr s x f =>
    simp only [okOp, Bool.and_eq_true] at hok
    exact ns_v (ns_fieldAt s _ f hok.1)
  | indexAddr t x i => exact ns_v (ns_indexAt t _ _)
  | extract x n => exact ns_v (ns_extract _ n)
  | call c =>
    obtain ⟨callee, args, ats⟩ := c
    simp only [okOp, okCall, Bool.and_eq_true] at hok
    obtain ⟨h1, h2⟩ := hok
    cases callee with
    | value f => cases f with
      | func f =>
        dsimp only at h2
        cases hff : P.funcs[f]? with
        | none => rw [hff] at h2; simp at h2
        | some fn =>
          rw [hff] at h2
          simp only [Bool.and_eq_true, bne_iff_ne, ne_eq] at h2
          obtain ⟨hL, h3, h4⟩ := h2
          have hb : fn.body.isNone = false := by cases hx : fn.body <;> simp_all
          have hn : (fn.name == "runtime.NumGoroutine") = false := by simpa using h4
          show NS P (Sem.bind (Deferred.ofValue (ev (.func f)) (args.map ev)) fun d => invoke d.target d.args)
          rw [hf]
          show NS P (callFunc f ((#[] ++ args.map ev) ++ #[]))
          show NS P (Sem.bind (Sem.pure P) _)
          simp only [pb, hff, hn, hb, Bool.false_eq_true, if_false]
          trivial
      | _ => cases h2
    | builtin b => cases b with
      | len =>
        obtain ⟨a, rfl⟩ := size1 (by simpa using h2)
        refine ns_v (m := Builtin.len_ ats ty ((#[a]).map ev)) ?_
        rw [show (#[a]).map ev = #[ev a] from by simp]
        exact ns_len _ _ _
      | max =>
        obtain ⟨a, b, rfl⟩ := size2 (by simpa using h2)
        have hx : okX dd a = true ∧ okX dd b = true := by simpa using h1
        refine ns_v (m := Builtin.max_ ats ty ((#[a, b]).map ev)) ?_
        rw [show (#[a, b]).map ev = #[ev a, ev b] from by simp]
        exact ns_max (h a hx.1) (h b hx.2)
      | append =>
        simp only [Bool.and_eq_true, beq_iff_eq] at h2
        obtain ⟨⟨⟨h3, h4⟩, h5⟩, h6⟩ := h2
        obtain ⟨a, b, rfl⟩ := size2 h3
        obtain ⟨T, U, rfl⟩ := size2 h4
        have hTU : T = U := by simpa using h5
        subst hTU
        simp only [List.getElem?_toArray, List.getElem?_cons_zero] at h6
        cases hu : P.underlying T with
        | none => rw [hu] at h6; cases h6
        | some d =>
          rw [hu] at h6
          cases d with
          | slice e =>
            refine ns_v (m := Builtin.append_ #[T, T] ty ((#[a, b]).map ev)) ?_
            rw [show (#[a, b]).map ev = #[ev a, ev b] from by simp]
            exact ns_append hu _ _
          | _ => cases h6
      | _ => cases h2
    | invoke r n => cases h2
  | _ => cases hok
theorem ns_results (fn : Func) (tv : Array Value) : NS P (results fn tv) := by
  unfold results
  refine (ns_mapM (fun r => ?_) _).bind' fun vs => trivial
  cases r with
  | tmp t => trivial
  | cell a t =>
    refine NS.bind' ?_ fun a => ns_loadVar t a
    unfold asAddr
    split <;> first | trivial | exact ns_nil
end
end Sim
end Go.Proofs.Ytaealkfnhhmmcaa
/- One step of pure code: the lone goroutine's and its picture's. No condition. -/
namespace Go.Proofs.Ytaealkfnhhmmcaa
namespace Sim
open Go.Conc
set_option linter.unusedVariables false
section
variable (P : Program) (L : LSet) (dd : Nat → Bool)
/-- An operation that is pure and names no dead temporary. -/
def okOper (o : Oper) : Bool := okOp P L dd o.op && (match o.dst with | some t => !dd t | none => true)
def resOk : ResultVar → Bool
  | .tmp t => !dd t
  | .cell a _ => !dd a
def okCode : Code → Bool
  | .region _ ops _ => ops.toList.all (okOper P L dd)
  | .seq a b => okCode a && okCode b
  | .cond c a b => okX dd c && okCode a && okCode b
  | .block _ b => okCode b
  | .loop b => okCode b
  | .scope b => okCode b
  | .rangeFunc _ _ _ _ => false
  | _ => true
def okItem : Item → Bool
  | .code c => okCode P L dd c
  | .inBlock _ => true
  | .inLoop b => okCode P L dd b
  | .inScope b => okCode P L dd b
  | .inRegion ops _ => ops.toList.all (okOper P L dd)
  | _ => false
def okTodo (l : List Item) : Bool := l.all (okItem P L dd)
end
/-- Every function of the set is pure code; no function hands back a dead temporary. -/
def okSet (P : Program) (L : LSet) : Prop := (∀ f, L.ok f = true → ∃ fn c, P.funcs[f]? = some fn ∧ fn.body = some c ∧ okCode P L (L.dead f) c = true) ∧ ∀ (f : FuncId) (fn : Func), P.funcs[f]? = some fn → fn.results.all (resOk (L.dead f)) = true
section
variable {P : Program} {L : LSet} {dd : Nat → Bool}
theorem okTodo_cons {i : Item} {k : List Item} : okTodo P L dd (i :: k) = true ↔ okItem P L dd i = true ∧ okTodo P L dd k = true := by simp [okTodo]
theorem exitTo_ok {id : Nat} : ∀ {k k' : List Item}, exitTo id k = some k' → okTodo P L dd k = true → okTodo P L dd k' = true
  | [], _, h, _ => by simp [exitTo] at h
  | i :: k, k', h, hk => by
    have hk2 := (okTodo_cons.1 hk).2
    unfold exitTo at h
    split at h
    · rename_i h1
      cases h1
      split at h
      · cases h; exact hk2
      · exact exitTo_ok h hk2
    · rename_i h1
      cases h1
      exact exitTo_ok h hk2
    · cases h
theorem findLabel_ok {l : Nat} : ∀ {c c' : Code}, findLabel c l = some c' → okCode P L dd c = true → okCode P L dd c' = true := by
  intro c
  induction c with
  | seq a b iha ihb =>
    intro c' h hc
    simp only [okCode, Bool.and_eq_true] at hc
    unfold findLabel at h
    split at h
    · rename_i rest hr
      cases h
      simp only [okCode, Bool.and_eq_true]
      exact ⟨iha hr hc.1, hc.2⟩
    · exact ihb h hc.2
  | label l' =>
    intro c' h hc
    unfold findLabel at h
    split at h
    · cases h; rfl
    · cases h
  | _ => intro c' h hc; simp [findLabel] at h
theorem gotoIn_ok {l : Nat} : ∀ {k k' : List Item}, gotoIn l k = some k' → okTodo P L dd k = true → okTodo P L dd k' = true
  | [], _, h, _ => by simp [gotoIn] at h
  | i :: k, k', h, hk => by
    obtain ⟨hk1, hk2⟩ := okTodo_cons.1 hk
    unfold gotoIn at h
    split at h
    · rename_i body k2 h1
      cases h1
      split at h
      · rename_i rest hr
        cases h
        exact okTodo_cons.2 ⟨findLabel_ok (P := P) (L := L) (dd := dd) hr hk1, okTodo_cons.2 ⟨hk1, hk2⟩⟩
      · exact gotoIn_ok h hk2
    · rename_i h1
      cases h1
      exact gotoIn_ok h hk2
    · cases h
variable (P L)
/-- A function of the program. -/
def Fr (f : FuncId) : Prop := ∃ fn, P.funcs[f]? = some fn
/-- Temporaries alike, but for the dead ones. -/
def AD (dd : Nat → Bool) (ρ : BR) (tv tc : Array Value) : Prop := tv.size = tc.size ∧ ∀ (i : Nat) x y, dd i = false → tv[i]? = some x → tc[i]? = some y → VR ρ x y
/-- The callers: alike, down to what each side stands on. -/
inductive KR (bv bc : List Frame) (ρ : BR) : List Frame → List Frame → Prop
  | base : KR bv bc ρ bv bc
  | cons (f : FuncId) (tv tc : Array Value) (todo : List Item) (kv kc : List Frame) (hL : Fr P f) (hk : okTodo P L (L.dead f) todo = true) (ht : AD (L.dead f) ρ tv tc) (h : KR bv bc ρ kv kc) :
      KR bv bc ρ ((base f).at ⟨tv, []⟩ todo :: kv) ((base f).at ⟨tc, []⟩ todo :: kc)
inductive GR (bv bc : List Frame) (ρ : BR) : Goroutine → Goroutine → Prop
  | run (f : FuncId) (tv tc : Array Value) (todo : List Item) (kv kc : List Frame) (hL : Fr P f) (hk : okTodo P L (L.dead f) todo = true) (ht : AD (L.dead f) ρ tv tc) (h : KR P L bv bc ρ kv kc) :
      GR bv bc ρ (G ((base f).at ⟨tv, []⟩ todo) kv) (G ((base f).at ⟨tc, []⟩ todo) kc)
  | ret (f : FuncId) (tv tc : Array Value) (todo : List Item) (kv kc : List Frame) (hL : Fr P f) (ht : AD (L.dead f) ρ tv tc) (h : KR P L bv bc ρ kv kc) :
      GR bv bc ρ (G { (base f).at ⟨tv, []⟩ todo with mode := .returning } kv) (G { (base f).at ⟨tc, []⟩ todo with mode := .returning } kc)
/-- A goroutine that is panicking over frames that defer nothing. -/
inductive PK (bv : List Frame) : List Frame → Prop
  | base : PK bv bv
  | cons (f : FuncId) (tv : Array Value) (todo : List Item) (kv : List Frame) (hL : Fr P f) (h : PK bv kv) : PK bv ((base f).at ⟨tv, []⟩ todo :: kv)
def Pan (bv : List Frame) (g : Goroutine) : Prop := ∃ f tv todo kv chain, Fr P f ∧ PK P bv kv ∧ g = G { (base f).at ⟨tv, []⟩ todo with mode := .panicking chain } kv
/-- What the next step is, on both sides. -/
inductive Form (bv bc : List Frame) (ρ : BR) (gv gc : Goroutine) : Prop
  | fin (f : FuncId) (tv tc : Array Value) (todo : List Item) (hL : Fr P f) (ht : AD (L.dead f) ρ tv tc) (hv : gv = G { (base f).at ⟨tv, []⟩ todo with mode := .returning } bv) (hc : gc = G { (base f).at ⟨tc, []⟩ todo with mode := .returning } bc)
  | dead (h : ∀ w, ∃ o w' es, stepG P true gv w = .ended o w' es)
  | ctl (gv' gc' : Goroutine) (hg : GR P L bv bc ρ gv' gc') (hv : ∀ w, stepG P true gv w = .go gv' w #[]) (hc : ∀ m w, stepG P m gc w = .go gc' w #[])
  | sem {X Y : Type} (m : Sem X) (m' : Sem Y) (R : BR → X → Y → Prop) (kv : X → Goroutine) (kc : Y → Goroutine) (fn : FuncId) (h : SR P R ρ m m') (hn : NS P m) (hk : ∀ ρ' a b, BR.le ρ ρ' → R ρ' a b → GR P L bv bc ρ' (kv a) (kc b))
      (hv : ∀ w a w', m.run P w = .ok a w' → (∃ b ρ', R ρ' a b) → ∃ es, stepG P true gv w = .go (kv a) w' es)
      (hb : ∀ w hh w', m.run P w = .halt hh w' → Bad hh → (∃ o w'' es, stepG P true gv w = .ended o w'' es) ∨ ∃ gp es, stepG P true gv w = .go gp w' es ∧ Pan P bv gp)
      (hc : ∀ main w b w' es, m'.runT P w #[] = (.ok b w', es) → (∃ a ρ', R ρ' a b) → stepG P main gc w = .go (kc b) w' (seen P fn es))
end
end Sim
end Go.Proofs.Ytaealkfnhhmmcaa
/- One step of pure code: what it is, on both sides. No condition. -/
namespace Go.Proofs.Ytaealkfnhhmmcaa
namespace Sim
open Go.Conc
set_option linter.unusedVariables false
section
variable {P : Program} {L : LSet} {ρ : BR} {dd : Nat → Bool}
theorem vr_undef (ρ : BR) : VR ρ undef undef := .tuple #[] #[] rfl (fun i x y h => by simp at h)
theorem AR.ad {tv tc : Array Value} (h : AR ρ tv tc) : AD dd ρ tv tc := ⟨h.1, fun i x y _ hx hy => h.2 i x y hx hy⟩
theorem AD.le {ρ' : BR} (hl : BR.le ρ ρ') {tv tc : Array Value} (h : AD dd ρ tv tc) : AD dd ρ' tv tc := ⟨h.1, fun i x y hd hx hy => (h.2 i x y hd hx hy).le hl⟩
theorem AD.get {tv tc : Array Value} (h : AD dd ρ tv tc) {i : Nat} (hd : dd i = false) {x : Value} (hx : tv[i]? = some x) : ∃ y, tc[i]? = some y ∧ VR ρ x y := by
  have hi := (Array.getElem?_eq_some_iff.1 hx).1
  have hi2 : i < tc.size := by rw [← h.1]; exact hi
  exact ⟨tc[i], Array.getElem?_eq_getElem hi2, h.2 i x _ hd hx (Array.getElem?_eq_getElem hi2)⟩
theorem AD.set {tv tc : Array Value} (h : AD dd ρ tv tc) (i : Nat) {x y : Value} (hv : VR ρ x y) : AD dd ρ (tv.setIfInBounds i x) (tc.setIfInBounds i y) := by
  refine ⟨by simpa using h.1, fun j a b hd ha hb => ?_⟩
  rw [Array.getElem?_setIfInBounds] at ha hb
  split at ha
  · rename_i e
    rw [if_pos e] at hb
    split at ha
    · cases ha
      split at hb
      · cases hb; exact hv
      · cases hb
    · cases ha
  · rename_i e
    rw [if_neg e] at hb
    exact h.2 j a b hd ha hb
theorem AD.getD {tv tc : Array Value} (h : AD dd ρ tv tc) (t : Nat) (hd : dd t = false) : VR ρ (tv.getD t undef) (tc.getD t undef) := by
  rw [Array.getD_eq_getD_getElem?, Array.getD_eq_getD_getElem?]
  cases hx : tv[t]? with
  | none =>
    have : tc[t]? = none := by
      rw [Array.getElem?_eq_none_iff] at hx ⊢
      rw [← h.1]; exact hx
    rw [this]
    exact vr_undef ρ
  | some x =>
    obtain ⟨y, hy, hr⟩ := h.get hd hx
    rw [hy]
    exact hr
theorem eval_alike {tv tc : Array Value} (h : AD dd ρ tv tc) (dv dc : List Deferred) (x : Operand) (hx : okX dd x = true) : VR ρ ((⟨tv, dv⟩ : Act).eval x) ((⟨tc, dc⟩ : Act).eval x) := by
  cases x with
  | tmp t => exact h.getD t (by simpa [okX] using hx)
  | const v => exact vr_ok ρ hx
  | global g => cases hx
  | func f => exact .func f
theorem yielded_alike {tv tc : Array Value} (h : AD dd ρ tv tc) (ops : Array Oper) (hc : ops.toList.all (okOper P L dd) = true) : yielded ops tv = yielded ops tc := by
  funext j
  unfold yielded
  cases hd : (ops[j]?).bind (·.dst) with
  | none => rfl
  | some d =>
    simp only [Option.bind_some]
    cases hx : tv[d]? with
    | none =>
      have : tc[d]? = none := by
        rw [Array.getElem?_eq_none_iff] at hx ⊢
        rw [← h.1]; exact hx
      rw [this]
    | some x =>
      have hdd : dd d = false := by
        obtain ⟨o, ho, hod⟩ := Option.bind_eq_some_iff.1 hd
        have hm : o ∈ ops.toList := by simpa using Array.mem_of_getElem? ho
        have := List.all_eq_true.1 hc o hm
        simp only [okOper, Bool.and_eq_true, hod] at this
        simpa using this.2
      obtain ⟨y, hy, hr⟩ := h.get hdd hx
      rw [hy]
      cases hr with
      | _ => rfl
theorem put_alike {tv tc : Array Value} (h : AD dd ρ tv tc) (d : Option Tmp) {v v' : Value} (hv : VR ρ v v') : AD dd ρ ((⟨tv, []⟩ : Act).put d v).tmps ((⟨tc, []⟩ : Act).put d v').tmps := by
  cases d with
  | none => exact h
  | some d => exact h.set d hv
theorem put_defers (tv : Array Value) (d : Option Tmp) (v : Value) : (⟨tv, []⟩ : Act).put d v = ⟨((⟨tv, []⟩ : Act).put d v).tmps, []⟩ := by
  cases d <;> rfl
/-- Results. -/
theorem sr_listM {α : Type} {f g : α → Sem Value} : ∀ (l : List α) (ρ : BR), (∀ ρ', BR.le ρ ρ' → ∀ a, a ∈ l → SR P RV ρ' (f a) (g a)) → SR P (fun ρ a b => LR ρ a b) ρ (l.mapM f) (l.mapM g)
  | [], ρ, _ => by rw [List.mapM_nil, List.mapM_nil]; exact .pure _ _ trivial
  | a :: l, ρ, h => by
    rw [List.mapM_cons, List.mapM_cons]
    refine (h ρ (BR.le_refl _) a (List.mem_cons_self)).bind fun ρ' x y hl hx => ?_
    refine (sr_listM l ρ' fun ρ2 hl2 a ha => h ρ2 (BR.le_trans hl hl2) a (List.mem_cons_of_mem _ ha)).bind fun ρ2 xs ys hl2 hxs => ?_
    exact .pure _ _ ⟨hx.le hl2, hxs⟩
theorem LR.ar : ∀ {xs ys : List Value}, LR ρ xs ys → AR ρ xs.toArray ys.toArray
  | [], [], _ => AR.nil ρ
  | x :: xs, y :: ys, h => by
    obtain ⟨h1, h2⟩ := LR.ar h.2
    refine ⟨by simpa using h1, fun i a b ha hb => ?_⟩
    rcases i with _ | i
    · cases ha; cases hb; exact h.1
    · exact h2 i a b (by simpa using ha) (by simpa using hb)
  | [], _ :: _, h => h.elim
  | _ :: _, [], h => h.elim
theorem sr_results (fn : Func) {tv tc : Array Value} (h : AD dd ρ tv tc) (hr : fn.results.all (resOk dd) = true) : SR P RV ρ (results fn tv) (results fn tc) := by
  unfold results
  rw [Array.mapM_eq_mapM_toList, Array.mapM_eq_mapM_toList, map_eq_pure_bind, map_eq_pure_bind]
  refine SR.bind (R := fun ρ a b => AR ρ a b) ?_ fun ρ' a b hl hab => ?_
  · refine SR.bind (R := fun ρ a b => LR ρ a b) (sr_listM _ _ fun ρ' hl r hmem => ?_) fun ρ' a b hl hab => .pure _ _ hab.ar
    have h' : AD dd ρ' tv tc := h.le hl
    have hro : resOk dd r = true := by
      obtain ⟨i, hi, rfl⟩ := List.mem_iff_getElem.1 hmem
      have := Array.all_eq_true.1 hr i (by simpa using hi)
      simpa using this
    cases r with
    | tmp t => exact .pure _ _ (h'.getD t (by simpa [resOk] using hro))
    | cell a t =>
      have hx := h'.getD a (by simpa [resOk] using hro)
      dsimp only
      generalize tv.getD a undef = x at hx ⊢
      generalize tc.getD a undef = y at hx ⊢
      cases hx with
      | ptr b c o s hb => exact sr_loadVar (a := ⟨b, o, s⟩) (b := ⟨c, o, s⟩) ⟨hb, rfl, rfl⟩
      | ptr0 => exact .dies _ _ (dies_nil.bind _)
      | _ => exact .dies _ _ (.halt _ (by trivial))
  · refine .pure _ _ ?_
    by_cases h1 : a.size = 1
    · have h2 : b.size = 1 := by rw [← hab.1]; exact h1
      rw [dif_pos h1, dif_pos h2]
      exact hab.2 0 _ _ (Array.getElem?_eq_getElem _) (Array.getElem?_eq_getElem _)
    · have h2 : ¬ b.size = 1 := by rw [← hab.1]; exact h1
      rw [dif_neg h1, dif_neg h2]
      exact .tuple a b hab.1 hab.2
theorem stepG_scope {main : Bool} {b : Frame} {a : Act} {k : List Item} {cs : List Frame} {w : World} {x : Code} : stepG P main (G (b.at a (.code (.scope x) :: k)) cs) w = .go (G (b.at a (.code x :: .inScope x :: k)) cs) w := by simp [G, stepG, stepG.exec, Frame.at]
theorem stepG_inScope {main : Bool} {b : Frame} {a : Act} {k : List Item} {cs : List Frame} {w : World} {x : Code} : stepG P main (G (b.at a (.inScope x :: k)) cs) w = .go (G (b.at a k) cs) w := by simp [G, stepG, stepG.exec, Frame.at]
theorem stepG_goto {main : Bool} {b : Frame} {a : Act} {k k' : List Item} {cs : List Frame} {w : World} {l : Nat} (h : gotoIn l k = some k') : stepG P main (G (b.at a (.code (.goto l) :: k)) cs) w = .go (G (b.at a k') cs) w := by simp [G, stepG, stepG.exec, Frame.at, h]
theorem stepG_unwanted {main : Bool} {b : Frame} {a : Act} {k : List Item} {cs : List Frame} {w : World} {ops : Array Oper} {i : Nat} {rest : List Nat} (h : ((ops[i]?).map (Region.wanted · (yielded ops a.tmps))).getD false = false) :
    stepG P main (G (b.at a (.inRegion ops (i :: rest) :: k)) cs) w = .go (G (b.at (a.put ((ops[i]?).bind (·.dst)) undef) (.inRegion ops rest :: k)) cs) w := by
  have hfin : (b.at a (.inRegion ops (i :: rest) :: k)).finish undef = b.at (a.put ((ops[i]?).bind (·.dst)) undef) (.inRegion ops rest :: k) := by rw [Frame.finish_at]
  have e : stepG P main (G (b.at a (.inRegion ops (i :: rest) :: k)) cs) w = .go (G ((b.at a (.inRegion ops (i :: rest) :: k)).finish undef) cs) w := by
    simp only [G, stepG, Frame.at, stepG.exec, h]
    rfl
  rw [e, hfin]
end
end Sim
end Go.Proofs.Ytaealkfnhhmmcaa
/- One step of pure code: every case. No condition. -/
namespace Go.Proofs.Ytaealkfnhhmmcaa
namespace Sim
open Go.Conc
set_option linter.unusedVariables false
section
variable {P : Program} {L : LSet} {bv bc : List Frame} {ρ : BR}
theorem GR.go {f : FuncId} {tv tc : Array Value} {todo : List Item} {kv kc : List Frame} (hL : Fr P f) (hk : okTodo P L (L.dead f) todo = true) (ht : AD (L.dead f) ρ tv tc) (h : KR P L bv bc ρ kv kc) :
    GR P L bv bc ρ (G ((base f).at ⟨tv, []⟩ todo) kv) (G ((base f).at ⟨tc, []⟩ todo) kc) := .run f tv tc todo kv kc hL hk ht h
theorem KR.le {ρ' : BR} (hl : BR.le ρ ρ') {kv kc : List Frame} (h : KR P L bv bc ρ kv kc) : KR P L bv bc ρ' kv kc := by
  induction h with
  | base => exact .base
  | cons f tv tc todo kv kc hL hk ht h ih => exact .cons f tv tc todo kv kc hL hk (ht.le hl) ih
theorem KR.pk {kv kc : List Frame} (h : KR P L bv bc ρ kv kc) : PK P bv kv := by
  induction h with
  | base => exact .base
  | cons f tv tc todo kv kc hL hk ht h ih => exact .cons f tv todo kv hL ih
theorem dead_of {gv gc : Goroutine} (h : ∀ w, ∃ o w' es, stepG P true gv w = .ended o w' es) : Form P L bv bc ρ gv gc := .dead h
theorem cond_lost {b : Frame} {a : Act} {x : Operand} {c d : Code} {k : List Item} {kv : List Frame} {u : Value} (e : a.eval x = u) (hn : ∀ t, u ≠ .bool t) (w : World) : ∃ o w' es, stepG P true (G (b.at a (.code (.cond x c d) :: k)) kv) w = .ended o w' es := by
  have he := Frame.eval_at b a (.code (.cond x c d) :: k) x
  rw [e] at he
  simp only [Frame.at] at he
  cases u with
  | bool t => exact absurd rfl (hn t)
  | _ => exact ⟨_, _, _, by simp only [G, stepG, stepG.exec, Frame.at, he]; rfl⟩
set_option maxHeartbeats 1000000 in
theorem finIm_pair {α : Type} {L : Nat} {f : Nat → Nat → α} (h : ∀ r, r < L → FinIm (f r)) : ∃ l : List Nat, ∀ r q, r < L → ∃ n, n ∈ l ∧ ∃ q', n = q' * L + r ∧ f r q = f r q' := by
  have key : ∀ m, m ≤ L → ∃ l : List Nat, ∀ r q, r < m → ∃ n, n ∈ l ∧ ∃ q', n = q' * L + r ∧ f r q = f r q' := by
    intro m
    induction m with
    | zero => exact fun _ => ⟨[], fun r q h => by omega⟩
    | succ m ih =>
      intro hm
      obtain ⟨l, hl⟩ := ih (by omega)
      obtain ⟨l2, hl2⟩ := h m (by omega)
      refine ⟨l ++ l2.map (fun q' => q' * L + m), fun r q hr => ?_⟩
      rcases Nat.lt_or_ge r m with hlt | hge
      · obtain ⟨n, h1, h2⟩ := hl r q hlt
        exact ⟨n, List.mem_append_left _ h1, h2⟩
      · obtain rfl : r = m := by omega
        obtain ⟨q', h1, h2⟩ := hl2 q
        exact ⟨q' * L + r, List.mem_append_right _ (List.mem_map.2 ⟨q', h1, rfl⟩), q', rfl, h2⟩
  exact key L (Nat.le_refl _)
theorem FinIm.divMod {α : Type} {L : Nat} {f : Nat → Nat → α} {g : Nat → α} (hL : 0 < L) (hg : ∀ t, g t = f (t % L) (t / L)) (h : ∀ r, r < L → FinIm (f r)) : FinIm g := by
  obtain ⟨l, hl⟩ := finIm_pair h
  refine ⟨l, fun t => ?_⟩
  obtain ⟨n, h1, q', rfl, h3⟩ := hl (t % L) (t / L) (Nat.mod_lt _ hL)
  have hr := Nat.mod_lt t hL
  refine ⟨_, h1, ?_⟩
  rw [hg, hg, h3]
  have e1 : (q' * L + t % L) % L = t % L := by rw [Nat.mul_comm, Nat.mul_add_mod, Nat.mod_mod]
  have e2 : (q' * L + t % L) / L = q' := by rw [Nat.mul_comm, Nat.mul_add_div hL, Nat.div_eq_of_lt hr, Nat.add_zero]
  rw [e1, e2]
theorem FinIm.const {α : Type} {g : Nat → α} {c : α} (h : ∀ t, g t = c) : FinIm g := ⟨[0], fun t => ⟨0, by simp, by rw [h, h]⟩⟩
theorem finIm_lin (m : Region.Mode) (ops : Array Oper) : ∀ (fuel : Nat) (listed : Array Bool) (acc : List Nat), FinIm fun t => Region.linearise.go m ops fuel t listed acc
  | 0, listed, acc => .const fun t => rfl
  | fuel + 1, listed, acc => by
    let rs := (List.range ops.size).filter fun i => !listed.getD i true && ((ops[i]?).map (·.after.all fun e => !Region.binds m e || listed.getD e.on false)).getD false
    rcases Nat.eq_zero_or_pos rs.length with h0 | hp
    · refine .const (c := acc.reverse) fun t => ?_
      unfold Region.linearise.go
      have : rs[t % rs.length]? = none := by rw [List.getElem?_eq_none_iff]; omega
      simp only [rs] at this
      simp only [this]
    · refine FinIm.divMod (f := fun r q => match rs[r]? with | some i => Region.linearise.go m ops fuel q (listed.setIfInBounds i true) (i :: acc) | none => acc.reverse) hp (fun t => ?_) fun r hr => ?_
      · conv => lhs; unfold Region.linearise.go
        rfl
      · cases hx : rs[r]? with
        | none => exact .const fun t => rfl
        | some i => exact finIm_lin m ops fuel _ _
theorem finIm_sched (b : Bool) (ops : Array Oper) : FinIm (Region.schedule b ops) := by
  by_cases h : (b || !Region.departs ops) = true
  · have e : ∀ t, Region.schedule b ops t = Region.linearise .any ops t := fun t => by unfold Region.schedule; rw [if_pos h]
    obtain ⟨l, hl⟩ := finIm_lin .any ops ops.size (Array.replicate ops.size false) []
    exact ⟨l, fun t => let ⟨n, h1, h2⟩ := hl t; ⟨n, h1, by rw [e, e]; exact h2⟩⟩
  · refine FinIm.divMod (L := 2) (f := fun r q => Region.linearise (if r == 0 then .text else .gc) ops q) (by omega) (fun t => by unfold Region.schedule; rw [if_neg h]) fun r hr => ?_
    exact finIm_lin _ ops ops.size (Array.replicate ops.size false) []
/-- The order of a region's operations. -/
def sched (b : Bool) (f : FuncId) (id : Nat) (ops : Array Oper) : Sem (List Nat) := .choose (.order f id) fun t => .pure (Region.schedule b ops t)
theorem ns_sched {P : Program} (b : Bool) (f : FuncId) (id : Nat) (ops : Array Oper) : NS P (sched b f id ops) := by
  refine ⟨?_, fun _ => trivial⟩
  obtain ⟨l, hl⟩ := finIm_sched b ops
  exact ⟨l, fun t => let ⟨n, h1, h2⟩ := hl t; ⟨n, h1, by show Sem.pure _ = Sem.pure _; exact congrArg Sem.pure h2⟩⟩
theorem sched_run {P : Program} {b : Bool} {f : FuncId} {id : Nat} {ops : Array Oper} {w w' : World} {a : List Nat} (h : (sched b f id ops).run P w = .ok a w') : ∃ n, (choose (.order f id)).run P w = .ok n w' ∧ a = Region.schedule b ops n := by
  simp only [sched, Sem.run, Question.forced, Bool.false_eq_true, if_false] at h
  simp only [choose, Sem.run, Question.forced, Bool.false_eq_true, if_false]
  cases h
  exact ⟨_, rfl, rfl⟩
theorem form_code {f : FuncId} {tv tc : Array Value} {c : Code} {k : List Item} {kv kc : List Frame} (hL : Fr P f) (hc : okCode P L (L.dead f) c = true) (hk : okTodo P L (L.dead f) k = true) (ht : AD (L.dead f) ρ tv tc) (hh : KR P L bv bc ρ kv kc) :
    Form P L bv bc ρ (G ((base f).at ⟨tv, []⟩ (.code c :: k)) kv) (G ((base f).at ⟨tc, []⟩ (.code c :: k)) kc) := by
  have C := fun (c : Code) (k : List Item) (h1 : okCode P L (L.dead f) c = true) (h2 : okTodo P L (L.dead f) k = true) => okTodo_cons.2 ⟨(show okItem P L (L.dead f) (.code c) = true from h1), h2⟩
  cases c with
  | skip => exact .ctl _ _ (GR.go hL hk ht hh) (fun w => stepG_skip) (fun m w => stepG_skip)
  | label l => exact .ctl _ _ (GR.go hL hk ht hh) (fun w => stepG_label) (fun m w => stepG_label)
  | ret => exact .ctl _ _ (.ret f tv tc _ kv kc hL ht hh) (fun w => stepG_ret') (fun m w => stepG_ret')
  | seq a b =>
    simp only [okCode, Bool.and_eq_true] at hc
    exact .ctl _ _ (GR.go hL (C a _ hc.1 (C b _ hc.2 hk)) ht hh) (fun w => stepG_seq) (fun m w => stepG_seq)
  | block id b => exact .ctl _ _ (GR.go hL (C b _ hc ((okTodo_cons (i := .inBlock id)).2 ⟨rfl, hk⟩)) ht hh) (fun w => stepG_block) (fun m w => stepG_block)
  | loop b => exact .ctl _ _ (GR.go hL (C b _ hc ((okTodo_cons (i := .inLoop b)).2 ⟨hc, hk⟩)) ht hh) (fun w => stepG_loop) (fun m w => stepG_loop)
  | scope b => exact .ctl _ _ (GR.go hL (C b _ hc ((okTodo_cons (i := .inScope b)).2 ⟨hc, hk⟩)) ht hh) (fun w => stepG_scope) (fun m w => stepG_scope)
  | exit id =>
    cases he : exitTo id k with
    | some k' => exact .ctl _ _ (GR.go hL (exitTo_ok he hk) ht hh) (fun w => stepG_exit he) (fun m w => stepG_exit he)
    | none => exact dead_of fun w => ⟨_, _, _, by simp only [G, stepG, stepG.exec, Frame.at, he]; rfl⟩
  | goto l =>
    cases he : gotoIn l k with
    | some k' => exact .ctl _ _ (GR.go hL (gotoIn_ok he hk) ht hh) (fun w => stepG_goto he) (fun m w => stepG_goto he)
    | none => exact dead_of fun w => ⟨_, _, _, by simp only [G, stepG, stepG.exec, Frame.at, he]; rfl⟩
  | refuse why => exact dead_of fun w => ⟨_, _, _, by simp only [G, stepG, stepG.exec, Frame.at]; rfl⟩
  | rangeFunc a b c d => cases hc
  | cond x a b =>
    simp only [okCode, Bool.and_eq_true] at hc
    obtain ⟨⟨hx, ha⟩, hb⟩ := hc
    have hv := eval_alike ht [] [] x hx
    generalize e1 : (⟨tv, []⟩ : Act).eval x = u at hv
    generalize e2 : (⟨tc, []⟩ : Act).eval x = v at hv
    have hd : (∀ t, u ≠ .bool t) → Form P L bv bc ρ (G ((base f).at ⟨tv, []⟩ (.code (.cond x a b) :: k)) kv) (G ((base f).at ⟨tc, []⟩ (.code (.cond x a b) :: k)) kc) := fun hn => dead_of fun w => cond_lost e1 hn w
    cases hv with
    | bool t =>
      refine .ctl _ _ (GR.go hL (C (if t then a else b) _ ?_ hk) ht hh) (fun w => stepG_cond e1) (fun m w => stepG_cond e2)
      cases t
      · exact hb
      · exact ha
    | _ => exact hd (fun t h => by cases h)
  | region id ops draw =>
    cases draw with
    | false => exact .ctl _ _ (GR.go hL ((okTodo_cons (i := .inRegion ops _)).2 ⟨hc, hk⟩) ht hh) (fun w => stepG_region) (fun m w => stepG_region)
    | true =>
      refine .sem (sched (P.follows .mixedOrders) f id ops) (sched (P.follows .mixedOrders) f id ops) (fun _ (a b : List Nat) => a = b) (fun t => G ((base f).at ⟨tv, []⟩ (.inRegion ops t :: k)) kv) (fun t => G ((base f).at ⟨tc, []⟩ (.inRegion ops t :: k)) kc) f
        (.choose _ _ _ fun n => .pure _ _ rfl) (ns_sched _ _ _ _) (fun ρ' a b hl hab => ?_) (fun w a w' hr hx => ?_) (fun w hh w' hr hb => ?_) (fun main w b w' es hr hx => ?_)
      · cases hab
        exact GR.go hL ((okTodo_cons (i := .inRegion ops _)).2 ⟨hc, hk⟩) (ht.le hl) (hh.le hl)
      · refine ⟨#[], ?_⟩
        obtain ⟨n, hn, rfl⟩ := sched_run hr
        simp only [G, stepG, stepG.exec, Frame.at, base, Bool.not_true, Bool.false_eq_true, if_false]
        rw [hn]
      · simp only [sched, Sem.run] at hr
        split at hr <;> cases hr
      · have hr1 : (sched (P.follows .mixedOrders) f id ops).run P w = .ok b w' := by rw [← Sem.runT_fst P _ w #[], hr]
        have hes : es = #[] := by
          simp only [sched, Sem.runT] at hr
          split at hr <;> (cases hr; rfl)
        subst hes
        rw [seen_none]
        obtain ⟨n, hn, rfl⟩ := sched_run hr1
        simp only [G, stepG, stepG.exec, Frame.at, base, Bool.not_true, Bool.false_eq_true, if_false]
        rw [hn]
end
end Sim
end Go.Proofs.Ytaealkfnhhmmcaa
/- One step of pure code: the operation, the return. No condition. -/
namespace Go.Proofs.Ytaealkfnhhmmcaa
namespace Sim
open Go.Conc
set_option linter.unusedVariables false
section
variable {P : Program} {L : LSet} {bv bc : List Frame} {ρ : BR}
def kNext (P : Program) (f : FuncId) (tv : Array Value) (o : Oper) (ops : Array Oper) (i : Nat) (rest : List Nat) (k : List Item) (kv : List Frame) : Next → Goroutine
  | .value v => G ((base f).at ((⟨tv, []⟩ : Act).put o.dst v) (.inRegion ops rest :: k)) kv
  | .skip => G ((base f).at ((⟨tv, []⟩ : Act).put o.dst undef) (.inRegion ops rest :: k)) kv
  | .enter g args => G (Frame.enter P g args .normal) ((base f).at ⟨tv, []⟩ (.inRegion ops (i :: rest) :: k) :: kv)
  | _ => default
theorem ar_undef (ρ : BR) (n : Nat) : AR ρ (Array.replicate n undef) (Array.replicate n undef) := by
  refine ⟨rfl, fun i x y hx hy => ?_⟩
  rw [hx] at hy
  cases hy
  rw [Array.getElem?_replicate] at hx
  split at hx
  · cases hx; exact vr_undef ρ
  · cases hx
theorem apply_panic {fr : Frame} {cs : List Frame} {m : Sem Next} {w w' : World} {v : Value} (hr : m.run P w = .halt (.panic v) w') : ∃ es, stepG.apply P true fr cs none m w = .go { frame := fr.raise [{ v, recovered := false }], callers := cs, status := .running, dying := none } w' es := by
  simp [stepG.apply, hr, GStep.after]
theorem apply_stuck {fr : Frame} {cs : List Frame} {m : Sem Next} {w w' : World} {s : String} (hr : m.run P w = .halt (.stuck s) w') : ∃ o w'' es, stepG.apply P true fr cs none m w = .ended o w'' es := by
  simp [stepG.apply, hr, GStep.after]
theorem apply_uns {fr : Frame} {cs : List Frame} {m : Sem Next} {w w' : World} {u : Unsupported} (hu : ∀ g, u ≠ .initOrder g) (hr : m.run P w = .halt (.unsupported u) w') : ∃ o w'' es, stepG.apply P true fr cs none m w = .ended o w'' es := by
  cases u with
  | initOrder g => exact absurd rfl (hu g)
  | _ => simp [stepG.apply, hr, GStep.after]
theorem form_op (hS : okSet P L) {f : FuncId} {tv tc : Array Value} {ops : Array Oper} {i : Nat} {rest : List Nat} {k : List Item} {kv kc : List Frame} (hL : Fr P f) (hc : ops.toList.all (okOper P L (L.dead f)) = true) (hk : okTodo P L (L.dead f) k = true) (ht : AD (L.dead f) ρ tv tc) (hh : KR P L bv bc ρ kv kc) :
    Form P L bv bc ρ (G ((base f).at ⟨tv, []⟩ (.inRegion ops (i :: rest) :: k)) kv) (G ((base f).at ⟨tc, []⟩ (.inRegion ops (i :: rest) :: k)) kc) := by
  have hI := fun (l : List Nat) => (okTodo_cons (P := P) (L := L) (dd := L.dead f) (i := .inRegion ops l) (k := k)).2 ⟨hc, hk⟩
  have hy := yielded_alike ht ops hc
  cases hw : ((ops[i]?).map (Region.wanted · (yielded ops tc))).getD false with
  | false =>
    have hw' : ((ops[i]?).map (Region.wanted · (yielded ops tv))).getD false = false := by rw [hy]; exact hw
    refine .ctl _ _ ?_ (fun w => stepG_unwanted (a := ⟨tv, []⟩) hw') (fun m w => stepG_unwanted (a := ⟨tc, []⟩) hw)
    rw [put_defers tv, put_defers tc]
    exact GR.go hL (hI rest) (put_alike ht _ (vr_undef ρ)) hh
  | true =>
    cases ho : ops[i]? with
    | none => rw [ho] at hw; cases hw
    | some o =>
      rw [ho] at hw
      simp only [Option.map_some, Option.getD_some] at hw
      have hw' : Region.wanted o (yielded ops tv) = true := by rw [hy]; exact hw
      have hoo : okOp P L (L.dead f) o.op = true := by
        have hm : o ∈ ops.toList := by simpa using Array.mem_of_getElem? ho
        have := List.all_eq_true.1 hc o hm
        simp only [okOper, Bool.and_eq_true] at this
        exact this.1
      have hE : (base f).kind ≠ .early := by intro h; cases h
      refine .sem (execOp (⟨tv, []⟩ : Act).eval o) (execOp (⟨tc, []⟩ : Act).eval o) (RN L) (kNext P f tv o ops i rest k kv) (kNext P f tc o ops i rest k kc) f
        (sr_exec hoo (fun x hx => eval_alike ht [] [] x hx) (fun _ => rfl) (fun _ => rfl)) (ns_exec hoo (fun x hx => eval_alike ht [] [] x hx) (fun _ => rfl)) (fun ρ' a b hl hab => ?_) (fun w a w' hr hx => ?_) (fun w hh' w' hr hb => ?_) (fun main w b w' es hr hx => ?_)
      · cases hab with
        | value v v' h =>
          show GR P L bv bc ρ' (G ((base f).at ((⟨tv, []⟩ : Act).put o.dst v) (.inRegion ops rest :: k)) kv) (G ((base f).at ((⟨tc, []⟩ : Act).put o.dst v') (.inRegion ops rest :: k)) kc)
          rw [put_defers tv, put_defers tc]
          exact GR.go hL (hI rest) (put_alike (ht.le hl) _ h) (hh.le hl)
        | skip =>
          show GR P L bv bc ρ' (G ((base f).at ((⟨tv, []⟩ : Act).put o.dst undef) (.inRegion ops rest :: k)) kv) (G ((base f).at ((⟨tc, []⟩ : Act).put o.dst undef) (.inRegion ops rest :: k)) kc)
          rw [put_defers tv, put_defers tc]
          exact GR.go hL (hI rest) (put_alike (ht.le hl) _ (vr_undef ρ')) (hh.le hl)
        | enter g xs ys h hg =>
          obtain ⟨fn, c, h1, h2, h3⟩ := hS.1 g hg
          show GR P L bv bc ρ' (G (Frame.enter P g xs .normal) _) (G (Frame.enter P g ys .normal) _)
          rw [enter_at xs h1 h2, enter_at ys h1 h2, h.1]
          exact GR.go ⟨fn, h1⟩ (okTodo_cons.2 ⟨h3, rfl⟩) (h.app (ar_undef ρ' _)).ad (.cons f tv tc _ kv kc hL (hI _) (ht.le hl) (hh.le hl))
      · obtain ⟨b, ρ', hab⟩ := hx
        cases hab with
        | value v v' h => exact ⟨_, stepG_value (a := ⟨tv, []⟩) ho hw' hE hr⟩
        | skip => exact ⟨_, stepG_none (a := ⟨tv, []⟩) ho hw' hE hr⟩
        | enter g xs ys h hg => exact ⟨_, stepG_enter (a := ⟨tv, []⟩) ho hw' hE hr⟩
      · rw [stepG_oper (a := ⟨tv, []⟩) ho hw']
        cases hh' with
        | panic v =>
          obtain ⟨es, he⟩ := apply_panic (fr := (base f).at ⟨tv, []⟩ (.inRegion ops (i :: rest) :: k)) (cs := kv) hr
          exact .inr ⟨_, es, he, f, tv, _, kv, _, hL, hh.pk, rfl⟩
        | stuck s => exact .inl (apply_stuck hr)
        | unsupported u => exact .inl (apply_uns (fun g e => by subst e; exact hb) hr)
        | _ => exact hb.elim
      · have hr1 : (execOp (⟨tc, []⟩ : Act).eval o).run P w = .ok b w' := by rw [← Sem.runT_fst P _ w #[], hr]
        have hes : (execOp (⟨tc, []⟩ : Act).eval o).events P w #[] = es := by unfold Sem.events; rw [hr]
        obtain ⟨a, ρ', hab⟩ := hx
        rw [← hes]
        cases hab with
        | value v v' h => exact stepG_value (a := ⟨tc, []⟩) ho hw hE hr1
        | skip => exact stepG_none (a := ⟨tc, []⟩) ho hw hE hr1
        | enter g xs ys h hg => exact stepG_enter (a := ⟨tc, []⟩) ho hw hE hr1
end
end Sim
end Go.Proofs.Ytaealkfnhhmmcaa
/- One step of pure code: every goroutine that is alike. No condition. -/
namespace Go.Proofs.Ytaealkfnhhmmcaa
namespace Sim
open Go.Conc
set_option linter.unusedVariables false
section
variable {P : Program} {L : LSet} {bv bc : List Frame} {ρ : BR}
theorem back_ok {main : Bool} {f : FuncId} {fn : Func} (hf : P.funcs[f]? = some fn) {t : Array Value} {todo : List Item} {c : Frame} {cs : List Frame} {w w' : World} {v : Value} {es : Array Event} (hr : (results fn t).runT P w #[] = (.ok v w', es)) :
    stepG P main (G { (base f).at ⟨t, []⟩ todo with mode := .returning } (c :: cs)) w = .go (G (c.finish v) cs) w' (seen P f es) := by
  have h1 : (results fn t).run P w = .ok v w' := by rw [← Sem.runT_fst P _ w #[], hr]
  have h2 : (results fn t).events P w #[] = es := by unfold Sem.events; rw [hr]
  simp [G, stepG, unwind, doReturn, Frame.at, base, hf, h1, h2, GStep.after]
theorem back_halt {f : FuncId} {fn : Func} (hf : P.funcs[f]? = some fn) {t : Array Value} {todo : List Item} {c : Frame} {cs : List Frame} {w w' : World} {hh : Halt} (hr : (results fn t).run P w = .halt hh w') :
    ∃ o w'' es, stepG P true (G { (base f).at ⟨t, []⟩ todo with mode := .returning } (c :: cs)) w = .ended o w'' es := by
  cases hh <;> simp [G, stepG, unwind, Frame.at, base, hf, hr, GStep.after]
theorem finish_ok {f : FuncId} {tv tc : Array Value} {todo : List Item} {v v' : Value} {dd : Nat → Bool} (hk : okTodo P L dd todo = true) (ht : AD dd ρ tv tc) (hv : VR ρ v v') :
    ∃ tv' tc' todo', ((base f).at ⟨tv, []⟩ todo).finish v = (base f).at ⟨tv', []⟩ todo' ∧ ((base f).at ⟨tc, []⟩ todo).finish v' = (base f).at ⟨tc', []⟩ todo' ∧ okTodo P L dd todo' = true ∧ AD dd ρ tv' tc' := by
  cases todo with
  | nil => exact ⟨tv, tc, [], rfl, rfl, rfl, ht⟩
  | cons i k =>
    obtain ⟨h1, h2⟩ := okTodo_cons.1 hk
    cases i with
    | inRegion ops l =>
      cases l with
      | nil => exact ⟨tv, tc, _, rfl, rfl, hk, ht⟩
      | cons i rest =>
        refine ⟨_, _, .inRegion ops rest :: k, ?_, ?_, (okTodo_cons (i := .inRegion ops rest)).2 ⟨h1, h2⟩, put_alike ht ((ops[i]?).bind (·.dst)) hv⟩
        · rw [Frame.finish_at, put_defers]
        · rw [Frame.finish_at, put_defers]
    | code c => exact ⟨tv, tc, _, rfl, rfl, hk, ht⟩
    | inBlock id => exact ⟨tv, tc, _, rfl, rfl, hk, ht⟩
    | inLoop b => exact ⟨tv, tc, _, rfl, rfl, hk, ht⟩
    | inScope b => exact ⟨tv, tc, _, rfl, rfl, hk, ht⟩
    | _ => cases h1
theorem form_of (hS : okSet P L) {gv gc : Goroutine} (h : GR P L bv bc ρ gv gc) : Form P L bv bc ρ gv gc := by
  cases h with
  | run f tv tc todo kv kc hL hk ht hh =>
    cases todo with
    | nil => exact .ctl _ _ (.ret f tv tc [] kv kc hL ht hh) (fun w => stepG_end) (fun m w => stepG_end)
    | cons i k =>
      obtain ⟨h1, h2⟩ := okTodo_cons.1 hk
      cases i with
      | code c => exact form_code hL h1 h2 ht hh
      | inBlock id => exact .ctl _ _ (GR.go hL h2 ht hh) (fun w => stepG_inBlock) (fun m w => stepG_inBlock)
      | inLoop b => exact .ctl _ _ (GR.go hL ((okTodo_cons (i := .code b)).2 ⟨h1, (okTodo_cons (i := .inLoop b)).2 ⟨h1, h2⟩⟩) ht hh) (fun w => stepG_inLoop) (fun m w => stepG_inLoop)
      | inScope b => exact .ctl _ _ (GR.go hL h2 ht hh) (fun w => stepG_inScope) (fun m w => stepG_inScope)
      | inRegion ops l =>
        cases l with
        | nil => exact .ctl _ _ (GR.go hL h2 ht hh) (fun w => stepG_region_end) (fun m w => stepG_region_end)
        | cons i rest => exact form_op hS hL h1 h2 ht hh
      | _ => cases h1
  | ret f tv tc todo kv kc hL ht hh =>
    cases hh with
    | base => exact .fin f tv tc todo hL ht rfl rfl
    | cons f2 tv2 tc2 todo2 kv2 kc2 hL2 hk2 ht2 hh2 =>
      obtain ⟨fn, h1⟩ := hL
      refine .sem (results fn tv) (results fn tc) RV (fun v => G (((base f2).at ⟨tv2, []⟩ todo2).finish v) kv2) (fun v => G (((base f2).at ⟨tc2, []⟩ todo2).finish v) kc2) f (sr_results fn ht (hS.2 f fn h1)) (ns_results fn tv) (fun ρ' a b hl hab => ?_) (fun w a w' hr hx => ?_) (fun w hh' w' hr hb => ?_) (fun main w b w' es hr hx => ?_)
      · obtain ⟨tv', tc', todo', e1, e2, e3, e4⟩ := finish_ok (P := P) (L := L) (f := f2) hk2 (ht2.le hl) hab
        rw [e1, e2]
        exact GR.go hL2 e3 e4 (hh2.le hl)
      · exact ⟨_, back_ok h1 (es := ((results fn tv).runT P w #[]).2) (by rw [← hr, ← Sem.runT_fst P _ w #[]])⟩
      · exact .inl (back_halt h1 hr)
      · exact back_ok h1 hr
end
end Sim
end Go.Proofs.Ytaealkfnhhmmcaa
