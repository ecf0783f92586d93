/- Goroutine 0 alone: what it does whatever the world holds, told by the kit's walk. No condition. -/
import Derived.Test.YtaealkfnhhmmcaaSg3
import Derived.Test.YtaealkfnhhmmcaaSg5
/- What a program may list that asks nothing of the system and says nothing to the race detector, whatever it reads. No condition. -/
namespace Go.Proofs.Ytaealkfnhhmmcaa
namespace Sim
open Go.Conc
set_option linter.unusedVariables false
/-- It does not wait and does not end the goroutine. -/
def NW : Halt → Prop
  | .blocked | .waiting | .goexit | .fatal _ | .throw _ => False
  | _ => True
/-- No call of the system, no word to the race detector; what it hands back satisfies Q. -/
def UM (P : Program) {α : Type} (Q : α → Prop) : Sem α → Prop
  | .pure a => Q a
  | .load _ _ k => ∀ v, UM P Q (k v)
  | .store _ _ _ k => UM P Q k
  | .new _ k => ∀ r, UM P Q (k r)
  | .shape _ k => ∀ s, UM P Q (k s)
  | .freeze _ _ k => UM P Q k
  | .frozen _ k => ∀ b, UM P Q (k b)
  | .getObj _ k => ∀ o, UM P Q (k o)
  | .setObj _ _ k => UM P Q k
  | .choose q k => ∀ n, UM P Q (k n)
  | .sys _ _ => False
  | .program k => UM P Q (k P)
  | .mark m k => m = .noRoom ∧ UM P Q k
  | .halt h => NW h
def UT (P : Program) {α : Type} (m : Sem α) : Prop := UM P (fun _ => True) m
theorem UM.bind {P : Program} {α β : Type} {Q : α → Prop} {Q' : β → Prop} {m : Sem α} {f : α → Sem β} : UM P Q m → (∀ a, Q a → UM P Q' (f a)) → UM P Q' (m.bind f) := by
  induction m with
  | pure a => exact fun h hf => hf a h
  | load m a k ih => exact fun h hf v => ih v (h v) hf
  | store m a v k ih => exact fun h hf => ih h hf
  | new o k ih => exact fun h hf r => ih r (h r) hf
  | shape r k ih => exact fun h hf s => ih s (h s) hf
  | freeze a n k ih => exact fun h hf => ih h hf
  | frozen a k ih => exact fun h hf s => ih s (h s) hf
  | getObj r k ih => exact fun h hf s => ih s (h s) hf
  | setObj r o k ih => exact fun h hf => ih h hf
  | choose q k ih => exact fun h hf s => ih s (h s) hf
  | sys c k ih => exact fun h hf => h.elim
  | program k ih => exact fun h hf => ih P h hf
  | mark m k ih => exact fun h hf => ⟨h.1, ih h.2 hf⟩
  | halt h => exact fun h _ => h
theorem UT.bind {P : Program} {α β : Type} {m : Sem α} {f : α → Sem β} (h : UT P m) (hf : ∀ a, UT P (f a)) : UT P (m.bind f) := UM.bind h fun a _ => hf a
theorem UT.bind' {P : Program} {α β : Type} {m : Sem α} {f : α → Sem β} (h : UT P m) (hf : ∀ a, UT P (f a)) : UT P (m >>= f) := UT.bind h hf
theorem um_choose {P : Program} (q : Question) : UT P (choose q) := fun _ => trivial
/-- No place is shunned. -/
def NoShun : Go.Loc → Prop := fun _ => False
theorem evX_cell0 {B : Nat} (a : Addr) (wr sy : Bool) (hB : a.block < B) : EvX NoShun B ⟨.cell a, wr, sy⟩ := by
  refine ⟨⟨fun x hx h => h.elim, fun h => (by cases h), fun h => (by cases h), ?_⟩, fun a h => (by cases h), fun x hx => ?_⟩
  · cases sy <;> exact hB
  · cases sy <;> (simp [MemAct.ofEvent, MemAct.touch?] at hx; subst hx; rfl)
theorem evX_obj0 {B : Nat} (r : Nat) (wr sy : Bool) (hB : r < B) : EvX NoShun B ⟨.obj r, wr, sy⟩ := by
  refine ⟨⟨fun x hx h => h.elim, fun h => (by cases h), fun h => (by cases h), ?_⟩, fun a h => (by cases h), fun x hx => ?_⟩
  · cases wr <;> cases sy <;> exact hB
  · cases wr <;> cases sy <;> simp [MemAct.ofEvent, MemAct.touch?] at hx <;> (subst hx; rfl)
theorem evX_room0 (B : Nat) : EvX NoShun B ⟨.mark .noRoom, false, true⟩ :=
  ⟨⟨fun x hx h => h.elim, fun h => (by cases h), fun h => (by cases h), trivial⟩, fun a h => (by cases h), fun x hx => by simp [MemAct.ofEvent, MemAct.touch?] at hx⟩
theorem evX_mono {Shun : Go.Loc → Prop} {B B' : Nat} (h : B ≤ B') {e : Event} (x : EvX Shun B e) : EvX Shun B' e := ⟨⟨x.1.1, x.1.2.1, x.1.2.2.1, MemAct.low_mono h x.1.2.2.2⟩, x.2.1, x.2.2⟩
theorem seen_low {P : Program} {w : World} {b : Addr} {u : TypeId} {k : Addr} {at_ : Bool} {r} (h : w.seen P b u k at_ = .ok r) : b.block < w.heap.size := by
  unfold World.seen at h
  cases hx : w.heap[b.block]? with
  | some o => exact (Array.getElem?_eq_some_iff.1 hx).1
  | none =>
    exfalso
    rw [hx] at h
    simp only [bind, Except.bind] at h
    repeat' (first | (split at h) | (cases h; done))
theorem farLoad_low {P : Program} {w : World} {a : Addr} {t : Bool} {v : Value} {l : List Addr} (h : w.farLoad P a t = .ok (v, l)) : ∀ x ∈ l, x.block < w.heap.size := by
  unfold World.farLoad at h
  split at h
  · rename_i b u _
    unfold World.viewLoad at h
    cases hs : w.seen P b u a t with
    | error e => rw [hs] at h; cases h
    | ok r =>
      have hb := seen_low hs
      rw [hs] at h
      obtain ⟨c, e, frozen, first, like, cells⟩ := r
      simp only [bind, Except.bind, pure, Except.pure] at h
      split at h
      · rename_i h2
        cases h
        split at h2
        · cases h2
          intro x hx
          obtain ⟨y, _, rfl⟩ := List.mem_map.1 hx
          exact hb
        · cases h2
      · cases h
  · cases h
theorem farStore_low {P : Program} {w w1 : World} {a : Addr} {v : Value} {t : Bool} {l : List Addr} (h : w.farStore P a v t = .ok (w1, l)) : w1.heap.size = w.heap.size ∧ ∀ x ∈ l, x.block < w.heap.size := by
  unfold World.farStore at h
  split at h
  · rename_i b u _
    cases hv : w.viewStore P b u a v t with
    | error e => rw [hv] at h; cases h
    | ok r =>
      rw [hv] at h
      obtain ⟨w2, l2⟩ := r
      cases h
      unfold World.viewStore at hv
      cases ht : tight P P.depth u with
      | false => rw [ht] at hv; cases hv
      | true =>
        rw [ht] at hv
        simp only [Bool.not_true, Bool.false_eq_true, if_false] at hv
        cases hs : w.seen P b u a t with
        | error e => rw [hs] at hv; cases hv
        | ok r =>
          have hb := seen_low hs
          rw [hs] at hv
          obtain ⟨c, e, frozen, first, like, cells⟩ := r
          cases hy : v.bytes? with
          | none => rw [hy] at hv; cases hv
          | some bytes =>
            rw [hy] at hv
            simp only [bind, Except.bind, pure, Except.pure] at hv
            split at hv
            · cases hv
            · split at hv
              · cases hv
              · cases hv
                refine ⟨by simp, fun x hx => ?_⟩
                obtain ⟨y, _, rfl⟩ := List.mem_map.1 hx
                exact hb
  · cases h
theorem cell_lt {w : World} {a : Addr} {v : Value} (h : w.cell? a = some v) : a.block < w.heap.size := by
  unfold World.cell? at h
  cases hx : w.heap[a.block]? with
  | some o => exact (Array.getElem?_eq_some_iff.1 hx).1
  | none => rw [hx] at h; simp at h
end Sim
end Go.Proofs.Ytaealkfnhhmmcaa
/- What an operation of pure code may list, whatever its operands: the parts. No condition. -/
namespace Go.Proofs.Ytaealkfnhhmmcaa
namespace Sim
open Go.Conc
set_option linter.unusedVariables false
section
variable {P : Program}
theorem um_pure {α : Type} (a : α) : UT P (pure a : Sem α) := trivial
theorem um_stuck {α : Type} (s : String) : UT P (stuck s : Sem α) := trivial
theorem um_uns {α : Type} (u : Unsupported) : UT P (unsupported u : Sem α) := trivial
theorem um_panic {α : Type} (v : Value) : UT P (goPanic v : Sem α) := trivial
theorem um_program : UT P program := trivial
theorem um_und (t : TypeId) : UT P (underlying t) := by
  show UT P (match P.underlying t with | some d => pure d | none => stuck "no such type")
  cases P.underlying t <;> trivial
theorem um_info (t : TypeId) : UT P (typeInfo t) := by
  show UT P (match P.info? t with | some d => pure d | none => stuck "no such type")
  cases P.info? t <;> trivial
theorem um_infoE {α : Type} {t : TypeId} {f : TypeInfo → Sem α} (h : ∀ i, P.info? t = some i → UT P (f i)) : UT P (typeInfo t >>= f) := by
  show UT P (Sem.bind (match P.info? t with | some d => pure d | none => stuck "no such type") f)
  cases hd : P.info? t with
  | none => trivial
  | some d => exact h d hd
theorem um_size (t : TypeId) : UT P (sizeOf t) := (um_info t).bind' fun _ => trivial
theorem um_isAgg (t : TypeId) : UT P (isAgg t) := (um_und t).bind' fun d => by cases d <;> trivial
theorem um_zero (t : TypeId) : UT P (zeroValue t) := (um_info t).bind' fun i => by
  show UT P (match i.zero with | some v => pure v | none => unsupported (.resourceLimit "a value of more than 2^22 cells"))
  cases i.zero <;> trivial
theorem um_load (a : Addr) : UT P (load a) := fun _ => trivial
theorem um_store (a : Addr) (v : Value) : UT P (store a v) := trivial
theorem um_newRow (e : TypeId) (c : Array Value) : UT P (newRow e c) := fun _ => trivial
theorem um_newVar (e : TypeId) (v : Value) : UT P (newVar e v) := fun _ => trivial
theorem um_loadFrom (a : Addr) : ∀ (n i : Nat) (acc : Array Value), UT P (loadCellsFrom a i n acc)
  | 0, _, _ => trivial
  | n + 1, i, acc => (um_load _).bind' fun v => um_loadFrom a n (i + 1) _
theorem um_loadCells (a : Addr) (n : Nat) : UT P (loadCells a n) := um_loadFrom a n 0 #[]
theorem um_storeCells (a : Addr) : ∀ (vs : List Value) (i : Nat), UT P (storeCells a vs i)
  | [], _ => trivial
  | v :: vs, i => (um_store _ _).bind' fun _ => um_storeCells a vs (i + 1)
theorem um_loadVar (t : TypeId) (a : Addr) : UT P (loadVar t a) := (um_isAgg t).bind' fun b => by
  cases b
  · exact um_load a
  · exact (um_size t).bind' fun n => (um_loadCells a n).bind' fun _ => trivial
theorem um_ite {α : Type} {c : Prop} [Decidable c] {a b : Sem α} (ha : UT P a) (hb : UT P b) : UT P (if c then a else b) := by
  split
  · exact ha
  · exact hb
theorem um_storeVar (t : TypeId) (a : Addr) (v : Value) : UT P (storeVar t a v) := (um_size t).bind' fun n => um_ite (trivial) (um_storeCells a _ 0)
theorem um_sure (v : Value) : UT P (Instr.sureAddr v) := by
  unfold Instr.sureAddr
  split <;> trivial
theorem um_intOf (v : Value) : UT P (asIntOf v) := by
  unfold asIntOf
  split <;> trivial
theorem um_int (v : Value) : UT P (asInt v) := (um_intOf v).bind' fun _ => trivial
theorem um_err {α : Type} (m : String) : UT P (runtimePanic (.error m) : Sem α) := trivial
theorem um_nil {α : Type} : UT P (runtimePanic .nilDeref : Sem α) := trivial
theorem um_bnd {α : Type} (x y : Int) (s : Bool) (c : BoundsCode) : UT P (runtimePanic (.bounds x y s c) : Sem α) := trivial
theorem um_bounds {α : Type} (k : IntKind) (x y : Int) (c : BoundsCode) : UT P (boundsPanic k x y c : Sem α) := by
  unfold boundsPanic
  split
  · exact UT.bind' (m := Functor.map (· == 1) (choose _)) (UT.bind' (m := choose _) (f := fun n => pure (n == 1)) (um_choose _) fun n => trivial) fun n => um_bnd _ _ _ _
  · exact um_bnd _ _ _ _
theorem um_room (n : Nat) : UT P (askRoom n) := um_ite (by first | trivial | exact ⟨rfl, trivial⟩) (by first | trivial | exact ⟨rfl, trivial⟩)
theorem um_view (r : Nat) : UT P (viewAt r) := fun s => by
  cases s
  · exact fun o => by cases o <;> trivial
  · trivial
theorem um_num (r : Nat) : UT P (numberAt r) := fun s => by
  cases s
  · exact fun o => by cases o <;> trivial
  · trivial
theorem um_behind (a : Addr) : UT P (behindNumber a) := (um_num _).bind' fun _ => trivial
theorem um_shape (r : Nat) : UT P (shape r) := fun _ => trivial
theorem um_noView (a : Addr) : UT P (noView a) := (um_view _).bind' fun o => um_ite trivial trivial
theorem um_byteOf (a : Addr) : UT P (byteOf a) := by
  unfold byteOf
  split
  · trivial
  · refine um_program.bind' fun p => (um_noView a).bind' fun _ => (um_shape _).bind' fun s => ?_
    split
    · refine um_ite trivial ?_
      split <;> trivial
    · trivial
theorem um_part (t : TypeId) (cs : Array Value) (n : Nat) : UT P (part t cs n) := (um_isAgg t).bind' fun b => by
  cases b
  · show UT P (match cs[n]? with | some v => pure v | none => stuck "part: no such cell")
    cases cs[n]? <;> trivial
  · exact (um_size t).bind' fun _ => trivial
theorem um_forIn {α β : Type} {f : α → β → Sem (ForInStep β)} (h : ∀ a b, UT P (f a b)) : ∀ (l : List α) (b : β), UT P (forIn l b f)
  | [], b => by rw [List.forIn_nil]; trivial
  | a :: l, b => by
    rw [List.forIn_cons]
    refine (h a b).bind' fun s => ?_
    cases s with
    | done b => trivial
    | yield b => exact um_forIn h l b
theorem um_listM {α β : Type} {f : α → Sem β} (h : ∀ a, UT P (f a)) : ∀ l : List α, UT P (l.mapM f)
  | [] => by rw [List.mapM_nil]; trivial
  | a :: l => by
    rw [List.mapM_cons]
    exact (h a).bind' fun _ => (um_listM h l).bind' fun _ => trivial
theorem um_mapM {α β : Type} {f : α → Sem β} (h : ∀ a, UT P (f a)) (as : Array α) : UT P (as.mapM f) := by
  rw [Array.mapM_eq_mapM_toList, map_eq_pure_bind]
  exact (um_listM h _).bind' fun _ => trivial
theorem um_holds (a : Addr) (n : Nat) : UT P (Builtin.holdsCells a n) := fun s => by cases s <;> trivial
theorem um_share (size sLen n : Nat) (base : Option Addr) (x : Value) : UT P (Builtin.mayShare size sLen n base x) := by
  unfold Builtin.mayShare
  have hrest : ∀ there : Bool, UT P (if (!there) = true then (Sem.pure true : Sem Bool) else (match x with
      | .slice (some b) _ _ => (do pure (!(← Builtin.holdsCells b (n * size)) || base.any (·.block == b.block)) : Sem Bool)
      | _ => Sem.pure false)) := by
    intro there
    refine um_ite trivial ?_
    split
    · exact (um_holds _ _).bind' fun _ => trivial
    · trivial
  cases base with
  | none => exact hrest true
  | some a => exact (um_holds _ _).bind' fun b => fun s => hrest _
theorem um_first (size n : Nat) (v : Value) : UT P (Builtin.firstCells size n v) := by
  unfold Builtin.firstCells
  split
  · exact um_loadCells _ _
  · trivial
  · trivial
  · trivial
theorem um_lenOf (v : Value) : UT P (Builtin.lenOf v) := by
  unfold Builtin.lenOf
  split <;> trivial
end
section
variable {P : Program}
theorem um_undE {α : Type} {t : TypeId} {f : TypeDesc → Sem α} (h : ∀ d, P.underlying t = some d → UT P (f d)) : UT P (underlying t >>= f) := by
  show UT P (Sem.bind (match P.underlying t with | some d => pure d | none => stuck "no such type") f)
  cases hd : P.underlying t with
  | none => trivial
  | some d => exact h d hd
theorem um_newVarV (t : TypeId) (v : Value) : UT P (do pure (.pointer (some (← newVar t v))) : Sem Value) := (um_newVar t v).bind' fun _ => trivial
theorem um_alloc (t : TypeId) : UT P (Instr.alloc t true (.tuple #[])) := (um_zero t).bind' fun z => um_newVarV t z
theorem um_fill {place : Nat → Option (Nat × Nat)} {cs : Array Value} {ps : List (Nat × Value)} {f : Option (Array Value) → Sem Value} (h : ∀ o, UT P (f o)) : UT P (f (Instr.fill place cs ps)) := h _
theorem um_build (t : TypeId) (ps : Array (Nat × Value)) : UT P (Instr.build t ps) := by
  unfold Instr.build
  refine (um_zero t).bind' fun z => (um_und t).bind' fun d => ?_
  cases d with
  | struct fs =>
    refine (um_mapM (f := fun x => (do pure (x.offset, ← sizeOf x.type) : Sem (Nat × Nat))) (fun x => (um_size x.type).bind' fun n => um_pure _) fs).bind' fun l => ?_
    exact um_fill (f := fun o => match o with | some cells => (Pure.pure (Value.agg cells) : Sem Value) | x => stuck "build: no such field, or a part of the wrong size") fun o => by cases o <;> trivial
  | array n e =>
    refine (um_size e).bind' fun l => ?_
    exact um_fill (f := fun o => match o with | some cells => (Pure.pure (Value.agg cells) : Sem Value) | x => stuck "build: a part of the wrong size") fun o => by cases o <;> trivial
  | _ => trivial
theorem um_bsRest (t : TypeId) (len : Nat) (elem : TypeId) (size : Nat) (ps : Array (Nat × Value)) (z : Array Value) : UT P (bsRest t len elem size ps z) := by
  unfold bsRest
  exact um_fill (f := fun o => match o with | some cells => (do pure (.slice (some (← newRow elem cells)) len len) : Sem Value) | x => stuck "buildSlice: a part of the wrong size") fun o => by
    cases o with
    | none => trivial
    | some c => exact (um_newRow elem c).bind' fun _ => trivial
theorem um_buildSlice (t : TypeId) (len : Nat) (ps : Array (Nat × Value)) : UT P (Instr.buildSlice t len ps) := by
  unfold Instr.buildSlice
  refine (um_und t).bind' fun d => ?_
  cases d with
  | slice elem =>
    refine (um_size elem).bind' fun size => ?_
    by_cases h1 : len * size > 2 ^ 24
    · simp only [if_pos h1]
      trivial
    · simp only [if_neg h1]
      by_cases h2 : len * size = 0
      · simp only [if_pos h2]
        exact um_bsRest t len elem size ps #[]
      · simp only [if_neg h2]
        exact (um_zero elem).bind' fun z => um_bsRest t len elem size ps z.cells
  | _ => trivial
theorem um_makeSlice (t : TypeId) (x u : Value) : UT P (Instr.makeSlice t x u) := by
  unfold Instr.makeSlice
  refine (um_und t).bind' fun d => ?_
  cases d with
  | slice elem =>
    refine (um_int x).bind' fun n => (um_int u).bind' fun n' => (um_info elem).bind' fun i => ?_
    have tail : UT P (do
        askRoom ((IntKind.i64.wrap n').toNat * i.bytes)
        let s ← sizeOf elem
        if (IntKind.i64.wrap n').toNat * s = 0 then do
            let zero ← pure #[]
            let a ← newRow elem ((Array.range ((IntKind.i64.wrap n').toNat * s)).map (zero[· % zero.size]!))
            pure (Value.slice (some a) (IntKind.i64.wrap n).toNat (IntKind.i64.wrap n').toNat)
          else do
            let z ← zeroValue elem
            let zero ← pure z.cells
            let a ← newRow elem ((Array.range ((IntKind.i64.wrap n').toNat * s)).map (zero[· % zero.size]!))
            pure (Value.slice (some a) (IntKind.i64.wrap n).toNat (IntKind.i64.wrap n').toNat) : Sem Value) := by
      refine (um_room _).bind' fun _ => (um_size elem).bind' fun s => um_ite ?_ ?_
      · exact (um_newRow elem _).bind' fun _ => trivial
      · exact (um_zero elem).bind' fun z => (um_newRow elem _).bind' fun _ => trivial
    generalize hb : ((decide (IntKind.i64.wrap n' < 0) || decide ((i.bytes : Int) * IntKind.i64.wrap n' > 2 ^ 48)) || decide (IntKind.i64.wrap n < 0) || decide (IntKind.i64.wrap n > IntKind.i64.wrap n')) = b
    simp only [hb]
    cases b with
    | true =>
      simp only [if_true]
      exact um_ite ((um_err _).bind' fun _ => tail) (um_ite ((um_err _).bind' fun _ => tail) (UT.bind' (m := choose _) (um_choose _) fun r => (um_err _).bind' fun _ => tail))
    | false =>
      simp only [Bool.false_eq_true, if_false]
      exact tail
  | _ => trivial
theorem um_unary (op : UnOp) (v : Value) : UT P (Op.unary op v) := by
  unfold Op.unary
  split <;> first | trivial | (unfold Op.intArith; split <;> trivial) | (unfold Op.intBits; split <;> trivial)
theorem um_toInt (s : FloatKind) (x : Nat) (k : IntKind) : UT P (Conv.floatToInt s x k) := by
  unfold Conv.floatToInt
  have any : UT P (do pure (.int k (k.wrap (← choose (.floatToInt s x k)))) : Sem Value) := UT.bind' (um_choose _) fun _ => trivial
  dsimp only
  split
  · exact um_ite trivial any
  · exact any
theorem um_convert {s d : TypeId} {ks kd : IntKind} (hs : P.underlying s = some (.int ks)) (hd : P.underlying d = some (.int kd)) (x : Value) : UT P (convert s d x) := by
  unfold convert
  refine um_undE fun a ha => um_undE fun b hb => ?_
  rw [hs] at ha
  rw [hd] at hb
  cases ha
  cases hb
  cases x with
  | float k n => exact um_toInt _ _ _
  | pointer a => cases a <;> trivial
  | _ => trivial
theorem um_fieldAt (t : TypeId) (x : Value) (n : Nat) (hok : okField P t n = true) : UT P (Instr.fieldAt t x n) := by
  unfold Instr.fieldAt
  refine um_undE fun d hd => ?_
  cases d with
  | struct fs =>
    dsimp only
    cases hf : fs[n]? with
    | none => trivial
    | some f =>
      refine (um_sure x).bind' fun a => ?_
      unfold fieldPlace
      refine UT.bind' (UT.bind' (um_size f.type) fun s => um_ite ?_ trivial) fun _ => trivial
      exact (um_byteOf _).bind' fun b => (um_byteOf _).bind' fun b2 => trivial
  | _ => trivial
theorem um_idxRest (t : TypeId) (k : IntKind) (n : Int) (b : Option Addr × Nat × TypeId) : UT P (idxRest t k n b) := by
  unfold idxRest
  refine (um_und t).bind' fun d => ?_
  obtain ⟨a, len, e⟩ := b
  cases a with
  | none => exact um_bounds _ _ _ _
  | some a => exact um_ite ((um_size e).bind' fun _ => trivial) (um_ite trivial (um_bounds _ _ _ _))
theorem um_indexAt (t : TypeId) (x i : Value) : UT P (Instr.indexAt t x i) := by
  unfold Instr.indexAt
  refine (um_intOf i).bind' fun kn => ?_
  obtain ⟨k, n⟩ := kn
  dsimp only
  refine (um_und t).bind' fun d => ?_
  cases d with
  | array len e => exact (um_sure x).bind' fun a => um_idxRest t k n (some a, len, e)
  | slice e =>
    cases x with
    | slice b l c => exact um_idxRest t k n (b, l, e)
    | _ => trivial
  | _ => trivial
theorem um_extract (v : Value) (n : Nat) : UT P (Instr.extract v n) := by
  unfold Instr.extract
  split
  · split <;> trivial
  · trivial
theorem um_len (ts : Array TypeId) (t : TypeId) (x : Value) : UT P (Builtin.len_ ts t #[x]) := by
  unfold Builtin.len_
  cases ht : ts[0]? with
  | none => trivial
  | some t0 =>
    simp only [List.getElem?_toArray, List.getElem?_cons_zero]
    refine (um_und t0).bind' fun d => ?_
    cases d with
    | pointer arr => exact (um_und arr).bind' fun d => by cases d <;> trivial
    | slice e => cases x <;> trivial
    | string => cases x <;> trivial
    | map a b =>
      cases x with
      | map r => cases r with
        | none => trivial
        | some r => exact UT.bind' (m := getObj r) (fun _ => trivial) fun o => by cases o <;> trivial
      | _ => trivial
    | chan a b =>
      cases x with
      | chan r => cases r with
        | none => trivial
        | some r => exact UT.bind' (m := getObj r) (fun _ => trivial) fun o => by cases o <;> trivial
      | _ => trivial
    | _ => cases x <;> trivial
end
end Sim
end Go.Proofs.Ytaealkfnhhmmcaa
/- What an operation of pure code may list, whatever its operands: reckoning, appending. No condition. -/
namespace Go.Proofs.Ytaealkfnhhmmcaa
namespace Sim
open Go.Conc
set_option linter.unusedVariables false
section
variable {P : Program} {ρ : BR}
theorem um_intArith (op : BinOp) (k : IntKind) (a b : Int) : UT P (Op.intArith op k a b) := by unfold Op.intArith; split <;> trivial
theorem um_intDiv (op : BinOp) (k : IntKind) (a b : Int) : UT P (Op.intDiv op k a b) := by
  unfold Op.intDiv
  split
  · trivial
  · split <;> trivial
theorem um_intBits (op : BinOp) (k : IntKind) (a b : Int) : UT P (Op.intBits op k a b) := by unfold Op.intBits; cases op <;> trivial
theorem um_intCmp (op : BinOp) (a b : Int) : UT P (Op.intCmp op a b) := by unfold Op.intCmp; split <;> trivial
theorem um_str (op : BinOp) (a b : ByteArray) : UT P (Op.stringOp op a b) := by
  unfold Op.stringOp
  cases op <;> first | trivial | (dsimp only; split <;> trivial)
theorem um_uAdd (t : TypeId) (x y : Value) : UT P (Builtin.unsafeAdd_ #[] t #[x, y]) := by
  unfold Builtin.unsafeAdd_
  cases x with
  | pointer ptr =>
    refine (um_int y).bind' fun n => ?_
    by_cases h1 : n = 0
    · simp only [if_pos h1]
      cases ptr with
      | none => trivial
      | some a => exact (um_view _).bind' fun o => um_ite trivial trivial
    · simp only [if_neg h1]
      by_cases h2 : n < 0
      · simp only [if_pos h2]
        trivial
      · simp only [if_neg h2]
        cases ptr with
        | none => trivial
        | some a =>
          refine (um_shape _).bind' fun s => ?_
          cases s with
          | none => trivial
          | some s =>
            obtain ⟨e, cells⟩ := s
            refine um_program.bind' fun p => ?_
            split <;> trivial
  | _ => trivial
theorem um_moved (t : TypeId) (x y : Value) : UT P (movedNumber t x y) := by
  unfold movedNumber
  refine (um_und t).bind' fun d => ?_
  have hrest : UT P (match x with
      | .pointer (some n) => (behindNumber n >>= fun q => Builtin.unsafeAdd_ #[] t #[.pointer (some q.1), y] >>= fun r => match r with
        | .pointer (some b) => asNumber b q.2
        | v => pure v : Sem Value)
      | x_1 => Builtin.unsafeAdd_ #[] t #[x, y]) := by
    cases x with
    | pointer a => cases a with
      | some a =>
        refine (um_behind a).bind' fun q => (um_uAdd _ _ _).bind' fun r => ?_
        cases r with
        | pointer b => cases b with
          | some b => exact fun _ => trivial
          | none => trivial
        | _ => trivial
      | none => exact um_uAdd _ _ _
    | _ => exact um_uAdd _ _ _
  cases d with
  | unsafePointer => trivial
  | _ =>
    simp only [Bool.false_eq_true, if_false]
    exact hrest
theorem um_add0 (t : TypeId) (x y : Value) : UT P (do if (← underlying t) matches .unsafePointer then movedPointer t x y else movedNumber t x y : Sem Value) := by
  refine (um_und t).bind' fun d => ?_
  cases d with
  | unsafePointer =>
    simp only [if_true]
    unfold movedPointer
    split
    · exact (um_num _).bind' fun o => um_ite trivial (um_uAdd _ _ _)
    · exact um_uAdd _ _ _
  | _ =>
    simp only [Bool.false_eq_true, if_false]
    exact um_moved t x y
theorem um_two (a b : Addr) : UT P (Op.twoPlaces a b) := by
  unfold Op.twoPlaces
  refine um_program.bind' fun p => um_ite trivial ?_
  exact (um_byteOf _).bind' fun _ => (um_byteOf _).bind' fun _ => trivial
theorem um_bSub (k : IntKind) (a c : Addr) : UT P (do Op.addrSub k (← behindNumber a).1 (← behindNumber c).1 : Sem Value) := (um_behind _).bind' fun _ => (um_behind _).bind' fun _ => (um_two _ _).bind' fun _ => trivial
theorem um_bCmp (op : BinOp) (a c : Addr) : UT P (do Op.addrCmp op (← behindNumber a).1 (← behindNumber c).1 : Sem Value) := (um_behind _).bind' fun _ => (um_behind _).bind' fun _ => (um_two _ _).bind' fun _ => by cases op <;> trivial
theorem um_bMod (k : IntKind) (a : Addr) (n : Int) : UT P (do Op.addrMod k (← behindNumber a).1 n : Sem Value) := (um_behind _).bind' fun q => by
  unfold Op.addrMod
  refine (um_shape _).bind' fun s => ?_
  cases s with
  | none => trivial
  | some s =>
    obtain ⟨e, m⟩ := s
    exact (um_info _).bind' fun i => um_ite trivial ((um_byteOf _).bind' fun _ => trivial)
theorem um_equalIn : ∀ (n d : Nat) (t : TypeId) {x y : Value}, okEq P n t = true → UT P (Op.equalIn d t x y)
  | 0, _, _, _, _, h => by simp [okEq] at h
  | n + 1, 0, t, x, y, h => by unfold Op.equalIn; trivial
  | n + 1, d + 1, t, x, y, h => by
    unfold Op.equalIn
    refine um_undE fun dd hd => ?_
    rw [okEq, hd] at h
    cases dd with
    | bool => cases x <;> cases y <;> trivial
    | string => cases x <;> cases y <;> trivial
    | int k =>
      have hpp : ∀ a b : Addr, UT P (do
          let (a, b) := ((← behindNumber a).1, (← behindNumber b).1)
          if a.block == b.block && a.block < (← program).globals.size then return (← byteOf a) == (← byteOf b)
          let .named "sync.copyChecker" _ := (← typeInfo t).desc | unsupported .addressObserved
          if a == b then pure true else unsupported .addressObserved : Sem Bool) := by
        intro a b
        refine (um_behind a).bind' fun q => (um_behind b).bind' fun q2 => um_program.bind' fun p => um_ite ?_ ?_
        · exact (um_byteOf _).bind' fun _ => (um_byteOf _).bind' fun _ => trivial
        · refine (um_info t).bind' fun i => ?_
          split
          · exact um_ite trivial trivial
          · trivial
      cases x with
      | int k1 n1 => cases y with
        | int k2 n2 => exact um_ite trivial trivial
        | pointer a => cases a with
          | some a => rcases n1 with (_ | n1) | n1 <;> trivial
          | none => trivial
        | _ => trivial
      | pointer a => cases a with
        | some a => cases y with
          | int k2 n2 => rcases n2 with (_ | n2) | n2 <;> trivial
          | pointer b => cases b with
            | some b => exact hpp a b
            | none => trivial
          | _ => trivial
        | none => cases y <;> trivial
      | _ => cases y <;> trivial
    | struct fs =>
      cases x with
      | agg cs => cases y with
        | agg cs2 =>
          refine um_program.bind' fun p => um_ite trivial ?_
          refine UT.bind' ?_ fun r => by obtain ⟨o, u⟩ := r; cases o <;> trivial
          rw [← Array.forIn_toList]
          have hall : ∀ (l : List Field) (b : Option Bool × Unit), (∀ f ∈ l, okEq P n f.type = true) → UT P (forIn l b fun f __s => if f.name ≠ "_" then (do
              let u ← part f.type cs f.offset
              let v ← part f.type cs2 f.offset
              let r ← Op.equalIn d f.type u v
              if (!r) = true then pure (ForInStep.done (some false, ())) else pure (ForInStep.yield (none, ()))) else pure (ForInStep.yield (none, ()))) := by
            intro l
            induction l with
            | nil => intro b _; rw [List.forIn_nil]; trivial
            | cons f l ih =>
              intro b hl
              rw [List.forIn_cons]
              refine UT.bind' ?_ fun s => by
                cases s with
                | done b => trivial
                | yield b => exact ih b fun f hf => hl f (by simp [hf])
              refine um_ite ?_ trivial
              refine (um_part _ _ _).bind' fun u => (um_part _ _ _).bind' fun v => (um_equalIn n d f.type (hl f (by simp))).bind' fun r => um_ite trivial trivial
          exact hall _ _ fun f hf => List.all_eq_true.1 h f hf
        | _ => trivial
      | _ => cases y <;> trivial
    | array m e =>
      cases x with
      | agg cs => cases y with
        | agg cs2 =>
          refine (um_size e).bind' fun s => UT.bind' ?_ fun r => by obtain ⟨o, u⟩ := r; cases o <;> trivial
          rw [Std.Legacy.Range.forIn_eq_forIn_range']
          refine um_forIn (fun k b => ?_) _ _
          exact (um_part _ _ _).bind' fun u => (um_part _ _ _).bind' fun v => (um_equalIn n d e h).bind' fun r => um_ite trivial trivial
        | _ => trivial
      | _ => cases y <;> trivial
    | _ => cases h
theorem um_eql {t : TypeId} {x y : Value} (h : okEq P 10 t = true) : UT P (do pure (.bool (← Op.equal t x y)) : Sem Value) := (um_equalIn 10 Op.maxDepth t h).bind' fun _ => trivial
theorem um_neq {t : TypeId} {x y : Value} (h : okEq P 10 t = true) : UT P (do pure (.bool (!(← Op.equal t x y))) : Sem Value) := (um_equalIn 10 Op.maxDepth t h).bind' fun _ => trivial
theorem um_shift (op : BinOp) (k : IntKind) (x : Int) (yk : IntKind) (y : Int) : UT P (Op.shift op k x yk y) := by
  unfold Op.shift
  refine um_ite trivial ?_
  dsimp only
  split <;> trivial
theorem um_floatArith (op : BinOp) (k : FloatKind) (x y : Nat) : UT P (Op.floatArith op k x y) := by
  unfold Op.floatArith
  have J : ∀ r : Option Nat, UT P (match r with | some r => (pure (.float k r) : Sem Value) | none => do pure (.float k (← choose (.nanBits k x y)))) := fun r => by
    cases r with
    | none => exact UT.bind' (um_choose _) fun _ => trivial
    | some r => trivial
  dsimp only
  split <;> first | exact J _ | trivial
theorem um_floatCmp (op : BinOp) (k : FloatKind) (x y : Nat) : UT P (Op.floatCmp op k x y) := by
  unfold Op.floatCmp
  dsimp only
  split <;> trivial
/-- What a reckoning, a comparison wants. -/
def okBinU (P : Program) (op : BinOp) (t : TypeId) : Bool := match op with
  | .eql | .neq => okEq P 10 t && !P.eqGuardType P.depth t
  | _ => true
theorem um_bin3 {op : BinOp} {t : TypeId} (h : okBinU P op t = true) (x y : Value) (hc : ∀ k a b k' c d, ¬ (x = .complex k a b ∧ y = .complex k' c d)) : UT P (binOp op t x y) := by
  have heq : op = .eql ∨ op = .neq → okEq P 10 t = true := by
    rintro (rfl | rfl) <;> (simp only [okBinU, Bool.and_eq_true] at h; exact h.1)
  unfold binOp
  split
  case h_1 => exact um_shift _ _ _ _ _
  case h_2 => exact um_shift _ _ _ _ _
  case h_3 =>
    refine um_ite trivial ?_
    split <;> first | exact um_intArith _ _ _ _ | exact um_intDiv _ _ _ _ | exact um_intBits _ _ _ _ | exact um_intCmp _ _ _
  case h_4 =>
    refine um_ite trivial ?_
    split <;> first | exact um_floatArith _ _ _ _ | exact um_floatCmp _ _ _ _
  case h_5 => exact absurd ⟨rfl, rfl⟩ (hc _ _ _ _ _ _)
  case h_6 => exact um_str _ _ _
  case h_7 => exact um_eql (heq (.inl rfl))
  case h_8 => exact um_neq (heq (.inr rfl))
  all_goals first | trivial | exact um_add0 _ _ _ | exact um_moved _ _ _ | exact um_bSub _ _ _ | exact um_bCmp _ _ _ | exact um_bMod _ _ _
end
section
variable {P : Program} {ρ : BR}
theorem um_guardIn : ∀ (n d : Nat) (t : TypeId) {x y : Value}, okEq P n t = true → UT P (Op.eqGuardIn d t x y)
  | 0, _, _, _, _, h => by simp [okEq] at h
  | n + 1, 0, t, x, y, h => by unfold Op.eqGuardIn; trivial
  | n + 1, d + 1, t, x, y, h => by
    unfold Op.eqGuardIn
    refine um_undE fun dd hd => ?_
    rw [okEq, hd] at h
    cases dd with
    | struct fs =>
      cases x with
      | agg cs => cases y with
        | agg cs2 =>
          refine UT.bind' ?_ fun r => by obtain ⟨o, u⟩ := r; cases o <;> trivial
          rw [← Array.forIn_toList]
          have hall : ∀ (l : List Field) (b : Option Bool × Unit), (∀ f ∈ l, okEq P n f.type = true) → UT P (forIn l b fun f __s => if f.name ≠ "_" then (do
              let u ← part f.type cs f.offset
              let v ← part f.type cs2 f.offset
              let r ← Op.eqGuardIn d f.type u v
              if r = true then pure (ForInStep.done (some true, ())) else pure (ForInStep.yield (none, ()))) else pure (ForInStep.yield (none, ()))) := by
            intro l
            induction l with
            | nil => intro b _; rw [List.forIn_nil]; trivial
            | cons f l ih =>
              intro b hl
              rw [List.forIn_cons]
              refine UT.bind' ?_ fun s => by
                cases s with
                | done b => trivial
                | yield b => exact ih b fun f hf => hl f (by simp [hf])
              refine um_ite ?_ trivial
              refine (um_part _ _ _).bind' fun u => (um_part _ _ _).bind' fun v => (um_guardIn n d f.type (hl f (by simp))).bind' fun r => um_ite trivial trivial
          exact hall _ _ fun f hf => List.all_eq_true.1 h f hf
        | _ => trivial
      | _ => cases y <;> trivial
    | array m e =>
      cases x with
      | agg cs => cases y with
        | agg cs2 =>
          refine (um_size e).bind' fun s => UT.bind' ?_ fun r => by obtain ⟨o, u⟩ := r; cases o <;> trivial
          rw [Std.Legacy.Range.forIn_eq_forIn_range']
          refine um_forIn (fun k b => ?_) _ _
          exact (um_part _ _ _).bind' fun u => (um_part _ _ _).bind' fun v => (um_guardIn n d e h).bind' fun r => um_ite trivial trivial
        | _ => trivial
      | _ => cases y <;> trivial
    | _ => first | (cases h; done) | (cases x <;> cases y <;> trivial)
theorem um_eqGuard {op : BinOp} {t : TypeId} (u v : Operand) (h : okBinU P op t = true) (x y : Value) : UT P (eqGuard op t u v x y) := by
  have h2 : op = .eql ∨ op = .neq → okEq P 10 t = true := by
    rintro (rfl | rfl) <;> (simp only [okBinU, Bool.and_eq_true] at h; exact h.1)
  by_cases hop : op = .eql ∨ op = .neq
  · have h3 := h2 hop
    have e1 : eqGuard op t u v x y = (match x, y with
      | .nilIface, .nilIface => (do
        if (u matches .const _) || (v matches .const _) then return
        if ← Op.eqGuardIn Op.maxDepth t x y then unsupported (.noEntry "binop/eql: two nil values of an interface type with methods, neither of them the literal nil") : Sem Unit)
      | .agg _, .agg _ => (do
        if !(← program).eqGuardType (← program).depth t then return
        if ← Op.eqGuardIn Op.maxDepth t x y then unsupported (.noEntry "binop/eql: two nil values of an interface type with methods, in a part of a struct or an array") : Sem Unit)
      | _, _ => pure ()) := by
      unfold eqGuard
      rcases hop with rfl | rfl <;> rfl
    rw [e1]
    cases x with
    | nilIface => cases y with
      | nilIface =>
        dsimp only
        exact um_ite trivial ((um_guardIn 10 _ _ h3).bind' fun b => um_ite trivial trivial)
      | _ => trivial
    | agg cs => cases y with
      | agg cs2 =>
        dsimp only
        exact um_program.bind' fun p => um_program.bind' fun p2 => um_ite trivial ((um_guardIn 10 _ _ h3).bind' fun b => um_ite trivial trivial)
      | _ => trivial
    | _ => cases y <;> trivial
  · have e1 : eqGuard op t u v x y = pure () := by
      unfold eqGuard
      cases op <;> first | rfl | (exact absurd (.inl rfl) hop) | (exact absurd (.inr rfl) hop)
    rw [e1]
    trivial
theorem um_bind2 {α β γ : Type} {m : Sem α} {g : α → Sem β} {f : β → Sem γ} (h : UT P m) (hg : ∀ a, UT P ((g a).bind f)) : UT P ((m >>= g) >>= f) := by
  show UT P ((m.bind g).bind f)
  rw [bindA]
  exact h.bind hg
theorem um_append {T ty e : TypeId} (hT : P.underlying T = some (.slice e)) (x y : Value) : UT P (Builtin.append_ #[T, T] ty #[x, y]) := by
  unfold Builtin.append_
  simp only [List.getElem?_toArray, List.getElem?_cons_zero, List.getElem?_cons_succ]
  refine um_undE fun d hd => ?_
  rw [hT] at hd
  cases hd
  cases x with
  | slice base sLen sCap =>
    refine (um_size e).bind' fun size => ?_
    refine um_undE fun d hd => ?_
    rw [hT] at hd
    cases hd
    simp only [pure_bind, Bool.false_eq_true, if_false, Bool.not_false, if_true, false_or]
    refine (um_lenOf y).bind' fun n => um_ite ((um_first _ _ _).bind' fun cs => ?_) ?_
    · cases base with
      | none => trivial
      | some a => exact (um_storeCells _ _ 0).bind' fun _ => trivial
    · have t2 : sLen + n < 2 ^ 63 → UT P (do
              let newCap ← choose (Question.appendCap (sLen + n) sCap e)
              let i ← typeInfo e
              askRoom (newCap * i.bytes)
              let old ← Builtin.firstCells size sLen (Value.slice base sLen sCap)
              let new ← Builtin.firstCells size n y
              let z ← zeroValue e
              let r ← newRow e (old ++ new ++ Builtin.zeroCells z.cells (newCap - (sLen + n)))
              pure (Value.slice (some r) (sLen + n) newCap) : Sem Value) := fun h =>
          UT.bind' (m := choose _) (um_choose _) fun newCap => (um_info e).bind' fun i => (um_room _).bind' fun _ => (um_first _ _ _).bind' fun old => (um_first _ _ _).bind' fun new => (um_zero e).bind' fun z => (um_newRow e _).bind' fun r => trivial
      refine um_infoE fun i hi => ?_
      by_cases h1 : ((sLen + n : Nat) : Int) > IntKind.i64.max ∧ i.bytes = 0
      · simp only [if_pos h1]
        exact trivial
      · simp only [if_neg h1]
        refine um_infoE fun i2 hi2 => ?_
        rw [hi] at hi2
        cases hi2
        by_cases h2 : Builtin.nextslicecap (sLen + n) sCap * i.bytes > 2 ^ 48
        · simp only [if_pos h2]
          refine um_bind2 (um_share _ _ _ _ _) fun b => ?_
          cases b <;> trivial
        · simp only [if_neg h2]
          exact t2 (cap_small h1 h2)
  | _ => trivial
end
end Sim
end Go.Proofs.Ytaealkfnhhmmcaa
/- What an operation of pure code may list and hand back, whatever its operands. No condition. -/
namespace Go.Proofs.Ytaealkfnhhmmcaa
namespace Sim
open Go.Conc
set_option linter.unusedVariables false
section
variable {P : Program}
theorem um_cmp (op : BinOp) (k : FloatKind) (x y : Nat) : UT P (Op.Complex.cmp op k x y) := by
  unfold Op.Complex.cmp
  refine (um_floatCmp _ _ _ _).bind' fun v => ?_
  unfold asBool
  split <;> trivial
theorem um_arith (op : BinOp) (k : FloatKind) (x y : Nat) : UT P (Op.Complex.arith op k x y) := by
  unfold Op.Complex.arith
  refine (um_floatArith _ _ _ _).bind' fun v => ?_
  split <;> trivial
theorem um_f2f (s : FloatKind) (x : Nat) (d : FloatKind) : UT P (Conv.floatToFloat s x d) := by
  unfold Conv.floatToFloat
  refine um_ite trivial ?_
  split
  · exact UT.bind' (um_choose _) fun _ => trivial
  · trivial
  · dsimp only
    exact um_ite (UT.bind' (um_choose _) fun _ => trivial) trivial
theorem um_conv (s : FloatKind) (x : Nat) (d : FloatKind) : UT P (Op.Complex.conv s x d) := by
  unfold Op.Complex.conv
  refine um_ite trivial ?_
  refine (um_f2f _ _ _).bind' fun v => ?_
  split <;> trivial
theorem um_product (a b c d : Nat) : UT P (Op.Complex.product a b c d) :=
  (um_arith _ _ _ _).bind' fun _ => (um_arith _ _ _ _).bind' fun _ => (um_arith _ _ _ _).bind' fun _ => (um_arith _ _ _ _).bind' fun _ => (um_arith _ _ _ _).bind' fun _ => (um_arith _ _ _ _).bind' fun _ => trivial
theorem um_corrected (s a b c d : Nat) : UT P (Op.Complex.corrected s a b c d) :=
  (um_arith _ _ _ _).bind' fun _ => (um_arith _ _ _ _).bind' fun _ => (um_arith _ _ _ _).bind' fun _ => (um_arith _ _ _ _).bind' fun _ => (um_arith _ _ _ _).bind' fun _ => (um_arith _ _ _ _).bind' fun _ => (um_arith _ _ _ _).bind' fun _ => (um_arith _ _ _ _).bind' fun _ => trivial
theorem um_quotient (a b c d : Nat) : UT P (Op.Complex.quotient a b c d) := by
  unfold Op.Complex.quotient
  have J : ∀ ef : Nat × Nat, UT P (match ef with
      | (e, f) => (do
        let x ← Op.Complex.cmp .eql .f64 c 0
        let y ← Op.Complex.cmp .eql .f64 d 0
        have zero : Bool := x && y
        if (!(Op.Complex.isNaN e && Op.Complex.isNaN f)) = true then pure (e, f)
        else if (zero && (!Op.Complex.isNaN a || !Op.Complex.isNaN b)) = true then do
          let x ← Op.Complex.mul (Op.Complex.copysign Op.Complex.inf c) a
          let y ← Op.Complex.mul (Op.Complex.copysign Op.Complex.inf c) b
          pure (x, y)
        else if ((Op.Complex.isInf a || Op.Complex.isInf b) && Op.Complex.isFinite c && Op.Complex.isFinite d) = true then
          Op.Complex.corrected Op.Complex.inf (Op.Complex.inf2one a) (Op.Complex.inf2one b) c d
        else if ((Op.Complex.isInf c || Op.Complex.isInf d) && Op.Complex.isFinite a && Op.Complex.isFinite b) = true then
          Op.Complex.corrected 0 a b (Op.Complex.inf2one c) (Op.Complex.inf2one d)
        else pure (e, f) : Sem (Nat × Nat))) := fun ef => by
    obtain ⟨e, f⟩ := ef
    refine (um_cmp _ _ _ _).bind' fun z => (um_cmp _ _ _ _).bind' fun z2 => ?_
    dsimp only
    refine um_ite trivial (um_ite ?_ (um_ite (um_corrected _ _ _ _ _) (um_ite (um_corrected _ _ _ _ _) trivial)))
    exact (um_arith _ _ _ _).bind' fun _ => (um_arith _ _ _ _).bind' fun _ => trivial
  refine (um_cmp _ _ _ _).bind' fun t => um_ite ?_ ?_
  · exact (um_arith _ _ _ _).bind' fun _ => (um_arith _ _ _ _).bind' fun _ => (um_arith _ _ _ _).bind' fun _ => (um_arith _ _ _ _).bind' fun _ => (um_arith _ _ _ _).bind' fun _ => (um_arith _ _ _ _).bind' fun _ => (um_arith _ _ _ _).bind' fun _ => (um_arith _ _ _ _).bind' fun _ => (um_arith _ _ _ _).bind' fun _ => J (_, _)
  · exact (um_arith _ _ _ _).bind' fun _ => (um_arith _ _ _ _).bind' fun _ => (um_arith _ _ _ _).bind' fun _ => (um_arith _ _ _ _).bind' fun _ => (um_arith _ _ _ _).bind' fun _ => (um_arith _ _ _ _).bind' fun _ => (um_arith _ _ _ _).bind' fun _ => (um_arith _ _ _ _).bind' fun _ => (um_arith _ _ _ _).bind' fun _ => J (_, _)
theorem um_cm2 (op : BinOp) (a b c d : Nat) : UT P (if (op == .mul) = true then Op.Complex.product a b c d else Op.Complex.quotient a b c d) := um_ite (um_product _ _ _ _) (um_quotient _ _ _ _)
theorem um_complexOp (op : BinOp) (k : FloatKind) (a b c d : Nat) : UT P (Op.complexOp op k a b c d) := by
  unfold Op.complexOp
  have J : ∀ op, UT P (do
      let a' ← Op.Complex.conv k a .f64
      let b' ← Op.Complex.conv k b .f64
      let c' ← Op.Complex.conv k c .f64
      let d' ← Op.Complex.conv k d .f64
      let r ← (if (op == BinOp.mul) = true then Op.Complex.product a' b' c' d' else Op.Complex.quotient a' b' c' d')
      let x ← Op.Complex.conv .f64 r.1 k
      let y ← Op.Complex.conv .f64 r.2 k
      pure (.complex k x y) : Sem Value) := fun op =>
    (um_conv _ _ _).bind' fun _ => (um_conv _ _ _).bind' fun _ => (um_conv _ _ _).bind' fun _ => (um_conv _ _ _).bind' fun _ => UT.bind' (um_cm2 _ _ _ _ _) fun _ => (um_conv _ _ _).bind' fun _ => (um_conv _ _ _).bind' fun _ => trivial
  cases op with
  | add => exact (um_arith _ _ _ _).bind' fun _ => (um_arith _ _ _ _).bind' fun _ => trivial
  | sub => exact (um_arith _ _ _ _).bind' fun _ => (um_arith _ _ _ _).bind' fun _ => trivial
  | mul => exact J .mul
  | quo => exact J .quo
  | eql => exact (um_cmp _ _ _ _).bind' fun _ => (um_cmp _ _ _ _).bind' fun _ => trivial
  | neq => exact (um_cmp _ _ _ _).bind' fun _ => (um_cmp _ _ _ _).bind' fun _ => trivial
  | _ => trivial
theorem um_bin {op : BinOp} {t : TypeId} (h : okBinU P op t = true) (x y : Value) : UT P (binOp op t x y) := by
  by_cases hc : ∃ k a b k' c d, x = .complex k a b ∧ y = .complex k' c d
  · obtain ⟨k, a, b, k', c, d, rfl, rfl⟩ := hc
    cases op <;> (simp only [binOp]; exact um_ite trivial (um_complexOp _ _ _ _ _ _))
  · exact um_bin3 h x y fun k a b k' c d e => hc ⟨k, a, b, k', c, d, e⟩
theorem um_blind : ∀ (l : List FieldStep) (t : TypeId) (x : Option Value), UT P (followBlind l t x)
  | [], t, x => trivial
  | s :: rest, t, x => by
    unfold followBlind
    refine (um_und _).bind' fun d => ?_
    cases d with
    | struct fs =>
      dsimp only
      cases fs[s.index]? with
      | none => trivial
      | some f =>
        dsimp only
        split
        · trivial
        · exact um_blind rest _ _
        · trivial
        · trivial
        · exact (um_part _ _ _).bind' fun _ => um_blind rest _ _
        · trivial
        · exact um_blind rest _ _
    | _ => trivial
theorem um_nilAhead : ∀ (n : Nat) (t : TypeId) (v : Value) (name : String), UT P (nilAhead n t v name)
  | 0, t, v, name => trivial
  | n + 1, t, v, name => by
    unfold nilAhead
    refine (um_info t).bind' fun i => ?_
    split
    · refine (um_blind _ _ _).bind' fun r => ?_
      cases r with
      | error r => trivial
      | ok r =>
        obtain ⟨xt, x⟩ := r
        dsimp only
        split
        · exact um_nilAhead n _ _ _
        · trivial
        · trivial
        · trivial
        · trivial
        · refine (um_und _).bind' fun d => ?_
          split <;> trivial
    · trivial
theorem um_max2 (x y : Value) : UT P (Builtin.max2 x y) := by
  unfold Builtin.max2
  split
  · trivial
  · split
    · exact UT.bind' (um_choose _) fun _ => trivial
    · trivial
    · trivial
    · trivial
  · refine UT.bind' (um_str _ _ _) fun v => ?_
    refine UT.bind' ?_ fun _ => trivial
    unfold asBool
    split <;> trivial
  · trivial
  · trivial
  · trivial
theorem um_max (ts : Array TypeId) (t : TypeId) (x y : Value) : UT P (Builtin.max_ ts t #[x, y]) := by
  have e : ∀ a b : Value, Builtin.max_ ts t #[a, b] = (Builtin.max2 a b >>= fun v => pure v) := fun a b => rfl
  rw [e]
  exact UT.bind' (um_max2 _ _) fun v => trivial
/-- What an operation of pure code hands back. -/
def OkN (ok : FuncId → Bool) : Next → Prop
  | .value _ | .skip => True
  | .enter f _ => ok f = true
  | _ => False
variable {ok : FuncId → Bool}
theorem um_v {m : Sem Value} (h : UT P m) : UM P (OkN ok) (do pure (.value (← m)) : Sem Next) := UM.bind h fun _ _ => trivial
theorem um_u {m : Sem Unit} (h : UT P m) : UM P (OkN ok) (do m; pure .skip : Sem Next) := UM.bind h fun _ _ => trivial
def okCallU (P : Program) (ok : FuncId → Bool) (c : Call) : Bool := match c.callee with
  | .value (.func f) => (match P.funcs[f]? with | some fn => ok f && fn.body.isSome && fn.name != "runtime.NumGoroutine" | none => false)
  | .builtin .len => c.args.size == 1
  | .builtin .max => c.args.size == 2
  | .builtin .append => c.args.size == 2 && c.argTypes.size == 2 && c.argTypes[0]? == c.argTypes[1]? && (match c.argTypes[0]? with | some t => (match P.underlying t with | some (.slice _) => true | _ => false) | none => false)
  | _ => false
def okOpU (P : Program) (ok : FuncId → Bool) : Op → Bool
  | .move _ | .assign _ | .pick _ _ _ | .alloc _ | .box _ _ | .build _ _ | .buildSlice _ _ _ | .load _ _ | .store _ _ _ | .unOp _ _ _ | .makeSlice _ _ _ | .indexAddr _ _ _ | .extract _ _ | .nilCheck _ => true
  | .binOp op t _ _ _ => okBinU P op t
  | .convert s d _ => (match P.underlying s, P.underlying d with | some (.int _), some (.int _) => true | _, _ => false)
  | .fieldAddr s _ f => okField P s f
  | .call c => okCallU P ok c
  | _ => false
theorem um_eqGuardU {op : BinOp} {t : TypeId} (u v : Operand) (h : okBinU P op t = true) (x y : Value) : UT P (eqGuard op t u v x y) := um_eqGuard u v h x y
theorem um_exec {ev : Operand → Value} {o : Oper} (hok : okOpU P ok o.op = true) (hf : ∀ f, ev (.func f) = .func (.func f) #[] #[]) : UM P (OkN ok) (execOp ev o) := by
  obtain ⟨dst, op, ty, pos, after, guard⟩ := o
  dsimp only at hok
  cases op with
  | move x => trivial
  | assign x => trivial
  | pick c a b =>
    unfold execOp
    dsimp only
    cases ev c <;> trivial
  | alloc t => exact um_v (um_alloc t)
  | box t x => exact um_v (um_newVarV t _)
  | build t ps => exact um_v (um_build t _)
  | buildSlice t n ps => exact um_v (um_buildSlice t n _)
  | load t a => exact um_v ((um_sure _).bind' fun a => um_loadVar t a)
  | store t a x => exact um_u ((um_sure _).bind' fun a => um_storeVar t a _)
  | binOp op t x y t2 =>
    simp only [okOpU] at hok
    exact um_v ((um_eqGuardU x y hok _ _).bind' fun _ => um_bin hok _ _)
  | unOp op t x => exact um_v (um_unary op _)
  | convert s d x =>
    simp only [okOpU] at hok
    cases hs : P.underlying s with
    | none => rw [hs] at hok; cases hok
    | some a => cases hd : P.underlying d with
      | none => rw [hs, hd] at hok; cases a <;> cases hok
      | some b =>
        rw [hs, hd] at hok
        cases a <;> cases b <;> first | (cases hok; done) | exact um_v (um_convert hs hd _)
  | makeSlice t l c => exact um_v (um_makeSlice t _ _)
  | fieldAddr s x f => exact um_v (um_fieldAt s _ f hok)
  | indexAddr t x i => exact um_v (um_indexAt t _ _)
  | extract x n => exact um_v (um_extract _ n)
  | nilCheck x =>
    unfold execOp
    dsimp only
    split
    · trivial
    · trivial
    · trivial
    · split
      · trivial
      · exact UM.bind (Q := fun _ => True) um_program fun p _ => UM.bind (Q := fun _ => True) (um_nilAhead _ _ _ _) fun r _ => by
          split <;> trivial
      · trivial
    · trivial
  | call c =>
    obtain ⟨callee, args, ats⟩ := c
    simp only [okOpU, okCallU] at hok
    cases callee with
    | value f => cases f with
      | func f =>
        dsimp only at hok
        cases hff : P.funcs[f]? with
        | none => rw [hff] at hok; simp at hok
        | some fn =>
          rw [hff] at hok
          simp only [Bool.and_eq_true, bne_iff_ne, ne_eq] at hok
          obtain ⟨⟨hL, h3⟩, h4⟩ := hok
          have hb : fn.body.isNone = false := by cases hx : fn.body <;> simp_all
          have hn : (fn.name == "runtime.NumGoroutine") = false := by simpa using h4
          show UM P (OkN ok) (Sem.bind (Deferred.ofValue (ev (.func f)) (args.map ev)) fun d => invoke d.target d.args)
          rw [hf]
          show UM P (OkN ok) (callFunc f ((#[] ++ args.map ev) ++ #[]))
          show UM P (OkN ok) (Sem.bind (Sem.pure P) _)
          simp only [pb, hff, hn, hb, Bool.false_eq_true, if_false]
          exact hL
      | _ => cases hok
    | builtin b => cases b with
      | len =>
        obtain ⟨a, rfl⟩ := size1 (by simpa using hok)
        refine um_v (m := Builtin.len_ ats ty ((#[a]).map ev)) ?_
        rw [show (#[a]).map ev = #[ev a] from by simp]
        exact um_len _ _ _
      | max =>
        obtain ⟨a, b, rfl⟩ := size2 (by simpa using hok)
        refine um_v (m := Builtin.max_ ats ty ((#[a, b]).map ev)) ?_
        rw [show (#[a, b]).map ev = #[ev a, ev b] from by simp]
        exact um_max _ _ _ _
      | append =>
        simp only [Bool.and_eq_true, beq_iff_eq] at hok
        obtain ⟨⟨⟨h3, h4⟩, h5⟩, h6⟩ := hok
        obtain ⟨a, b, rfl⟩ := size2 h3
        obtain ⟨T, U, rfl⟩ := size2 h4
        have hTU : T = U := by simpa using h5
        subst hTU
        simp only [List.getElem?_toArray, List.getElem?_cons_zero] at h6
        cases hu : P.underlying T with
        | none => rw [hu] at h6; cases h6
        | some d =>
          rw [hu] at h6
          cases d with
          | slice e =>
            refine um_v (m := Builtin.append_ #[T, T] ty ((#[a, b]).map ev)) ?_
            rw [show (#[a, b]).map ev = #[ev a, ev b] from by simp]
            exact um_append hu _ _
          | _ => cases h6
      | _ => cases hok
    | invoke r n => cases hok
  | _ => cases hok
theorem um_results (fn : Func) (tv : Array Value) : UT P (results fn tv) := by
  unfold results
  refine (um_mapM (fun r => ?_) _).bind' fun vs => trivial
  cases r with
  | tmp t => trivial
  | cell a t =>
    refine UT.bind' ?_ fun a => um_loadVar t a
    unfold asAddr
    split <;> first | trivial | exact um_nil
/-- What it lists. -/
theorem um_events {α : Type} {Q : α → Prop} {m : Sem α} : UM P Q m → ∀ {w w' : World} {es es' : Array Event} {a : α}, m.runT P w es = (.ok a w', es') → Q a ∧ w.heap.size ≤ w'.heap.size ∧ ∀ e, e ∈ es' → e ∈ es ∨ EvX NoShun w'.heap.size e := by
  induction m with
  | pure a => exact fun h w w' es es' a' hr => by cases hr; exact ⟨h, Nat.le_refl _, fun e he => .inl he⟩
  | load md ad k ih =>
    intro h w w' es es' a hr
    simp only [Sem.runT] at hr
    cases hc : w.cell? ad with
    | some v =>
      rw [hc] at hr
      obtain ⟨h1, h2, h3⟩ := ih v (h v) hr
      refine ⟨h1, h2, fun e he => ?_⟩
      rcases h3 e he with h4 | h4
      · rcases Array.mem_push.1 h4 with h5 | rfl
        · exact .inl h5
        · exact .inr (evX_mono h2 (evX_cell0 _ _ _ (cell_lt hc)))
      · exact .inr h4
    | none =>
      rw [hc] at hr
      dsimp only at hr
      cases hf : w.farLoad P ad (md == .atomic) with
      | error e => rw [hf] at hr; cases hr
      | ok r =>
        obtain ⟨v, l⟩ := r
        rw [hf] at hr
        obtain ⟨h1, h2, h3⟩ := ih v (h v) hr
        refine ⟨h1, h2, fun e he => ?_⟩
        rcases h3 e he with h4 | h4
        · rcases Array.mem_append.1 h4 with h5 | h5
          · exact .inl h5
          · obtain ⟨x, hx, rfl⟩ := Array.mem_map.1 h5
            exact .inr (evX_mono h2 (evX_cell0 _ _ _ (farLoad_low hf x (by simpa using hx))))
        · exact .inr h4
  | store md ad v k ih =>
    intro h w w' es es' a hr
    by_cases hone : One v
    · rw [runT_store_one hone] at hr
      cases hc : w.cell? ad with
      | some u =>
        rw [hc] at hr
        dsimp only at hr
        cases hf : w.frozen? ad with
        | true => rw [hf] at hr; cases hr
        | false =>
          rw [hf] at hr
          obtain ⟨h1, h2, h3⟩ := ih h hr
          have hs : (w.setCell ad v).heap.size = w.heap.size := by simp [World.setCell]
          refine ⟨h1, by rw [hs] at h2; exact h2, fun e he => ?_⟩
          rcases h3 e he with h4 | h4
          · rcases Array.mem_push.1 h4 with h5 | rfl
            · exact .inl h5
            · exact .inr (evX_mono (by rw [hs] at h2; exact h2) (evX_cell0 _ _ _ (cell_lt hc)))
          · exact .inr h4
      | none =>
        rw [hc] at hr
        dsimp only at hr
        cases hf : w.farStore P ad v (md == .atomic) with
        | error e => rw [hf] at hr; cases hr
        | ok r =>
          obtain ⟨w1, l⟩ := r
          rw [hf] at hr
          obtain ⟨h1, h2, h3⟩ := ih h hr
          obtain ⟨hs, hl⟩ := farStore_low hf
          refine ⟨h1, by rw [hs] at h2; exact h2, fun e he => ?_⟩
          rcases h3 e he with h4 | h4
          · rcases Array.mem_append.1 h4 with h5 | h5
            · exact .inl h5
            · obtain ⟨x, hx, rfl⟩ := Array.mem_map.1 h5
              exact .inr (evX_mono (by rw [hs] at h2; exact h2) (evX_cell0 _ _ _ (hl x (by simpa using hx))))
          · exact .inr h4
    · cases v with
      | agg cs => simp only [Sem.runT] at hr; cases hr
      | tuple cs => simp only [Sem.runT] at hr; cases hr
      | _ => exact absurd ⟨fun _ h => (by cases h), fun _ h => (by cases h)⟩ hone
  | new o k ih =>
    intro h w w' es es' a hr
    obtain ⟨h1, h2, h3⟩ := ih w.heap.size (h _) (w := { w with heap := w.heap.push o }) hr
    exact ⟨h1, Nat.le_trans (by simp) h2, h3⟩
  | shape r k ih => exact fun h w w' es es' a hr => ih (w.shape? r) (h _) hr
  | freeze ad n k ih =>
    intro h w w' es es' a hr
    have hs : (w.freeze ad n).heap.size = w.heap.size := by unfold World.freeze; split <;> simp
    obtain ⟨h1, h2, h3⟩ := ih h (w := w.freeze ad n) hr
    exact ⟨h1, by rw [hs] at h2; exact h2, h3⟩
  | frozen ad k ih => exact fun h w w' es es' a hr => ih (w.frozen? ad) (h _) hr
  | getObj r k ih =>
    intro h w w' es es' a hr
    simp only [Sem.runT] at hr
    cases ho : w.heap[r]? with
    | none => rw [ho] at hr; cases hr
    | some o =>
      rw [ho] at hr
      have hlt := (Array.getElem?_eq_some_iff.1 ho).1
      cases o <;> first | (cases hr; done) | (
        obtain ⟨h1, h2, h3⟩ := ih _ (h _) hr
        refine ⟨h1, h2, fun e he => ?_⟩
        rcases h3 e he with h4 | h4
        · rcases Array.mem_push.1 h4 with h5 | rfl
          · exact .inl h5
          · exact .inr (evX_mono h2 (evX_obj0 _ _ _ hlt))
        · exact .inr h4)
  | setObj r o k ih =>
    intro h w w' es es' a hr
    simp only [Sem.runT] at hr
    cases ho : w.heap[r]? with
    | none => rw [ho] at hr; cases hr
    | some o' =>
      rw [ho] at hr
      have hlt := (Array.getElem?_eq_some_iff.1 ho).1
      cases o' <;> first | (cases hr; done) | (
        obtain ⟨h1, h2, h3⟩ := ih h (w := { w with heap := w.heap.setIfInBounds r o }) hr
        have h2' : w.heap.size ≤ w'.heap.size := by simpa using h2
        refine ⟨h1, h2', fun e he => ?_⟩
        rcases h3 e he with h4 | h4
        · rcases Array.mem_push.1 h4 with h5 | rfl
          · exact .inl h5
          · exact .inr (evX_mono h2' (evX_obj0 _ _ _ hlt))
        · exact .inr h4)
  | choose q k ih =>
    intro h w w' es es' a hr
    simp only [Sem.runT] at hr
    split at hr
    · exact ih 0 (h _) hr
    · exact ih _ (h _) (w := { w with drawn := w.drawn + 1 }) hr
  | sys c k ih => exact fun h => h.elim
  | program k ih => exact fun h w w' es es' a hr => ih P h hr
  | mark md k ih =>
    intro h w w' es es' a hr
    obtain ⟨rfl, h⟩ := h
    obtain ⟨h1, h2, h3⟩ := ih h (w := w) hr
    refine ⟨h1, h2, fun e he => ?_⟩
    rcases h3 e he with h4 | h4
    · rcases Array.mem_push.1 h4 with h5 | rfl
      · exact .inl h5
      · exact .inr (evX_room0 _)
    · exact .inr h4
  | halt h => exact fun _ w w' es es' a hr => by cases hr
end
end Sim
end Go.Proofs.Ytaealkfnhhmmcaa
/- One step of pure code in whatever world: what it is, over two bottoms. No condition. -/
namespace Go.Proofs.Ytaealkfnhhmmcaa
namespace Sim
open Go.Conc
set_option linter.unusedVariables false
section
variable (P : Program) (ok : FuncId → Bool)
def okCodeU : Code → Bool
  | .region _ ops _ => ops.toList.all (fun o => okOpU P ok o.op)
  | .seq a b => okCodeU a && okCodeU b
  | .cond _ a b => okCodeU a && okCodeU b
  | .block _ b => okCodeU b
  | .loop b => okCodeU b
  | .scope b => okCodeU b
  | .rangeFunc _ _ _ _ => false
  | _ => true
def okItemU : Item → Bool
  | .code c => okCodeU P ok c
  | .inBlock _ => true
  | .inLoop b => okCodeU P ok b
  | .inScope b => okCodeU P ok b
  | .inRegion ops _ => ops.toList.all (fun o => okOpU P ok o.op)
  | _ => false
def okTodoU (l : List Item) : Bool := l.all (okItemU P ok)
end
/-- Every function of the set is pure code; no initializer waits. -/
structure okSetU (P : Program) (ok : FuncId → Bool) : Prop where
  code : ∀ f, ok f = true → ∃ fn c, P.funcs[f]? = some fn ∧ fn.body = some c ∧ okCodeU P ok c = true
  ahead : P.follows .staticDataAhead = true
  step : ∀ g, P.stepOf g = none
section
variable {P : Program} {ok : FuncId → Bool}
theorem okTodoU_cons {i : Item} {k : List Item} : okTodoU P ok (i :: k) = true ↔ okItemU P ok i = true ∧ okTodoU P ok k = true := by simp [okTodoU]
theorem exitToU_ok {id : Nat} : ∀ {k k' : List Item}, exitTo id k = some k' → okTodoU P ok k = true → okTodoU P ok k' = true
  | [], _, h, _ => by simp [exitTo] at h
  | i :: k, k', h, hk => by
    have hk2 := (okTodoU_cons.1 hk).2
    unfold exitTo at h
    split at h
    · rename_i h1
      cases h1
      split at h
      · cases h; exact hk2
      · exact exitToU_ok h hk2
    · rename_i h1
      cases h1
      exact exitToU_ok h hk2
    · cases h
theorem findLabelU_ok {l : Nat} : ∀ {c c' : Code}, findLabel c l = some c' → okCodeU P ok c = true → okCodeU P ok c' = true := by
  intro c
  induction c with
  | seq a b iha ihb =>
    intro c' h hc
    simp only [okCodeU, Bool.and_eq_true] at hc
    unfold findLabel at h
    split at h
    · rename_i rest hr
      cases h
      simp only [okCodeU, Bool.and_eq_true]
      exact ⟨iha hr hc.1, hc.2⟩
    · exact ihb h hc.2
  | label l' =>
    intro c' h hc
    unfold findLabel at h
    split at h
    · cases h; rfl
    · cases h
  | _ => intro c' h hc; simp [findLabel] at h
theorem gotoInU_ok {l : Nat} : ∀ {k k' : List Item}, gotoIn l k = some k' → okTodoU P ok k = true → okTodoU P ok k' = true
  | [], _, h, _ => by simp [gotoIn] at h
  | i :: k, k', h, hk => by
    obtain ⟨hk1, hk2⟩ := okTodoU_cons.1 hk
    unfold gotoIn at h
    split at h
    · rename_i body k2 h1
      cases h1
      split at h
      · rename_i rest hr
        cases h
        exact okTodoU_cons.2 ⟨findLabelU_ok (P := P) (ok := ok) hr hk1, okTodoU_cons.2 ⟨hk1, hk2⟩⟩
      · exact gotoInU_ok h hk2
    · rename_i h1
      cases h1
      exact gotoInU_ok h hk2
    · cases h
variable (P ok)
/-- The callers: the same, down to what each side stands on. -/
inductive KE (bv bc : List Frame) : List Frame → List Frame → Prop
  | base : KE bv bc bv bc
  | cons (f : FuncId) (t : Array Value) (todo : List Item) (kv kc : List Frame) (hL : Fr P f) (hk : okTodoU P ok todo = true) (h : KE bv bc kv kc) : KE bv bc ((base f).at ⟨t, []⟩ todo :: kv) ((base f).at ⟨t, []⟩ todo :: kc)
inductive GE (bv bc : List Frame) : Goroutine → Goroutine → Prop
  | run (f : FuncId) (t : Array Value) (todo : List Item) (kv kc : List Frame) (hL : Fr P f) (hk : okTodoU P ok todo = true) (h : KE P ok bv bc kv kc) : GE bv bc (G ((base f).at ⟨t, []⟩ todo) kv) (G ((base f).at ⟨t, []⟩ todo) kc)
  | ret (f : FuncId) (t : Array Value) (todo : List Item) (kv kc : List Frame) (hL : Fr P f) (h : KE P ok bv bc kv kc) :
      GE bv bc (G { (base f).at ⟨t, []⟩ todo with mode := .returning } kv) (G { (base f).at ⟨t, []⟩ todo with mode := .returning } kc)
/-- What the next step is, on both sides. -/
inductive FE (bv bc : List Frame) (gv gc : Goroutine) : Prop
  | fin (f : FuncId) (t : Array Value) (todo : List Item) (hL : Fr P f) (hv : gv = G { (base f).at ⟨t, []⟩ todo with mode := .returning } bv) (hc : gc = G { (base f).at ⟨t, []⟩ todo with mode := .returning } bc)
  | dead (h : ∀ w, ∃ o w' es, stepG P true gv w = .ended o w' es)
  | ctl (gv' gc' : Goroutine) (hg : GE P ok bv bc gv' gc') (hv : ∀ w, stepG P true gv w = .go gv' w #[]) (hc : ∀ m w, stepG P m gc w = .go gc' w #[])
  | sem {X : Type} (Q : X → Prop) (m : Sem X) (kv : X → Goroutine) (kc : X → Goroutine) (fn : FuncId) (hn : UM P Q m) (hk : ∀ a, Q a → GE P ok bv bc (kv a) (kc a))
      (hv : ∀ w a w', m.run P w = .ok a w' → Q a → ∃ es, stepG P true gv w = .go (kv a) w' es)
      (hb : ∀ w hh w', m.run P w = .halt hh w' → NW hh → (∃ o w'' es, stepG P true gv w = .ended o w'' es) ∨ ∃ gp w'' es, stepG P true gv w = .go gp w'' es ∧ Pan P bv gp)
      (hc : ∀ main w b w' es, m.runT P w #[] = (.ok b w', es) → Q b → stepG P main gc w = .go (kc b) w' (seen P fn es))
end
section
variable {P : Program} {ok : FuncId → Bool} {bv bc : List Frame}
theorem KE.pk {kv kc : List Frame} (h : KE P ok bv bc kv kc) : PK P bv kv := by
  induction h with
  | base => exact .base
  | cons f t todo kv kc hL hk h ih => exact .cons f t todo kv hL ih
theorem um_halt {α : Type} {Q : α → Prop} {m : Sem α} : UM P Q m → ∀ {w w' : World} {hh : Halt}, m.run P w = .halt hh w' → NW hh := by
  have nc : ∀ (w : World) (a : Addr) (s : String), NW (w.noCell a s) := fun w a s => by unfold World.noCell; split <;> trivial
  have fl : ∀ (w : World) (a : Addr) (t : Bool) h, w.farLoad P a t = .error h → NW h := fun w a t h e => by
    unfold World.farLoad at e
    split at e
    · split at e
      · cases e
      · cases e; trivial
    · cases e; exact nc _ _ _
  have fs : ∀ (w : World) (a : Addr) (v : Value) (t : Bool) h, w.farStore P a v t = .error h → NW h := fun w a v t h e => by
    unfold World.farStore at e
    split at e
    · split at e
      · cases e
      · cases e; trivial
    · cases e; exact nc _ _ _
  induction m with
  | pure a => exact fun _ w w' hh hr => by cases hr
  | load md ad k ih =>
    intro h w w' hh hr
    simp only [Sem.run] at hr
    cases hc : w.cell? ad with
    | some v => rw [hc] at hr; exact ih v (h v) hr
    | none =>
      rw [hc] at hr
      dsimp only at hr
      cases hf : w.farLoad P ad (md == .atomic) with
      | error e => rw [hf] at hr; cases hr; exact fl _ _ _ _ hf
      | ok r => obtain ⟨v, l⟩ := r; rw [hf] at hr; exact ih v (h v) hr
  | store md ad v k ih =>
    intro h w w' hh hr
    by_cases hone : One v
    · rw [run_store_one hone] at hr
      cases hc : w.cell? ad with
      | some u =>
        rw [hc] at hr
        dsimp only at hr
        cases hf : w.frozen? ad with
        | true => rw [hf] at hr; cases hr; trivial
        | false => rw [hf] at hr; exact ih h hr
      | none =>
        rw [hc] at hr
        dsimp only at hr
        cases hf : w.farStore P ad v (md == .atomic) with
        | error e => rw [hf] at hr; cases hr; exact fs _ _ _ _ _ hf
        | ok r => obtain ⟨w1, l⟩ := r; rw [hf] at hr; exact ih h hr
    · cases v with
      | agg cs => simp only [Sem.run] at hr; cases hr; trivial
      | tuple cs => simp only [Sem.run] at hr; cases hr; trivial
      | _ => exact absurd ⟨fun _ h => (by cases h), fun _ h => (by cases h)⟩ hone
  | new o k ih => exact fun h w w' hh hr => ih w.heap.size (h _) (w := { w with heap := w.heap.push o }) hr
  | shape r k ih => exact fun h w w' hh hr => ih (w.shape? r) (h _) hr
  | freeze ad n k ih => exact fun h w w' hh hr => ih h (w := w.freeze ad n) hr
  | frozen ad k ih => exact fun h w w' hh hr => ih (w.frozen? ad) (h _) hr
  | getObj r k ih =>
    intro h w w' hh hr
    simp only [Sem.run] at hr
    cases ho : w.heap[r]? with
    | none => rw [ho] at hr; cases hr; trivial
    | some o => rw [ho] at hr; cases o <;> first | (cases hr; trivial) | exact ih _ (h _) hr
  | setObj r o k ih =>
    intro h w w' hh hr
    simp only [Sem.run] at hr
    cases ho : w.heap[r]? with
    | none => rw [ho] at hr; cases hr; trivial
    | some o' => rw [ho] at hr; cases o' <;> first | (cases hr; trivial) | exact ih h (w := { w with heap := w.heap.setIfInBounds r o }) hr
  | choose q k ih =>
    intro h w w' hh hr
    simp only [Sem.run] at hr
    split at hr
    · exact ih 0 (h _) hr
    · exact ih _ (h _) (w := { w with drawn := w.drawn + 1 }) hr
  | sys c k ih => exact fun h => h.elim
  | program k ih => exact fun h w w' hh hr => ih P h hr
  | mark md k ih => exact fun h w w' hh hr => ih h.2 (w := w) hr
  | halt h => exact fun hn w w' hh hr => by cases hr; exact hn
theorem apply_early (hS : okSetU P ok) {fr : Frame} {cs : List Frame} {m : Sem Next} {w w' : World} {g : Nat} (hr : m.run P w = .halt (.unsupported (.initOrder g)) w') : ∃ o w'' es, stepG.apply P true fr cs none m w = .ended o w'' es := by
  have he : ∃ o w'' es, early P fr cs none g w' = .ended o w'' es := by
    unfold early
    simp only [hS.ahead, hS.step, Bool.not_true, Bool.false_eq_true, if_false]
    exact ⟨_, _, _, rfl⟩
  obtain ⟨o, w'', es, he⟩ := he
  simp [stepG.apply, hr, he, GStep.after]
theorem apply_other {fr : Frame} {cs : List Frame} {m : Sem Next} {w w' : World} {hh : Halt} (hn : NW hh) (hp : ∀ v, hh ≠ .panic v) (hi : ∀ g, hh ≠ .unsupported (.initOrder g)) (hr : m.run P w = .halt hh w') : ∃ o w'' es, stepG.apply P true fr cs none m w = .ended o w'' es := by
  cases hh with
  | panic v => exact absurd rfl (hp v)
  | blocked => exact hn.elim
  | waiting => exact hn.elim
  | goexit => exact hn.elim
  | unsupported u => exact apply_uns (fun g e => hi g (by rw [e])) hr
  | stuck s => exact apply_stuck hr
  | exit c => simp [stepG.apply, hr, GStep.after]
  | fatal m => exact hn.elim
  | throw m => exact hn.elim
theorem form_codeU {f : FuncId} {t : Array Value} {c : Code} {k : List Item} {kv kc : List Frame} (hL : Fr P f) (hc : okCodeU P ok c = true) (hk : okTodoU P ok k = true) (hh : KE P ok bv bc kv kc) :
    FE P ok bv bc (G ((base f).at ⟨t, []⟩ (.code c :: k)) kv) (G ((base f).at ⟨t, []⟩ (.code c :: k)) kc) := by
  have C := fun (c : Code) (k : List Item) (h1 : okCodeU P ok c = true) (h2 : okTodoU P ok k = true) => okTodoU_cons.2 ⟨(show okItemU P ok (.code c) = true from h1), h2⟩
  have go := fun (todo : List Item) (h : okTodoU P ok todo = true) => GE.run f t todo kv kc hL h hh
  cases c with
  | skip => exact .ctl _ _ (go _ hk) (fun w => stepG_skip) (fun m w => stepG_skip)
  | label l => exact .ctl _ _ (go _ hk) (fun w => stepG_label) (fun m w => stepG_label)
  | ret => exact .ctl _ _ (.ret f t _ kv kc hL hh) (fun w => stepG_ret') (fun m w => stepG_ret')
  | seq a b =>
    simp only [okCodeU, Bool.and_eq_true] at hc
    exact .ctl _ _ (go _ (C a _ hc.1 (C b _ hc.2 hk))) (fun w => stepG_seq) (fun m w => stepG_seq)
  | block id b => exact .ctl _ _ (go _ (C b _ hc ((okTodoU_cons (i := .inBlock id)).2 ⟨rfl, hk⟩))) (fun w => stepG_block) (fun m w => stepG_block)
  | loop b => exact .ctl _ _ (go _ (C b _ hc ((okTodoU_cons (i := .inLoop b)).2 ⟨hc, hk⟩))) (fun w => stepG_loop) (fun m w => stepG_loop)
  | scope b => exact .ctl _ _ (go _ (C b _ hc ((okTodoU_cons (i := .inScope b)).2 ⟨hc, hk⟩))) (fun w => stepG_scope) (fun m w => stepG_scope)
  | exit id =>
    cases he : exitTo id k with
    | some k' => exact .ctl _ _ (go _ (exitToU_ok he hk)) (fun w => stepG_exit he) (fun m w => stepG_exit he)
    | none => exact .dead fun w => ⟨_, _, _, by simp only [G, stepG, stepG.exec, Frame.at, he]; rfl⟩
  | goto l =>
    cases he : gotoIn l k with
    | some k' => exact .ctl _ _ (go _ (gotoInU_ok he hk)) (fun w => stepG_goto he) (fun m w => stepG_goto he)
    | none => exact .dead fun w => ⟨_, _, _, by simp only [G, stepG, stepG.exec, Frame.at, he]; rfl⟩
  | refuse why => exact .dead fun w => ⟨_, _, _, by simp only [G, stepG, stepG.exec, Frame.at]; rfl⟩
  | rangeFunc a b c d => cases hc
  | cond x a b =>
    simp only [okCodeU, Bool.and_eq_true] at hc
    obtain ⟨ha, hb⟩ := hc
    generalize e1 : (⟨t, []⟩ : Act).eval x = u
    have hd : (∀ t, u ≠ .bool t) → FE P ok bv bc (G ((base f).at ⟨t, []⟩ (.code (.cond x a b) :: k)) kv) (G ((base f).at ⟨t, []⟩ (.code (.cond x a b) :: k)) kc) := fun hn => .dead fun w => cond_lost e1 hn w
    cases u with
    | bool t =>
      refine .ctl _ _ (go _ (C (if t then a else b) _ ?_ hk)) (fun w => stepG_cond e1) (fun m w => stepG_cond e1)
      cases t
      · exact hb
      · exact ha
    | _ => exact hd (fun t h => by cases h)
  | region id ops draw =>
    cases draw with
    | false => exact .ctl _ _ (go _ ((okTodoU_cons (i := .inRegion ops _)).2 ⟨hc, hk⟩)) (fun w => stepG_region) (fun m w => stepG_region)
    | true =>
      refine .sem (fun _ => True) (sched (P.follows .mixedOrders) f id ops) (fun l => G ((base f).at ⟨t, []⟩ (.inRegion ops l :: k)) kv) (fun l => G ((base f).at ⟨t, []⟩ (.inRegion ops l :: k)) kc) f
        (fun n => trivial) (fun a _ => go _ ((okTodoU_cons (i := .inRegion ops _)).2 ⟨hc, hk⟩)) (fun w a w' hr hx => ?_) (fun w hh w' hr hb => ?_) (fun main w b w' es hr hx => ?_)
      · refine ⟨#[], ?_⟩
        obtain ⟨n, hn, rfl⟩ := sched_run hr
        simp only [G, stepG, stepG.exec, Frame.at, base, Bool.not_true, Bool.false_eq_true, if_false]
        rw [hn]
      · simp only [sched, Sem.run] at hr
        split at hr <;> cases hr
      · have hr1 : (sched (P.follows .mixedOrders) f id ops).run P w = .ok b w' := by rw [← Sem.runT_fst P _ w #[], hr]
        have hes : es = #[] := by
          simp only [sched, Sem.runT] at hr
          split at hr <;> (cases hr; rfl)
        subst hes
        rw [seen_none]
        obtain ⟨n, hn, rfl⟩ := sched_run hr1
        simp only [G, stepG, stepG.exec, Frame.at, base, Bool.not_true, Bool.false_eq_true, if_false]
        rw [hn]
theorem form_opU (hS : okSetU P ok) {f : FuncId} {t : Array Value} {ops : Array Oper} {i : Nat} {rest : List Nat} {k : List Item} {kv kc : List Frame} (hL : Fr P f) (hc : ops.toList.all (fun o => okOpU P ok o.op) = true) (hk : okTodoU P ok k = true) (hh : KE P ok bv bc kv kc) :
    FE P ok bv bc (G ((base f).at ⟨t, []⟩ (.inRegion ops (i :: rest) :: k)) kv) (G ((base f).at ⟨t, []⟩ (.inRegion ops (i :: rest) :: k)) kc) := by
  have hI := fun (l : List Nat) => (okTodoU_cons (P := P) (ok := ok) (i := .inRegion ops l) (k := k)).2 ⟨hc, hk⟩
  cases hw : ((ops[i]?).map (Region.wanted · (yielded ops t))).getD false with
  | false =>
    refine .ctl _ _ ?_ (fun w => stepG_unwanted (a := ⟨t, []⟩) hw) (fun m w => stepG_unwanted (a := ⟨t, []⟩) hw)
    rw [put_defers t]
    exact .run f _ _ kv kc hL (hI rest) hh
  | true =>
    cases ho : ops[i]? with
    | none => rw [ho] at hw; cases hw
    | some o =>
      rw [ho] at hw
      simp only [Option.map_some, Option.getD_some] at hw
      have hoo : okOpU P ok o.op = true := by
        have hm : o ∈ ops.toList := by simpa using Array.mem_of_getElem? ho
        exact List.all_eq_true.1 hc o hm
      have hE : (base f).kind ≠ .early := by intro h; cases h
      refine .sem (OkN ok) (execOp (⟨t, []⟩ : Act).eval o) (kNext P f t o ops i rest k kv) (kNext P f t o ops i rest k kc) f
        (um_exec hoo (fun _ => rfl)) (fun a ha => ?_) (fun w a w' hr hx => ?_) (fun w hh' w' hr hb => ?_) (fun main w b w' es hr hx => ?_)
      · cases a with
        | value v =>
          show GE P ok bv bc (G ((base f).at ((⟨t, []⟩ : Act).put o.dst v) (.inRegion ops rest :: k)) kv) (G ((base f).at ((⟨t, []⟩ : Act).put o.dst v) (.inRegion ops rest :: k)) kc)
          rw [put_defers t]
          exact .run f _ _ kv kc hL (hI rest) hh
        | skip =>
          show GE P ok bv bc (G ((base f).at ((⟨t, []⟩ : Act).put o.dst undef) (.inRegion ops rest :: k)) kv) (G ((base f).at ((⟨t, []⟩ : Act).put o.dst undef) (.inRegion ops rest :: k)) kc)
          rw [put_defers t]
          exact .run f _ _ kv kc hL (hI rest) hh
        | enter g xs =>
          obtain ⟨fn, c, h1, h2, h3⟩ := hS.code g ha
          show GE P ok bv bc (G (Frame.enter P g xs .normal) _) (G (Frame.enter P g xs .normal) _)
          rw [enter_at xs h1 h2]
          exact .run g _ _ _ _ ⟨fn, h1⟩ (okTodoU_cons.2 ⟨h3, rfl⟩) (.cons f t _ kv kc hL (hI _) hh)
        | _ => exact ha.elim
      · cases a with
        | value v => exact ⟨_, stepG_value (a := ⟨t, []⟩) ho hw hE hr⟩
        | skip => exact ⟨_, stepG_none (a := ⟨t, []⟩) ho hw hE hr⟩
        | enter g xs => exact ⟨_, stepG_enter (a := ⟨t, []⟩) ho hw hE hr⟩
        | _ => exact hx.elim
      · rw [stepG_oper (a := ⟨t, []⟩) ho hw]
        by_cases hp : ∃ v, hh' = .panic v
        · obtain ⟨v, rfl⟩ := hp
          obtain ⟨es, he⟩ := apply_panic (fr := (base f).at ⟨t, []⟩ (.inRegion ops (i :: rest) :: k)) (cs := kv) hr
          exact .inr ⟨_, _, es, he, f, t, _, kv, _, hL, hh.pk, rfl⟩
        · by_cases hi : ∃ g, hh' = .unsupported (.initOrder g)
          · obtain ⟨g, rfl⟩ := hi
            exact .inl (apply_early hS hr)
          · exact .inl (apply_other hb (fun v e => hp ⟨v, e⟩) (fun g e => hi ⟨g, e⟩) hr)
      · have hr1 : (execOp (⟨t, []⟩ : Act).eval o).run P w = .ok b w' := by rw [← Sem.runT_fst P _ w #[], hr]
        have hes : (execOp (⟨t, []⟩ : Act).eval o).events P w #[] = es := by unfold Sem.events; rw [hr]
        rw [← hes]
        cases b with
        | value v => exact stepG_value (a := ⟨t, []⟩) ho hw hE hr1
        | skip => exact stepG_none (a := ⟨t, []⟩) ho hw hE hr1
        | enter g xs => exact stepG_enter (a := ⟨t, []⟩) ho hw hE hr1
        | _ => exact hx.elim
theorem finishU_ok {f : FuncId} {t : Array Value} {todo : List Item} {v : Value} (hk : okTodoU P ok todo = true) : ∃ t' todo', ((base f).at ⟨t, []⟩ todo).finish v = (base f).at ⟨t', []⟩ todo' ∧ okTodoU P ok todo' = true := by
  cases todo with
  | nil => exact ⟨t, [], rfl, rfl⟩
  | cons i k =>
    obtain ⟨h1, h2⟩ := okTodoU_cons.1 hk
    cases i with
    | inRegion ops l =>
      cases l with
      | nil => exact ⟨t, _, rfl, hk⟩
      | cons i rest =>
        refine ⟨((⟨t, []⟩ : Act).put ((ops[i]?).bind (·.dst)) v).tmps, .inRegion ops rest :: k, ?_, (okTodoU_cons (i := .inRegion ops rest)).2 ⟨h1, h2⟩⟩
        rw [Frame.finish_at, put_defers]
    | code c => exact ⟨t, _, rfl, hk⟩
    | inBlock id => exact ⟨t, _, rfl, hk⟩
    | inLoop b => exact ⟨t, _, rfl, hk⟩
    | inScope b => exact ⟨t, _, rfl, hk⟩
    | _ => cases h1
theorem form_ofU (hS : okSetU P ok) {gv gc : Goroutine} (h : GE P ok bv bc gv gc) : FE P ok bv bc gv gc := by
  cases h with
  | run f t todo kv kc hL hk hh =>
    have go := fun (todo : List Item) (h : okTodoU P ok todo = true) => GE.run f t todo kv kc hL h hh
    cases todo with
    | nil => exact .ctl _ _ (.ret f t [] kv kc hL hh) (fun w => stepG_end) (fun m w => stepG_end)
    | cons i k =>
      obtain ⟨h1, h2⟩ := okTodoU_cons.1 hk
      cases i with
      | code c => exact form_codeU hL h1 h2 hh
      | inBlock id => exact .ctl _ _ (go _ h2) (fun w => stepG_inBlock) (fun m w => stepG_inBlock)
      | inLoop b => exact .ctl _ _ (go _ ((okTodoU_cons (i := .code b)).2 ⟨h1, (okTodoU_cons (i := .inLoop b)).2 ⟨h1, h2⟩⟩)) (fun w => stepG_inLoop) (fun m w => stepG_inLoop)
      | inScope b => exact .ctl _ _ (go _ h2) (fun w => stepG_inScope) (fun m w => stepG_inScope)
      | inRegion ops l =>
        cases l with
        | nil => exact .ctl _ _ (go _ h2) (fun w => stepG_region_end) (fun m w => stepG_region_end)
        | cons i rest => exact form_opU hS hL h1 h2 hh
      | _ => cases h1
  | ret f t todo kv kc hL hh =>
    cases hh with
    | base => exact .fin f t todo hL rfl rfl
    | cons f2 t2 todo2 kv2 kc2 hL2 hk2 hh2 =>
      obtain ⟨fn, h1⟩ := hL
      refine .sem (fun _ => True) (results fn t) (fun v => G (((base f2).at ⟨t2, []⟩ todo2).finish v) kv2) (fun v => G (((base f2).at ⟨t2, []⟩ todo2).finish v) kc2) f (um_results fn t) (fun a _ => ?_) (fun w a w' hr hx => ?_) (fun w hh' w' hr hb => ?_) (fun main w b w' es hr hx => ?_)
      · obtain ⟨t', todo', e1, e3⟩ := finishU_ok (P := P) (ok := ok) (f := f2) (t := t2) (v := a) hk2
        rw [e1]
        exact .run f2 _ _ kv2 kc2 hL2 e3 hh2
      · exact ⟨_, back_ok h1 (es := ((results fn t).runT P w #[]).2) (by rw [← hr, ← Sem.runT_fst P _ w #[]])⟩
      · exact .inl (back_halt h1 hr)
      · exact back_ok h1 hr
end
end Sim
end Go.Proofs.Ytaealkfnhhmmcaa
/- Goroutine 0 alone, whatever the world holds: stretches of pure code, and what they leave of the trace. No condition. -/
namespace Go.Proofs.Ytaealkfnhhmmcaa
namespace Sim
open Go.Conc
open Go.ConcR (DC0)
set_option linter.unusedVariables false
section
variable {P : Program} {ok : FuncId → Bool} {bc : List Frame}
theorem GE.isG {bv : List Frame} {gv gc : Goroutine} (h : GE P ok bv bc gv gc) : IsG gv ∧ IsG gc := by
  cases h <;> exact ⟨⟨_, _, rfl⟩, ⟨_, _, rfl⟩⟩
theorem GE.status {bv : List Frame} {gv gc : Goroutine} (h : GE P ok bv bc gv gc) : gc.status = .running := by
  cases h <;> rfl
theorem runNT_one {m m' : Machine} {t : Trace} {u : Array MemOp} (h : stepT P m = (.next m', u)) : runNT P 1 m t = (.next m', t ++ u) := by simp only [runNT, h]
/-- One step of a goroutine alone. -/
theorem solo_step {a a' : Goroutine} {w w' : World} {es : Array Event} {t : Trace} {q : Nat → Nat} (hr : a.status = .running) (hs : stepG P true a w = .go a' w' es) (hd : DB NoShun w w' es) (hb : Bs P NoShun #[a] a w t q) :
    ∃ t', runNT P 1 (solo a w) t = (.next (solo a' w'), t') ∧ Bs P NoShun #[a'] a' w' t' q := by
  refine ⟨t ++ MemOp.ofEvents 0 a.frame.fn a.frame.place es, runNT_one (by rw [stepT_solo hr, runT_solo_go hs]), ?_⟩
  have := hb.own (a' := a') hd a.frame.fn a.frame.place
  simpa using this
theorem ge_zero {fr : Frame} (hfr : fr.mode = .returning) {gv gc : Goroutine} {w w2 : World} (hg : GE P ok [c0 P] bc gv gc) (h : mach gv w = lone fr [c0 P] w2) : w2 = w ∧ ∃ f tt todo, Fr P f ∧ fr = { (base f).at ⟨tt, []⟩ todo with mode := .returning } ∧ gc = G fr bc := by
  obtain ⟨h1, h2, h3⟩ := lone_inj h
  refine ⟨h3.symm, ?_⟩
  cases hg with
  | run f t todo kv kc hL hk hh =>
    rw [← h1] at hfr
    cases hfr
  | ret f t todo kv kc hL hh =>
    cases hh with
    | base => exact ⟨f, t, todo, hL, h1.symm, by rw [← h1]; rfl⟩
    | cons f2 t2 todo2 kv2 kc2 hL2 hk2 hh2 =>
      exfalso
      obtain ⟨fn, hf⟩ := hL2
      have h4 : (base f2).at ⟨t2, []⟩ todo2 = c0 P := (List.cons.inj h2).1
      have h5 : f2 = P.funcs.size := congrArg Frame.fn h4
      have h6 : f2 < P.funcs.size := (Array.getElem?_eq_some_iff.1 hf).1
      rw [h5] at h6
      exact Nat.lt_irrefl _ h6
theorem lone_run {L : LSet} (hS : okSetU P ok) (hS2 : okSet P L) {fr : Frame} {w2 : World} (hfr : fr.mode = .returning) : ∀ (n : Nat) {gv gc : Goroutine} {w : World} {t : Trace} {q : Nat → Nat}, GE P ok [c0 P] bc gv gc → runN P n (mach gv w) = .next (lone fr [c0 P] w2) → Bs P NoShun #[gc] gc w t q →
    ∃ N t', runNT P N (solo gc w) t = (.next (solo (G fr bc) w2), t') ∧ Bs P NoShun #[G fr bc] (G fr bc) w2 t' q ∧ ∃ f tt todo, Fr P f ∧ fr = { (base f).at ⟨tt, []⟩ todo with mode := .returning }
  | 0, gv, gc, w, t, q, hg, h, hb => by
    obtain ⟨rfl, f, tt, todo, h1, h2, rfl⟩ := ge_zero hfr hg (by simpa only [runN, Stepped.next.injEq] using h)
    exact ⟨0, t, rfl, hb, f, tt, todo, h1, h2⟩
  | n + 1, gv, gc, w, t, q, hg, h, hb => by
    have go : ∀ {gv' gc' : Goroutine} {w' : World} {es es' : Array Event}, stepG P true gv w = .go gv' w' es' → stepG P true gc w = .go gc' w' es → DB NoShun w w' es → GE P ok [c0 P] bc gv' gc' →
        ∃ N t', runNT P N (solo gc w) t = (.next (solo (G fr bc) w2), t') ∧ Bs P NoShun #[G fr bc] (G fr bc) w2 t' q ∧ ∃ f tt todo, Fr P f ∧ fr = { (base f).at ⟨tt, []⟩ todo with mode := .returning } := by
      intro gv' gc' w' es es' hv hc hd hg'
      rw [runN_succ_next (mach_go hg.isG.1 hg'.isG.1 hv)] at h
      obtain ⟨t1, e1, hb1⟩ := solo_step hg.status hc hd hb
      obtain ⟨N, t', e2, hb2, hx⟩ := lone_run hS hS2 hfr n hg' h hb1
      exact ⟨1 + N, t', by rw [runNT_add, e1]; exact e2, hb2, hx⟩
    cases form_ofU hS hg with
    | fin f tt todo hL hv hc =>
      obtain ⟨e1, rfl⟩ := fin_last hS2 hfr ⟨f, tt, todo, hL, hv⟩ h
      have e2 : fr = { (base f).at ⟨tt, []⟩ todo with mode := .returning } := by rw [e1, hv]; rfl
      have e3 : gc = G fr bc := by rw [hc, e2]
      rw [e3] at hb
      exact ⟨0, t, by rw [e3]; rfl, hb, f, tt, todo, hL, e2⟩
    | dead h' =>
      obtain ⟨o, w', es, he⟩ := h' w
      rw [runN_succ_end (mach_end hg.isG.1 he)] at h
      cases h
    | ctl gv' gc' hg' hv hc => exact go (hv w) (hc true w) ⟨Nat.le_refl _, fun e he => by simp at he⟩ hg'
    | sem Q m kv kc fn hn hk hv hbd hc =>
      cases hr : m.run P w with
      | ok a w' =>
        have hrT : m.runT P w #[] = (.ok a w', (m.runT P w #[]).2) := by rw [← hr, ← Sem.runT_fst P _ w #[]]
        obtain ⟨hQ, hs, hev⟩ := um_events hn hrT
        obtain ⟨es', he⟩ := hv w a w' hr hQ
        refine go he (hc true w a w' _ hrT hQ) ⟨hs, fun e he => ?_⟩ (hk a hQ)
        rcases hev e (mem_seen he) with h1 | h1
        · simp at h1
        · exact h1
      | halt hh w' =>
        exfalso
        rcases hbd w hh w' hr (um_halt hn hr) with ⟨o, w'', es, he⟩ | ⟨gp, w'', es, he, hp⟩
        · rw [runN_succ_end (mach_end hg.isG.1 he)] at h
          cases h
        · rw [runN_succ_next (mach_go hg.isG.1 hp.isG he)] at h
          exact pan_never hS2 hfr n hp h
end
/-! ### 'From here the run ends well', of goroutine 0 alone -/
section
variable {P : Program} {Post : Value → World → Prop}
def JL (P : Program) (Post : Value → World → Prop) (a : Goroutine) (w : World) : Prop := ∀ (t : Trace) (q : Nat → Nat), Bs P NoShun #[a] a w t q → Ends P Post (solo a w) t
theorem JL.of_j {a : Goroutine} {w : World} (h : J P Post NoShun a w) : JL P Post a w := fun t q hb => by
  rw [solo_eq_crowd]
  exact h.self hb
theorem JL.run {a : Goroutine} {w : World} (h : JL P Post a w) : Ends P Post (solo a w) #[] := h _ _ (bs_first a w)
theorem JL.step {a a' : Goroutine} {w w' : World} {es : Array Event} (hr : a.status = .running) (hs : stepG P true a w = .go a' w' es) (hd : DB NoShun w w' es) (h : JL P Post a' w') : JL P Post a w := fun t q hb => by
  obtain ⟨t', e, hb'⟩ := solo_step hr hs hd hb
  exact Ends.after e (h t' q hb')
theorem JL.ctl {a a' : Goroutine} {w : World} (hr : a.status = .running) (hs : stepG P true a w = .go a' w #[]) (h : JL P Post a' w) : JL P Post a w :=
  .step hr hs ⟨Nat.le_refl _, fun e he => by simp at he⟩ h
theorem JL.quiet : ∀ {n : Nat} {a : Goroutine} {w : World}, Goes P true Eq DC0 (JL P Post) n a w → JL P Post a w
  | 0, a, w, h => h w rfl
  | n + 1, a, w, h => by
    rcases h with h | ⟨hr, h⟩
    · exact h w rfl
    · obtain ⟨g', w', es, hs, ⟨e1, e2⟩, h2⟩ := goes_elim (h w rfl)
      rw [e1, e2] at hs
      rw [e1] at h2
      exact .ctl hr hs (JL.quiet h2)
/-- The last step. -/
theorem JL.last {a : Goroutine} {w : World} (h : AtLast P NoShun Post a w) : JL P Post a w := .of_j (.last h)
/-- Through a function of pure code. -/
theorem JL.call {ok : FuncId → Bool} {L : LSet} (hS : okSetU P ok) (hS2 : okSet P L) {f : FuncId} (hf : ok f = true) {args : Array Value} {w : World} {R : Value → World → Prop} (H : Calls P f args w fun e w' => ∃ v, e = .returned v ∧ R v w')
    {c1 : Frame} {cs : List Frame} (hnext : ∀ v w', R v w' → JL P Post (G (c1.finish v) cs) w') : JL P Post (G (Frame.enter P f args .normal) (c1 :: cs)) w := by
  obtain ⟨fn, c, h1, h2, h3⟩ := hS.code f hf
  obtain ⟨e, w', fr, ⟨v, rfl, hR⟩, ⟨n, hs⟩, hfn, hm, hd, hk, fn', hf', hr'⟩ := H [c0 P]
  intro t q hb
  have hge : GE P ok [c0 P] (c1 :: cs) (G (Frame.enter P f args .normal) [c0 P]) (G (Frame.enter P f args .normal) (c1 :: cs)) := by
    rw [enter_at args h1 h2]
    exact .run f _ _ _ _ ⟨fn, h1⟩ (okTodoU_cons.2 ⟨h3, rfl⟩) .base
  obtain ⟨N, t', e1, hb1, f1, tt, todo, hF, rfl⟩ := lone_run hS hS2 hm n hge hs hb
  refine Ends.after e1 ?_
  have hf1 : P.funcs[f1]? = some fn' := hf'
  have hr1 : (results fn' tt).run P w' = .ok v w' := hr'
  have hrT : (results fn' tt).runT P w' #[] = (.ok v w', ((results fn' tt).runT P w' #[]).2) := by rw [← hr1, ← Sem.runT_fst P _ w' #[]]
  have hstep := back_ok (main := true) (c := c1) (cs := cs) (todo := todo) hf1 hrT
  obtain ⟨_, hsz, hev⟩ := um_events (um_results fn' tt) hrT
  exact JL.step (a' := G (c1.finish v) cs) rfl hstep ⟨hsz, fun e he => (hev e (mem_seen he)).elim (fun h => by simp at h) id⟩ (hnext v w' hR) t' q hb1
section
variable {b : Frame} {a : Act} {k : List Item} {cs : List Frame} {w w' : World} {ops : Array Oper} {i : Nat} {rest : List Nat} {o : Oper}
/-- Into a call. -/
theorem JL.enter {f : FuncId} {args : Array Operand} {ats : Array TypeId} {fn : Func} {c : Code} {vs : Array Value}
    (ho : ops[i]? = some o) (hw : Region.wanted o (yielded ops a.tmps) = true) (hk : b.kind ≠ .early) (hop : o.op = .call { callee := .value (.func f), args, argTypes := ats })
    (hf : P.funcs[f]? = some fn) (hname : (fn.name == "runtime.NumGoroutine") = false) (hbody : fn.body = some c) (hvs : args.map a.eval = vs)
    (h : JL P Post (G (Frame.enter P f vs .normal) (b.at a (.inRegion ops (i :: rest) :: k) :: cs)) w) : JL P Post (G (b.at a (.inRegion ops (i :: rest) :: k)) cs) w := by
  subst hvs
  refine JL.ctl rfl ?_ h
  have henter := enter_at (P := P) (args.map a.eval) hf hbody
  have h1 : (stepG P true (G (b.at a (.inRegion ops (i :: rest) :: k)) cs) w).goes fun g' w' es => g' = G (Frame.enter P f (args.map a.eval) .normal) (b.at a (.inRegion ops (i :: rest) :: k) :: cs) ∧ w' = w ∧ es = #[] :=
    goes_call ho hw hk hop hf hname hbody ⟨by rw [henter], rfl, rfl⟩
  obtain ⟨g', w', es, hgo, rfl, e1, e2⟩ := goes_elim h1
  rw [e1, e2] at hgo
  exact hgo
/-- An operation of pure code, by its run alone. -/
theorem JL.value {ok : FuncId → Bool} {v : Value} (ho : ops[i]? = some o) (hoo : okOpU P ok o.op = true) (hw : Region.wanted o (yielded ops a.tmps) = true) (hk : b.kind ≠ .early)
    (hr : (execOp a.eval o).run P w = .ok (.value v) w') (hn : JL P Post (G (b.at (a.put o.dst v) (.inRegion ops rest :: k)) cs) w') : JL P Post (G (b.at a (.inRegion ops (i :: rest) :: k)) cs) w := by
  have hrT : (execOp a.eval o).runT P w #[] = (.ok (.value v) w', ((execOp a.eval o).runT P w #[]).2) := by rw [← hr, ← Sem.runT_fst P _ w #[]]
  obtain ⟨_, hsz, hev⟩ := um_events (um_exec (ok := ok) hoo (fun _ => rfl)) hrT
  exact .step rfl (stepG_value ho hw hk hr) ⟨hsz, fun e he => (hev e (mem_listed he)).elim (fun h => by simp at h) id⟩ hn
end
end
end Sim
end Go.Proofs.Ytaealkfnhhmmcaa
/- Goroutine 0 alone: through a piece of its own frame's code, by the kit's walk. No condition. -/
namespace Go.Proofs.Ytaealkfnhhmmcaa
namespace Sim
open Go.Conc
open Go.ConcR (DC0)
set_option linter.unusedVariables false
section
variable (P : Program) (ok : FuncId → Bool) (f0 : FuncId) (k0 : List Item) (cs0 : List Frame)
/-- The piece alone over nothing, and the same piece ahead of what follows. -/
inductive RtE : Goroutine → Goroutine → Prop
  | top (t : Array Value) (todo : List Item) (hk : okTodoU P ok todo = true) : RtE (G ((base f0).at ⟨t, []⟩ todo) [c0 P]) (G ((base f0).at ⟨t, []⟩ (todo ++ k0)) cs0)
  | ret (t : Array Value) (i : Item) (todo : List Item) (gc : Goroutine) : RtE (G { (base f0).at ⟨t, []⟩ (i :: todo) with mode := .returning } [c0 P]) gc
  | inn (t : Array Value) (ops : Array Oper) (i : Nat) (rest : List Nat) (k : List Item) (hk : okTodoU P ok (.inRegion ops (i :: rest) :: k) = true) (gv gc : Goroutine)
      (h : GE P ok ((base f0).at ⟨t, []⟩ (.inRegion ops (i :: rest) :: k) :: [c0 P]) ((base f0).at ⟨t, []⟩ (.inRegion ops (i :: rest) :: k ++ k0) :: cs0) gv gc) : RtE gv gc
/-- What the next step is. -/
inductive FR (gv gc : Goroutine) : Prop
  | dead (h : ∀ w, ∃ o w' es, stepG P true gv w = .ended o w' es)
  | ctl (gv' gc' : Goroutine) (hg : RtE P ok f0 k0 cs0 gv' gc') (hr : gc.status = .running) (hv : ∀ w, stepG P true gv w = .go gv' w #[]) (hc : ∀ w, stepG P true gc w = .go gc' w #[])
  | sem {X : Type} (Q : X → Prop) (m : Sem X) (kv : X → Goroutine) (kc : X → Goroutine) (fn : FuncId) (hn : UM P Q m) (hr : gc.status = .running) (hk : ∀ a, Q a → RtE P ok f0 k0 cs0 (kv a) (kc a))
      (hv : ∀ w a w', m.run P w = .ok a w' → Q a → ∃ es, stepG P true gv w = .go (kv a) w' es)
      (hb : ∀ w hh w', m.run P w = .halt hh w' → NW hh → (∃ o w'' es, stepG P true gv w = .ended o w'' es) ∨ ∃ gp w'' es, stepG P true gv w = .go gp w'' es ∧ Pan P [c0 P] gp)
      (hc : ∀ w b w' es, m.runT P w #[] = (.ok b w', es) → Q b → stepG P true gc w = .go (kc b) w' (seen P fn es))
end
section
variable {P : Program} {ok : FuncId → Bool} {f0 : FuncId} {k0 : List Item} {cs0 : List Frame}
theorem RtE.isG {gv gc : Goroutine} (h : RtE P ok f0 k0 cs0 gv gc) : IsG gv := by
  cases h with
  | top t todo hk => exact ⟨_, _, rfl⟩
  | ret t i todo gc => exact ⟨_, _, rfl⟩
  | inn t ops i rest k hk gv gc h => exact h.isG.1
theorem exitTo_app {id : Nat} : ∀ {k k' : List Item}, exitTo id k = some k' → exitTo id (k ++ k0) = some (k' ++ k0)
  | [], _, h => by simp [exitTo] at h
  | i :: k, k', h => by
    rw [List.cons_append]
    unfold exitTo at h ⊢
    split at h
    · rename_i h1
      cases h1
      split at h
      · rename_i e
        cases h
        dsimp only
        rw [if_pos e]
      · rename_i e
        dsimp only
        rw [if_neg e]
        exact exitTo_app h
    · rename_i j k2 hj h1
      cases h1
      cases i with
      | inBlock j => exact absurd rfl (hj j)
      | _ => exact exitTo_app h
    · cases h
theorem gotoIn_app {l : Nat} : ∀ {k k' : List Item}, gotoIn l k = some k' → gotoIn l (k ++ k0) = some (k' ++ k0)
  | [], _, h => by simp [gotoIn] at h
  | i :: k, k', h => by
    rw [List.cons_append]
    unfold gotoIn at h ⊢
    split at h
    · rename_i body k2 h1
      cases h1
      split at h
      · rename_i rest hr
        cases h
        dsimp only
        rw [hr]
        rfl
      · rename_i hr
        dsimp only
        rw [hr]
        exact gotoIn_app h
    · rename_i j k2 hj h1
      cases h1
      cases i with
      | inScope j => exact absurd rfl (hj j)
      | _ => exact gotoIn_app h
    · cases h
theorem pan_root {t : Array Value} {todo : List Item} (hF : Fr P f0) {gp : Goroutine} (h : Pan P ((base f0).at ⟨t, []⟩ todo :: [c0 P]) gp) : Pan P [c0 P] gp := by
  obtain ⟨f, tv, td, kv, chain, h1, h2, h3⟩ := h
  refine ⟨f, tv, td, kv, chain, h1, ?_, h3⟩
  clear h3 h1
  induction h2 with
  | base => exact .cons f0 t todo [c0 P] hF .base
  | cons f2 t2 td2 kv2 hL h ih => exact .cons f2 t2 td2 kv2 hL ih
theorem root_code (hF : Fr P f0) {t : Array Value} {c : Code} {k : List Item} (hc : okCodeU P ok c = true) (hk : okTodoU P ok k = true) :
    FR P ok f0 k0 cs0 (G ((base f0).at ⟨t, []⟩ (.code c :: k)) [c0 P]) (G ((base f0).at ⟨t, []⟩ (.code c :: k ++ k0)) cs0) := by
  have C := fun (c : Code) (k : List Item) (h1 : okCodeU P ok c = true) (h2 : okTodoU P ok k = true) => okTodoU_cons.2 ⟨(show okItemU P ok (.code c) = true from h1), h2⟩
  have go := fun (todo : List Item) (h : okTodoU P ok todo = true) => RtE.top (f0 := f0) (k0 := k0) (cs0 := cs0) t todo h
  cases c with
  | skip => exact .ctl _ _ (go _ hk) rfl (fun w => stepG_skip) (fun w => stepG_skip)
  | label l => exact .ctl _ _ (go _ hk) rfl (fun w => stepG_label) (fun w => stepG_label)
  | ret => exact .ctl _ _ (.ret t _ _ _) rfl (fun w => stepG_ret') (fun w => stepG_ret')
  | seq a b =>
    simp only [okCodeU, Bool.and_eq_true] at hc
    exact .ctl _ _ (go _ (C a _ hc.1 (C b _ hc.2 hk))) rfl (fun w => stepG_seq) (fun w => stepG_seq)
  | block id b => exact .ctl _ _ (go _ (C b _ hc ((okTodoU_cons (i := .inBlock id)).2 ⟨rfl, hk⟩))) rfl (fun w => stepG_block) (fun w => stepG_block)
  | loop b => exact .ctl _ _ (go _ (C b _ hc ((okTodoU_cons (i := .inLoop b)).2 ⟨hc, hk⟩))) rfl (fun w => stepG_loop) (fun w => stepG_loop)
  | scope b => exact .ctl _ _ (go _ (C b _ hc ((okTodoU_cons (i := .inScope b)).2 ⟨hc, hk⟩))) rfl (fun w => stepG_scope) (fun w => stepG_scope)
  | exit id =>
    cases he : exitTo id k with
    | some k' => exact .ctl _ _ (go _ (exitToU_ok he hk)) rfl (fun w => stepG_exit he) (fun w => stepG_exit (exitTo_app he))
    | none => exact .dead fun w => ⟨_, _, _, by simp only [G, stepG, stepG.exec, Frame.at, he]; rfl⟩
  | goto l =>
    cases he : gotoIn l k with
    | some k' => exact .ctl _ _ (go _ (gotoInU_ok he hk)) rfl (fun w => stepG_goto he) (fun w => stepG_goto (gotoIn_app he))
    | none => exact .dead fun w => ⟨_, _, _, by simp only [G, stepG, stepG.exec, Frame.at, he]; rfl⟩
  | refuse why => exact .dead fun w => ⟨_, _, _, by simp only [G, stepG, stepG.exec, Frame.at]; rfl⟩
  | rangeFunc a b c d => cases hc
  | cond x a b =>
    simp only [okCodeU, Bool.and_eq_true] at hc
    obtain ⟨ha, hb⟩ := hc
    generalize e1 : (⟨t, []⟩ : Act).eval x = u
    have hd : (∀ t, u ≠ .bool t) → FR P ok f0 k0 cs0 (G ((base f0).at ⟨t, []⟩ (.code (.cond x a b) :: k)) [c0 P]) (G ((base f0).at ⟨t, []⟩ (.code (.cond x a b) :: k ++ k0)) cs0) := fun hn => .dead fun w => cond_lost e1 hn w
    cases u with
    | bool t =>
      refine .ctl _ _ (go _ (C (if t then a else b) _ ?_ hk)) rfl (fun w => stepG_cond e1) (fun w => stepG_cond e1)
      cases t
      · exact hb
      · exact ha
    | _ => exact hd (fun t h => by cases h)
  | region id ops draw =>
    cases draw with
    | false => exact .ctl _ _ (go _ ((okTodoU_cons (i := .inRegion ops _)).2 ⟨hc, hk⟩)) rfl (fun w => stepG_region) (fun w => stepG_region)
    | true =>
      refine .sem (fun _ => True) (sched (P.follows .mixedOrders) f0 id ops) (fun l => G ((base f0).at ⟨t, []⟩ (.inRegion ops l :: k)) [c0 P]) (fun l => G ((base f0).at ⟨t, []⟩ (.inRegion ops l :: k ++ k0)) cs0) f0
        (fun n => trivial) rfl (fun a _ => go _ ((okTodoU_cons (i := .inRegion ops _)).2 ⟨hc, hk⟩)) (fun w a w' hr hx => ?_) (fun w hh w' hr hb => ?_) (fun w b w' es hr hx => ?_)
      · refine ⟨#[], ?_⟩
        obtain ⟨n, hn, rfl⟩ := sched_run hr
        simp only [G, stepG, stepG.exec, Frame.at, base, Bool.not_true, Bool.false_eq_true, if_false]
        rw [hn]
      · simp only [sched, Sem.run] at hr
        split at hr <;> cases hr
      · have hr1 : (sched (P.follows .mixedOrders) f0 id ops).run P w = .ok b w' := by rw [← Sem.runT_fst P _ w #[], hr]
        have hes : es = #[] := by
          simp only [sched, Sem.runT] at hr
          split at hr <;> (cases hr; rfl)
        subst hes
        rw [seen_none]
        obtain ⟨n, hn, rfl⟩ := sched_run hr1
        simp only [G, stepG, stepG.exec, Frame.at, base, Bool.not_true, Bool.false_eq_true, if_false, List.cons_append]
        rw [hn]
theorem root_op (hS : okSetU P ok) (hF : Fr P f0) {t : Array Value} {ops : Array Oper} {i : Nat} {rest : List Nat} {k : List Item} (hc : ops.toList.all (fun o => okOpU P ok o.op) = true) (hk : okTodoU P ok k = true) :
    FR P ok f0 k0 cs0 (G ((base f0).at ⟨t, []⟩ (.inRegion ops (i :: rest) :: k)) [c0 P]) (G ((base f0).at ⟨t, []⟩ (.inRegion ops (i :: rest) :: k ++ k0)) cs0) := by
  have hI := fun (l : List Nat) => (okTodoU_cons (P := P) (ok := ok) (i := .inRegion ops l) (k := k)).2 ⟨hc, hk⟩
  have go := fun (t : Array Value) (todo : List Item) (h : okTodoU P ok todo = true) => RtE.top (f0 := f0) (k0 := k0) (cs0 := cs0) t todo h
  cases hw : ((ops[i]?).map (Region.wanted · (yielded ops t))).getD false with
  | false =>
    refine .ctl _ _ ?_ rfl (fun w => stepG_unwanted (a := ⟨t, []⟩) hw) (fun w => stepG_unwanted (a := ⟨t, []⟩) hw)
    rw [put_defers t]
    exact go _ _ (hI rest)
  | true =>
    cases ho : ops[i]? with
    | none => rw [ho] at hw; cases hw
    | some o =>
      rw [ho] at hw
      simp only [Option.map_some, Option.getD_some] at hw
      have hoo : okOpU P ok o.op = true := by
        have hm : o ∈ ops.toList := by simpa using Array.mem_of_getElem? ho
        exact List.all_eq_true.1 hc o hm
      have hE : (base f0).kind ≠ .early := by intro h; cases h
      refine .sem (OkN ok) (execOp (⟨t, []⟩ : Act).eval o) (kNext P f0 t o ops i rest k [c0 P]) (kNext P f0 t o ops i rest (k ++ k0) cs0) f0
        (um_exec hoo (fun _ => rfl)) rfl (fun a ha => ?_) (fun w a w' hr hx => ?_) (fun w hh' w' hr hb => ?_) (fun w b w' es hr hx => ?_)
      · cases a with
        | value v =>
          show RtE P ok f0 k0 cs0 (G ((base f0).at ((⟨t, []⟩ : Act).put o.dst v) (.inRegion ops rest :: k)) [c0 P]) (G ((base f0).at ((⟨t, []⟩ : Act).put o.dst v) (.inRegion ops rest :: k ++ k0)) cs0)
          rw [put_defers t]
          exact go _ _ (hI rest)
        | skip =>
          show RtE P ok f0 k0 cs0 (G ((base f0).at ((⟨t, []⟩ : Act).put o.dst undef) (.inRegion ops rest :: k)) [c0 P]) (G ((base f0).at ((⟨t, []⟩ : Act).put o.dst undef) (.inRegion ops rest :: k ++ k0)) cs0)
          rw [put_defers t]
          exact go _ _ (hI rest)
        | enter g xs =>
          obtain ⟨fn, c, h1, h2, h3⟩ := hS.code g ha
          refine .inn t ops i rest k (hI _) _ _ ?_
          show GE P ok _ _ (G (Frame.enter P g xs .normal) _) (G (Frame.enter P g xs .normal) _)
          rw [enter_at xs h1 h2]
          exact .run g _ _ _ _ ⟨fn, h1⟩ (okTodoU_cons.2 ⟨h3, rfl⟩) .base
        | _ => exact ha.elim
      · cases a with
        | value v => exact ⟨_, stepG_value (a := ⟨t, []⟩) ho hw hE hr⟩
        | skip => exact ⟨_, stepG_none (a := ⟨t, []⟩) ho hw hE hr⟩
        | enter g xs => exact ⟨_, stepG_enter (a := ⟨t, []⟩) ho hw hE hr⟩
        | _ => exact hx.elim
      · rw [stepG_oper (a := ⟨t, []⟩) ho hw]
        by_cases hp : ∃ v, hh' = .panic v
        · obtain ⟨v, rfl⟩ := hp
          obtain ⟨es, he⟩ := apply_panic (fr := (base f0).at ⟨t, []⟩ (.inRegion ops (i :: rest) :: k)) (cs := [c0 P]) hr
          exact .inr ⟨_, _, es, he, f0, t, _, [c0 P], _, hF, .base, rfl⟩
        · by_cases hi : ∃ g, hh' = .unsupported (.initOrder g)
          · obtain ⟨g, rfl⟩ := hi
            exact .inl (apply_early hS hr)
          · exact .inl (apply_other hb (fun v e => hp ⟨v, e⟩) (fun g e => hi ⟨g, e⟩) hr)
      · have hr1 : (execOp (⟨t, []⟩ : Act).eval o).run P w = .ok b w' := by rw [← Sem.runT_fst P _ w #[], hr]
        have hes : (execOp (⟨t, []⟩ : Act).eval o).events P w #[] = es := by unfold Sem.events; rw [hr]
        rw [← hes]
        cases b with
        | value v => exact stepG_value (a := ⟨t, []⟩) ho hw hE hr1
        | skip => exact stepG_none (a := ⟨t, []⟩) ho hw hE hr1
        | enter g xs => exact stepG_enter (a := ⟨t, []⟩) ho hw hE hr1
        | _ => exact hx.elim
theorem root_form (hS : okSetU P ok) (hF : Fr P f0) {t : Array Value} {i : Item} {k : List Item} (hk : okTodoU P ok (i :: k) = true) : FR P ok f0 k0 cs0 (G ((base f0).at ⟨t, []⟩ (i :: k)) [c0 P]) (G ((base f0).at ⟨t, []⟩ (i :: k ++ k0)) cs0) := by
  have go := fun (todo : List Item) (h : okTodoU P ok todo = true) => RtE.top (f0 := f0) (k0 := k0) (cs0 := cs0) t todo h
  obtain ⟨h1, h2⟩ := okTodoU_cons.1 hk
  cases i with
  | code c => exact root_code hF h1 h2
  | inBlock id => exact .ctl _ _ (go _ h2) rfl (fun w => stepG_inBlock) (fun w => stepG_inBlock)
  | inLoop b => exact .ctl _ _ (go _ ((okTodoU_cons (i := .code b)).2 ⟨h1, (okTodoU_cons (i := .inLoop b)).2 ⟨h1, h2⟩⟩)) rfl (fun w => stepG_inLoop) (fun w => stepG_inLoop)
  | inScope b => exact .ctl _ _ (go _ h2) rfl (fun w => stepG_inScope) (fun w => stepG_inScope)
  | inRegion ops l =>
    cases l with
    | nil => exact .ctl _ _ (go _ h2) rfl (fun w => stepG_region_end) (fun w => stepG_region_end)
    | cons i rest => exact root_op hS hF h1 h2
  | _ => cases h1
theorem re_form (hS : okSetU P ok) (hF : Fr P f0) {t : Array Value} {ops : Array Oper} {i : Nat} {rest : List Nat} {k : List Item} (hk : okTodoU P ok (.inRegion ops (i :: rest) :: k) = true) {gv gc : Goroutine}
    (h : GE P ok ((base f0).at ⟨t, []⟩ (.inRegion ops (i :: rest) :: k) :: [c0 P]) ((base f0).at ⟨t, []⟩ (.inRegion ops (i :: rest) :: k ++ k0) :: cs0) gv gc) : FR P ok f0 k0 cs0 gv gc := by
  have hst := h.status
  obtain ⟨h1, h2⟩ := okTodoU_cons.1 hk
  cases form_ofU hS h with
  | fin f tt todo hL hv hc =>
    subst hv hc
    obtain ⟨fn, hf⟩ := hL
    refine .sem (fun _ => True) (results fn tt) (fun v => G (((base f0).at ⟨t, []⟩ (.inRegion ops (i :: rest) :: k)).finish v) [c0 P]) (fun v => G (((base f0).at ⟨t, []⟩ (.inRegion ops (i :: rest) :: k ++ k0)).finish v) cs0) f (um_results fn tt) rfl (fun a _ => ?_) (fun w a w' hr hx => ?_) (fun w hh' w' hr hb => ?_) (fun w b w' es hr hx => ?_)
    · rw [List.cons_append, Frame.finish_at, Frame.finish_at, put_defers]
      exact .top _ (.inRegion ops rest :: k) ((okTodoU_cons (i := .inRegion ops rest)).2 ⟨h1, h2⟩)
    · exact ⟨_, back_ok hf (es := ((results fn tt).runT P w #[]).2) (by rw [← hr, ← Sem.runT_fst P _ w #[]])⟩
    · exact .inl (back_halt hf hr)
    · exact back_ok hf hr
  | dead h' => exact .dead h'
  | ctl gv' gc' hg' hv hc => exact .ctl gv' gc' (.inn t ops i rest k hk _ _ hg') hst hv (hc true)
  | sem Q m kv kc fn hn hk' hv hb hc => exact .sem Q m kv kc fn hn hst (fun a ha => .inn t ops i rest k hk _ _ (hk' a ha)) hv (fun w hh w' hr hn => (hb w hh w' hr hn).imp id fun ⟨gp, w'', es, h1, h2⟩ => ⟨gp, w'', es, h1, pan_root hF h2⟩) (hc true)
theorem root_run {L : LSet} (hS : okSetU P ok) (hS2 : okSet P L) (hF : Fr P f0) {a' : Act} {w2 : World} : ∀ (n : Nat) {gv gc : Goroutine} {w : World} {t : Trace} {q : Nat → Nat}, RtE P ok f0 k0 cs0 gv gc → runN P n (mach gv w) = .next (lone { (base f0).at a' [] with mode := .returning } [c0 P] w2) → Bs P NoShun #[gc] gc w t q →
    ∃ N t', runNT P N (solo gc w) t = (.next (solo (G ((base f0).at a' k0) cs0) w2), t') ∧ Bs P NoShun #[G ((base f0).at a' k0) cs0] (G ((base f0).at a' k0) cs0) w2 t' q ∧ a'.defers = []
  | n, gv, gc, w, t, q, hg, h, hb => by
    have hmode : ({ (base f0).at a' [] with mode := .returning } : Frame).mode = .returning := rfl
    -- what is left of the way behind a step
    have key : FR P ok f0 k0 cs0 gv gc → gv.frame.mode ≠ .returning ∨ gv.callers ≠ [c0 P] →
        ∃ N t', runNT P N (solo gc w) t = (.next (solo (G ((base f0).at a' k0) cs0) w2), t') ∧ Bs P NoShun #[G ((base f0).at a' k0) cs0] (G ((base f0).at a' k0) cs0) w2 t' q ∧ a'.defers = [] := by
      intro hf hne
      cases n with
      | zero =>
        exfalso
        have h0 : mach gv w = lone { (base f0).at a' [] with mode := .returning } [c0 P] w2 := by simpa only [runN, Stepped.next.injEq] using h
        obtain ⟨e1, e2, _⟩ := lone_inj h0
        rcases hne with hne | hne
        · exact hne (by rw [e1])
        · exact hne e2
      | succ n =>
        have go : ∀ {gv' gc' : Goroutine} {w' : World} {es es' : Array Event}, gc.status = .running → stepG P true gv w = .go gv' w' es' → stepG P true gc w = .go gc' w' es → DB NoShun w w' es → RtE P ok f0 k0 cs0 gv' gc' →
            ∃ N t', runNT P N (solo gc w) t = (.next (solo (G ((base f0).at a' k0) cs0) w2), t') ∧ Bs P NoShun #[G ((base f0).at a' k0) cs0] (G ((base f0).at a' k0) cs0) w2 t' q ∧ a'.defers = [] := by
          intro gv' gc' w' es es' hr hv hc hd hg'
          rw [runN_succ_next (mach_go hg.isG hg'.isG hv)] at h
          obtain ⟨t1, e1, hb1⟩ := solo_step hr hc hd hb
          obtain ⟨N, t', e2, hb2, hx⟩ := root_run hS hS2 hF n hg' h hb1
          exact ⟨1 + N, t', by rw [runNT_add, e1]; exact e2, hb2, hx⟩
        cases hf with
        | dead h' =>
          obtain ⟨o, w', es, he⟩ := h' w
          rw [runN_succ_end (mach_end hg.isG he)] at h
          cases h
        | ctl gv' gc' hg' hr hv hc => exact go hr (hv w) (hc w) ⟨Nat.le_refl _, fun e he => by simp at he⟩ hg'
        | sem Q m kv kc fn hn hr hk hv hbd hc =>
          cases hrr : m.run P w with
          | ok a w' =>
            have hrT : m.runT P w #[] = (.ok a w', (m.runT P w #[]).2) := by rw [← hrr, ← Sem.runT_fst P _ w #[]]
            obtain ⟨hQ, hs, hev⟩ := um_events hn hrT
            obtain ⟨es', he⟩ := hv w a w' hrr hQ
            exact go hr he (hc w a w' _ hrT hQ) ⟨hs, fun e he => (hev e (mem_seen he)).elim (fun h => by simp at h) id⟩ (hk a hQ)
          | halt hh w' =>
            exfalso
            rcases hbd w hh w' hrr (um_halt hn hrr) with ⟨o, w'', es, he⟩ | ⟨gp, w'', es, he, hp⟩
            · rw [runN_succ_end (mach_end hg.isG he)] at h
              cases h
            · rw [runN_succ_next (mach_go hg.isG hp.isG he)] at h
              exact pan_never hS2 hmode n hp h
    cases hg with
    | top tt todo hk =>
      cases todo with
      | nil =>
        cases n with
        | zero =>
          exfalso
          have h0 : mach (G ((base f0).at ⟨tt, []⟩ []) [c0 P]) w = lone { (base f0).at a' [] with mode := .returning } [c0 P] w2 := by simpa only [runN, Stepped.next.injEq] using h
          obtain ⟨e1, _, _⟩ := lone_inj h0
          have := congrArg Frame.mode e1
          cases this
        | succ n =>
          rw [runN_succ_next (mach_go ⟨_, _, rfl⟩ ⟨_, _, rfl⟩ stepG_end)] at h
          obtain ⟨e1, rfl⟩ := fin_last hS2 hmode ⟨f0, tt, [], hF, rfl⟩ h
          have e2 : a' = ⟨tt, []⟩ := by
            have h1 := congrArg Frame.tmps e1
            have h2 := congrArg Frame.defers e1
            obtain ⟨tm, df⟩ := a'
            simp only [G, Frame.at] at h1 h2
            rw [h1, h2]
          subst e2
          exact ⟨0, t, rfl, hb, rfl⟩
      | cons i k => exact key (root_form hS hF hk) (.inl (by intro h; cases h))
    | ret tt i todo gc =>
      exfalso
      obtain ⟨e1, _⟩ := fin_last hS2 hmode ⟨f0, tt, i :: todo, hF, rfl⟩ h
      have := congrArg Frame.todo e1
      simp [G, Frame.at] at this
    | inn tt ops i rest k hk gv gc hge =>
      refine key (re_form hS hF hk hge) ?_
      cases hge with
      | run f t2 td kv kc hL hk2 hh => exact .inl (by intro h; cases h)
      | ret f t2 td kv kc hL hh =>
        refine .inr fun e => ?_
        cases hh with
        | base =>
          have h4 := congrArg List.length e
          simp [G] at h4
        | cons f2 t3 todo2 kv2 kc2 hL2 hk3 hh2 =>
          obtain ⟨fn, hf⟩ := hL2
          have h4 : (base f2).at ⟨t3, []⟩ todo2 = c0 P := (List.cons.inj e).1
          have h5 : f2 = P.funcs.size := congrArg Frame.fn h4
          have h6 : f2 < P.funcs.size := (Array.getElem?_eq_some_iff.1 hf).1
          rw [h5] at h6
          exact Nat.lt_irrefl _ h6
/-- THROUGH A PIECE OF CODE. -/
theorem JL.code {Post : Value → World → Prop} {L : LSet} (hS : okSetU P ok) (hS2 : okSet P L) (hF : Fr P f0) {X : Code} (hX : okCodeU P ok X = true) {T : Array Value} {w : World} {Q : Act → World → Prop} (H : X.wp P (fun e a' w' => e = .normal ∧ Q a' w') ⟨T, []⟩ w)
    (hnext : ∀ T' w', Q ⟨T', []⟩ w' → JL P Post (G ((base f0).at ⟨T', []⟩ k0) cs0) w') : JL P Post (G ((base f0).at ⟨T, []⟩ (.code X :: k0)) cs0) w := by
  obtain ⟨e, a', w', ⟨rfl, hQ⟩, hs⟩ := H (base f0) [] [c0 P]
  obtain ⟨n, hn⟩ := Steps.trans hs (.one step_end)
  intro t q hb
  obtain ⟨N, t', e1, hb1, hd⟩ := root_run (k0 := k0) (cs0 := cs0) hS hS2 hF n (.top T [.code X] ((okTodoU_cons (i := .code X)).2 ⟨hX, rfl⟩)) hn hb
  obtain ⟨tm, df⟩ := a'
  simp only at hd
  subst hd
  exact Ends.after e1 (hnext tm w' hQ t' q hb1)
end
end Sim
end Go.Proofs.Ytaealkfnhhmmcaa
/- Goroutine 0 alone: a walk goes on from piece to piece; beside leavers: from the midst of the bottom frame to its end. No condition. -/
namespace Go.Proofs.Ytaealkfnhhmmcaa
namespace Sim
open Go.Conc Go.ConcN
set_option linter.unusedVariables false
section
variable {P : Program} {ok : FuncId → Bool} {f0 : FuncId} {k0 : List Item} {cs0 : List Frame} {Post : Value → World → Prop}
/-- Through a piece of code, and on. -/
theorem JL.code' {L : LSet} (hS : okSetU P ok) (hS2 : okSet P L) (hF : Fr P f0) {X : Code} (hX : okCodeU P ok X = true) {T : Array Value} {w : World}
    (H : X.wp P (fun e a' w' => e = .normal ∧ JL P Post (G ((base f0).at a' k0) cs0) w') ⟨T, []⟩ w) : JL P Post (G ((base f0).at ⟨T, []⟩ (.code X :: k0)) cs0) w :=
  JL.code hS hS2 hF hX (Q := fun a' w' => JL P Post (G ((base f0).at a' k0) cs0) w') H fun _ _ h => h
/-- Through the first piece of two, and on. -/
theorem JL.seq {L : LSet} (hS : okSetU P ok) (hS2 : okSet P L) (hF : Fr P f0) {X Y : Code} (hX : okCodeU P ok X = true) {T : Array Value} {w : World}
    (H : X.wp P (fun e a' w' => e = .normal ∧ JL P Post (G ((base f0).at a' (.code Y :: k0)) cs0) w') ⟨T, []⟩ w) : JL P Post (G ((base f0).at ⟨T, []⟩ (.code (.seq X Y) :: k0)) cs0) w :=
  JL.ctl rfl stepG_seq (JL.code' hS hS2 hF hX H)
end
section
variable {P : Program} {L : LSet} {Shun : Go.Loc → Prop} {SB S : Nat → Prop} {Post : Value → World → Prop} {w : World}
/-- From the midst of the bottom frame to its end. -/
theorem J.rest0 (hS : okSet P L) (hSB : ∀ l, Shun l → ∃ a : Addr, l = .cell a ∧ SB a.block) (hj : JW P SB S w) {f : FuncId} {fn : Func} (hf : P.funcs[f]? = some fn) {c : Code} (hok : okCode P L (L.dead f) c = true) {t tc : Array Value} (ht : AD (L.dead f) (idS S) t tc) (htt : AD (L.dead f) (idS S) t t)
    {r : Nat} {b : Bool} (hdead : L.dead f r = false)
    (H : ∀ T, c.wp P (fun e a' w' => (e = .normal ∨ e = .ret) ∧ a'.defers = [] ∧ a'.tmps[r]? = some (.bool b) ∧ (∀ k, k < w.heap.size → w'.heap[k]? = w.heap[k]?) ∧ w.heap.size ≤ w'.heap.size) ⟨t, []⟩ (wt w T))
    (hlast : ∀ (tc' : Array Value) todo w', tc'[r]? = some (.bool b) → (∀ k, k < w.heap.size → w'.heap[k]? = w.heap[k]?) → w.heap.size ≤ w'.heap.size → (∃ d, w' = { w with heap := w'.heap, drawn := d }) → J P Post Shun (G { (base f).at ⟨tc', []⟩ todo with mode := .returning } []) w') :
    J P Post Shun (G ((base f).at ⟨tc, []⟩ [.code c]) []) w := by
  have hgr : GR P L [c0 P] [] (idS S) (G ((base f).at ⟨t, []⟩ [.code c]) [c0 P]) (G ((base f).at ⟨tc, []⟩ [.code c]) []) :=
    .run f _ _ _ _ _ ⟨fn, hf⟩ ((okTodo_cons (i := .code c)).2 ⟨hok, rfl⟩) ht .base
  have hgv : GR P L [c0 P] [c0 P] (idS S) (G ((base f).at ⟨t, []⟩ [.code c]) [c0 P]) (G ((base f).at ⟨t, []⟩ [.code c]) [c0 P]) :=
    .run f _ _ _ _ _ ⟨fn, hf⟩ ((okTodo_cons (i := .code c)).2 ⟨hok, rfl⟩) htt .base
  let Gd : Frame → Array Obj → Prop := fun fr h => fr.fn = f ∧ fr.tmps[r]? = some (.bool b) ∧ (∀ k, k < w.heap.size → h[k]? = w.heap[k]?) ∧ w.heap.size ≤ h.size
  obtain ⟨n, hn⟩ := ln_of_runs hS (Gd := Gd) (g0 := G ((base f).at ⟨t, []⟩ [.code c]) [c0 P]) (w0 := w) ⟨_, hgv, hj.wr⟩ (fun T => by
    obtain ⟨e, a', w', ⟨he, hd, hr, h1, h2⟩, harr⟩ := H T (base f) [] [c0 P]
    obtain ⟨t', ds⟩ := a'
    simp only at hd
    subst hd
    rcases he with rfl | rfl
    · obtain ⟨n, hs⟩ := Steps.trans harr (.one step_end)
      exact ⟨n, _, w', hs, rfl, rfl, hr, h1, h2⟩
    · obtain ⟨todo, n, hs⟩ := harr
      exact ⟨n, _, w', hs, rfl, rfl, hr, h1, h2⟩)
  have hgo := goes_of_ln hS (Shun := Shun) hSB (bc := []) (wz := w) (ρ0 := idS S) (s0 := w.heap.size) (Stop := J P Post Shun) (Gd := Gd) (fun f1 tv tc' todo ρ wv wc hL hle hz hgd hat hwr hi hd hb1 hs1 => by
    obtain ⟨h1, h2, h3, h4⟩ := hgd
    have h1' : f1 = f := h1
    subst h1'
    have h2' : tv[r]? = some (.bool b) := h2
    obtain ⟨d, hd⟩ := hd
    have hh : wc.heap = wv.heap := by rw [hd]
    have hrt : r < tc'.size := by rw [← hat.1]; exact (Array.getElem?_eq_some_iff.1 h2').1
    have htc : tc'[r]? = some (.bool b) := by
      have h5 := hat.2 r _ _ hdead h2' (Array.getElem?_eq_getElem hrt)
      rw [Array.getElem?_eq_getElem hrt]
      generalize tc'[r] = x at h5
      cases h5
      rfl
    exact hlast tc' todo wc htc (fun k hk => by rw [hh]; exact h3 k hk) (by rw [hh]; exact h4) ⟨d, by rw [hh]; exact hd⟩) n (idS S) _ _ w w hn hgr hj.wr (idr_idS S) (BR.le_refl _) (Nat.le_refl _) ⟨w.drawn, rfl⟩ (fun b c hbc => hbc.1 ▸ hj.nb b hbc.2) hj.sb
  exact J.goes hgo
end
end Sim
end Go.Proofs.Ytaealkfnhhmmcaa
