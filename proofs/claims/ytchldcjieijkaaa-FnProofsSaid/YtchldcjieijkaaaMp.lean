/- A map of integers that the call makes: its entries in the array's own order, a store of a key that is not there, sums over what a range has handed out. No condition. -/
import Derived.Test.YtchldcjieijkaaaSl
import Derived.MapKept
import Derived.Maps.RangeRun
import Derived.Maps.Own
namespace Go.Proofs.Ytchldcjieijkaaa
open Go.RowKit
open Go.ChangeMaps (setBlock)
open MapKept
/-- Block b is a map of n entries, the i-th (K i, V i), and no two entries' keys or stamps are the same. -/
def MpE (es : Array MapEntry) (clock n : Nat) (K V : Nat → Int) : Prop :=
  Stamped es clock ∧ es.toList.map (fun e => (e.key, e.val)) = (List.range n).map (fun i => (Value.int .i64 (K i), Value.int .i64 (V i)))
def MpB (w : World) (b n : Nat) (K V : Nat → Int) : Prop := ∃ es clock, w.heap[b]? = some (.map es clock) ∧ MpE es clock n K V
theorem MpB.made (w : World) (K V : Nat → Int) : MpB (w.alloc (.map #[] 0)) w.heap.size 0 K V :=
  ⟨#[], 0, by show (w.heap.push _)[w.heap.size]? = _; simp, stamped_empty 0, rfl⟩
theorem MpB.lt {w : World} {b n : Nat} {K V : Nat → Int} (h : MpB w b n K V) : b < w.heap.size := by
  obtain ⟨es, clock, hb, _⟩ := h
  exact (Array.getElem?_eq_some_iff.1 hb).1
theorem MpB.kept {w w' : World} {b n : Nat} {K V : Nat → Int} (h : MpB w b n K V) (hu : Up w w') : MpB w' b n K V := by
  have hl := h.lt
  obtain ⟨es, clock, hb, h2⟩ := h
  exact ⟨es, clock, (Below.block hu b hl).trans hb, h2⟩
theorem MpE.isKey {es : Array MapEntry} {clock n : Nat} {K V : Nat → Int} (h : MpE es clock n K V) {x : MapEntry} (hx : x ∈ es.toList) : ∃ i, i < n ∧ x.key = .int .i64 (K i) ∧ x.val = .int .i64 (V i) := by
  have h1 : (x.key, x.val) ∈ es.toList.map (fun e => (e.key, e.val)) := List.mem_map.2 ⟨x, hx, rfl⟩
  rw [h.2] at h1
  obtain ⟨i, hi, he⟩ := List.mem_map.1 h1
  have h3 := Prod.mk.inj he
  exact ⟨i, List.mem_range.1 hi, h3.1.symm, h3.2.symm⟩
theorem MpB.store {P : Program} {w : World} {b n : Nat} {K V : Nat → Int} {mty kt et : TypeId} (h : MpB w b n K V) (hm : P.underlying mty = some (.map kt et)) (hd : P.underlying kt = some (.int .i64)) (hk : ∀ i, i < n → K i ≠ K n) :
    ∃ w', (Instr.mapUpdate mty (.map (some b)) (.int .i64 (K n)) (.int .i64 (V n))).run P w = .ok () w' ∧ MpB w' b (n + 1) K V ∧ w.grownBy w' (some b) := by
  obtain ⟨es, clock, hb, he⟩ := h
  have hK : IsKey (.int .i64) (.int .i64 (K n)) := rfl
  have hks : ∀ x ∈ es.toList, IsKey (.int .i64) x.key := fun x hx => by
    obtain ⟨i, _, e, _⟩ := he.isKey hx
    rw [e]; exact rfl
  rcases findNow_spec hK es.toList 0 hks with ⟨h1, h2⟩ | ⟨j, e, h1, h2, h3⟩
  · refine ⟨setBlock w b (.map (es.push { key := .int .i64 (K n), val := .int .i64 (V n), born := clock }) (clock + 1)), ?_, ⟨_, _, (heap_set hb).1, stamped_push he.1 h2, ?_⟩, ⟨rfl, rfl, rfl, by simp [setBlock], fun i _ hi => (heap_set hb).2 i fun e => hi (by rw [e])⟩⟩
    · simp [Instr.mapUpdate, run_underlying hm, MapKept.run_getObj_map hb, run_checkKey hd hK, run_findKey hd h1, run_setObj_map _ hb, Result.andThen, setBlock]
    · rw [Array.toList_push, List.map_append, he.2, List.range_succ, List.map_append]
      rfl
  · exfalso
    obtain ⟨i, hi, e1, _⟩ := he.isKey (List.mem_of_getElem? h2)
    rw [h3] at e1
    exact hk i hi (Value.int.inj e1).2.symm
/-- .. at the operation. -/
theorem wpList_mapUpdate_new {P : Program} (w : World) {ops : Array Oper} {rest : List Oper} {o : Oper} {a : Act} {Q : Exit → Act → World → Prop}
    (hg : o.guard = none) (m x v : Operand) (t : TypeId) (hop : o.op = Op.mapUpdate t m x v)
    (k e : TypeId) (ht : P.underlying t = some (.map k e)) (hd : P.underlying k = some (.int .i64)) (b n : Nat) (K V : Nat → Int)
    (hm : a.eval m = .map (some b)) (hown : MpB w b n K V) (hx : a.eval x = .int .i64 (K n)) (hv : a.eval v = .int .i64 (V n)) (hk : ∀ i, i < n → K i ≠ K n)
    (hK : ∀ w', MpB w' b (n + 1) K V → w.grownBy w' (some b) → wpList P ops Q rest (a.put o.dst undef) w') :
    wpList P ops Q (o :: rest) a w := by
  refine wpList_plain hg fun K' hK' => ?_
  obtain ⟨w', hrun, r1, r2⟩ := hown.store ht hd hk
  unfold Oper.wp
  simp [execOp, hop, hm, hx, hv, hrun, Result.andThen]
  exact hK' _ _ (hK w' r1 r2)
/-- What has been handed out, added up. -/
def seenG (g : MapEntry → Int) : List MapEntry → Array Nat → Int
  | [], _ => 0
  | x :: l, seen => (if seen.contains x.born then g x else 0) + seenG g l seen
theorem seenG_none (g : MapEntry → Int) : ∀ l : List MapEntry, seenG g l #[] = 0
  | [] => rfl
  | x :: l => by rw [seenG, seenG_none g l]; simp
theorem seenG_other (g : MapEntry → Int) (seen : Array Nat) (b : Nat) : ∀ (es : List MapEntry), b ∉ es.map (·.born) → seenG g es (seen.push b) = seenG g es seen
  | [], _ => rfl
  | x :: l, h => by
    have hx : (x.born == b) = false := by
      cases hc : x.born == b with
      | false => rfl
      | true => exact absurd (List.mem_cons.2 (Or.inl (beq_iff_eq.1 hc).symm)) h
    have ih := seenG_other g seen b l (fun e => h (List.mem_cons.2 (Or.inr e)))
    simp only [seenG, contains_push, hx, Bool.or_false, ih]
theorem seenG_push (g : MapEntry → Int) (seen : Array Nat) (e : MapEntry) (hs : seen.contains e.born = false) : ∀ (es : List MapEntry), (es.map (·.born)).Nodup → e ∈ es → seenG g es (seen.push e.born) = seenG g es seen + g e
  | x :: l, hn, he => by
    have hn' : x.born ∉ l.map (·.born) ∧ (l.map (·.born)).Nodup := List.nodup_cons.1 hn
    rcases List.mem_cons.1 he with rfl | h
    · have e1 : seenG g (e :: l) (seen.push e.born) = g e + seenG g l seen := by rw [seenG, seenG_other g seen e.born l hn'.1, contains_push, hs]; simp
      have e2 : seenG g (e :: l) seen = seenG g l seen := by rw [seenG, hs]; simp
      omega
    · have hx : (x.born == e.born) = false := by
        cases hc : x.born == e.born with
        | false => rfl
        | true => exact absurd (by rw [beq_iff_eq.1 hc]; exact List.mem_map.2 ⟨e, h, rfl⟩) hn'.1
      rw [seenG, seenG_push g seen e hs l hn'.2 h, contains_push, hx, Bool.or_false]
      simp only [seenG]
      omega
theorem seenG_all (g : MapEntry → Int) (es : Array MapEntry) (seen : Array Nat) (h : (leftOf es seen).size = 0) : seenG g es.toList seen = (es.toList.map g).sum := by
  have hall : ∀ x ∈ es.toList, seen.contains x.born = true := by
    intro x hx
    have h1 : leftOf es seen = #[] := Array.eq_empty_of_size_eq_zero h
    have h2 := Array.filter_eq_empty_iff.1 h1 x (Array.mem_toList_iff.1 hx)
    simpa using h2
  revert hall
  generalize es.toList = l
  intro hall
  induction l with
  | nil => rfl
  | cons x l ih =>
    rw [seenG, hall x (.head _), ih (fun y hy => hall y (.tail _ hy))]
    simp
theorem MpE.sum {es : Array MapEntry} {clock n : Nat} {K V : Nat → Int} (h : MpE es clock n K V) (g : Value × Value → Int) : (es.toList.map fun e => g (e.key, e.val)).sum = ((List.range n).map fun i => g (.int .i64 (K i), .int .i64 (V i))).sum := by
  have e1 : (es.toList.map fun e => g (e.key, e.val)) = (es.toList.map fun e => (e.key, e.val)).map g := by rw [List.map_map]; rfl
  rw [e1, h.2, List.map_map]
  rfl
end Go.Proofs.Ytchldcjieijkaaa
