/- CornersOf beside leavers. No condition. -/
import Derived.Test.YtaealkfnhhmmcaaRs
import Derived.Test.YtaealkfnhhmmcaaSg5
import Derived.Test.YtaealkfnhhmmcaaSc
import Derived.Test.YtaealkfnhhmmcaaDet
namespace Go.Proofs.Ytaealkfnhhmmcaa
open Sim Go.Conc Go.ConcN Go.RowKit Go.Conc.Lib Go.ConcR.Gen Go.ConcN.Gen
open Go.ConcR (KK wgBlock WgAt stA smA rd wr mk Payload DC0)
set_option linter.unusedVariables false
theorem jw_keep {P : Program} {SB S : Nat → Prop} {w w' : World} (h : JW P SB S w) (hk : ∀ b, S b → w'.heap[b]? = w.heap[b]?) (hs : w.heap.size ≤ w'.heap.size) : JW P SB S w' :=
  ⟨⟨h.wr.fn, h.wr.inj, fun b c hb => by have := h.wr.obj b c hb; obtain ⟨rfl, hb⟩ := hb; rw [hk b hb]; exact this, fun c h => h.elim, h.wr.gl, Nat.le_trans h.wr.gv hs, Nat.le_trans h.wr.gc hs⟩, h.nb, fun c hc => Nat.lt_of_lt_of_le (h.sb c hc) hs⟩
theorem jw_join {P : Program} {SB S S' : Nat → Prop} {w : World} (h : JW P SB S w) (ho : ∀ b, S' b → OR False (idS fun b => S b ∨ S' b) w.heap[b]? w.heap[b]?) (hn : ∀ b, S' b → ¬ SB b) : JW P SB (fun b => S b ∨ S' b) w := by
  refine ⟨⟨fun b c c' h1 h2 => h1.1.symm.trans h2.1, fun b b' c h1 h2 => h1.1.trans h2.1.symm, fun b c hb => ?_, fun c h => h.elim, fun b c hb => by rw [hb.1], h.wr.gv, h.wr.gc⟩, fun b hb => hb.elim (h.nb b) (hn b), h.sb⟩
  obtain ⟨rfl, hb | hb⟩ := hb
  · exact (h.wr.obj b b ⟨rfl, hb⟩).le' fun x y hxy => ⟨hxy.1, .inl hxy.2⟩
  · exact ho b hb
theorem jw_lt {P : Program} {SB S : Nat → Prop} {w : World} (h : JW P SB S w) {b : Nat} (hb : S b) : b < w.heap.size := by
  rcases h.wr.obj b b ⟨rfl, hb⟩ with ⟨_, _, _, _, _, _, hy, _⟩ | ⟨_, _, _, _, _, _, hy, _⟩ <;> exact (Array.getElem?_eq_some_iff.1 hy).1
theorem jw_shun {P : Program} {SB S : Nat → Prop} {w : World} (h : JW P SB S w) {x : Nat} (hx : ¬ S x) (hl : x < w.heap.size) : JW P (fun b => SB b ∨ b = x) S w :=
  ⟨h.wr, fun b hb hs => hs.elim (h.nb b hb) (fun e => hx (e ▸ hb)), fun c hc => hc.elim (h.sb c) (fun e => e ▸ hl)⟩
theorem env_wd {w w' : World} (h : ∃ d, w' = { w with heap := w'.heap, drawn := d }) : Env w w' := by
  obtain ⟨d, hd⟩ := h
  rw [hd]
  exact ⟨rfl, rfl, rfl⟩
/-- What was there and is not shunned stands. -/
structure UpN (SB : Nat → Prop) (w w' : World) : Prop where
  size : w.heap.size ≤ w'.heap.size
  keep : ∀ b, b < w.heap.size → ¬ SB b → w'.heap[b]? = w.heap[b]?
  env : Env w w'
theorem UpN.refl (SB : Nat → Prop) (w : World) : UpN SB w w := ⟨Nat.le_refl _, fun _ _ _ => rfl, .refl w⟩
theorem UpN.trans {SB SB' : Nat → Prop} {a b c : World} (h : UpN SB a b) (k : UpN SB' b c) (hs : ∀ x, x < a.heap.size → SB' x → SB x) : UpN SB a c :=
  ⟨Nat.le_trans h.size k.size, fun x hx hn => (k.keep x (Nat.lt_of_lt_of_le hx h.size) fun h => hn (hs x hx h)).trans (h.keep x hx hn), h.env.trans k.env⟩
theorem UpN.of_up {SB : Nat → Prop} {w w' : World} (h : Up w w') : UpN SB w w' := ⟨h.size, fun b hb _ => h.block b hb, h.tape, h.os, h.output⟩
theorem UpN.alloc {SB : Nat → Prop} {a w : World} (h : UpN SB a w) (o : Obj) : UpN SB a (w.alloc o) := h.trans ⟨by simp, fun b hb _ => Below.heap_alloc w o b hb, rfl, rfl, rfl⟩ fun _ _ h => h
theorem UpN.set {SB : Nat → Prop} {a w : World} (h : UpN SB a w) (p : Addr) (v : Value) (hp : a.heap.size ≤ p.block) : UpN SB a (w.setCell p v) :=
  ⟨by rw [(aside_setCell w p v).size]; exact h.size, fun b hb hn => ((aside_setCell w p v).block b (by omega)).trans (h.keep b hb hn), h.env.trans ⟨(aside_setCell w p v).tape, (aside_setCell w p v).os, (aside_setCell w p v).output⟩⟩
/-- A box that goroutine 0 makes for itself. -/
theorem jw_box {P : Program} {SB S : Nat → Prop} {w : World} (h : JW P SB S w) {cs : Array Value} (e : TypeId) (hc : AR (idS S) cs cs) : JW P SB (fun b => S b ∨ b = w.heap.size) (w.alloc (.cells cs e)) := by
  have hk : JW P SB S (w.alloc (.cells cs e)) := jw_keep h (fun b hb => Below.heap_alloc w _ b (jw_lt h hb)) (by simp)
  refine jw_join hk (fun b hb => ?_) fun b hb hs => ?_
  · rw [hb, heap_alloc_new]
    exact .inl ⟨cs, cs, e, _, _, rfl, rfl, hc.le fun x y hxy => ⟨hxy.1, .inl hxy.2⟩, ⟨.inr rfl, fun o a b => ⟨a, b⟩⟩, fun h => h.elim⟩
  · have := h.sb b hs
    omega
theorem ar_one {ρ : BR} {v : Value} (h : VR ρ v v) : AR ρ #[v] #[v] := by
  refine ⟨rfl, fun i x y hx hy => ?_⟩
  rw [hx] at hy
  cases hy
  match i with
  | 0 => cases hx; exact h
  | k + 1 => simp at hx
theorem ar_ints {ρ : BR} (l : List Int) : AR ρ (l.map (Value.int .i64)).toArray (l.map (Value.int .i64)).toArray := by
  refine ⟨rfl, fun i x y hx hy => ?_⟩
  rw [hx] at hy
  cases hy
  simp only [List.getElem?_toArray, List.getElem?_map, Option.map_eq_some_iff] at hx
  obtain ⟨a, _, rfl⟩ := hx
  exact .int _ _
theorem at_tr {a b c : World} (h : AtRel a b) (k : AtRel b c) : AtRel a c := atRel_trans _ _ _ h k
/-- The rows, as a list. -/
def rowL (R : Nat → Nat → Int) (n : Nat) : List R4 := (List.range n).map fun i => ⟨R i 0, R i 1, R i 2, R i 3⟩
theorem rowL_len (R : Nat → Nat → Int) (n : Nat) : (rowL R n).length = n := by simp [rowL]
theorem rowL_get (R : Nat → Nat → Int) {n k : Nat} (h : k < n) : (rowL R n).getD k R4.z = ⟨R k 0, R k 1, R k 2, R k 3⟩ := by
  rw [List.getD_eq_getElem?_getD, List.getElem?_eq_getElem (by rw [rowL_len]; exact h)]
  simp [rowL]
theorem rowL_ok (R : Nat → Nat → Int) : ∀ n, rowsB (rowL R n) = allN (fun i => rowB (R i 0) (R i 1) (R i 2) (R i 3)) n
  | 0 => rfl
  | n + 1 => by
    have h := rowL_ok R n
    rw [rowsB, rowL] at h
    rw [rowsB, rowL, List.range_succ, List.map_append, List.all_append, h, allN]
    simp [R4.ok]
theorem rowsOk_sl (R : Nat → Nat → Int) (n A c : Nat) (w : World) (hs : Sl w 0 w.heap.size 4 (.slice (some ⟨A, 0, none⟩) n c) n (intF R)) (h0 : 0 < n) (hn : n ≤ 20) : Calls Try.prog 22 #[.slice (some ⟨A, 0, none⟩) n c] w fun e w' => e = .returned (.bool (allN (fun i => rowB (R i 0) (R i 1) (R i 2) (R i 3)) n)) ∧ Up w w' := by
  obtain ⟨_, _, _, e, hc, hx⟩ := hs
  cases e
  obtain ⟨b, o, e, _, hlt, hcs⟩ := hx h0
  cases e
  have h := rowsOk_any (rowL R n) A c w (fun k hk => by
    rw [rowL_len] at hk
    rw [rowL_get R hk]
    refine ⟨?_, ?_, ?_, ?_⟩
    · have := hcs k 0 hk (by omega); simpa [intF] using this
    · have := hcs k 1 hk (by omega); simpa [intF] using this
    · have := hcs k 2 hk (by omega); simpa [intF] using this
    · have := hcs k 3 hk (by omega); simpa [intF] using this) hlt (by rw [rowL_len]; omega)
  rw [rowL_len, rowL_ok] at h
  exact h
end Go.Proofs.Ytaealkfnhhmmcaa
