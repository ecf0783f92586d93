/- The walk of the program's SumOfRows. No condition. -/
import Derived.Test.YtchldcjieijkaaaSr
import Derived.StillTailTactics
import Derived.Carry
import Derived.BigRegion
namespace Go.Proofs.Ytchldcjieijkaaa
open Go.RowKit
open Go.ChangeMaps (setBlock)
open MapKept (heap_set)
set_option linter.unusedVariables false
theorem Up.setBlock {a b : World} (h : Up a b) {r : Nat} {o : Obj} (hr : b.heap[r]? = some o) (hle : a.heap.size ≤ r) (o' : Obj) : Up a (setBlock b r o') :=
  Below.grown h (row := some r) ⟨rfl, rfl, rfl, by simp [Go.ChangeMaps.setBlock], fun i _ hi => (heap_set hr).2 i fun e => hi (by rw [e])⟩ h.size (fun k hk => by cases hk; exact hle)
theorem setBlock_cell {b : World} {r : Nat} {o o' : Obj} (hr : b.heap[r]? = some o) (p : Addr) (hp : p.block ≠ r) : (setBlock b r o').cell? p = b.cell? p := World.cell?_of_block ((heap_set hr).2 _ hp)
theorem setBlock_frozen {b : World} {r : Nat} {o o' : Obj} (hr : b.heap[r]? = some o) (p : Addr) (hp : p.block ≠ r) : (setBlock b r o').frozen? p = b.frozen? p := World.frozen?_of_block ((heap_set hr).2 _ hp)
/-- Four cells of block b written, one behind the other. -/
theorem set4 {w : World} {b : Nat} {x0 x1 x2 x3 : Value} (v0 v1 v2 v3 : Value) (h0 : w.cell? ⟨b, 0, none⟩ = some x0) (h1 : w.cell? ⟨b, 1, none⟩ = some x1) (h2 : w.cell? ⟨b, 2, none⟩ = some x2) (h3 : w.cell? ⟨b, 3, none⟩ = some x3) (w' : World) (hw : w' = (((w.setCell ⟨b, 0, none⟩ v0).setCell ⟨b, 1, none⟩ v1).setCell ⟨b, 2, none⟩ v2).setCell ⟨b, 3, none⟩ v3) :
    (∀ r, r ≠ b → w'.heap[r]? = w.heap[r]?) ∧ w'.cell? ⟨b, 0, none⟩ = some v0 ∧ w'.cell? ⟨b, 1, none⟩ = some v1 ∧ w'.cell? ⟨b, 2, none⟩ = some v2 ∧ w'.cell? ⟨b, 3, none⟩ = some v3 ∧ ∀ o, w'.frozen? ⟨b, o, none⟩ = w.frozen? ⟨b, o, none⟩ := by
  subst hw
  have n01 : ∀ (W : World) (v : Value), (W.setCell ⟨b, 1, none⟩ v).cell? ⟨b, 0, none⟩ = W.cell? ⟨b, 0, none⟩ := fun W v => World.cell?_setCell_other _ _ _ _ (by simp)
  have n02 : ∀ (W : World) (v : Value), (W.setCell ⟨b, 2, none⟩ v).cell? ⟨b, 0, none⟩ = W.cell? ⟨b, 0, none⟩ := fun W v => World.cell?_setCell_other _ _ _ _ (by simp)
  have n03 : ∀ (W : World) (v : Value), (W.setCell ⟨b, 3, none⟩ v).cell? ⟨b, 0, none⟩ = W.cell? ⟨b, 0, none⟩ := fun W v => World.cell?_setCell_other _ _ _ _ (by simp)
  have n10 : ∀ (W : World) (v : Value), (W.setCell ⟨b, 0, none⟩ v).cell? ⟨b, 1, none⟩ = W.cell? ⟨b, 1, none⟩ := fun W v => World.cell?_setCell_other _ _ _ _ (by simp)
  have n12 : ∀ (W : World) (v : Value), (W.setCell ⟨b, 2, none⟩ v).cell? ⟨b, 1, none⟩ = W.cell? ⟨b, 1, none⟩ := fun W v => World.cell?_setCell_other _ _ _ _ (by simp)
  have n13 : ∀ (W : World) (v : Value), (W.setCell ⟨b, 3, none⟩ v).cell? ⟨b, 1, none⟩ = W.cell? ⟨b, 1, none⟩ := fun W v => World.cell?_setCell_other _ _ _ _ (by simp)
  have n20 : ∀ (W : World) (v : Value), (W.setCell ⟨b, 0, none⟩ v).cell? ⟨b, 2, none⟩ = W.cell? ⟨b, 2, none⟩ := fun W v => World.cell?_setCell_other _ _ _ _ (by simp)
  have n21 : ∀ (W : World) (v : Value), (W.setCell ⟨b, 1, none⟩ v).cell? ⟨b, 2, none⟩ = W.cell? ⟨b, 2, none⟩ := fun W v => World.cell?_setCell_other _ _ _ _ (by simp)
  have n23 : ∀ (W : World) (v : Value), (W.setCell ⟨b, 3, none⟩ v).cell? ⟨b, 2, none⟩ = W.cell? ⟨b, 2, none⟩ := fun W v => World.cell?_setCell_other _ _ _ _ (by simp)
  have n30 : ∀ (W : World) (v : Value), (W.setCell ⟨b, 0, none⟩ v).cell? ⟨b, 3, none⟩ = W.cell? ⟨b, 3, none⟩ := fun W v => World.cell?_setCell_other _ _ _ _ (by simp)
  have n31 : ∀ (W : World) (v : Value), (W.setCell ⟨b, 1, none⟩ v).cell? ⟨b, 3, none⟩ = W.cell? ⟨b, 3, none⟩ := fun W v => World.cell?_setCell_other _ _ _ _ (by simp)
  have n32 : ∀ (W : World) (v : Value), (W.setCell ⟨b, 2, none⟩ v).cell? ⟨b, 3, none⟩ = W.cell? ⟨b, 3, none⟩ := fun W v => World.cell?_setCell_other _ _ _ _ (by simp)
  refine ⟨fun r hr => ?_, ?_, ?_, ?_, ?_, fun o => ?_⟩
  · rw [heap_setCell_other _ _ _ _ hr, heap_setCell_other _ _ _ _ hr, heap_setCell_other _ _ _ _ hr, heap_setCell_other _ _ _ _ hr]
  · rw [n03, n02, n01]; exact World.cell?_setCell_same' _ _ _ (by rw [h0]; rfl)
  · rw [n13, n12]; exact World.cell?_setCell_same' _ _ _ (by rw [n10, h1]; rfl)
  · rw [n23]; exact World.cell?_setCell_same' _ _ _ (by rw [n21, n20, h2]; rfl)
  · exact World.cell?_setCell_same' _ _ _ (by rw [n32, n31, n30, h3]; rfl)
  · simp only [World.frozen?_setCell]
/-- What an entry adds to component c. -/
def entG (R : Nat → Nat → Int) (c : Nat) (x : Value × Value) : Int := intOf x.2 * R (intOf x.1).toNat c
theorem entG_sum (R P F : Nat → Nat → Int) (c n : Nat) : ((List.range n).map fun i => entG R c (.int .i64 (P i 0), .int .i64 (F i 0))).sum = smI R P F c n := by
  induction n with
  | zero => rfl
  | succ n ih => rw [List.range_succ, List.map_append, List.sum_append, ih, smI]; simp [entG, intOf]
theorem wrap_mul (x a b : Int) : wrap64 (wrap64 x + wrap64 (a * b)) = wrap64 (x + a * b) := by
  generalize a * b = y
  simp only [wrap64]; omega
/-- Between two rounds of the range: the iterator, the map, the sums so far. -/
def SrI (w : World) (ws bm bi : Nat) (es : Array MapEntry) (clock : Nat) (R : Nat → Nat → Int) (seen : Array Nat) (wr : World) : Prop :=
  wr.heap[bi]? = some (.mapIter (some bm) clock seen clock) ∧ wr.heap[bm]? = some (.map es clock) ∧ (∀ c, c < 4 → wr.cell? ⟨ws, c, none⟩ = some (.int .i64 (wrap64 (seenG (fun e => entG R c (e.key, e.val)) es.toList seen)))) ∧ (∀ o, wr.frozen? ⟨ws, o, none⟩ = false) ∧ Up w wr
set_option maxHeartbeats 4000000 in
set_option maxRecDepth 100000 in
theorem SumOfRows_any (u a b : Value) (k n m lo hi lo' hi' lo2 hi2 : Nat) (R P F : Nat → Nat → Int) (w : World) (hs : Sl w lo hi 4 u k (intF R)) (hs' : Sl w lo' hi' 1 a n (intF P)) (hs2 : Sl w lo2 hi2 1 b m (intF F)) (hn : k ≤ 1048576) (hn' : n ≤ 1048576) (hm : m ≤ 1048576) :
    Calls Try.prog 7 #[u, .agg #[a, b]] w fun e w' => e = .returned (.tuple #[.int .i64 (srI k n m R P F 0), .int .i64 (srI k n m R P F 1), .int .i64 (srI k n m R P F 2), .int .i64 (srI k n m R P F 3)]) ∧ Up w w' := by
  have hP := fun W (hu : Up w W) => ProofOk_any u a b k n m lo hi lo' hi' lo2 hi2 R P F W (hs.up hu) (hs'.up hu) (hs2.up hu) hn hn' hm
  obtain ⟨hz1, A1, c1, rfl, hc1, hx1⟩ := hs
  obtain ⟨hz2, A2, c2, rfl, hc2, hx2⟩ := hs'
  obtain ⟨hz3, A3, c3, rfl, hc3, hx3⟩ := hs2
  have H1 := Lib.hid hx1
  have H2 := Lib.hid hx2
  have H3 := Lib.hid hx3
  clear hx1 hx2 hx3
  cases hok : pfOk k n m R P F with
  | false =>
    rw [srI_f hok, srI_f hok, srI_f hok, srI_f hok]
    have HPo : ∀ W, Up w W → Calls Try.prog 10 #[.slice A1 k c1, .agg #[.slice A2 n c2, .slice A3 m c3]] W fun e w' => e = .returned (.bool false) ∧ Up W w' := fun W hu => by have hh := hP W hu; rw [hok] at hh; exact hh
    clear hok hP
    go_enter Try.func7, Try.ntmps7
    go_wp2_with fail
    (go_at_call 10; (with_reducible refine (HPo _ (by repeat (first | with_reducible exact Up.refl _ | with_reducible refine Up.alloc ?_ _ | with_reducible refine Up.drew ?_ | with_reducible refine Up.drewN ?_ _ | (with_reducible refine Up.setCell ?_ (by first | omega | (simp; done) | (simp; omega)) _) | with_reducible assumption | (with_reducible refine Up.trans ?_ (by with_reducible assumption))))).mono ?_); rintro e w1 ⟨rfl, hb1⟩)
    go_wp2
    exact bodyPost_ret (v := .tuple #[.int .i64 0, .int .i64 0, .int .i64 0, .int .i64 0]) (by simp [results, Try.results7, go_sem]) rfl ⟨rfl, (by repeat (first | with_reducible exact Up.refl _ | with_reducible refine Up.alloc ?_ _ | with_reducible refine Up.drew ?_ | with_reducible refine Up.drewN ?_ _ | (with_reducible refine Up.setCell ?_ (by first | omega | (simp; done) | (simp; omega)) _) | with_reducible assumption | (with_reducible refine Up.trans ?_ (by with_reducible assumption))))⟩
  | true =>
    rw [srI_t hok, srI_t hok, srI_t hok, srI_t hok]
    have HPo : ∀ W, Up w W → Calls Try.prog 10 #[.slice A1 k c1, .agg #[.slice A2 n c2, .slice A3 m c3]] W fun e w' => e = .returned (.bool true) ∧ Up W w' := fun W hu => by have hh := hP W hu; rw [hok] at hh; exact hh
    clear hP
    obtain ⟨rfl, hn1, hn4, hk40, hin, hasc⟩ := pf_inv hok
    have HI := Lib.hid hin
    have HA := Lib.hid hasc
    clear hok hin hasc
    have hmm := @run_makeMap Try.prog
    go_enter Try.func7, Try.ntmps7
    go_wp2_with fail
    (go_at_call 10; (with_reducible refine (HPo _ (by repeat (first | with_reducible exact Up.refl _ | with_reducible refine Up.alloc ?_ _ | with_reducible refine Up.drew ?_ | with_reducible refine Up.drewN ?_ _ | (with_reducible refine Up.setCell ?_ (by first | omega | (simp; done) | (simp; omega)) _) | with_reducible assumption | (with_reducible refine Up.trans ?_ (by with_reducible assumption))))).mono ?_); rintro e w1 ⟨rfl, hb1⟩)
    have hw1 : Up w w1 := (by repeat (first | with_reducible exact Up.refl _ | with_reducible refine Up.alloc ?_ _ | with_reducible refine Up.drew ?_ | with_reducible refine Up.drewN ?_ _ | (with_reducible refine Up.setCell ?_ (by first | omega | (simp; done) | (simp; omega)) _) | with_reducible assumption | (with_reducible refine Up.trans ?_ (by with_reducible assumption))))
    have hs1 := hb1.size
    simp at hs1
    have hq0 : w1.cell? ⟨w.heap.size, 0, none⟩ = some (.slice A2 m c2) := (hb1.cells.1 _ _ (by simp; omega)).trans ((World.cell?_alloc_lt _ _ _ (by simp)).trans (by simp [World.cell?_alloc_mark]))
    have hq1 : w1.cell? ⟨w.heap.size, 1, none⟩ = some (.slice A3 m c3) := (hb1.cells.1 _ _ (by simp; omega)).trans ((World.cell?_alloc_lt _ _ _ (by simp)).trans (by simp [World.cell?_alloc_mark]))
    have hy0 : w1.cell? ⟨w.heap.size + 1, 0, none⟩ = some (.int .i64 0) := (hb1.cells.1 _ _ (by simp)).trans (by go_simp)
    have hy1 : w1.cell? ⟨w.heap.size + 1, 1, none⟩ = some (.int .i64 0) := (hb1.cells.1 _ _ (by simp)).trans (by go_simp)
    have hy2 : w1.cell? ⟨w.heap.size + 1, 2, none⟩ = some (.int .i64 0) := (hb1.cells.1 _ _ (by simp)).trans (by go_simp)
    have hy3 : w1.cell? ⟨w.heap.size + 1, 3, none⟩ = some (.int .i64 0) := (hb1.cells.1 _ _ (by simp)).trans (by go_simp)
    have hyf : ∀ o, w1.frozen? ⟨w.heap.size + 1, o, none⟩ = false := fun o => (hb1.cells.2 _ _ (by simp)).trans (by go_simp)
    have hq : w.heap.size < w1.heap.size := by omega
    have hy : w.heap.size + 1 < w1.heap.size := by omega
    clear hb1
    go_wp2
    go_loopw [22] (fun i wr => ∃ j : Nat, i = .int .i64 (j : Int) ∧ j ≤ m ∧ MpB wr w1.heap.size j (fun i => P i 0) (fun i => F i 0) ∧ Up w1 wr) (fun i _ => m - (intOf i).toNat)
    case atStart => exact ⟨0, rfl, Nat.zero_le _, MpB.made _ _ _, (by repeat (first | with_reducible exact Up.refl _ | with_reducible refine Up.alloc ?_ _ | with_reducible refine Up.drew ?_ | with_reducible refine Up.drewN ?_ _ | (with_reducible refine Up.setCell ?_ (by first | omega | (simp; done) | (simp; omega)) _) | with_reducible assumption | (with_reducible refine Up.trans ?_ (by with_reducible assumption))))⟩
    case round =>
      obtain ⟨j, rfl, hj, hM, hup⟩ := hrel
      have hupw : Up w wr := hw1.trans hup
      have hr0 := (hup.cells.1 _ 0 hq).trans hq0
      have hr1 := (hup.cells.1 _ 1 hq).trans hq1
      by_cases hk1 : j < m
      · have hk2 : (j : Int) < (m : Int) := by omega
        obtain ⟨b', o', rfl, hb1', hb2', hcs'⟩ := H2.out (by omega)
        obtain ⟨b2, o2, rfl, hb12, hb22, hcs2⟩ := H3.out (by omega)
        have hg0 : wr.cell? ⟨b', o' + j, none⟩ = some (.int .i64 (P j 0)) := (hupw.cells.1 _ _ (by omega)).trans (Sl.int hcs' hk1)
        have hg1 : wr.cell? ⟨b2, o2 + j, none⟩ = some (.int .i64 (F j 0)) := (hupw.cells.1 _ _ (by omega)).trans (Sl.int hcs2 hk1)
        have hne : ∀ i, i < j → P i 0 ≠ P j 0 := fun i hi => by
          have := asc_lt HA.out (j - i - 1) i (by omega)
          rw [show i + (j - i - 1) + 1 = j by omega] at this
          omega
        have HN := Lib.hid hne
        clear hcs' hcs2 hne
        go_wp2_with (at_mapUpdate; refine wpList_mapUpdate_new _ rfl _ _ _ 47 rfl 3 3 Try.underlying47 Try.underlying3 w1.heap.size j (fun i => P i 0) (fun i => F i 0) rfl hM rfl rfl HN.out ?_; intro w2 hM2 hgrow)
        have hup2 : Up w1 w2 := Below.grown hup hgrow hup.size (fun k hk => by cases hk; exact Nat.le_refl _)
        go_wp2
        exact ⟨⟨j + 1, by rfl, by omega, hM2, hup2⟩, by simp only [intOf]; omega⟩
      · have hkk : j = m := by omega
        subst hkk
        have hk2 : ¬ (j : Int) < (j : Int) := by omega
        obtain ⟨es, clock, hbm, hE⟩ := hM
        have hst := hE.1
        have hrg := run_range_map (P := Try.prog) wr 47 3 3 w1.heap.size es clock Try.underlying47 hbm
        have HE := Lib.hid hE
        have HST := Lib.hid hst
        have hI : SrI w (w.heap.size + 1) w1.heap.size wr.heap.size es clock R #[] (wr.alloc (.mapIter (some w1.heap.size) clock #[] clock)) := by
          have hbl : w1.heap.size < wr.heap.size := (Array.getElem?_eq_some_iff.1 hbm).1
          have hul : w.heap.size + 1 < wr.heap.size := by omega
          refine ⟨heap_alloc_new _ _, (heap_alloc_old _ _ hbl).trans hbm, fun c hc => ?_, fun o => ?_, (by repeat (first | with_reducible exact Up.refl _ | with_reducible refine Up.alloc ?_ _ | with_reducible refine Up.drew ?_ | with_reducible refine Up.drewN ?_ _ | (with_reducible refine Up.setCell ?_ (by first | omega | (simp; done) | (simp; omega)) _) | with_reducible assumption | (with_reducible refine Up.trans ?_ (by with_reducible assumption))))⟩
          · rw [World.cell?_alloc_lt _ _ _ (by simpa using hul), hup.cells.1 _ _ hy, seenG_none]
            match c, hc with
            | 0, _ => simpa [wrap64] using hy0
            | 1, _ => simpa [wrap64] using hy1
            | 2, _ => simpa [wrap64] using hy2
            | 3, _ => simpa [wrap64] using hy3
          · exact (World.frozen?_of_block (heap_alloc_old _ _ hul)).trans ((hup.cells.2 _ _ hy).trans (hyf o))
        have hne1 : w.heap.size + 1 ≠ wr.heap.size := by have := hup.size; omega
        have hne2 : w1.heap.size ≠ wr.heap.size := by have := (Array.getElem?_eq_some_iff.1 hbm).1; omega
        have hle : w.heap.size ≤ wr.heap.size := hupw.size
        obtain ⟨bi, hbi⟩ : ∃ bi, bi = wr.heap.size := ⟨_, rfl⟩
        rw [← hbi] at hrg hI hne1 hne2 hle
        obtain ⟨wo, rfl⟩ : ∃ wo : World, wo = wr := ⟨_, rfl⟩
        clear hbi hbm hE hst hr0 hr1 hq0 hq1 hy0 hy1 hy2 hy3 hyf
        go_wp2_with fail
        go_loopw [12, 13] (fun _ _ wz => ∃ seen, SrI w (w.heap.size + 1) w1.heap.size bi es clock R seen wz) (fun _ _ wz => (leftOf es (wz.iterSeen bi)).size)
        case atStart => exact ⟨#[], hI⟩
        case round =>
          obtain ⟨seen, hit, hbm, hcs, hfs, hupz⟩ := hrel
          have hsn : wr.iterSeen bi = seen := by simp [World.iterSeen, hit]
          rcases run_next_at (P := Try.prog) wr 0 bi w1.heap.size clock clock seen es clock hit hbm HST.out.1 (Nat.le_refl _) with ⟨h0, hrun⟩ | ⟨e, he, wd, hwd, hrun⟩
          · have hnx : ∀ ty, (Instr.next (.pointer (some ⟨bi, 0, none⟩)) false ty).run Try.prog wr = _ := fun _ => hrun
            have hz : ∀ c, c < 4 → wr.cell? ⟨w.heap.size + 1, c, none⟩ = some (.int .i64 (wrap64 (smI R P F c j))) := fun c hc => by
              rw [hcs c hc, seenG_all _ es seen h0, HE.out.sum (entG R c), entG_sum]
            have hz0 := hz 0 (by omega)
            have hz1 := hz 1 (by omega)
            have hz2 := hz 2 (by omega)
            have hz3' := hz 3 (by omega)
            have hll : w.heap.size + 1 < wr.heap.size := World.block_lt_of_cell? _ _ hz0
            clear hz hcs h0 hrun hit hbm hsn
            go_wp2_with fail
            go_quiet (fail)
            go_wp2
            exact bodyPost_ret (v := .tuple #[.int .i64 (wrap64 (smI R P F 0 j)), .int .i64 (wrap64 (smI R P F 1 j)), .int .i64 (wrap64 (smI R P F 2 j)), .int .i64 (wrap64 (smI R P F 3 j))]) (by simp [results, Try.results7, go_sem]) rfl ⟨rfl, (by repeat (first | with_reducible exact Up.refl _ | with_reducible refine Up.alloc ?_ _ | with_reducible refine Up.drew ?_ | with_reducible refine Up.drewN ?_ _ | (with_reducible refine Up.setCell ?_ (by first | omega | (simp; done) | (simp; omega)) _) | with_reducible assumption | (with_reducible refine Up.trans ?_ (by with_reducible assumption))))⟩
          · obtain ⟨i, hi, hek, hev⟩ := HE.out.isKey (mem_left he).1
            obtain ⟨hp0, hp1⟩ := HI.out i hi
            obtain ⟨q, hqe⟩ : ∃ q : Nat, P i 0 = (q : Int) := ⟨(P i 0).toNat, by omega⟩
            have hg : ∀ c, entG R c (e.key, e.val) = F i 0 * R q c := fun c => by rw [hek, hev, hqe]; simp [entG, intOf]
            have hpush := fun c => seenG_push (fun e => entG R c (e.key, e.val)) seen e (mem_left he).2 es.toList HST.out.2.1 (mem_left he).1
            rw [hqe] at hek hp1
            have hmeas := left_shrinks es seen e he
            obtain ⟨hitd, hbmd, hszd⟩ : wd.heap[bi]? = some (.mapIter (some w1.heap.size) clock seen clock) ∧ wd.heap[w1.heap.size]? = some (.map es clock) ∧ wd.heap.size = wr.heap.size := by rcases hwd with rfl | rfl <;> exact ⟨hit, hbm, rfl⟩
            have hcsd : ∀ c, c < 4 → wd.cell? ⟨w.heap.size + 1, c, none⟩ = some (.int .i64 (wrap64 (seenG (fun e => entG R c (e.key, e.val)) es.toList seen))) := by rcases hwd with rfl | rfl <;> exact hcs
            have hfsd : ∀ o, wd.frozen? ⟨w.heap.size + 1, o, none⟩ = false := by rcases hwd with rfl | rfl <;> exact hfs
            have hupd : Up w wd := by (rcases hwd with rfl | rfl); (exact hupz); (exact hupz.drew)
            obtain ⟨wn, hwn⟩ : ∃ wn, wn = setBlock wd bi (.mapIter (some w1.heap.size) clock (seen.push e.born) clock) := ⟨_, rfl⟩
            have hitn : wn.heap[bi]? = some (.mapIter (some w1.heap.size) clock (seen.push e.born) clock) := by rw [hwn]; exact (heap_set hitd).1
            have hbmn : wn.heap[w1.heap.size]? = some (.map es clock) := by rw [hwn]; exact ((heap_set hitd).2 _ hne2).trans hbmd
            have hcsn : ∀ c, c < 4 → wn.cell? ⟨w.heap.size + 1, c, none⟩ = some (.int .i64 (wrap64 (seenG (fun e => entG R c (e.key, e.val)) es.toList seen))) := fun c hc => by rw [hwn]; exact (setBlock_cell hitd _ hne1).trans (hcsd c hc)
            have hfsn : ∀ o, wn.frozen? ⟨w.heap.size + 1, o, none⟩ = false := fun o => by rw [hwn]; exact (setBlock_frozen hitd _ hne1).trans (hfsd o)
            have hupn : Up w wn := by rw [hwn]; exact hupd.setBlock hitd hle _
            rw [← hwn, hek, hev] at hrun
            have hnx : ∀ ty, (Instr.next (.pointer (some ⟨bi, 0, none⟩)) false ty).run Try.prog wr = _ := fun _ => hrun
            have hen := run_entry_at (P := Try.prog) wn bi w1.heap.size clock seen es clock e hitn hbmn (mem_left he).1 HST.out.2.1
            rw [hek, hev] at hen
            have hqk : q < k := by omega
            have hqk2 : (q : Int) < (k : Int) := by omega
            have hqn : (0 : Int) ≤ (q : Int) := by omega
            obtain ⟨b, o, rfl, hb1, hb2, hrs⟩ := H1.out (by omega)
            have hR := fun c (hc : c < 4) => (hupn.cells.1 _ _ (by omega)).trans (hrs q c hqk hc)
            have hR0 : wn.cell? ⟨b, o + q * 4, none⟩ = some (.int .i64 (R q 0)) := by simpa [intF, Nat.add_assoc] using hR 0 (by omega)
            have hR1 : wn.cell? ⟨b, o + q * 4 + 1, none⟩ = some (.int .i64 (R q 1)) := by simpa [intF, Nat.add_assoc] using hR 1 (by omega)
            have hR2 : wn.cell? ⟨b, o + q * 4 + 2, none⟩ = some (.int .i64 (R q 2)) := by simpa [intF, Nat.add_assoc] using hR 2 (by omega)
            have hR3 : wn.cell? ⟨b, o + q * 4 + 3, none⟩ = some (.int .i64 (R q 3)) := by simpa [intF, Nat.add_assoc] using hR 3 (by omega)
            have HCN := Lib.hid hcsn
            have hz0 := hcsn 0 (by omega)
            have hz1 := hcsn 1 (by omega)
            have hz2 := hcsn 2 (by omega)
            have hz3' := hcsn 3 (by omega)
            have HW := Lib.hid hwn
            have HG := Lib.hid hg
            have HPU := Lib.hid hpush
            have HQ := Lib.hid hqe
            have HEK := Lib.hid hek
            have HEV := Lib.hid hev
            have HSN := Lib.hid hsn
            have HMN := Lib.hid hmeas
            clear hR hrs hcsn hcs hcsd hfsd hfs hupd hupz hitd hbmd hszd hwd hit hbm hwn hrun hg hpush hqe hek hev hsn hmeas
            go_wp2_with fail
            go_still_tail 41, (by kernel_rfl)
            change wpList _ _ _ _ _ wn.drew
            have hit3 : wn.drew.heap[bi]? = _ := hitn
            have hbm3 : wn.drew.heap[w1.heap.size]? = _ := hbmn
            have hf3 : ∀ o, wn.drew.frozen? ⟨w.heap.size + 1, o, none⟩ = false := hfsn
            have hu3 : Up w wn.drew := hupn.drew
            have hz30 : wn.drew.cell? ⟨w.heap.size + 1, 0, none⟩ = _ := hz0
            have hz31 : wn.drew.cell? ⟨w.heap.size + 1, 1, none⟩ = _ := hz1
            have hz32 : wn.drew.cell? ⟨w.heap.size + 1, 2, none⟩ = _ := hz2
            have hz33 : wn.drew.cell? ⟨w.heap.size + 1, 3, none⟩ = _ := hz3'
            generalize wn.drew = wt at hit3 hbm3 hf3 hu3 hz30 hz31 hz32 hz33 ⊢
            clear hitn hbmn hfsn hupn hz0 hz1 hz2 hz3' hR0 hR1 hR2 hR3 hnx hen
            go_wp2
            obtain ⟨wq, hwq⟩ : ∃ wq : World, wq = (((wt.setCell ⟨w.heap.size + 1, 0, none⟩ (.int .i64 (wrap64 (wrap64 (seenG (fun e => entG R 0 (e.key, e.val)) es.toList seen) + wrap64 (F i 0 * R q 0))))).setCell ⟨w.heap.size + 1, 1, none⟩ (.int .i64 (wrap64 (wrap64 (seenG (fun e => entG R 1 (e.key, e.val)) es.toList seen) + wrap64 (F i 0 * R q 1))))).setCell ⟨w.heap.size + 1, 2, none⟩ (.int .i64 (wrap64 (wrap64 (seenG (fun e => entG R 2 (e.key, e.val)) es.toList seen) + wrap64 (F i 0 * R q 2))))).setCell ⟨w.heap.size + 1, 3, none⟩ (.int .i64 (wrap64 (wrap64 (seenG (fun e => entG R 3 (e.key, e.val)) es.toList seen) + wrap64 (F i 0 * R q 3)))) := ⟨_, rfl⟩
            obtain ⟨g1, g2, g3, g4, g5, g6⟩ := set4 _ _ _ _ hz30 hz31 hz32 hz33 _ hwq
            have hu4 : Up w wq := by rw [hwq]; exact (((hu3.setCell (by simp) _).setCell (by simp) _).setCell (by simp) _).setCell (by simp) _
            rw [← hwq]
            clear hwq
            refine ⟨⟨seen.push e.born, (g1 _ (Ne.symm hne1)).trans hit3, (g1 _ (by omega)).trans hbm3, fun c hc => ?_, fun o => (g6 o).trans (hf3 o), hu4⟩, ?_⟩
            · have hfin : wrap64 (wrap64 (seenG (fun e => entG R c (e.key, e.val)) es.toList seen) + wrap64 (F i 0 * R q c)) = wrap64 (seenG (fun e => entG R c (e.key, e.val)) es.toList (seen.push e.born)) := by
                have h1 := HPU.out c
                simp only [HG.out] at h1
                rw [h1]
                exact wrap_mul _ _ _
              rw [← hfin]
              match c, hc with
              | 0, _ => exact g2
              | 1, _ => exact g3
              | 2, _ => exact g4
              | 3, _ => exact g5
            · have e1 : wq.iterSeen bi = seen.push e.born := by simp [World.iterSeen, (g1 _ (Ne.symm hne1)).trans hit3]
              rw [e1, HSN.out]
              exact HMN.out
end Go.Proofs.Ytchldcjieijkaaa
