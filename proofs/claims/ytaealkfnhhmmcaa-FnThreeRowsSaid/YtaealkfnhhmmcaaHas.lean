/- The walks of l11Has, slices.Index and slices.Contains on thrusts. No condition. -/
import Derived.Test.YtaealkfnhhmmcaaCf
namespace Go.Proofs.Ytaealkfnhhmmcaa
open Go.RowKit
set_option linter.unusedVariables false
theorem has_t {L : List T4} {t : T4} {k : Nat} (hk : k < L.length) (h : L.getD k (0, 0, 0, 0) = t) : L.contains t = true := by
  rw [List.contains_iff_mem, ← h, List.getD_eq_getElem?_getD, List.getElem?_eq_getElem hk]
  exact List.getElem_mem _
theorem has_f {L : List T4} {t : T4} (h : ∀ k, k < L.length → ¬ L.getD k (0, 0, 0, 0) = t) : L.contains t = false := by
  cases hc : L.contains t with
  | false => rfl
  | true =>
    rw [List.contains_iff_mem] at hc
    obtain ⟨k, hk, e⟩ := List.getElem_of_mem hc
    exact absurd (by rw [List.getD_eq_getElem?_getD, List.getElem?_eq_getElem hk]; exact e) (h k hk)
theorem t4_ext (a t : T4) : (t4 a 0 = t.1 ∧ t4 a 1 = t.2.1 ∧ t4 a 2 = t.2.2.1 ∧ t4 a 3 = t.2.2.2) ↔ a = t := by
  obtain ⟨a, b, c, d⟩ := a
  obtain ⟨x, y, z, u⟩ := t
  simp [t4]
/-- The first place at which a thrust stands, or -1. -/
def ixL (L : List T4) (t : T4) : Int := if L.contains t then (L.findIdx (· == t) : Int) else -1
theorem ix_at {L : List T4} {t : T4} {k : Nat} (hk : k < L.length) (h : L.getD k (0, 0, 0, 0) = t) (hb : ∀ j, j < k → ¬ L.getD j (0, 0, 0, 0) = t) : ixL L t = (k : Int) := by
  rw [ixL, if_pos (has_t hk h)]
  congr 1
  rw [List.findIdx_eq hk]
  refine ⟨?_, fun j hj => ?_⟩
  · rw [List.getD_eq_getElem?_getD, List.getElem?_eq_getElem hk] at h
    simpa using h
  · have := hb j hj
    rw [List.getD_eq_getElem?_getD, List.getElem?_eq_getElem (by omega)] at this
    simpa using this
theorem ix_ge (L : List T4) (t : T4) : decide (0 ≤ ixL L t) = L.contains t := by
  rw [ixL]
  cases L.contains t with
  | true => rw [if_pos rfl]; simp
  | false => rw [if_neg (by simp)]; rfl
theorem eql_th (a b c d x y z t : Int) (W : World) : (Go.binOp .eql 29 (.agg #[.int .i64 a, .int .i64 b, .int .i64 c, .int .i64 d]) (.agg #[.int .i64 x, .int .i64 y, .int .i64 z, .int .i64 t])).run Try.prog W = .ok (.bool (decide (a = x ∧ b = y ∧ c = z ∧ d = t))) W := by
  by_cases h1 : a = x
  · subst h1
    by_cases h2 : b = y
    · subst h2
      by_cases h3 : c = z
      · subst h3
        by_cases h4 : d = t
        · subst h4
          go_simp
        · have h5 : (d == t) = false := by rw [beq_eq_false_iff_ne]; exact h4
          go_simp
      · have h5 : (c == z) = false := by rw [beq_eq_false_iff_ne]; exact h3
        go_simp
    · have h5 : (b == y) = false := by rw [beq_eq_false_iff_ne]; exact h2
      go_simp
  · have h5 : (a == x) = false := by rw [beq_eq_false_iff_ne]; exact h1
    go_simp
set_option maxHeartbeats 1000000 in
set_option maxRecDepth 100000 in
theorem l11Has_any (L : List T4) (t : T4) (v : Value) (n lo hi : Nat) (w : World) (hL : L.length = n) (hs : Sl w lo hi 4 v n (thF L)) (hn : n ≤ 1048576) : Calls Try.prog 38 #[v, (.agg #[.int .i64 t.1, .int .i64 t.2.1, .int .i64 t.2.2.1, .int .i64 t.2.2.2])] w fun e w' => e = .returned (.bool (L.contains t)) ∧ Up w w' := by
  obtain ⟨h0, A, c, rfl, hc, hx⟩ := hs
  have H := Lib.hid hx
  clear hx
  have HLn := Lib.hid hL
  clear hL
  go_enter Try.func38, Try.ntmps38
  go_wp2
  go_loopw [5] (fun i wr => ∃ k : Nat, i = .int .i64 (k : Int) ∧ k ≤ n ∧ Hid (∀ j, j < k → ¬ L.getD j (0, 0, 0, 0) = t) ∧ Up (w.alloc (.cells #[.int .i64 t.1, .int .i64 t.2.1, .int .i64 t.2.2.1, .int .i64 t.2.2.2] 29)) wr) (fun i _ => n - (intOf i).toNat)
  case atStart => exact ⟨0, by rfl, Nat.zero_le _, fun j hj => absurd hj (Nat.not_lt_zero _), (by repeat (first | with_reducible exact Up.refl _ | with_reducible refine Up.alloc ?_ _ | with_reducible refine Up.drew ?_ | with_reducible refine Up.drewN ?_ _ | (with_reducible refine Up.setCell ?_ (by first | omega | (simp; done) | (simp; omega)) _) | with_reducible assumption | (with_reducible refine Up.trans ?_ (by with_reducible assumption))))⟩
  case round =>
    obtain ⟨k, rfl, hk, ha, hup⟩ := hrel
    have hupw : Up w wr := Up.trans (Up.alloc (Up.refl w) _) hup
    by_cases hk1 : k < n
    · obtain ⟨b, o, rfl, hb1, hb2, hcs⟩ := H.out (by omega)
      have hbs2 : b < wr.heap.size := Nat.lt_of_lt_of_le (by omega) hupw.size
      have hg0 : wr.cell? ⟨b, o + k * 4, none⟩ = some (.int .i64 (t4 (L.getD k (0, 0, 0, 0)) 0)) := (hupw.cells.1 _ _ (by omega)).trans (hcs k 0 hk1 (by omega))
      have hg1 : wr.cell? ⟨b, o + k * 4 + 1, none⟩ = some (.int .i64 (t4 (L.getD k (0, 0, 0, 0)) 1)) := (hupw.cells.1 _ _ (by omega)).trans (hcs k 1 hk1 (by omega))
      have hg2 : wr.cell? ⟨b, o + k * 4 + 2, none⟩ = some (.int .i64 (t4 (L.getD k (0, 0, 0, 0)) 2)) := (hupw.cells.1 _ _ (by omega)).trans (hcs k 2 hk1 (by omega))
      have hg3 : wr.cell? ⟨b, o + k * 4 + 3, none⟩ = some (.int .i64 (t4 (L.getD k (0, 0, 0, 0)) 3)) := (hupw.cells.1 _ _ (by omega)).trans (hcs k 3 hk1 (by omega))
      have hws : w.heap.size < wr.heap.size := Nat.lt_of_lt_of_le (by simp) hup.size
      have ht0 : wr.cell? ⟨w.heap.size, 0, none⟩ = some (.int .i64 t.1) := (hup.cells.1 _ _ (by simp)).trans (by simp [World.cell?_alloc_mark])
      have ht1 : wr.cell? ⟨w.heap.size, 1, none⟩ = some (.int .i64 t.2.1) := (hup.cells.1 _ _ (by simp)).trans (by simp [World.cell?_alloc_mark])
      have ht2 : wr.cell? ⟨w.heap.size, 2, none⟩ = some (.int .i64 t.2.2.1) := (hup.cells.1 _ _ (by simp)).trans (by simp [World.cell?_alloc_mark])
      have ht3 : wr.cell? ⟨w.heap.size, 3, none⟩ = some (.int .i64 t.2.2.2) := (hup.cells.1 _ _ (by simp)).trans (by simp [World.cell?_alloc_mark])
      clear hcs
      have hk2 : (k : Int) < (n : Int) := by omega
      have hE : ∀ W : World, (Go.binOp .eql 29 (.agg #[.int .i64 (t4 (L.getD k (0, 0, 0, 0)) 0), .int .i64 (t4 (L.getD k (0, 0, 0, 0)) 1), .int .i64 (t4 (L.getD k (0, 0, 0, 0)) 2), .int .i64 (t4 (L.getD k (0, 0, 0, 0)) 3)]) (.agg #[.int .i64 t.1, .int .i64 t.2.1, .int .i64 t.2.2.1, .int .i64 t.2.2.2])).run Try.prog W = .ok (.bool (decide (L.getD k (0, 0, 0, 0) = t))) W := fun W => by
        rw [eql_th]; congr 2; exact decide_eq_decide.2 (t4_ext _ _)
      by_cases hq : L.getD k (0, 0, 0, 0) = t
      · have hin := has_t (by rw [HLn.out]; exact hk1) hq
        have HI := Lib.hid hin
        
        clear hin
        rw [decide_eq_true hq] at hE
        have HQ := Lib.hid hq
        clear hq
        generalize L.getD k (0, 0, 0, 0) = x at *
        go_wp2_with fail
        (refine wp_region_up (by kernel_rfl) (by kernel_rfl) ?_; (repeat (refine wpQuiet_step (fun K hK => ?_); go_simp; first | (refine hK _ ?_; clear hK K) | (apply Exists.intro; refine ⟨fun wq hwq => ?_, hK _ ?_⟩; (obtain ⟨hcq, hfq⟩ := hwq.cells; (try go_simp); first | done | rfl | exact ⟨rfl, rfl⟩ | (fail)); clear hK K))); refine wpQuiet_nil ?_; intro w1 hb1; obtain ⟨hc1, hf1⟩ := hb1.cells; have hl1 := hb1.lt; have hle1 := hb1.le; have hs1 := hb1.size; (try simp at hs1); (try have hs1a : wr.heap.size < w1.heap.size := by omega); (try have hs1aa : wr.heap.size ≤ w1.heap.size := by omega); (try have hs1b : wr.heap.size + 1 < w1.heap.size := by omega); (try have hs1bb : wr.heap.size + 1 ≤ w1.heap.size := by omega); (try have hs1c : wr.heap.size + 1 + 1 < w1.heap.size := by omega); (try have hs1cc : wr.heap.size + 1 + 1 ≤ w1.heap.size := by omega); (try have hs1d : wr.heap.size + 1 + 1 + 1 < w1.heap.size := by omega); (try have hs1dd : wr.heap.size + 1 + 1 + 1 ≤ w1.heap.size := by omega); (try have hs1L := Nat.lt_of_succ_le hs1); (try have hs1M := Nat.lt_of_succ_lt hs1L); (try have hs1N := Nat.lt_of_succ_lt hs1M); (try have hs1LE := Nat.le_of_lt hs1L); (try have hs1ME := Nat.le_of_lt hs1M))
        go_wp2
        go_ret
        exact ⟨by rw [HI.out]; rfl, (by repeat (first | with_reducible exact Up.refl _ | with_reducible refine Up.alloc ?_ _ | with_reducible refine Up.drew ?_ | with_reducible refine Up.drewN ?_ _ | (with_reducible refine Up.setCell ?_ (by first | omega | (simp; done) | (simp; omega)) _) | with_reducible assumption | (with_reducible refine Up.trans ?_ (by with_reducible assumption))))⟩
      · rw [decide_eq_false hq] at hE
        have HQ : Hid (∀ j, j < k + 1 → ¬ L.getD j (0, 0, 0, 0) = t) := fun j hj => by
          by_cases e : j = k
          · rw [e]; exact hq
          · exact ha.out j (by omega)
        clear hq
        generalize L.getD k (0, 0, 0, 0) = x at hE hg0 hg1 hg2 hg3
        go_wp2_with fail
        (refine wp_region_up (by kernel_rfl) (by kernel_rfl) ?_; (repeat (refine wpQuiet_step (fun K hK => ?_); go_simp; first | (refine hK _ ?_; clear hK K) | (apply Exists.intro; refine ⟨fun wq hwq => ?_, hK _ ?_⟩; (obtain ⟨hcq, hfq⟩ := hwq.cells; (try go_simp); first | done | rfl | exact ⟨rfl, rfl⟩ | (fail)); clear hK K))); refine wpQuiet_nil ?_; intro w1 hb1; obtain ⟨hc1, hf1⟩ := hb1.cells; have hl1 := hb1.lt; have hle1 := hb1.le; have hs1 := hb1.size; (try simp at hs1); (try have hs1a : wr.heap.size < w1.heap.size := by omega); (try have hs1aa : wr.heap.size ≤ w1.heap.size := by omega); (try have hs1b : wr.heap.size + 1 < w1.heap.size := by omega); (try have hs1bb : wr.heap.size + 1 ≤ w1.heap.size := by omega); (try have hs1c : wr.heap.size + 1 + 1 < w1.heap.size := by omega); (try have hs1cc : wr.heap.size + 1 + 1 ≤ w1.heap.size := by omega); (try have hs1d : wr.heap.size + 1 + 1 + 1 < w1.heap.size := by omega); (try have hs1dd : wr.heap.size + 1 + 1 + 1 ≤ w1.heap.size := by omega); (try have hs1L := Nat.lt_of_succ_le hs1); (try have hs1M := Nat.lt_of_succ_lt hs1L); (try have hs1N := Nat.lt_of_succ_lt hs1M); (try have hs1LE := Nat.le_of_lt hs1L); (try have hs1ME := Nat.le_of_lt hs1M))
        go_wp2
        exact ⟨⟨k + 1, by rfl, by omega, HQ, (by repeat (first | with_reducible exact Up.refl _ | with_reducible refine Up.alloc ?_ _ | with_reducible refine Up.drew ?_ | with_reducible refine Up.drewN ?_ _ | (with_reducible refine Up.setCell ?_ (by first | omega | (simp; done) | (simp; omega)) _) | with_reducible assumption | (with_reducible refine Up.trans ?_ (by with_reducible assumption))))⟩, by simp only [intOf]; omega⟩
    · have hkk : k = n := by omega
      subst hkk
      have hin := has_f (L := L) (t := t) (by rw [HLn.out]; exact ha.out)
      have HI := Lib.hid hin
      clear hin
      go_wp2
      go_ret
      exact ⟨by rw [HI.out]; rfl, (by repeat (first | with_reducible exact Up.refl _ | with_reducible refine Up.alloc ?_ _ | with_reducible refine Up.drew ?_ | with_reducible refine Up.drewN ?_ _ | (with_reducible refine Up.setCell ?_ (by first | omega | (simp; done) | (simp; omega)) _) | with_reducible assumption | (with_reducible refine Up.trans ?_ (by with_reducible assumption))))⟩
set_option maxHeartbeats 1000000 in
set_option maxRecDepth 100000 in
theorem Index_any (L : List T4) (t : T4) (v : Value) (n lo hi : Nat) (w : World) (hL : L.length = n) (hs : Sl w lo hi 4 v n (thF L)) (hn : n ≤ 1048576) : Calls Try.prog 68 #[v, (.agg #[.int .i64 t.1, .int .i64 t.2.1, .int .i64 t.2.2.1, .int .i64 t.2.2.2])] w fun e w' => e = .returned (.int .i64 (ixL L t)) ∧ Up w w' := by
  obtain ⟨h0, A, c, rfl, hc, hx⟩ := hs
  have H := Lib.hid hx
  clear hx
  have HLn := Lib.hid hL
  clear hL
  go_enter Try.func68, Try.ntmps68
  go_wp2
  go_loopw [8] (fun i wr => ∃ k : Nat, i = .int .i64 (k : Int) ∧ k ≤ n ∧ Hid (∀ j, j < k → ¬ L.getD j (0, 0, 0, 0) = t) ∧ Up (w.alloc (.cells #[.int .i64 t.1, .int .i64 t.2.1, .int .i64 t.2.2.1, .int .i64 t.2.2.2] 29)) wr) (fun i _ => n - (intOf i).toNat)
  case atStart => exact ⟨0, by rfl, Nat.zero_le _, fun j hj => absurd hj (Nat.not_lt_zero _), (by repeat (first | with_reducible exact Up.refl _ | with_reducible refine Up.alloc ?_ _ | with_reducible refine Up.drew ?_ | with_reducible refine Up.drewN ?_ _ | (with_reducible refine Up.setCell ?_ (by first | omega | (simp; done) | (simp; omega)) _) | with_reducible assumption | (with_reducible refine Up.trans ?_ (by with_reducible assumption))))⟩
  case round =>
    obtain ⟨k, rfl, hk, ha, hup⟩ := hrel
    have hupw : Up w wr := Up.trans (Up.alloc (Up.refl w) _) hup
    by_cases hk1 : k < n
    · obtain ⟨b, o, rfl, hb1, hb2, hcs⟩ := H.out (by omega)
      have hbs2 : b < wr.heap.size := Nat.lt_of_lt_of_le (by omega) hupw.size
      have hg0 : wr.cell? ⟨b, o + k * 4, none⟩ = some (.int .i64 (t4 (L.getD k (0, 0, 0, 0)) 0)) := (hupw.cells.1 _ _ (by omega)).trans (hcs k 0 hk1 (by omega))
      have hg1 : wr.cell? ⟨b, o + k * 4 + 1, none⟩ = some (.int .i64 (t4 (L.getD k (0, 0, 0, 0)) 1)) := (hupw.cells.1 _ _ (by omega)).trans (hcs k 1 hk1 (by omega))
      have hg2 : wr.cell? ⟨b, o + k * 4 + 2, none⟩ = some (.int .i64 (t4 (L.getD k (0, 0, 0, 0)) 2)) := (hupw.cells.1 _ _ (by omega)).trans (hcs k 2 hk1 (by omega))
      have hg3 : wr.cell? ⟨b, o + k * 4 + 3, none⟩ = some (.int .i64 (t4 (L.getD k (0, 0, 0, 0)) 3)) := (hupw.cells.1 _ _ (by omega)).trans (hcs k 3 hk1 (by omega))
      have hws : w.heap.size < wr.heap.size := Nat.lt_of_lt_of_le (by simp) hup.size
      have ht0 : wr.cell? ⟨w.heap.size, 0, none⟩ = some (.int .i64 t.1) := (hup.cells.1 _ _ (by simp)).trans (by simp [World.cell?_alloc_mark])
      have ht1 : wr.cell? ⟨w.heap.size, 1, none⟩ = some (.int .i64 t.2.1) := (hup.cells.1 _ _ (by simp)).trans (by simp [World.cell?_alloc_mark])
      have ht2 : wr.cell? ⟨w.heap.size, 2, none⟩ = some (.int .i64 t.2.2.1) := (hup.cells.1 _ _ (by simp)).trans (by simp [World.cell?_alloc_mark])
      have ht3 : wr.cell? ⟨w.heap.size, 3, none⟩ = some (.int .i64 t.2.2.2) := (hup.cells.1 _ _ (by simp)).trans (by simp [World.cell?_alloc_mark])
      clear hcs
      have hk2 : (k : Int) < (n : Int) := by omega
      have hE : ∀ W : World, (Go.binOp .eql 29 (.agg #[.int .i64 t.1, .int .i64 t.2.1, .int .i64 t.2.2.1, .int .i64 t.2.2.2]) (.agg #[.int .i64 (t4 (L.getD k (0, 0, 0, 0)) 0), .int .i64 (t4 (L.getD k (0, 0, 0, 0)) 1), .int .i64 (t4 (L.getD k (0, 0, 0, 0)) 2), .int .i64 (t4 (L.getD k (0, 0, 0, 0)) 3)])).run Try.prog W = .ok (.bool (decide (L.getD k (0, 0, 0, 0) = t))) W := fun W => by
        rw [eql_th]; congr 2; exact decide_eq_decide.2 (by rw [← t4_ext]; exact ⟨fun ⟨a, b, c, d⟩ => ⟨a.symm, b.symm, c.symm, d.symm⟩, fun ⟨a, b, c, d⟩ => ⟨a.symm, b.symm, c.symm, d.symm⟩⟩)
      by_cases hq : L.getD k (0, 0, 0, 0) = t
      · have hin := has_t (by rw [HLn.out]; exact hk1) hq
        have HI := Lib.hid hin
        have HJ := Lib.hid (ix_at (L := L) (t := t) (by rw [HLn.out]; exact hk1) hq ha.out)
        clear hin
        rw [decide_eq_true hq] at hE
        have HQ := Lib.hid hq
        clear hq
        generalize L.getD k (0, 0, 0, 0) = x at *
        go_wp2_with fail
        (refine wp_region_up (by kernel_rfl) (by kernel_rfl) ?_; (repeat (refine wpQuiet_step (fun K hK => ?_); go_simp; first | (refine hK _ ?_; clear hK K) | (apply Exists.intro; refine ⟨fun wq hwq => ?_, hK _ ?_⟩; (obtain ⟨hcq, hfq⟩ := hwq.cells; (try go_simp); first | done | rfl | exact ⟨rfl, rfl⟩ | (fail)); clear hK K))); refine wpQuiet_nil ?_; intro w1 hb1; obtain ⟨hc1, hf1⟩ := hb1.cells; have hl1 := hb1.lt; have hle1 := hb1.le; have hs1 := hb1.size; (try simp at hs1); (try have hs1a : wr.heap.size < w1.heap.size := by omega); (try have hs1aa : wr.heap.size ≤ w1.heap.size := by omega); (try have hs1b : wr.heap.size + 1 < w1.heap.size := by omega); (try have hs1bb : wr.heap.size + 1 ≤ w1.heap.size := by omega); (try have hs1c : wr.heap.size + 1 + 1 < w1.heap.size := by omega); (try have hs1cc : wr.heap.size + 1 + 1 ≤ w1.heap.size := by omega); (try have hs1d : wr.heap.size + 1 + 1 + 1 < w1.heap.size := by omega); (try have hs1dd : wr.heap.size + 1 + 1 + 1 ≤ w1.heap.size := by omega); (try have hs1L := Nat.lt_of_succ_le hs1); (try have hs1M := Nat.lt_of_succ_lt hs1L); (try have hs1N := Nat.lt_of_succ_lt hs1M); (try have hs1LE := Nat.le_of_lt hs1L); (try have hs1ME := Nat.le_of_lt hs1M))
        go_wp2
        go_ret
        exact ⟨by rw [HJ.out]; rfl, (by repeat (first | with_reducible exact Up.refl _ | with_reducible refine Up.alloc ?_ _ | with_reducible refine Up.drew ?_ | with_reducible refine Up.drewN ?_ _ | (with_reducible refine Up.setCell ?_ (by first | omega | (simp; done) | (simp; omega)) _) | with_reducible assumption | (with_reducible refine Up.trans ?_ (by with_reducible assumption))))⟩
      · rw [decide_eq_false hq] at hE
        have HQ : Hid (∀ j, j < k + 1 → ¬ L.getD j (0, 0, 0, 0) = t) := fun j hj => by
          by_cases e : j = k
          · rw [e]; exact hq
          · exact ha.out j (by omega)
        clear hq
        generalize L.getD k (0, 0, 0, 0) = x at hE hg0 hg1 hg2 hg3
        go_wp2_with fail
        (refine wp_region_up (by kernel_rfl) (by kernel_rfl) ?_; (repeat (refine wpQuiet_step (fun K hK => ?_); go_simp; first | (refine hK _ ?_; clear hK K) | (apply Exists.intro; refine ⟨fun wq hwq => ?_, hK _ ?_⟩; (obtain ⟨hcq, hfq⟩ := hwq.cells; (try go_simp); first | done | rfl | exact ⟨rfl, rfl⟩ | (fail)); clear hK K))); refine wpQuiet_nil ?_; intro w1 hb1; obtain ⟨hc1, hf1⟩ := hb1.cells; have hl1 := hb1.lt; have hle1 := hb1.le; have hs1 := hb1.size; (try simp at hs1); (try have hs1a : wr.heap.size < w1.heap.size := by omega); (try have hs1aa : wr.heap.size ≤ w1.heap.size := by omega); (try have hs1b : wr.heap.size + 1 < w1.heap.size := by omega); (try have hs1bb : wr.heap.size + 1 ≤ w1.heap.size := by omega); (try have hs1c : wr.heap.size + 1 + 1 < w1.heap.size := by omega); (try have hs1cc : wr.heap.size + 1 + 1 ≤ w1.heap.size := by omega); (try have hs1d : wr.heap.size + 1 + 1 + 1 < w1.heap.size := by omega); (try have hs1dd : wr.heap.size + 1 + 1 + 1 ≤ w1.heap.size := by omega); (try have hs1L := Nat.lt_of_succ_le hs1); (try have hs1M := Nat.lt_of_succ_lt hs1L); (try have hs1N := Nat.lt_of_succ_lt hs1M); (try have hs1LE := Nat.le_of_lt hs1L); (try have hs1ME := Nat.le_of_lt hs1M))
        go_wp2
        exact ⟨⟨k + 1, by rfl, by omega, HQ, (by repeat (first | with_reducible exact Up.refl _ | with_reducible refine Up.alloc ?_ _ | with_reducible refine Up.drew ?_ | with_reducible refine Up.drewN ?_ _ | (with_reducible refine Up.setCell ?_ (by first | omega | (simp; done) | (simp; omega)) _) | with_reducible assumption | (with_reducible refine Up.trans ?_ (by with_reducible assumption))))⟩, by simp only [intOf]; omega⟩
    · have hkk : k = n := by omega
      subst hkk
      have hin := has_f (L := L) (t := t) (by rw [HLn.out]; exact ha.out)
      have HI := Lib.hid hin
      clear hin
      go_wp2
      go_ret
      exact ⟨by rw [ixL, HI.out]; rfl, (by repeat (first | with_reducible exact Up.refl _ | with_reducible refine Up.alloc ?_ _ | with_reducible refine Up.drew ?_ | with_reducible refine Up.drewN ?_ _ | (with_reducible refine Up.setCell ?_ (by first | omega | (simp; done) | (simp; omega)) _) | with_reducible assumption | (with_reducible refine Up.trans ?_ (by with_reducible assumption))))⟩
set_option maxRecDepth 100000 in
theorem Contains_any (L : List T4) (t : T4) (v : Value) (n lo hi : Nat) (w : World) (hL : L.length = n) (hs : Sl w lo hi 4 v n (thF L)) (hn : n ≤ 1048576) : Calls Try.prog 35 #[v, (.agg #[.int .i64 t.1, .int .i64 t.2.1, .int .i64 t.2.2.1, .int .i64 t.2.2.2])] w fun e w' => e = .returned (.bool (L.contains t)) ∧ Up w w' := by
  have HS := hs
  obtain ⟨hz, A, c, rfl, hc, hx⟩ := HS
  have HGE := Lib.hid (ix_ge L t)
  have hI : ∀ W, Sl W lo hi 4 (.slice A n c) n (thF L) → Calls Try.prog 68 #[.slice A n c, (.agg #[.int .i64 t.1, .int .i64 t.2.1, .int .i64 t.2.2.1, .int .i64 t.2.2.2])] W fun e w' => e = .returned (.int .i64 (ixL L t)) ∧ Up W w' := fun W h => Index_any L t _ n lo hi W hL h hn
  clear hx hL
  generalize ixL L t = x at *
  go_enter Try.func35, Try.ntmps35
  go_wp2_with fail
  (go_at_call 68; (with_reducible refine (hI _ (hs.up (by repeat (first | with_reducible exact Up.refl _ | with_reducible refine Up.alloc ?_ _ | with_reducible refine Up.drew ?_ | with_reducible refine Up.drewN ?_ _ | (with_reducible refine Up.setCell ?_ (by first | omega | (simp; done) | (simp; omega)) _) | with_reducible assumption | (with_reducible refine Up.trans ?_ (by with_reducible assumption)))))).mono ?_); rintro e w1 ⟨rfl, hb1⟩)
  go_wp2
  go_ret
  exact ⟨by rw [← HGE.out]; rfl, (by repeat (first | with_reducible exact Up.refl _ | with_reducible refine Up.alloc ?_ _ | with_reducible refine Up.drew ?_ | with_reducible refine Up.drewN ?_ _ | (with_reducible refine Up.setCell ?_ (by first | omega | (simp; done) | (simp; omega)) _) | with_reducible assumption | (with_reducible refine Up.trans ?_ (by with_reducible assumption))))⟩
end Go.Proofs.Ytaealkfnhhmmcaa
