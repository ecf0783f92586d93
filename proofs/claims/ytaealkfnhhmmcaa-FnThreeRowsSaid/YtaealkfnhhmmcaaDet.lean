/- The walks of rows and determinants: each returns what the plain function gives. No condition. -/
import Derived.Test.YtaealkfnhhmmcaaThr2
import Derived.Test.YtaealkfnhhmmcaaWrap
import Derived.Deep.DrawnRows
namespace Go.Proofs.Ytaealkfnhhmmcaa
open Go.RowKit
set_option linter.unusedVariables false
theorem rowsOk_any (l : List R4) (b cap : Nat) (w : World) (hr : RowsAt w b l) (hb : b < w.heap.size) (hl : l.length ≤ 2000000) :
    Calls Try.prog 22 #[.slice (some ⟨b, 0, none⟩) l.length cap] w fun e w' => e = .returned (.bool (rowsB l)) ∧ Up w w' := by
  have HR := Lib.hid hr
  clear hr
  go_enter Try.func22, Try.ntmps22
  go_wp2
  go_loopw [7] (fun i wr => ∃ k : Nat, k ≤ l.length ∧ i = .int .i64 k ∧ Hid (∀ j, j < k → (l.getD j R4.z).ok = true) ∧ Up w wr) (fun i _ => l.length - (intOf i).toNat)
  case atStart => exact ⟨0, Nat.zero_le _, rfl, fun j hj => by omega, Up.refl _⟩
  case round =>
    obtain ⟨k, hk, rfl, hall, hup⟩ := hrel
    have hbr : b < wr.heap.size := Nat.lt_of_lt_of_le hb hup.size
    by_cases hlt : k < l.length
    · obtain ⟨q1, q2, q3, q4⟩ := (HR.out.up hup hb) k hlt
      generalize hx : l.getD k R4.z = x at *
      have HX := Lib.hid hx
      clear hx
      by_cases hok : rowB x.a x.b x.c x.d = true
      · go_wp2_with (go_at_call 8; (with_reducible refine (RowOk_any _ _ _ _ _).mono ?_); rintro e w1 ⟨rfl, hb1⟩; obtain ⟨hc1, hf1⟩ := hb1.cells; have hl1 := hb1.lt; have hle1 := hb1.le; have hs1 := hb1.size; (try simp at hs1); (try have hs1a : w.heap.size < w1.heap.size := by omega); (try have hs1aa : w.heap.size ≤ w1.heap.size := by omega); (try have hs1b : w.heap.size + 1 < w1.heap.size := by omega); (try have hs1bb : w.heap.size + 1 ≤ w1.heap.size := by omega); (try have hs1c : w.heap.size + 1 + 1 < w1.heap.size := by omega); (try have hs1cc : w.heap.size + 1 + 1 ≤ w1.heap.size := by omega); (try have hs1d : w.heap.size + 1 + 1 + 1 < w1.heap.size := by omega); (try have hs1dd : w.heap.size + 1 + 1 + 1 ≤ w1.heap.size := by omega); (try have hs1L := Nat.lt_of_succ_le hs1); (try have hs1M := Nat.lt_of_succ_lt hs1L); (try have hs1N := Nat.lt_of_succ_lt hs1M); (try have hs1LE := Nat.le_of_lt hs1L); (try have hs1ME := Nat.le_of_lt hs1M))
        go_roundw
        case rel => exact ⟨k + 1, by omega, by go_num, fun j hj => by
          rcases Nat.lt_succ_iff_lt_or_eq.1 hj with h | h
          · exact hall.out j h
          · subst h; rw [HX.out]; exact hok, hup.trans (by repeat (first | with_reducible exact Up.refl _ | with_reducible refine Up.alloc ?_ _ | with_reducible refine Up.drew ?_ | with_reducible refine Up.drewN ?_ _ | (with_reducible refine Up.setCell ?_ (by first | omega | (simp; done) | (simp; omega)) _) | with_reducible assumption | (with_reducible refine Up.trans ?_ (by with_reducible assumption))))⟩
        case measure => simp [intOf]; omega
      · go_wp2_with (go_at_call 8; (with_reducible refine (RowOk_any _ _ _ _ _).mono ?_); rintro e w1 ⟨rfl, hb1⟩; obtain ⟨hc1, hf1⟩ := hb1.cells; have hl1 := hb1.lt; have hle1 := hb1.le; have hs1 := hb1.size; (try simp at hs1); (try have hs1a : w.heap.size < w1.heap.size := by omega); (try have hs1aa : w.heap.size ≤ w1.heap.size := by omega); (try have hs1b : w.heap.size + 1 < w1.heap.size := by omega); (try have hs1bb : w.heap.size + 1 ≤ w1.heap.size := by omega); (try have hs1c : w.heap.size + 1 + 1 < w1.heap.size := by omega); (try have hs1cc : w.heap.size + 1 + 1 ≤ w1.heap.size := by omega); (try have hs1d : w.heap.size + 1 + 1 + 1 < w1.heap.size := by omega); (try have hs1dd : w.heap.size + 1 + 1 + 1 ≤ w1.heap.size := by omega); (try have hs1L := Nat.lt_of_succ_le hs1); (try have hs1M := Nat.lt_of_succ_lt hs1L); (try have hs1N := Nat.lt_of_succ_lt hs1M); (try have hs1LE := Nat.le_of_lt hs1L); (try have hs1ME := Nat.le_of_lt hs1M))
        go_ret
        have hf : rowsB l = false := rowsB_false hlt (by rw [HX.out]; simpa [R4.ok] using hok)
        exact ⟨by rw [hf]; rfl, hup.trans (by repeat (first | with_reducible exact Up.refl _ | with_reducible refine Up.alloc ?_ _ | with_reducible refine Up.drew ?_ | with_reducible refine Up.drewN ?_ _ | (with_reducible refine Up.setCell ?_ (by first | omega | (simp; done) | (simp; omega)) _) | with_reducible assumption | (with_reducible refine Up.trans ?_ (by with_reducible assumption))))⟩
    · obtain rfl : k = l.length := by omega
      go_wp2
      go_ret
      exact ⟨by rw [rowsB_true hall.out]; rfl, hup⟩
theorem new_cells (w : World) (b : Nat) (hb : b < w.heap.size) (o : Nat) (c : Array Value) (t : TypeId) : (w.alloc (.cells c t)).cell? ⟨b, o, none⟩ = w.cell? ⟨b, o, none⟩ := World.cell?_alloc_lt w _ _ hb
theorem set_far {w w0 : World} {n : Nat} {p : Addr} {v : Value} (h : ∀ b o, b < n → w.cell? ⟨b, o, none⟩ = w0.cell? ⟨b, o, none⟩) (hp : n ≤ p.block) : ∀ b o, b < n → (w.setCell p v).cell? ⟨b, o, none⟩ = w0.cell? ⟨b, o, none⟩ := by
  intro b o hb
  refine (World.cell?_setCell_other _ _ _ _ ?_).trans (h b o hb)
  rintro rfl
  simp at hp; omega
theorem drew_far {w w0 : World} {n : Nat} (h : ∀ b o, b < n → w.cell? ⟨b, o, none⟩ = w0.cell? ⟨b, o, none⟩) : ∀ b o, b < n → w.drew.cell? ⟨b, o, none⟩ = w0.cell? ⟨b, o, none⟩ := h
attribute [local go_sem ↓] Go.wp_at_zero Go.wp_at_succ
set_option maxRecDepth 100000 in
set_option maxHeartbeats 4000000 in
theorem columnsOf_any (a b c d e f g h i j k l : Int) (w : World) : Calls Try.prog 19 #[.agg #[.int .i64 a, .int .i64 b, .int .i64 c, .int .i64 d], .agg #[.int .i64 e, .int .i64 f, .int .i64 g, .int .i64 h], .agg #[.int .i64 i, .int .i64 j, .int .i64 k, .int .i64 l]] w fun en w' =>
    en = .returned (.tuple #[.agg #[.int .i64 a, .int .i64 e, .int .i64 i], .agg #[.int .i64 b, .int .i64 f, .int .i64 j], .agg #[.int .i64 c, .int .i64 g, .int .i64 k], .agg #[.int .i64 d, .int .i64 h, .int .i64 l]]) ∧ Up w w' := by
  go_enter Try.func19, Try.ntmps19
  go_wp2
  generalize hW : (((((((World.alloc w _).alloc _).alloc _).alloc _).alloc _).alloc _).alloc _) = W
  have q0 : W.cell? ⟨w.heap.size, 0, none⟩ = some (.int .i64 a) := by subst hW; go_simp
  have q1 : W.cell? ⟨w.heap.size, 1, none⟩ = some (.int .i64 b) := by subst hW; go_simp
  have q2 : W.cell? ⟨w.heap.size, 2, none⟩ = some (.int .i64 c) := by subst hW; go_simp
  have q3 : W.cell? ⟨w.heap.size, 3, none⟩ = some (.int .i64 d) := by subst hW; go_simp
  have q4 : W.cell? ⟨w.heap.size + 1, 0, none⟩ = some (.int .i64 e) := by subst hW; go_simp
  have q5 : W.cell? ⟨w.heap.size + 1, 1, none⟩ = some (.int .i64 f) := by subst hW; go_simp
  have q6 : W.cell? ⟨w.heap.size + 1, 2, none⟩ = some (.int .i64 g) := by subst hW; go_simp
  have q7 : W.cell? ⟨w.heap.size + 1, 3, none⟩ = some (.int .i64 h) := by subst hW; go_simp
  have q8 : W.cell? ⟨w.heap.size + 1 + 1, 0, none⟩ = some (.int .i64 i) := by subst hW; go_simp
  have q9 : W.cell? ⟨w.heap.size + 1 + 1, 1, none⟩ = some (.int .i64 j) := by subst hW; go_simp
  have q10 : W.cell? ⟨w.heap.size + 1 + 1, 2, none⟩ = some (.int .i64 k) := by subst hW; go_simp
  have q11 : W.cell? ⟨w.heap.size + 1 + 1, 3, none⟩ = some (.int .i64 l) := by subst hW; go_simp
  have z0 : ∀ o, o < 3 → W.cell? ⟨w.heap.size + 1 + 1 + 1, o, none⟩ = some (.int .i64 0) := by
    subst hW; intro o ho
    match o, ho with
    | 0, _ => go_simp
    | 1, _ => go_simp
    | 2, _ => go_simp
  have y0 : ∀ o, W.frozen? ⟨w.heap.size + 1 + 1 + 1, o, none⟩ = false := by subst hW; intro o; go_simp
  have z1 : ∀ o, o < 3 → W.cell? ⟨w.heap.size + 1 + 1 + 1 + 1, o, none⟩ = some (.int .i64 0) := by
    subst hW; intro o ho
    match o, ho with
    | 0, _ => go_simp
    | 1, _ => go_simp
    | 2, _ => go_simp
  have y1 : ∀ o, W.frozen? ⟨w.heap.size + 1 + 1 + 1 + 1, o, none⟩ = false := by subst hW; intro o; go_simp
  have z2 : ∀ o, o < 3 → W.cell? ⟨w.heap.size + 1 + 1 + 1 + 1 + 1, o, none⟩ = some (.int .i64 0) := by
    subst hW; intro o ho
    match o, ho with
    | 0, _ => go_simp
    | 1, _ => go_simp
    | 2, _ => go_simp
  have y2 : ∀ o, W.frozen? ⟨w.heap.size + 1 + 1 + 1 + 1 + 1, o, none⟩ = false := by subst hW; intro o; go_simp
  have z3 : ∀ o, o < 3 → W.cell? ⟨w.heap.size + 1 + 1 + 1 + 1 + 1 + 1, o, none⟩ = some (.int .i64 0) := by
    subst hW; intro o ho
    match o, ho with
    | 0, _ => go_simp
    | 1, _ => go_simp
    | 2, _ => go_simp
  have y3 : ∀ o, W.frozen? ⟨w.heap.size + 1 + 1 + 1 + 1 + 1 + 1, o, none⟩ = false := by subst hW; intro o; go_simp
  have hu : Up w W := by subst hW; exact (by repeat (first | with_reducible exact Up.refl _ | with_reducible refine Up.alloc ?_ _ | with_reducible refine Up.drew ?_ | with_reducible refine Up.drewN ?_ _ | (with_reducible refine Up.setCell ?_ (by first | omega | (simp; done) | (simp; omega)) _) | with_reducible assumption | (with_reducible refine Up.trans ?_ (by with_reducible assumption))))
  clear hW
  go_region_held3 (fun w' => ∀ b o, b < w.heap.size + 1 + 1 + 1 → w'.cell? ⟨b, o, none⟩ = W.cell? ⟨b, o, none⟩) (repeat (first | with_reducible refine drew_far ?_ | with_reducible refine set_far ?_ (by simp) | with_reducible assumption | with_reducible exact fun _ _ _ => rfl)) (fail)
  all_goals go_wp2
  all_goals exact bodyPost_ret (v := .tuple #[.agg #[.int .i64 a, .int .i64 e, .int .i64 i], .agg #[.int .i64 b, .int .i64 f, .int .i64 j], .agg #[.int .i64 c, .int .i64 g, .int .i64 k], .agg #[.int .i64 d, .int .i64 h, .int .i64 l]]) (by simp [results, Try.results19, go_sem, *]) rfl ⟨rfl, (by repeat (first | with_reducible exact Up.refl _ | with_reducible refine Up.alloc ?_ _ | with_reducible refine Up.drew ?_ | with_reducible refine Up.drewN ?_ _ | (with_reducible refine Up.setCell ?_ (by first | omega | (simp; done) | (simp; omega)) _) | with_reducible assumption | (with_reducible refine Up.trans ?_ (by with_reducible assumption))))⟩
theorem determinant_any (a1 a2 a3 b1 b2 b3 c1 c2 c3 : Int) (w : World) (hd : I64 (detI a1 a2 a3 b1 b2 b3 c1 c2 c3)) :
    Calls Try.prog 21 #[.agg #[.int .i64 a1, .int .i64 a2, .int .i64 a3], .agg #[.int .i64 b1, .int .i64 b2, .int .i64 b3], .agg #[.int .i64 c1, .int .i64 c2, .int .i64 c3]] w fun e w' => e = .returned (.int .i64 (detI a1 a2 a3 b1 b2 b3 c1 c2 c3)) ∧ Up w w' := by
  go_enter Try.func21, Try.ntmps21
  go_wp2
  go_ret
  refine ⟨ret_int ?_, (by repeat (first | with_reducible exact Up.refl _ | with_reducible refine Up.alloc ?_ _ | with_reducible refine Up.drew ?_ | with_reducible refine Up.drewN ?_ _ | (with_reducible refine Up.setCell ?_ (by first | omega | (simp; done) | (simp; omega)) _) | with_reducible assumption | (with_reducible refine Up.trans ?_ (by with_reducible assumption))))⟩
  simp only [w64_add_l, w64_add_r, w64_sub_l, w64_sub_r, w64_mul_r]
  exact IntWalk.wrap64_in _ hd
theorem l11Det_any (a1 a2 a3 b1 b2 b3 c1 c2 c3 : Int) (w : World) (hd : I64 (detI a1 a2 a3 b1 b2 b3 c1 c2 c3)) :
    Calls Try.prog 70 #[.agg #[.int .i64 a1, .int .i64 a2, .int .i64 a3], .agg #[.int .i64 b1, .int .i64 b2, .int .i64 b3], .agg #[.int .i64 c1, .int .i64 c2, .int .i64 c3]] w fun e w' => e = .returned (.int .i64 (detI a1 a2 a3 b1 b2 b3 c1 c2 c3)) ∧ Up w w' := by
  go_enter Try.func70, Try.ntmps70
  go_wp2
  go_ret
  refine ⟨ret_int ?_, (by repeat (first | with_reducible exact Up.refl _ | with_reducible refine Up.alloc ?_ _ | with_reducible refine Up.drew ?_ | with_reducible refine Up.drewN ?_ _ | (with_reducible refine Up.setCell ?_ (by first | omega | (simp; done) | (simp; omega)) _) | with_reducible assumption | (with_reducible refine Up.trans ?_ (by with_reducible assumption))))⟩
  simp only [w64_add_l, w64_add_r, w64_sub_l, w64_sub_r, w64_mul_r]
  exact IntWalk.wrap64_in _ hd
theorem l11Line_any (a b c d : Int) (w : World) : Calls Try.prog 86 #[.agg #[.int .i64 a, .int .i64 b, .int .i64 c, .int .i64 d]] w fun e w' => e = .returned (.agg #[.int .i64 a, .int .i64 b, .int .i64 c]) ∧ Up w w' := by
  go_enter Try.func86, Try.ntmps86
  go_wp2
  exact bodyPost_ret (v := .agg #[.int .i64 a, .int .i64 b, .int .i64 c]) (by simp [results, Try.results86, go_sem]) rfl ⟨rfl, (by repeat (first | with_reducible exact Up.refl _ | with_reducible refine Up.alloc ?_ _ | with_reducible refine Up.drew ?_ | with_reducible refine Up.drewN ?_ _ | (with_reducible refine Up.setCell ?_ (by first | omega | (simp; done) | (simp; omega)) _) | with_reducible assumption | (with_reducible refine Up.trans ?_ (by with_reducible assumption))))⟩
end Go.Proofs.Ytaealkfnhhmmcaa
