/- The laws on MixThrusts and SolveRows: each returns true. No condition. -/
import Derived.Test.YtamgomdhjapfeaaLb
import Derived.Deep.DeepCutAuto
namespace Go.Proofs.Ytamgomdhjapfeaa
open Go.RowKit
set_option linter.unusedVariables false
set_option maxRecDepth 100000 in
set_option maxHeartbeats 4000000 in
theorem law_SolveRows (a b c d e f g h i j k l : Int) (w : World) (h0 : I64 a) (h1 : I64 b) (h2 : I64 c) (h3 : I64 d) (h4 : I64 e) (h5 : I64 f) (h6 : I64 g) (h7 : I64 h) (h8 : I64 i) (h9 : I64 j) (h10 : I64 k) (h11 : I64 l) :
    Calls Try.prog 16 #[.agg #[.int .i64 a, .int .i64 b, .int .i64 c, .int .i64 d], .agg #[.int .i64 e, .int .i64 f, .int .i64 g, .int .i64 h], .agg #[.int .i64 i, .int .i64 j, .int .i64 k, .int .i64 l]] w fun e w' => e = .returned (.bool true) ∧ Up w w' := by
  clear h0 h1 h2 h3 h4 h5 h6 h7 h8 h9 h10 h11
  go_enter Try.func16, Try.ntmps16
  go_wp2_with fail
  generalize hW : (((World.alloc w _).alloc _).alloc _) = w0
  have q00 : w0.cell? ⟨w.heap.size, 0, none⟩ = some (.int .i64 a) := by subst hW; go_simp
  have q01 : w0.cell? ⟨w.heap.size, 1, none⟩ = some (.int .i64 b) := by subst hW; go_simp
  have q02 : w0.cell? ⟨w.heap.size, 2, none⟩ = some (.int .i64 c) := by subst hW; go_simp
  have q03 : w0.cell? ⟨w.heap.size, 3, none⟩ = some (.int .i64 d) := by subst hW; go_simp
  have q10 : w0.cell? ⟨w.heap.size + 1, 0, none⟩ = some (.int .i64 e) := by subst hW; go_simp
  have q11 : w0.cell? ⟨w.heap.size + 1, 1, none⟩ = some (.int .i64 f) := by subst hW; go_simp
  have q12 : w0.cell? ⟨w.heap.size + 1, 2, none⟩ = some (.int .i64 g) := by subst hW; go_simp
  have q13 : w0.cell? ⟨w.heap.size + 1, 3, none⟩ = some (.int .i64 h) := by subst hW; go_simp
  have q20 : w0.cell? ⟨w.heap.size + 1 + 1, 0, none⟩ = some (.int .i64 i) := by subst hW; go_simp
  have q21 : w0.cell? ⟨w.heap.size + 1 + 1, 1, none⟩ = some (.int .i64 j) := by subst hW; go_simp
  have q22 : w0.cell? ⟨w.heap.size + 1 + 1, 2, none⟩ = some (.int .i64 k) := by subst hW; go_simp
  have q23 : w0.cell? ⟨w.heap.size + 1 + 1, 3, none⟩ = some (.int .i64 l) := by subst hW; go_simp
  have hu : Up w w0 := by subst hW; exact (by repeat (first | with_reducible exact Up.refl _ | with_reducible refine Up.alloc ?_ _ | with_reducible refine Up.drew ?_ | with_reducible refine Up.drewN ?_ _ | (with_reducible refine Up.setCell ?_ (by first | omega | (simp; done) | (simp; omega)) _) | with_reducible assumption | (with_reducible refine Up.trans ?_ (by with_reducible assumption))))
  have hsz : w0.heap.size = w.heap.size + 1 + 1 + 1 := by subst hW; simp
  have m0 : w.heap.size < w0.heap.size := by omega
  have m1 : w.heap.size + 1 < w0.heap.size := by omega
  have m2 : w.heap.size + 1 + 1 < w0.heap.size := by omega
  clear hW hsz
  go_cut [7, 8] (fun p o wr => ∃ bk, p = .pointer (some ⟨bk, 0, none⟩) ∧ o = .bool (slB a b c d e f g h i j k l) ∧ bk < wr.heap.size ∧ w0.heap.size ≤ bk ∧ wr.cell? ⟨bk, 0, none⟩ = some (.int .i64 (slP 0 a b c d e f g h i j k l)) ∧ wr.cell? ⟨bk, 1, none⟩ = some (.int .i64 (slP 1 a b c d e f g h i j k l)) ∧ wr.cell? ⟨bk, 2, none⟩ = some (.int .i64 (slP 2 a b c d e f g h i j k l)) ∧ wr.cell? ⟨bk, 3, none⟩ = some (.int .i64 (slP 3 a b c d e f g h i j k l)) ∧ Up w0 wr)
  case first =>
    have tok1 : True := trivial
    have tok2 : True := trivial
    have tok3 : True := trivial
    have tok4 : True := trivial
    go_region_held3 (fun w' => (∀ b o, b < w0.heap.size → w'.cell? ⟨b, o, none⟩ = w0.cell? ⟨b, o, none⟩) ∧ w0.heap.size ≤ w'.heap.size) (repeat (first | with_reducible refine kp_drew ?_ | with_reducible refine kp_set ?_ (by first | omega | (simp; done) | (simp; omega)) | with_reducible refine kp_alloc ?_ _ | with_reducible assumption | with_reducible exact kp_start _ | with_reducible refine kp_up ?_ (by assumption))) (first | (go_at_call 31; clear tok1; (with_reducible refine (toRow_any _ _ _ _ _).mono ?_); rintro e w1 ⟨rfl, hb1⟩; obtain ⟨hc1, hf1⟩ := hb1.cells; have hs1 := hb1.size; (try simp at hs1); (try have hs1_0a : w0.heap.size < w1.heap.size := by omega); (try have hs1_0a' : w0.heap.size ≤ w1.heap.size := by omega)) | (go_at_call 31; clear tok2; (with_reducible refine (toRow_any _ _ _ _ _).mono ?_); rintro e w2 ⟨rfl, hb2⟩; obtain ⟨hc2, hf2⟩ := hb2.cells; have hs2 := hb2.size; (try simp at hs2); (try have hs2_0a : w0.heap.size < w2.heap.size := by omega); (try have hs2_0a' : w0.heap.size ≤ w2.heap.size := by omega); (try have hs2_1a : w1.heap.size < w2.heap.size := by omega); (try have hs2_1a' : w1.heap.size ≤ w2.heap.size := by omega)) | (go_at_call 31; clear tok3; (with_reducible refine (toRow_any _ _ _ _ _).mono ?_); rintro e w3 ⟨rfl, hb3⟩; obtain ⟨hc3, hf3⟩ := hb3.cells; have hs3 := hb3.size; (try simp at hs3); (try have hs3_0a : w0.heap.size < w3.heap.size := by omega); (try have hs3_0a' : w0.heap.size ≤ w3.heap.size := by omega); (try have hs3_1a : w1.heap.size < w3.heap.size := by omega); (try have hs3_1a' : w1.heap.size ≤ w3.heap.size := by omega); (try have hs3_2a : w2.heap.size < w3.heap.size := by omega); (try have hs3_2a' : w2.heap.size ≤ w3.heap.size := by omega)) | (go_at_call 58; clear tok4; (with_reducible refine (sSolveRows_any _ _ _ _ _ _ _ _ _ _ _ _ _).mono ?_); rintro e w4 ⟨rfl, hb4⟩; obtain ⟨hc4, hf4⟩ := hb4.cells; have hs4 := hb4.size; (try simp at hs4); (try have hs4_0a : w0.heap.size < w4.heap.size := by omega); (try have hs4_0a' : w0.heap.size ≤ w4.heap.size := by omega); (try have hs4_1a : w1.heap.size < w4.heap.size := by omega); (try have hs4_1a' : w1.heap.size ≤ w4.heap.size := by omega); (try have hs4_2a : w2.heap.size < w4.heap.size := by omega); (try have hs4_2a' : w2.heap.size ≤ w4.heap.size := by omega); (try have hs4_3a : w3.heap.size < w4.heap.size := by omega); (try have hs4_3a' : w3.heap.size ≤ w4.heap.size := by omega)))
    all_goals
      go_wp2
      go_meet
      case rel => exact ⟨_, rfl, rfl, (by first | omega | (simp; done) | (simp; omega)), (by first | omega | (simp; done) | (simp; omega)), by go_simp, by go_simp, by go_simp, by go_simp, (by repeat (first | with_reducible exact Up.refl _ | with_reducible refine Up.alloc ?_ _ | with_reducible refine Up.drew ?_ | with_reducible refine Up.drewN ?_ _ | (with_reducible refine Up.setCell ?_ (by first | omega | (simp; done) | (simp; omega)) _) | with_reducible assumption | (with_reducible refine Up.trans ?_ (by with_reducible assumption))))⟩
  case rest =>
    obtain ⟨b1, rfl, rfl, hb1lt, hb1ge, c0, c1, c2, c3, hup1⟩ := hcut
    obtain ⟨hcw, hfw⟩ := hup1.cells
    have p00 := (hcw (w.heap.size) 0 m0).trans q00
    have p01 := (hcw (w.heap.size) 1 m0).trans q01
    have p02 := (hcw (w.heap.size) 2 m0).trans q02
    have p03 := (hcw (w.heap.size) 3 m0).trans q03
    have p10 := (hcw (w.heap.size + 1) 0 m1).trans q10
    have p11 := (hcw (w.heap.size + 1) 1 m1).trans q11
    have p12 := (hcw (w.heap.size + 1) 2 m1).trans q12
    have p13 := (hcw (w.heap.size + 1) 3 m1).trans q13
    have p20 := (hcw (w.heap.size + 1 + 1) 0 m2).trans q20
    have p21 := (hcw (w.heap.size + 1 + 1) 1 m2).trans q21
    have p22 := (hcw (w.heap.size + 1 + 1) 2 m2).trans q22
    have p23 := (hcw (w.heap.size + 1 + 1) 3 m2).trans q23
    have n0 : w.heap.size < wc.heap.size := Nat.lt_of_lt_of_le m0 hup1.size
    have n1 : w.heap.size + 1 < wc.heap.size := Nat.lt_of_lt_of_le m1 hup1.size
    have n2 : w.heap.size + 1 + 1 < wc.heap.size := Nat.lt_of_lt_of_le m2 hup1.size
    clear hcw hfw q00 q01 q02 q03 q10 q11 q12 q13 q20 q21 q22 q23
    have huw : Up w wc := hu.trans hup1
    clear hu hup1 m0 m1 m2
    obtain ⟨w00, rfl⟩ : ∃ w00 : World, w00 = w0 := ⟨_, rfl⟩
    obtain ⟨w0, rfl⟩ : ∃ w0 : World, w0 = wc := ⟨_, rfl⟩
    go_wp2_with fail
    go_cut [9, 10] (fun p o wr => ∃ bk, p = .pointer (some ⟨bk, 0, none⟩) ∧ o = .bool (slB a b c d e f g h i j k l) ∧ bk < wr.heap.size ∧ w0.heap.size ≤ bk ∧ wr.cell? ⟨bk, 0, none⟩ = some (.int .i64 (slP 0 a b c d e f g h i j k l)) ∧ wr.cell? ⟨bk, 1, none⟩ = some (.int .i64 (slP 1 a b c d e f g h i j k l)) ∧ wr.cell? ⟨bk, 2, none⟩ = some (.int .i64 (slP 2 a b c d e f g h i j k l)) ∧ wr.cell? ⟨bk, 3, none⟩ = some (.int .i64 (slP 3 a b c d e f g h i j k l)) ∧ Up w0 wr)
    case first =>
      have tok1 : True := trivial
      have tok2 : True := trivial
      have tok3 : True := trivial
      have tok4 : True := trivial
      go_region_held3 (fun w' => (∀ b o, b < w0.heap.size → w'.cell? ⟨b, o, none⟩ = w0.cell? ⟨b, o, none⟩) ∧ w0.heap.size ≤ w'.heap.size) (repeat (first | with_reducible refine kp_drew ?_ | with_reducible refine kp_set ?_ (by first | omega | (simp; done) | (simp; omega)) | with_reducible refine kp_alloc ?_ _ | with_reducible assumption | with_reducible exact kp_start _ | with_reducible refine kp_up ?_ (by assumption))) (first | (go_at_call 31; clear tok1; (with_reducible refine (toRow_any _ _ _ _ _).mono ?_); rintro e w1 ⟨rfl, hb1⟩; obtain ⟨hc1, hf1⟩ := hb1.cells; have hs1 := hb1.size; (try simp at hs1); (try have hs1_0a : w0.heap.size < w1.heap.size := by omega); (try have hs1_0a' : w0.heap.size ≤ w1.heap.size := by omega)) | (go_at_call 31; clear tok2; (with_reducible refine (toRow_any _ _ _ _ _).mono ?_); rintro e w2 ⟨rfl, hb2⟩; obtain ⟨hc2, hf2⟩ := hb2.cells; have hs2 := hb2.size; (try simp at hs2); (try have hs2_0a : w0.heap.size < w2.heap.size := by omega); (try have hs2_0a' : w0.heap.size ≤ w2.heap.size := by omega); (try have hs2_1a : w1.heap.size < w2.heap.size := by omega); (try have hs2_1a' : w1.heap.size ≤ w2.heap.size := by omega)) | (go_at_call 31; clear tok3; (with_reducible refine (toRow_any _ _ _ _ _).mono ?_); rintro e w3 ⟨rfl, hb3⟩; obtain ⟨hc3, hf3⟩ := hb3.cells; have hs3 := hb3.size; (try simp at hs3); (try have hs3_0a : w0.heap.size < w3.heap.size := by omega); (try have hs3_0a' : w0.heap.size ≤ w3.heap.size := by omega); (try have hs3_1a : w1.heap.size < w3.heap.size := by omega); (try have hs3_1a' : w1.heap.size ≤ w3.heap.size := by omega); (try have hs3_2a : w2.heap.size < w3.heap.size := by omega); (try have hs3_2a' : w2.heap.size ≤ w3.heap.size := by omega)) | (go_at_call 59; clear tok4; (with_reducible refine (SolveRows_any _ _ _ _ _ _ _ _ _ _ _ _ _).mono ?_); rintro e w4 ⟨rfl, hb4⟩; obtain ⟨hc4, hf4⟩ := hb4.cells; have hs4 := hb4.size; (try simp at hs4); (try have hs4_0a : w0.heap.size < w4.heap.size := by omega); (try have hs4_0a' : w0.heap.size ≤ w4.heap.size := by omega); (try have hs4_1a : w1.heap.size < w4.heap.size := by omega); (try have hs4_1a' : w1.heap.size ≤ w4.heap.size := by omega); (try have hs4_2a : w2.heap.size < w4.heap.size := by omega); (try have hs4_2a' : w2.heap.size ≤ w4.heap.size := by omega); (try have hs4_3a : w3.heap.size < w4.heap.size := by omega); (try have hs4_3a' : w3.heap.size ≤ w4.heap.size := by omega)))
      all_goals
        go_wp2
        go_meet
        case rel => exact ⟨_, rfl, rfl, (by first | omega | (simp; done) | (simp; omega)), (by first | omega | (simp; done) | (simp; omega)), by go_simp, by go_simp, by go_simp, by go_simp, (by repeat (first | with_reducible exact Up.refl _ | with_reducible refine Up.alloc ?_ _ | with_reducible refine Up.drew ?_ | with_reducible refine Up.drewN ?_ _ | (with_reducible refine Up.setCell ?_ (by first | omega | (simp; done) | (simp; omega)) _) | with_reducible assumption | (with_reducible refine Up.trans ?_ (by with_reducible assumption))))⟩
    case rest =>
      obtain ⟨b2, rfl, rfl, hb2lt, hb2ge, d0, d1, d2, d3, hup2⟩ := hcut
      obtain ⟨hcw, hfw⟩ := hup2.cells
      have e0 := (hcw b1 0 hb1lt).trans c0
      have e1 := (hcw b1 1 hb1lt).trans c1
      have e2 := (hcw b1 2 hb1lt).trans c2
      have e3 := (hcw b1 3 hb1lt).trans c3
      go_wp2_with (first | (go_at_call 47; (with_reducible refine (eqThrust_same _ _ _ _ _).mono ?_); rintro e w1 ⟨rfl, hb1⟩; obtain ⟨hc1, hf1⟩ := hb1.cells; have hl1 := hb1.lt; have hle1 := hb1.le; have hs1 := hb1.size; (try simp at hs1); (try have hs1a : w.heap.size < w1.heap.size := by omega); (try have hs1aa : w.heap.size ≤ w1.heap.size := by omega); (try have hs1b : w.heap.size + 1 < w1.heap.size := by omega); (try have hs1bb : w.heap.size + 1 ≤ w1.heap.size := by omega); (try have hs1c : w.heap.size + 1 + 1 < w1.heap.size := by omega); (try have hs1cc : w.heap.size + 1 + 1 ≤ w1.heap.size := by omega); (try have hs1d : w.heap.size + 1 + 1 + 1 < w1.heap.size := by omega); (try have hs1dd : w.heap.size + 1 + 1 + 1 ≤ w1.heap.size := by omega); (try have hs1L := Nat.lt_of_succ_le hs1); (try have hs1M := Nat.lt_of_succ_lt hs1L); (try have hs1N := Nat.lt_of_succ_lt hs1M); (try have hs1LE := Nat.le_of_lt hs1L); (try have hs1ME := Nat.le_of_lt hs1M)))
      go_ret
      exact ⟨rfl, (by repeat (first | with_reducible exact Up.refl _ | with_reducible refine Up.alloc ?_ _ | with_reducible refine Up.drew ?_ | with_reducible refine Up.drewN ?_ _ | (with_reducible refine Up.setCell ?_ (by first | omega | (simp; done) | (simp; omega)) _) | with_reducible assumption | (with_reducible refine Up.trans ?_ (by with_reducible assumption))))⟩
set_option maxRecDepth 100000 in
set_option maxHeartbeats 4000000 in
theorem law_MixThrusts (h v m n x y z t : Int) (w : World) (h0 : I64 h) (h1 : I64 v) (h2 : I64 m) (h3 : I64 n) (h4 : I64 x) (h5 : I64 y) (h6 : I64 z) (h7 : I64 t) :
    Calls Try.prog 15 #[.agg #[.int .i64 h, .int .i64 v, .int .i64 m, .int .i64 n], .agg #[.int .i64 x, .int .i64 y, .int .i64 z, .int .i64 t]] w fun e w' => e = .returned (.bool true) ∧ Up w w' := by
  clear h0 h1 h2 h3 h4 h5 h6 h7
  go_enter Try.func15, Try.ntmps15
  go_wp2_with fail
  generalize hW : ((World.alloc w _).alloc _) = w0
  have q00 : w0.cell? ⟨w.heap.size, 0, none⟩ = some (.int .i64 h) := by subst hW; go_simp
  have q01 : w0.cell? ⟨w.heap.size, 1, none⟩ = some (.int .i64 v) := by subst hW; go_simp
  have q02 : w0.cell? ⟨w.heap.size, 2, none⟩ = some (.int .i64 m) := by subst hW; go_simp
  have q03 : w0.cell? ⟨w.heap.size, 3, none⟩ = some (.int .i64 n) := by subst hW; go_simp
  have q10 : w0.cell? ⟨w.heap.size + 1, 0, none⟩ = some (.int .i64 x) := by subst hW; go_simp
  have q11 : w0.cell? ⟨w.heap.size + 1, 1, none⟩ = some (.int .i64 y) := by subst hW; go_simp
  have q12 : w0.cell? ⟨w.heap.size + 1, 2, none⟩ = some (.int .i64 z) := by subst hW; go_simp
  have q13 : w0.cell? ⟨w.heap.size + 1, 3, none⟩ = some (.int .i64 t) := by subst hW; go_simp
  have hu : Up w w0 := by subst hW; exact (by repeat (first | with_reducible exact Up.refl _ | with_reducible refine Up.alloc ?_ _ | with_reducible refine Up.drew ?_ | with_reducible refine Up.drewN ?_ _ | (with_reducible refine Up.setCell ?_ (by first | omega | (simp; done) | (simp; omega)) _) | with_reducible assumption | (with_reducible refine Up.trans ?_ (by with_reducible assumption))))
  have hsz : w0.heap.size = w.heap.size + 1 + 1 := by subst hW; simp
  have m0 : w.heap.size < w0.heap.size := by omega
  have m1 : w.heap.size + 1 < w0.heap.size := by omega
  clear hW hsz
  go_cut [5, 6] (fun p o wr => ∃ bk, p = .pointer (some ⟨bk, 0, none⟩) ∧ o = .bool (mxB h v m n x y z t) ∧ bk < wr.heap.size ∧ w0.heap.size ≤ bk ∧ wr.cell? ⟨bk, 0, none⟩ = some (.int .i64 (mxP (h * t + x * n) h v m n x y z t)) ∧ wr.cell? ⟨bk, 1, none⟩ = some (.int .i64 (mxP (v * t + y * n) h v m n x y z t)) ∧ wr.cell? ⟨bk, 2, none⟩ = some (.int .i64 (mxP (m * t + z * n) h v m n x y z t)) ∧ wr.cell? ⟨bk, 3, none⟩ = some (.int .i64 (mxP (2 * n * t) h v m n x y z t)) ∧ Up w0 wr)
  case first =>
    have tok1 : True := trivial
    have tok2 : True := trivial
    have tok3 : True := trivial
    go_region_held3 (fun w' => (∀ b o, b < w0.heap.size → w'.cell? ⟨b, o, none⟩ = w0.cell? ⟨b, o, none⟩) ∧ w0.heap.size ≤ w'.heap.size) (repeat (first | with_reducible refine kp_drew ?_ | with_reducible refine kp_set ?_ (by first | omega | (simp; done) | (simp; omega)) | with_reducible refine kp_alloc ?_ _ | with_reducible assumption | with_reducible exact kp_start _ | with_reducible refine kp_up ?_ (by assumption))) (first | (go_at_call 26; clear tok1; (with_reducible refine (toThrust_any _ _ _ _ _).mono ?_); rintro e w1 ⟨rfl, hb1⟩; obtain ⟨hc1, hf1⟩ := hb1.cells; have hs1 := hb1.size; (try simp at hs1); (try have hs1_0a : w0.heap.size < w1.heap.size := by omega); (try have hs1_0a' : w0.heap.size ≤ w1.heap.size := by omega)) | (go_at_call 26; clear tok2; (with_reducible refine (toThrust_any _ _ _ _ _).mono ?_); rintro e w2 ⟨rfl, hb2⟩; obtain ⟨hc2, hf2⟩ := hb2.cells; have hs2 := hb2.size; (try simp at hs2); (try have hs2_0a : w0.heap.size < w2.heap.size := by omega); (try have hs2_0a' : w0.heap.size ≤ w2.heap.size := by omega); (try have hs2_1a : w1.heap.size < w2.heap.size := by omega); (try have hs2_1a' : w1.heap.size ≤ w2.heap.size := by omega)) | (go_at_call 56; clear tok3; (with_reducible refine (sMixThrusts_any _ _ _ _ _ _ _ _ _).mono ?_); rintro e w3 ⟨rfl, hb3⟩; obtain ⟨hc3, hf3⟩ := hb3.cells; have hs3 := hb3.size; (try simp at hs3); (try have hs3_0a : w0.heap.size < w3.heap.size := by omega); (try have hs3_0a' : w0.heap.size ≤ w3.heap.size := by omega); (try have hs3_1a : w1.heap.size < w3.heap.size := by omega); (try have hs3_1a' : w1.heap.size ≤ w3.heap.size := by omega); (try have hs3_2a : w2.heap.size < w3.heap.size := by omega); (try have hs3_2a' : w2.heap.size ≤ w3.heap.size := by omega)))
    all_goals
      go_wp2
      go_meet
      case rel => exact ⟨_, rfl, rfl, (by first | omega | (simp; done) | (simp; omega)), (by first | omega | (simp; done) | (simp; omega)), by go_simp, by go_simp, by go_simp, by go_simp, (by repeat (first | with_reducible exact Up.refl _ | with_reducible refine Up.alloc ?_ _ | with_reducible refine Up.drew ?_ | with_reducible refine Up.drewN ?_ _ | (with_reducible refine Up.setCell ?_ (by first | omega | (simp; done) | (simp; omega)) _) | with_reducible assumption | (with_reducible refine Up.trans ?_ (by with_reducible assumption))))⟩
  case rest =>
    obtain ⟨b1, rfl, rfl, hb1lt, hb1ge, c0, c1, c2, c3, hup1⟩ := hcut
    obtain ⟨hcw, hfw⟩ := hup1.cells
    have p00 := (hcw (w.heap.size) 0 m0).trans q00
    have p01 := (hcw (w.heap.size) 1 m0).trans q01
    have p02 := (hcw (w.heap.size) 2 m0).trans q02
    have p03 := (hcw (w.heap.size) 3 m0).trans q03
    have p10 := (hcw (w.heap.size + 1) 0 m1).trans q10
    have p11 := (hcw (w.heap.size + 1) 1 m1).trans q11
    have p12 := (hcw (w.heap.size + 1) 2 m1).trans q12
    have p13 := (hcw (w.heap.size + 1) 3 m1).trans q13
    have n0 : w.heap.size < wc.heap.size := Nat.lt_of_lt_of_le m0 hup1.size
    have n1 : w.heap.size + 1 < wc.heap.size := Nat.lt_of_lt_of_le m1 hup1.size
    clear hcw hfw q00 q01 q02 q03 q10 q11 q12 q13
    have huw : Up w wc := hu.trans hup1
    clear hu hup1 m0 m1
    obtain ⟨w00, rfl⟩ : ∃ w00 : World, w00 = w0 := ⟨_, rfl⟩
    obtain ⟨w0, rfl⟩ : ∃ w0 : World, w0 = wc := ⟨_, rfl⟩
    go_wp2_with fail
    go_cut [7, 8] (fun p o wr => ∃ bk, p = .pointer (some ⟨bk, 0, none⟩) ∧ o = .bool (mxB h v m n x y z t) ∧ bk < wr.heap.size ∧ w0.heap.size ≤ bk ∧ wr.cell? ⟨bk, 0, none⟩ = some (.int .i64 (mxP (h * t + x * n) h v m n x y z t)) ∧ wr.cell? ⟨bk, 1, none⟩ = some (.int .i64 (mxP (v * t + y * n) h v m n x y z t)) ∧ wr.cell? ⟨bk, 2, none⟩ = some (.int .i64 (mxP (m * t + z * n) h v m n x y z t)) ∧ wr.cell? ⟨bk, 3, none⟩ = some (.int .i64 (mxP (2 * n * t) h v m n x y z t)) ∧ Up w0 wr)
    case first =>
      have tok1 : True := trivial
      have tok2 : True := trivial
      have tok3 : True := trivial
      go_region_held3 (fun w' => (∀ b o, b < w0.heap.size → w'.cell? ⟨b, o, none⟩ = w0.cell? ⟨b, o, none⟩) ∧ w0.heap.size ≤ w'.heap.size) (repeat (first | with_reducible refine kp_drew ?_ | with_reducible refine kp_set ?_ (by first | omega | (simp; done) | (simp; omega)) | with_reducible refine kp_alloc ?_ _ | with_reducible assumption | with_reducible exact kp_start _ | with_reducible refine kp_up ?_ (by assumption))) (first | (go_at_call 26; clear tok1; (with_reducible refine (toThrust_any _ _ _ _ _).mono ?_); rintro e w1 ⟨rfl, hb1⟩; obtain ⟨hc1, hf1⟩ := hb1.cells; have hs1 := hb1.size; (try simp at hs1); (try have hs1_0a : w0.heap.size < w1.heap.size := by omega); (try have hs1_0a' : w0.heap.size ≤ w1.heap.size := by omega)) | (go_at_call 26; clear tok2; (with_reducible refine (toThrust_any _ _ _ _ _).mono ?_); rintro e w2 ⟨rfl, hb2⟩; obtain ⟨hc2, hf2⟩ := hb2.cells; have hs2 := hb2.size; (try simp at hs2); (try have hs2_0a : w0.heap.size < w2.heap.size := by omega); (try have hs2_0a' : w0.heap.size ≤ w2.heap.size := by omega); (try have hs2_1a : w1.heap.size < w2.heap.size := by omega); (try have hs2_1a' : w1.heap.size ≤ w2.heap.size := by omega)) | (go_at_call 57; clear tok3; (with_reducible refine (MixThrusts_any _ _ _ _ _ _ _ _ _).mono ?_); rintro e w3 ⟨rfl, hb3⟩; obtain ⟨hc3, hf3⟩ := hb3.cells; have hs3 := hb3.size; (try simp at hs3); (try have hs3_0a : w0.heap.size < w3.heap.size := by omega); (try have hs3_0a' : w0.heap.size ≤ w3.heap.size := by omega); (try have hs3_1a : w1.heap.size < w3.heap.size := by omega); (try have hs3_1a' : w1.heap.size ≤ w3.heap.size := by omega); (try have hs3_2a : w2.heap.size < w3.heap.size := by omega); (try have hs3_2a' : w2.heap.size ≤ w3.heap.size := by omega)))
      all_goals
        go_wp2
        go_meet
        case rel => exact ⟨_, rfl, rfl, (by first | omega | (simp; done) | (simp; omega)), (by first | omega | (simp; done) | (simp; omega)), by go_simp, by go_simp, by go_simp, by go_simp, (by repeat (first | with_reducible exact Up.refl _ | with_reducible refine Up.alloc ?_ _ | with_reducible refine Up.drew ?_ | with_reducible refine Up.drewN ?_ _ | (with_reducible refine Up.setCell ?_ (by first | omega | (simp; done) | (simp; omega)) _) | with_reducible assumption | (with_reducible refine Up.trans ?_ (by with_reducible assumption))))⟩
    case rest =>
      obtain ⟨b2, rfl, rfl, hb2lt, hb2ge, d0, d1, d2, d3, hup2⟩ := hcut
      obtain ⟨hcw, hfw⟩ := hup2.cells
      have e0 := (hcw b1 0 hb1lt).trans c0
      have e1 := (hcw b1 1 hb1lt).trans c1
      have e2 := (hcw b1 2 hb1lt).trans c2
      have e3 := (hcw b1 3 hb1lt).trans c3
      go_wp2_with (first | (go_at_call 47; (with_reducible refine (eqThrust_same _ _ _ _ _).mono ?_); rintro e w1 ⟨rfl, hb1⟩; obtain ⟨hc1, hf1⟩ := hb1.cells; have hl1 := hb1.lt; have hle1 := hb1.le; have hs1 := hb1.size; (try simp at hs1); (try have hs1a : w.heap.size < w1.heap.size := by omega); (try have hs1aa : w.heap.size ≤ w1.heap.size := by omega); (try have hs1b : w.heap.size + 1 < w1.heap.size := by omega); (try have hs1bb : w.heap.size + 1 ≤ w1.heap.size := by omega); (try have hs1c : w.heap.size + 1 + 1 < w1.heap.size := by omega); (try have hs1cc : w.heap.size + 1 + 1 ≤ w1.heap.size := by omega); (try have hs1d : w.heap.size + 1 + 1 + 1 < w1.heap.size := by omega); (try have hs1dd : w.heap.size + 1 + 1 + 1 ≤ w1.heap.size := by omega); (try have hs1L := Nat.lt_of_succ_le hs1); (try have hs1M := Nat.lt_of_succ_lt hs1L); (try have hs1N := Nat.lt_of_succ_lt hs1M); (try have hs1LE := Nat.le_of_lt hs1L); (try have hs1ME := Nat.le_of_lt hs1M)))
      go_ret
      exact ⟨rfl, (by repeat (first | with_reducible exact Up.refl _ | with_reducible refine Up.alloc ?_ _ | with_reducible refine Up.drew ?_ | with_reducible refine Up.drewN ?_ _ | (with_reducible refine Up.setCell ?_ (by first | omega | (simp; done) | (simp; omega)) _) | with_reducible assumption | (with_reducible refine Up.trans ?_ (by with_reducible assumption))))⟩
end Go.Proofs.Ytamgomdhjapfeaa
