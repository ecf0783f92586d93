/- The walk of the reference's FactorsOf. No condition. -/
import Derived.Test.YtlpbmdoggcclpaaFa
namespace Go.Proofs.Ytlpbmdoggcclpaa
open Go.RowKit
set_option linter.unusedVariables false
/-- The divisor and the sign, number by number. -/
def gJ (F : Nat → Int) : Nat → Nat
  | 0 => 0
  | j + 1 => Nat.gcd (gJ F j) (F j).natAbs
def sJ (F : Nat → Int) : Nat → Int
  | 0 => 0
  | j + 1 => if sJ F j = 0 ∧ F j ≠ 0 then (if F j < 0 then -1 else 1) else sJ F j
theorem gJ_four (F : Nat → Int) : gJ F 4 = g4 (F 0) (F 1) (F 2) (F 3) := by simp [gJ, g4, Nat.gcd_assoc]
theorem gJ_le (F : Nat → Int) (hF : ∀ i, i < 4 → -60000 ≤ F i ∧ F i ≤ 60000) : ∀ j, j ≤ 4 → gJ F j ≤ 60000
  | 0, _ => by simp [gJ]
  | j + 1, hj => by
    have h1 := gJ_le F hF j (by omega)
    have h2 := hF j (by omega)
    exact gcd_le_of _ _ _ h1 (by omega)
theorem sJ_pm (F : Nat → Int) : ∀ j, sJ F j = 0 ∨ sJ F j = 1 ∨ sJ F j = -1
  | 0 => .inl rfl
  | j + 1 => by
    have ih := sJ_pm F j
    rw [sJ]
    split
    · split <;> simp
    · exact ih
theorem sJ_four (F : Nat → Int) : sJ F 4 = sg4 (F 0) (F 1) (F 2) (F 3) := by
  simp only [sJ, sg4]
  by_cases h0 : F 0 = 0
  · by_cases h1 : F 1 = 0
    · by_cases h2 : F 2 = 0
      · by_cases h3 : F 3 = 0 <;> simp [h0, h1, h2, h3]
      · by_cases h2' : F 2 < 0 <;> simp [h0, h1, h2, h2']
    · by_cases h1' : F 1 < 0 <;> simp [h0, h1, h1']
  · by_cases h0' : F 0 < 0 <;> simp [h0, h0']
theorem sJ_z {F : Nat → Int} {j : Nat} (h : sJ F j = 0) (hn : F j < 0) : sJ F (j + 1) = -1 := by rw [sJ, if_pos ⟨h, by omega⟩, if_pos hn]
theorem sJ_p {F : Nat → Int} {j : Nat} (h : sJ F j = 0) (hn : 0 < F j) : sJ F (j + 1) = 1 := by rw [sJ, if_pos ⟨h, by omega⟩, if_neg (by omega)]
theorem sJ_k {F : Nat → Int} {j : Nat} (h : ¬ sJ F j = 0 ∨ F j = 0) : sJ F (j + 1) = sJ F j := by rw [sJ, if_neg]; rintro ⟨h1, h2⟩; rcases h with h | h; exact h h1; exact h2 h
theorem sdetR_any (p q r : R4) (w : World) : Calls Try.prog 87 #[.agg #[.int .i64 p.a, .int .i64 p.b, .int .i64 p.c, .int .i64 p.d], .agg #[.int .i64 q.a, .int .i64 q.b, .int .i64 q.c, .int .i64 q.d], .agg #[.int .i64 r.a, .int .i64 r.b, .int .i64 r.c, .int .i64 r.d]] w fun en w' => en = .returned (.int .i64 (drR p q r)) ∧ Up w w' := sDetOfRows_any _ _ _ _ _ _ _ _ _ _ _ _ w
theorem sRowR_any (p : R4) (w : World) : Calls Try.prog 55 #[.agg #[.int .i64 p.a, .int .i64 p.b, .int .i64 p.c, .int .i64 p.d]] w fun en w' => en = .returned (.bool p.ok) ∧ Up w w' := sRowOk_any _ _ _ _ w
theorem Wr.made1 (w : World) (lo hi sz g : Nat) (f : Nat → Nat → Value) (h : hi ≤ w.heap.size) : Wr w lo hi sz (.slice (some ⟨g, 0, none⟩) 0 0) 0 f := ⟨h, _, 0, rfl, Nat.le_refl _, fun h => absurd h (by omega)⟩
set_option maxHeartbeats 2000000 in
set_option maxRecDepth 100000 in
theorem sFactorsOf_any (p q r s : R4) (w : World) : Calls Try.prog 81 #[.agg #[.int .i64 p.a, .int .i64 p.b, .int .i64 p.c, .int .i64 p.d], .agg #[.int .i64 q.a, .int .i64 q.b, .int .i64 q.c, .int .i64 q.d], .agg #[.int .i64 r.a, .int .i64 r.b, .int .i64 r.c, .int .i64 r.d], .agg #[.int .i64 s.a, .int .i64 s.b, .int .i64 s.c, .int .i64 s.d]] w (SlP w (faN p q r s) (intF (faR p q r s))) := by
  have hF : ∀ i, i < 4 → -60000 ≤ faV p q r s i ∧ faV p q r s i ≤ 60000 := fun i _ => faV_bd p q r s i
  have hgle := faG_le p q r s
  have hN0 := fun h => fa_g (p := p) (q := q) (r := r) (s := s) h
  have hN4 := fun hk h => fa_t (p := p) (q := q) (r := r) (s := s) hk h
  have hNf := fun h => fa_f (p := p) (q := q) (r := r) (s := s) h
  have hGG : faG p q r s = g4 (faV p q r s 0) (faV p q r s 1) (faV p q r s 2) (faV p q r s 3) := rfl
  have hSS : faS p q r s = sg4 (faV p q r s 0) (faV p q r s 1) (faV p q r s 2) (faV p q r s 3) := rfl
  have hRR : ∀ i j, faR p q r s i j = (faV p q r s i).tdiv (faS p q r s * (faG p q r s : Int)) := fun _ _ => rfl
  have hv0 : faV p q r s 0 = drR q r s := rfl
  have hv1 : faV p q r s 1 = -drR p r s := rfl
  have hv2 : faV p q r s 2 = drR p q s := rfl
  have hv3 : faV p q r s 3 = -drR p q r := rfl
  have b1 := drR_bd p r s
  have b3 := drR_bd p q r
  have hw1 : IntKind.i64.wrap (-drR p r s) = faV p q r s 1 := by rw [IntKind.wrap_i64, hv1]; omega
  have hw3 : IntKind.i64.wrap (-drR p q r) = faV p q r s 3 := by rw [IntKind.wrap_i64, hv3]; omega
  have hD0 : ∀ W, Calls Try.prog 87 #[.agg #[.int .i64 q.a, .int .i64 q.b, .int .i64 q.c, .int .i64 q.d], .agg #[.int .i64 r.a, .int .i64 r.b, .int .i64 r.c, .int .i64 r.d], .agg #[.int .i64 s.a, .int .i64 s.b, .int .i64 s.c, .int .i64 s.d]] W fun en w' => en = .returned (.int .i64 (faV p q r s 0)) ∧ Up W w' := fun W => sdetR_any q r s W
  have hD2 : ∀ W, Calls Try.prog 87 #[.agg #[.int .i64 p.a, .int .i64 p.b, .int .i64 p.c, .int .i64 p.d], .agg #[.int .i64 q.a, .int .i64 q.b, .int .i64 q.c, .int .i64 q.d], .agg #[.int .i64 s.a, .int .i64 s.b, .int .i64 s.c, .int .i64 s.d]] W fun en w' => en = .returned (.int .i64 (faV p q r s 2)) ∧ Up W w' := fun W => sdetR_any p q s W
  generalize faS p q r s = sg at *
  generalize faG p q r s = g at *
  generalize faV p q r s = F at *
  have HF := Lib.hid hF
  have HN0 := Lib.hid hN0
  have HN4 := Lib.hid hN4
  have HGG := Lib.hid hGG
  have HSS := Lib.hid hSS
  have HRR := Lib.hid hRR
  have n0 := hF 0 (by omega)
  have n1 := hF 1 (by omega)
  have n2 := hF 2 (by omega)
  have n3 := hF 3 (by omega)
  clear hF hN0 hN4 hGG hSS hRR hv0 hv1 hv2 hv3
  go_enter Try.func81, Try.ntmps81
  go_wp2_with fail
  obtain ⟨w0, hW0⟩ : ∃ w0 : World, w0 = (((w.alloc (.cells #[.int .i64 p.a, .int .i64 p.b, .int .i64 p.c, .int .i64 p.d] 51)).alloc (.cells #[.int .i64 q.a, .int .i64 q.b, .int .i64 q.c, .int .i64 q.d] 51)).alloc (.cells #[.int .i64 r.a, .int .i64 r.b, .int .i64 r.c, .int .i64 r.d] 51)).alloc (.cells #[.int .i64 s.a, .int .i64 s.b, .int .i64 s.c, .int .i64 s.d] 51) := ⟨_, rfl⟩
  rw [← hW0]
  have pa0 : w0.cell? ⟨w.heap.size, 0, none⟩ = some (.int .i64 p.a) := by rw [hW0]; go_simp
  have pb0 : w0.cell? ⟨w.heap.size, 1, none⟩ = some (.int .i64 p.b) := by rw [hW0]; go_simp
  have pc0 : w0.cell? ⟨w.heap.size, 2, none⟩ = some (.int .i64 p.c) := by rw [hW0]; go_simp
  have pd0 : w0.cell? ⟨w.heap.size, 3, none⟩ = some (.int .i64 p.d) := by rw [hW0]; go_simp
  have lp0 : w.heap.size < w0.heap.size := by rw [hW0]; simp <;> omega
  have qa0 : w0.cell? ⟨w.heap.size + 1, 0, none⟩ = some (.int .i64 q.a) := by rw [hW0]; go_simp
  have qb0 : w0.cell? ⟨w.heap.size + 1, 1, none⟩ = some (.int .i64 q.b) := by rw [hW0]; go_simp
  have qc0 : w0.cell? ⟨w.heap.size + 1, 2, none⟩ = some (.int .i64 q.c) := by rw [hW0]; go_simp
  have qd0 : w0.cell? ⟨w.heap.size + 1, 3, none⟩ = some (.int .i64 q.d) := by rw [hW0]; go_simp
  have lq0 : w.heap.size + 1 < w0.heap.size := by rw [hW0]; simp <;> omega
  have ra0 : w0.cell? ⟨w.heap.size + 1 + 1, 0, none⟩ = some (.int .i64 r.a) := by rw [hW0]; go_simp
  have rb0 : w0.cell? ⟨w.heap.size + 1 + 1, 1, none⟩ = some (.int .i64 r.b) := by rw [hW0]; go_simp
  have rc0 : w0.cell? ⟨w.heap.size + 1 + 1, 2, none⟩ = some (.int .i64 r.c) := by rw [hW0]; go_simp
  have rd0 : w0.cell? ⟨w.heap.size + 1 + 1, 3, none⟩ = some (.int .i64 r.d) := by rw [hW0]; go_simp
  have lr0 : w.heap.size + 1 + 1 < w0.heap.size := by rw [hW0]; simp <;> omega
  have sa0 : w0.cell? ⟨w.heap.size + 1 + 1 + 1, 0, none⟩ = some (.int .i64 s.a) := by rw [hW0]; go_simp
  have sb0 : w0.cell? ⟨w.heap.size + 1 + 1 + 1, 1, none⟩ = some (.int .i64 s.b) := by rw [hW0]; go_simp
  have sc0 : w0.cell? ⟨w.heap.size + 1 + 1 + 1, 2, none⟩ = some (.int .i64 s.c) := by rw [hW0]; go_simp
  have sd0 : w0.cell? ⟨w.heap.size + 1 + 1 + 1, 3, none⟩ = some (.int .i64 s.d) := by rw [hW0]; go_simp
  have ls0 : w.heap.size + 1 + 1 + 1 < w0.heap.size := by rw [hW0]; simp <;> omega
  have hww : Up w w0 := by rw [hW0]; exact (by repeat (first | with_reducible exact Up.refl _ | with_reducible refine Up.alloc ?_ _ | with_reducible refine Up.drew ?_ | with_reducible refine Up.drewN ?_ _ | (with_reducible refine Up.setCell ?_ (by first | omega | (simp; done) | (simp; omega)) _) | with_reducible assumption | (with_reducible refine Up.trans ?_ (by with_reducible assumption))))
  clear hW0
  have tok1 : True := trivial
  have tok2 : True := trivial
  have tok3 : True := trivial
  have tok4 : True := trivial
  go_region_held3 (fun w' => (∀ b o, b < w0.heap.size → w'.cell? ⟨b, o, none⟩ = w0.cell? ⟨b, o, none⟩) ∧ w0.heap.size ≤ w'.heap.size) (repeat (first | with_reducible refine kp_drew ?_ | with_reducible refine kp_set ?_ (by first | omega | (simp; done) | (simp; omega)) | with_reducible refine kp_alloc ?_ _ | with_reducible assumption | with_reducible exact kp_start _ | with_reducible refine kp_up ?_ (by assumption))) (first | (go_at_call 87; clear tok1; (with_reducible refine (hD0 _).mono ?_); rintro e w1 ⟨rfl, hb1⟩; obtain ⟨hc1, hf1⟩ := hb1.cells; have hs1 := hb1.size; (try simp at hs1); (try have hs1_0a : w0.heap.size < w1.heap.size := by omega); (try have hs1_0a' : w0.heap.size ≤ w1.heap.size := by omega)) | (go_at_call 87; clear tok2; (with_reducible refine (sdetR_any p r s _).mono ?_); rintro e w2 ⟨rfl, hb2⟩; obtain ⟨hc2, hf2⟩ := hb2.cells; have hs2 := hb2.size; (try simp at hs2); (try have hs2_0a : w0.heap.size < w2.heap.size := by omega); (try have hs2_0a' : w0.heap.size ≤ w2.heap.size := by omega); (try have hs2_1a : w1.heap.size < w2.heap.size := by omega); (try have hs2_1a' : w1.heap.size ≤ w2.heap.size := by omega)) | (go_at_call 87; clear tok3; (with_reducible refine (hD2 _).mono ?_); rintro e w3 ⟨rfl, hb3⟩; obtain ⟨hc3, hf3⟩ := hb3.cells; have hs3 := hb3.size; (try simp at hs3); (try have hs3_0a : w0.heap.size < w3.heap.size := by omega); (try have hs3_0a' : w0.heap.size ≤ w3.heap.size := by omega); (try have hs3_1a : w1.heap.size < w3.heap.size := by omega); (try have hs3_1a' : w1.heap.size ≤ w3.heap.size := by omega); (try have hs3_2a : w2.heap.size < w3.heap.size := by omega); (try have hs3_2a' : w2.heap.size ≤ w3.heap.size := by omega)) | (go_at_call 87; clear tok4; (with_reducible refine (sdetR_any p q r _).mono ?_); rintro e w4 ⟨rfl, hb4⟩; obtain ⟨hc4, hf4⟩ := hb4.cells; have hs4 := hb4.size; (try simp at hs4); (try have hs4_0a : w0.heap.size < w4.heap.size := by omega); (try have hs4_0a' : w0.heap.size ≤ w4.heap.size := by omega); (try have hs4_1a : w1.heap.size < w4.heap.size := by omega); (try have hs4_1a' : w1.heap.size ≤ w4.heap.size := by omega); (try have hs4_2a : w2.heap.size < w4.heap.size := by omega); (try have hs4_2a' : w2.heap.size ≤ w4.heap.size := by omega); (try have hs4_3a : w3.heap.size < w4.heap.size := by omega); (try have hs4_3a' : w3.heap.size ≤ w4.heap.size := by omega)))
  have HNf := Lib.hid hNf
  have hu4 : Up w w4 := hww.trans (Up.trans (Up.trans (Up.trans (Up.drew (Up.refl w0)) hb1) hb2) (hb3.trans hb4))
  have hle4 : w.heap.size ≤ w4.heap.size := hu4.size
  have hu04 : Up w0 w4 := Up.trans (Up.trans (Up.trans (Up.drew (Up.refl w0)) hb1) hb2) (hb3.trans hb4)
  clear hc1 hf1 hc2 hf2 hc3 hf3 hc4 hf4 hw1 hw3 hD0 hD2 hNf
  obtain ⟨wg, hWG⟩ : ∃ wg : World, wg = w4.alloc (.cells #[.int .i64 (F 0), .int .i64 (F 1), .int .i64 (F 2), .int .i64 (F 3)] 3) := ⟨_, rfl⟩
  rw [← hWG]
  have c0 : wg.cell? ⟨w4.heap.size, 0, none⟩ = some (.int .i64 (F 0)) := by rw [hWG]; go_simp
  have c1 : wg.cell? ⟨w4.heap.size, 1, none⟩ = some (.int .i64 (F 1)) := by rw [hWG]; go_simp
  have c2 : wg.cell? ⟨w4.heap.size, 2, none⟩ = some (.int .i64 (F 2)) := by rw [hWG]; go_simp
  have c3 : wg.cell? ⟨w4.heap.size, 3, none⟩ = some (.int .i64 (F 3)) := by rw [hWG]; go_simp
  have cf : ∀ o, wg.frozen? ⟨w4.heap.size, o, none⟩ = false := fun o => by rw [hWG]; go_simp
  have hug : Up w wg := by rw [hWG]; exact (by repeat (first | with_reducible exact Up.refl _ | with_reducible refine Up.alloc ?_ _ | with_reducible refine Up.drew ?_ | with_reducible refine Up.drewN ?_ _ | (with_reducible refine Up.setCell ?_ (by first | omega | (simp; done) | (simp; omega)) _) | with_reducible assumption | (with_reducible refine Up.trans ?_ (by with_reducible assumption))))
  have hu0g : Up w0 wg := by rw [hWG]; exact hu04.alloc _
  have hgl : w4.heap.size < wg.heap.size := by rw [hWG]; simp
  have hcell : ∀ j, j < 4 → wg.cell? ⟨w4.heap.size, j, none⟩ = some (.int .i64 (F j)) := fun j hj => by
    match j, hj with
    | 0, _ => exact c0
    | 1, _ => exact c1
    | 2, _ => exact c2
    | 3, _ => exact c3
  have HC := Lib.hid hcell
  have HCF := Lib.hid cf
  have gpa0 := (hu0g.cells.1 _ _ lp0).trans pa0
  have gpb0 := (hu0g.cells.1 _ _ lp0).trans pb0
  have gpc0 := (hu0g.cells.1 _ _ lp0).trans pc0
  have gpd0 := (hu0g.cells.1 _ _ lp0).trans pd0
  have glp0 := Nat.lt_of_lt_of_le lp0 hu0g.size
  have gqa0 := (hu0g.cells.1 _ _ lq0).trans qa0
  have gqb0 := (hu0g.cells.1 _ _ lq0).trans qb0
  have gqc0 := (hu0g.cells.1 _ _ lq0).trans qc0
  have gqd0 := (hu0g.cells.1 _ _ lq0).trans qd0
  have glq0 := Nat.lt_of_lt_of_le lq0 hu0g.size
  have gra0 := (hu0g.cells.1 _ _ lr0).trans ra0
  have grb0 := (hu0g.cells.1 _ _ lr0).trans rb0
  have grc0 := (hu0g.cells.1 _ _ lr0).trans rc0
  have grd0 := (hu0g.cells.1 _ _ lr0).trans rd0
  have glr0 := Nat.lt_of_lt_of_le lr0 hu0g.size
  have gsa0 := (hu0g.cells.1 _ _ ls0).trans sa0
  have gsb0 := (hu0g.cells.1 _ _ ls0).trans sb0
  have gsc0 := (hu0g.cells.1 _ _ ls0).trans sc0
  have gsd0 := (hu0g.cells.1 _ _ ls0).trans sd0
  have gls0 := Nat.lt_of_lt_of_le ls0 hu0g.size
  clear pa0 pb0 pc0 pd0 qa0 qb0 qc0 qd0 ra0 rb0 rc0 rd0 sa0 sb0 sc0 sd0
  clear hWG c0 c1 c2 c3 cf hcell hb1 hb2 hb3 hb4 hu4 hu04
  (try clear hs1); (try clear hs1_0a); (try clear hs1_0a'); (try clear hs2); (try clear hs2_0a); (try clear hs2_0a'); (try clear hs2_1a); (try clear hs2_1a'); (try clear hs3); (try clear hs3_0a); (try clear hs3_0a'); (try clear hs3_1a); (try clear hs3_1a'); (try clear hs3_2a); (try clear hs3_2a'); (try clear hs4); (try clear hs4_0a); (try clear hs4_0a'); (try clear hs4_1a); (try clear hs4_1a'); (try clear hs4_2a); (try clear hs4_2a'); (try clear hs4_3a); (try clear hs4_3a')
  clear b1 b3 n0 n1 n2 n3
  generalize w4.heap.size = h at *
  go_wp2_with fail
  go_loopw [10, 11, 12] (fun gg sg k wr => ∃ j : Nat, k = .int .i64 (j : Int) ∧ j ≤ 4 ∧ gg = .int .i64 (gJ F j : Int) ∧ sg = .int .i64 (sJ F j) ∧ Up wg wr) (fun _ _ k _ => 4 - (intOf k).toNat)
  case atStart => exact ⟨0, rfl, Nat.zero_le _, rfl, rfl, (by repeat (first | with_reducible exact Up.refl _ | with_reducible refine Up.alloc ?_ _ | with_reducible refine Up.drew ?_ | with_reducible refine Up.drewN ?_ _ | (with_reducible refine Up.setCell ?_ (by first | omega | (simp; done) | (simp; omega)) _) | with_reducible assumption | (with_reducible refine Up.trans ?_ (by with_reducible assumption))))⟩
  case round =>
    obtain ⟨j, rfl, hj, rfl, rfl, hup⟩ := hrel
    have hupw : Up w wr := hug.trans hup
    by_cases hj4 : j < 4
    · have hcj := (hup.cells.1 _ j hgl).trans (HC.out j hj4)
      have hj5 : (j : Int) < 4 := by omega
      have hgle2 := gJ_le F HF.out j hj
      have hbd := HF.out j hj4
      have hrl : h < wr.heap.size := Nat.lt_of_lt_of_le hgl hup.size
      have hG1 : Hid (gJ F (j + 1) = Nat.gcd (gJ F j) (F j).natAbs) := rfl
      have hsz := @sJ_z F j
      have hsp := @sJ_p F j
      have hsk := @sJ_k F j
      have HL := fun (X : Int) (hX : X.natAbs ≤ 9223372036854775807) (W : World) => l08Gcd_any (gJ F j : Int) X W (by omega) hX
      rcases sJ_pm F j with hs0 | hs0 | hs0
      · rw [hs0] at hsz hsp hsk ⊢
        rcases Int.lt_trichotomy (F j) 0 with hX | hX | hX
        · have HS := Lib.hid (hsz rfl hX)
          have HLo := HL (F j) (by omega)
          have hne : (F j != 0) = true := by simp; omega
          clear hsz hsp hsk hs0 HL
          generalize hFX : F j = X at *
          have HFX := Lib.hid hFX
          clear hFX
          go_wp2_with (go_at_call 76; (with_reducible refine (HLo _).mono ?_); rintro e w1 ⟨rfl, hb1⟩; have hk1 := (hb1.cells.1 _ j hrl).trans hcj; have hk2 := Nat.lt_of_lt_of_le hrl hb1.size)
          refine ⟨⟨j + 1, by rfl, by omega, ?_, by rw [HS.out], (by repeat (first | with_reducible exact Up.refl _ | with_reducible refine Up.alloc ?_ _ | with_reducible refine Up.drew ?_ | with_reducible refine Up.drewN ?_ _ | (with_reducible refine Up.setCell ?_ (by first | omega | (simp; done) | (simp; omega)) _) | with_reducible assumption | (with_reducible refine Up.trans ?_ (by with_reducible assumption))))⟩, by simp only [intOf]; omega⟩
          first | (rw [hG1.out]; done) | (rw [hG1.out, HFX.out]; simp)
        · have HS := Lib.hid (hsk (.inr hX))
          have HLo := HL (F j) (by omega)
          rw [hX] at hcj HLo
          have HFX := Lib.hid hX
          clear hsz hsp hsk hs0 HL hX
          go_wp2_with (go_at_call 76; (with_reducible refine (HLo _).mono ?_); rintro e w1 ⟨rfl, hb1⟩; have hk1 := (hb1.cells.1 _ j hrl).trans hcj; have hk2 := Nat.lt_of_lt_of_le hrl hb1.size)
          refine ⟨⟨j + 1, by rfl, by omega, ?_, by rw [HS.out], (by repeat (first | with_reducible exact Up.refl _ | with_reducible refine Up.alloc ?_ _ | with_reducible refine Up.drew ?_ | with_reducible refine Up.drewN ?_ _ | (with_reducible refine Up.setCell ?_ (by first | omega | (simp; done) | (simp; omega)) _) | with_reducible assumption | (with_reducible refine Up.trans ?_ (by with_reducible assumption))))⟩, by simp only [intOf]; omega⟩
          first | (rw [hG1.out]; done) | (rw [hG1.out, HFX.out]; simp)
        · have HS := Lib.hid (hsp rfl hX)
          have HLo := HL (F j) (by omega)
          have hne : (F j != 0) = true := by simp; omega
          clear hsz hsp hsk hs0 HL
          generalize hFX : F j = X at *
          have HFX := Lib.hid hFX
          clear hFX
          go_wp2_with (go_at_call 76; (with_reducible refine (HLo _).mono ?_); rintro e w1 ⟨rfl, hb1⟩; have hk1 := (hb1.cells.1 _ j hrl).trans hcj; have hk2 := Nat.lt_of_lt_of_le hrl hb1.size)
          refine ⟨⟨j + 1, by rfl, by omega, ?_, by rw [HS.out], (by repeat (first | with_reducible exact Up.refl _ | with_reducible refine Up.alloc ?_ _ | with_reducible refine Up.drew ?_ | with_reducible refine Up.drewN ?_ _ | (with_reducible refine Up.setCell ?_ (by first | omega | (simp; done) | (simp; omega)) _) | with_reducible assumption | (with_reducible refine Up.trans ?_ (by with_reducible assumption))))⟩, by simp only [intOf]; omega⟩
          first | (rw [hG1.out]; done) | (rw [hG1.out, HFX.out]; simp)
      · have HS := Lib.hid (hsk (.inl (by rw [hs0]; omega)))
        rw [hs0] at HS ⊢
        have HLo := HL (F j) (by omega)
        clear hsz hsp hsk hs0 HL
        generalize hFX : F j = X at *
        have HFX := Lib.hid hFX
        clear hFX
        go_wp2_with (go_at_call 76; (with_reducible refine (HLo _).mono ?_); rintro e w1 ⟨rfl, hb1⟩; have hk1 := (hb1.cells.1 _ j hrl).trans hcj; have hk2 := Nat.lt_of_lt_of_le hrl hb1.size)
        refine ⟨⟨j + 1, by rfl, by omega, ?_, by rw [HS.out], (by repeat (first | with_reducible exact Up.refl _ | with_reducible refine Up.alloc ?_ _ | with_reducible refine Up.drew ?_ | with_reducible refine Up.drewN ?_ _ | (with_reducible refine Up.setCell ?_ (by first | omega | (simp; done) | (simp; omega)) _) | with_reducible assumption | (with_reducible refine Up.trans ?_ (by with_reducible assumption))))⟩, by simp only [intOf]; omega⟩
        first | (rw [hG1.out]; done) | (rw [hG1.out, HFX.out]; simp)
      · have HS := Lib.hid (hsk (.inl (by rw [hs0]; omega)))
        rw [hs0] at HS ⊢
        have HLo := HL (F j) (by omega)
        clear hsz hsp hsk hs0 HL
        generalize hFX : F j = X at *
        have HFX := Lib.hid hFX
        clear hFX
        go_wp2_with (go_at_call 76; (with_reducible refine (HLo _).mono ?_); rintro e w1 ⟨rfl, hb1⟩; have hk1 := (hb1.cells.1 _ j hrl).trans hcj; have hk2 := Nat.lt_of_lt_of_le hrl hb1.size)
        refine ⟨⟨j + 1, by rfl, by omega, ?_, by rw [HS.out], (by repeat (first | with_reducible exact Up.refl _ | with_reducible refine Up.alloc ?_ _ | with_reducible refine Up.drew ?_ | with_reducible refine Up.drewN ?_ _ | (with_reducible refine Up.setCell ?_ (by first | omega | (simp; done) | (simp; omega)) _) | with_reducible assumption | (with_reducible refine Up.trans ?_ (by with_reducible assumption))))⟩, by simp only [intOf]; omega⟩
        first | (rw [hG1.out]; done) | (rw [hG1.out, HFX.out]; simp)
    · have hj4' : j = 4 := by omega
      subst hj4'
      have hg : gJ F 4 = g := by rw [gJ_four]; exact HGG.out.symm
      have hs : sJ F 4 = sg := by rw [sJ_four]; exact HSS.out.symm
      rw [hg, hs]
      clear hg hs
      have kpa0 := (hup.cells.1 _ _ glp0).trans gpa0
      have kpb0 := (hup.cells.1 _ _ glp0).trans gpb0
      have kpc0 := (hup.cells.1 _ _ glp0).trans gpc0
      have kpd0 := (hup.cells.1 _ _ glp0).trans gpd0
      have mp0 := Nat.lt_of_lt_of_le glp0 hup.size
      have kqa0 := (hup.cells.1 _ _ glq0).trans gqa0
      have kqb0 := (hup.cells.1 _ _ glq0).trans gqb0
      have kqc0 := (hup.cells.1 _ _ glq0).trans gqc0
      have kqd0 := (hup.cells.1 _ _ glq0).trans gqd0
      have mq0 := Nat.lt_of_lt_of_le glq0 hup.size
      have kra0 := (hup.cells.1 _ _ glr0).trans gra0
      have krb0 := (hup.cells.1 _ _ glr0).trans grb0
      have krc0 := (hup.cells.1 _ _ glr0).trans grc0
      have krd0 := (hup.cells.1 _ _ glr0).trans grd0
      have mr0 := Nat.lt_of_lt_of_le glr0 hup.size
      have ksa0 := (hup.cells.1 _ _ gls0).trans gsa0
      have ksb0 := (hup.cells.1 _ _ gls0).trans gsb0
      have ksc0 := (hup.cells.1 _ _ gls0).trans gsc0
      have ksd0 := (hup.cells.1 _ _ gls0).trans gsd0
      have ms0 := Nat.lt_of_lt_of_le gls0 hup.size
      clear gpa0 gpb0 gpc0 gpd0 gqa0 gqb0 gqc0 gqd0 gra0 grb0 grc0 grd0 gsa0 gsb0 gsc0 gsd0
      obtain ⟨wo, rfl⟩ : ∃ wo : World, wo = wr := ⟨_, rfl⟩
      (try clear hug); (try clear hu0g); (try clear hgle); (try clear hww)
      by_cases hg0 : g = 0
      · have e0 := HN0.out hg0
        have E0 := Lib.hid e0
        clear e0
        subst hg0
        go_wp2
        exact bodyPost_ret (v := .slice (some ⟨wo.heap.size, 0, none⟩) 0 0) (by simp only [results]; go_simp; try simp) rfl ⟨_, rfl, by rw [E0.out]; exact Wr.made1 _ _ _ _ _ _ (Nat.le_refl _), (by repeat (first | with_reducible exact Up.refl _ | with_reducible refine Up.alloc ?_ _ | with_reducible refine Up.drew ?_ | with_reducible refine Up.drewN ?_ _ | (with_reducible refine Up.setCell ?_ (by first | omega | (simp; done) | (simp; omega)) _) | with_reducible assumption | (with_reducible refine Up.trans ?_ (by with_reducible assumption))))⟩
      have hgi : ¬ (g : Int) = 0 := by omega
      have hgb : ((g : Int) == 0) = false := by simpa using hgi
      cases hkp : p.ok with
      | false =>
        have e0 : faN p q r s = 0 := HNf.out (by rw [hkp]; simp)
        have E0 := Lib.hid e0
        have HV : ∀ W, Calls Try.prog 55 #[.agg #[.int .i64 p.a, .int .i64 p.b, .int .i64 p.c, .int .i64 p.d]] W fun en w' => en = .returned (.bool false) ∧ Up W w' := fun W => by have hh := sRowR_any p W; rw [hkp] at hh; exact hh
        clear e0
        go_wp2_with (first | (go_at_call 55; (with_reducible refine (HV _).mono ?_); rintro e w1 ⟨rfl, hb1⟩; obtain ⟨hc1, hf1⟩ := hb1.cells; have hl1 := hb1.lt; have hle1 := hb1.le; have hs1 := hb1.size; (try simp at hs1); (try have hs1a : w.heap.size < w1.heap.size := by omega); (try have hs1aa : w.heap.size ≤ w1.heap.size := by omega); (try have hs1b : w.heap.size + 1 < w1.heap.size := by omega); (try have hs1bb : w.heap.size + 1 ≤ w1.heap.size := by omega); (try have hs1c : w.heap.size + 1 + 1 < w1.heap.size := by omega); (try have hs1cc : w.heap.size + 1 + 1 ≤ w1.heap.size := by omega); (try have hs1d : w.heap.size + 1 + 1 + 1 < w1.heap.size := by omega); (try have hs1dd : w.heap.size + 1 + 1 + 1 ≤ w1.heap.size := by omega); (try have hs1L := Nat.lt_of_succ_le hs1); (try have hs1M := Nat.lt_of_succ_lt hs1L); (try have hs1N := Nat.lt_of_succ_lt hs1M); (try have hs1LE := Nat.le_of_lt hs1L); (try have hs1ME := Nat.le_of_lt hs1M)))
        exact bodyPost_ret (v := .slice (some ⟨w1.heap.size, 0, none⟩) 0 0) (by simp only [results]; go_simp; try simp) rfl ⟨_, rfl, by rw [E0.out]; exact Wr.made1 _ _ _ _ _ _ (Nat.le_refl _), (by repeat (first | with_reducible exact Up.refl _ | with_reducible refine Up.alloc ?_ _ | with_reducible refine Up.drew ?_ | with_reducible refine Up.drewN ?_ _ | (with_reducible refine Up.setCell ?_ (by first | omega | (simp; done) | (simp; omega)) _) | with_reducible assumption | (with_reducible refine Up.trans ?_ (by with_reducible assumption))))⟩
      | true =>
      have Hp : ∀ W, Calls Try.prog 55 #[.agg #[.int .i64 p.a, .int .i64 p.b, .int .i64 p.c, .int .i64 p.d]] W fun en w' => en = .returned (.bool true) ∧ Up W w' := fun W => by have hh := sRowR_any p W; rw [hkp] at hh; exact hh
      cases hkq : q.ok with
      | false =>
        have e0 : faN p q r s = 0 := HNf.out (by rw [hkp, hkq]; simp)
        have E0 := Lib.hid e0
        have HV : ∀ W, Calls Try.prog 55 #[.agg #[.int .i64 q.a, .int .i64 q.b, .int .i64 q.c, .int .i64 q.d]] W fun en w' => en = .returned (.bool false) ∧ Up W w' := fun W => by have hh := sRowR_any q W; rw [hkq] at hh; exact hh
        clear e0
        go_wp2_with (first | (go_at_call 55; (with_reducible refine (Hp _).mono ?_); rintro e w1 ⟨rfl, hb1⟩; obtain ⟨hc1, hf1⟩ := hb1.cells; have hl1 := hb1.lt; have hle1 := hb1.le; have hs1 := hb1.size; (try simp at hs1); (try have hs1a : w.heap.size < w1.heap.size := by omega); (try have hs1aa : w.heap.size ≤ w1.heap.size := by omega); (try have hs1b : w.heap.size + 1 < w1.heap.size := by omega); (try have hs1bb : w.heap.size + 1 ≤ w1.heap.size := by omega); (try have hs1c : w.heap.size + 1 + 1 < w1.heap.size := by omega); (try have hs1cc : w.heap.size + 1 + 1 ≤ w1.heap.size := by omega); (try have hs1d : w.heap.size + 1 + 1 + 1 < w1.heap.size := by omega); (try have hs1dd : w.heap.size + 1 + 1 + 1 ≤ w1.heap.size := by omega); (try have hs1L := Nat.lt_of_succ_le hs1); (try have hs1M := Nat.lt_of_succ_lt hs1L); (try have hs1N := Nat.lt_of_succ_lt hs1M); (try have hs1LE := Nat.le_of_lt hs1L); (try have hs1ME := Nat.le_of_lt hs1M)) | (go_at_call 55; (with_reducible refine (HV _).mono ?_); rintro e w1 ⟨rfl, hb1⟩; obtain ⟨hc1, hf1⟩ := hb1.cells; have hl1 := hb1.lt; have hle1 := hb1.le; have hs1 := hb1.size; (try simp at hs1); (try have hs1a : w.heap.size < w1.heap.size := by omega); (try have hs1aa : w.heap.size ≤ w1.heap.size := by omega); (try have hs1b : w.heap.size + 1 < w1.heap.size := by omega); (try have hs1bb : w.heap.size + 1 ≤ w1.heap.size := by omega); (try have hs1c : w.heap.size + 1 + 1 < w1.heap.size := by omega); (try have hs1cc : w.heap.size + 1 + 1 ≤ w1.heap.size := by omega); (try have hs1d : w.heap.size + 1 + 1 + 1 < w1.heap.size := by omega); (try have hs1dd : w.heap.size + 1 + 1 + 1 ≤ w1.heap.size := by omega); (try have hs1L := Nat.lt_of_succ_le hs1); (try have hs1M := Nat.lt_of_succ_lt hs1L); (try have hs1N := Nat.lt_of_succ_lt hs1M); (try have hs1LE := Nat.le_of_lt hs1L); (try have hs1ME := Nat.le_of_lt hs1M)))
        exact bodyPost_ret (v := .slice (some ⟨w1.heap.size, 0, none⟩) 0 0) (by simp only [results]; go_simp; try simp) rfl ⟨_, rfl, by rw [E0.out]; exact Wr.made1 _ _ _ _ _ _ (Nat.le_refl _), (by repeat (first | with_reducible exact Up.refl _ | with_reducible refine Up.alloc ?_ _ | with_reducible refine Up.drew ?_ | with_reducible refine Up.drewN ?_ _ | (with_reducible refine Up.setCell ?_ (by first | omega | (simp; done) | (simp; omega)) _) | with_reducible assumption | (with_reducible refine Up.trans ?_ (by with_reducible assumption))))⟩
      | true =>
      have Hq : ∀ W, Calls Try.prog 55 #[.agg #[.int .i64 q.a, .int .i64 q.b, .int .i64 q.c, .int .i64 q.d]] W fun en w' => en = .returned (.bool true) ∧ Up W w' := fun W => by have hh := sRowR_any q W; rw [hkq] at hh; exact hh
      cases hkr : r.ok with
      | false =>
        have e0 : faN p q r s = 0 := HNf.out (by rw [hkp, hkq, hkr]; simp)
        have E0 := Lib.hid e0
        have HV : ∀ W, Calls Try.prog 55 #[.agg #[.int .i64 r.a, .int .i64 r.b, .int .i64 r.c, .int .i64 r.d]] W fun en w' => en = .returned (.bool false) ∧ Up W w' := fun W => by have hh := sRowR_any r W; rw [hkr] at hh; exact hh
        clear e0
        go_wp2_with (first | (go_at_call 55; (with_reducible refine (Hp _).mono ?_); rintro e w1 ⟨rfl, hb1⟩; obtain ⟨hc1, hf1⟩ := hb1.cells; have hl1 := hb1.lt; have hle1 := hb1.le; have hs1 := hb1.size; (try simp at hs1); (try have hs1a : w.heap.size < w1.heap.size := by omega); (try have hs1aa : w.heap.size ≤ w1.heap.size := by omega); (try have hs1b : w.heap.size + 1 < w1.heap.size := by omega); (try have hs1bb : w.heap.size + 1 ≤ w1.heap.size := by omega); (try have hs1c : w.heap.size + 1 + 1 < w1.heap.size := by omega); (try have hs1cc : w.heap.size + 1 + 1 ≤ w1.heap.size := by omega); (try have hs1d : w.heap.size + 1 + 1 + 1 < w1.heap.size := by omega); (try have hs1dd : w.heap.size + 1 + 1 + 1 ≤ w1.heap.size := by omega); (try have hs1L := Nat.lt_of_succ_le hs1); (try have hs1M := Nat.lt_of_succ_lt hs1L); (try have hs1N := Nat.lt_of_succ_lt hs1M); (try have hs1LE := Nat.le_of_lt hs1L); (try have hs1ME := Nat.le_of_lt hs1M)) | (go_at_call 55; (with_reducible refine (Hq _).mono ?_); rintro e w1 ⟨rfl, hb1⟩; obtain ⟨hc1, hf1⟩ := hb1.cells; have hl1 := hb1.lt; have hle1 := hb1.le; have hs1 := hb1.size; (try simp at hs1); (try have hs1a : w.heap.size < w1.heap.size := by omega); (try have hs1aa : w.heap.size ≤ w1.heap.size := by omega); (try have hs1b : w.heap.size + 1 < w1.heap.size := by omega); (try have hs1bb : w.heap.size + 1 ≤ w1.heap.size := by omega); (try have hs1c : w.heap.size + 1 + 1 < w1.heap.size := by omega); (try have hs1cc : w.heap.size + 1 + 1 ≤ w1.heap.size := by omega); (try have hs1d : w.heap.size + 1 + 1 + 1 < w1.heap.size := by omega); (try have hs1dd : w.heap.size + 1 + 1 + 1 ≤ w1.heap.size := by omega); (try have hs1L := Nat.lt_of_succ_le hs1); (try have hs1M := Nat.lt_of_succ_lt hs1L); (try have hs1N := Nat.lt_of_succ_lt hs1M); (try have hs1LE := Nat.le_of_lt hs1L); (try have hs1ME := Nat.le_of_lt hs1M)) | (go_at_call 55; (with_reducible refine (HV _).mono ?_); rintro e w1 ⟨rfl, hb1⟩; obtain ⟨hc1, hf1⟩ := hb1.cells; have hl1 := hb1.lt; have hle1 := hb1.le; have hs1 := hb1.size; (try simp at hs1); (try have hs1a : w.heap.size < w1.heap.size := by omega); (try have hs1aa : w.heap.size ≤ w1.heap.size := by omega); (try have hs1b : w.heap.size + 1 < w1.heap.size := by omega); (try have hs1bb : w.heap.size + 1 ≤ w1.heap.size := by omega); (try have hs1c : w.heap.size + 1 + 1 < w1.heap.size := by omega); (try have hs1cc : w.heap.size + 1 + 1 ≤ w1.heap.size := by omega); (try have hs1d : w.heap.size + 1 + 1 + 1 < w1.heap.size := by omega); (try have hs1dd : w.heap.size + 1 + 1 + 1 ≤ w1.heap.size := by omega); (try have hs1L := Nat.lt_of_succ_le hs1); (try have hs1M := Nat.lt_of_succ_lt hs1L); (try have hs1N := Nat.lt_of_succ_lt hs1M); (try have hs1LE := Nat.le_of_lt hs1L); (try have hs1ME := Nat.le_of_lt hs1M)))
        exact bodyPost_ret (v := .slice (some ⟨w1.heap.size, 0, none⟩) 0 0) (by simp only [results]; go_simp; try simp) rfl ⟨_, rfl, by rw [E0.out]; exact Wr.made1 _ _ _ _ _ _ (Nat.le_refl _), (by repeat (first | with_reducible exact Up.refl _ | with_reducible refine Up.alloc ?_ _ | with_reducible refine Up.drew ?_ | with_reducible refine Up.drewN ?_ _ | (with_reducible refine Up.setCell ?_ (by first | omega | (simp; done) | (simp; omega)) _) | with_reducible assumption | (with_reducible refine Up.trans ?_ (by with_reducible assumption))))⟩
      | true =>
      have Hr : ∀ W, Calls Try.prog 55 #[.agg #[.int .i64 r.a, .int .i64 r.b, .int .i64 r.c, .int .i64 r.d]] W fun en w' => en = .returned (.bool true) ∧ Up W w' := fun W => by have hh := sRowR_any r W; rw [hkr] at hh; exact hh
      cases hks : s.ok with
      | false =>
        have e0 : faN p q r s = 0 := HNf.out (by rw [hkp, hkq, hkr, hks]; simp)
        have E0 := Lib.hid e0
        have HV : ∀ W, Calls Try.prog 55 #[.agg #[.int .i64 s.a, .int .i64 s.b, .int .i64 s.c, .int .i64 s.d]] W fun en w' => en = .returned (.bool false) ∧ Up W w' := fun W => by have hh := sRowR_any s W; rw [hks] at hh; exact hh
        clear e0
        go_wp2_with (first | (go_at_call 55; (with_reducible refine (Hp _).mono ?_); rintro e w1 ⟨rfl, hb1⟩; obtain ⟨hc1, hf1⟩ := hb1.cells; have hl1 := hb1.lt; have hle1 := hb1.le; have hs1 := hb1.size; (try simp at hs1); (try have hs1a : w.heap.size < w1.heap.size := by omega); (try have hs1aa : w.heap.size ≤ w1.heap.size := by omega); (try have hs1b : w.heap.size + 1 < w1.heap.size := by omega); (try have hs1bb : w.heap.size + 1 ≤ w1.heap.size := by omega); (try have hs1c : w.heap.size + 1 + 1 < w1.heap.size := by omega); (try have hs1cc : w.heap.size + 1 + 1 ≤ w1.heap.size := by omega); (try have hs1d : w.heap.size + 1 + 1 + 1 < w1.heap.size := by omega); (try have hs1dd : w.heap.size + 1 + 1 + 1 ≤ w1.heap.size := by omega); (try have hs1L := Nat.lt_of_succ_le hs1); (try have hs1M := Nat.lt_of_succ_lt hs1L); (try have hs1N := Nat.lt_of_succ_lt hs1M); (try have hs1LE := Nat.le_of_lt hs1L); (try have hs1ME := Nat.le_of_lt hs1M)) | (go_at_call 55; (with_reducible refine (Hq _).mono ?_); rintro e w1 ⟨rfl, hb1⟩; obtain ⟨hc1, hf1⟩ := hb1.cells; have hl1 := hb1.lt; have hle1 := hb1.le; have hs1 := hb1.size; (try simp at hs1); (try have hs1a : w.heap.size < w1.heap.size := by omega); (try have hs1aa : w.heap.size ≤ w1.heap.size := by omega); (try have hs1b : w.heap.size + 1 < w1.heap.size := by omega); (try have hs1bb : w.heap.size + 1 ≤ w1.heap.size := by omega); (try have hs1c : w.heap.size + 1 + 1 < w1.heap.size := by omega); (try have hs1cc : w.heap.size + 1 + 1 ≤ w1.heap.size := by omega); (try have hs1d : w.heap.size + 1 + 1 + 1 < w1.heap.size := by omega); (try have hs1dd : w.heap.size + 1 + 1 + 1 ≤ w1.heap.size := by omega); (try have hs1L := Nat.lt_of_succ_le hs1); (try have hs1M := Nat.lt_of_succ_lt hs1L); (try have hs1N := Nat.lt_of_succ_lt hs1M); (try have hs1LE := Nat.le_of_lt hs1L); (try have hs1ME := Nat.le_of_lt hs1M)) | (go_at_call 55; (with_reducible refine (Hr _).mono ?_); rintro e w1 ⟨rfl, hb1⟩; obtain ⟨hc1, hf1⟩ := hb1.cells; have hl1 := hb1.lt; have hle1 := hb1.le; have hs1 := hb1.size; (try simp at hs1); (try have hs1a : w.heap.size < w1.heap.size := by omega); (try have hs1aa : w.heap.size ≤ w1.heap.size := by omega); (try have hs1b : w.heap.size + 1 < w1.heap.size := by omega); (try have hs1bb : w.heap.size + 1 ≤ w1.heap.size := by omega); (try have hs1c : w.heap.size + 1 + 1 < w1.heap.size := by omega); (try have hs1cc : w.heap.size + 1 + 1 ≤ w1.heap.size := by omega); (try have hs1d : w.heap.size + 1 + 1 + 1 < w1.heap.size := by omega); (try have hs1dd : w.heap.size + 1 + 1 + 1 ≤ w1.heap.size := by omega); (try have hs1L := Nat.lt_of_succ_le hs1); (try have hs1M := Nat.lt_of_succ_lt hs1L); (try have hs1N := Nat.lt_of_succ_lt hs1M); (try have hs1LE := Nat.le_of_lt hs1L); (try have hs1ME := Nat.le_of_lt hs1M)) | (go_at_call 55; (with_reducible refine (HV _).mono ?_); rintro e w1 ⟨rfl, hb1⟩; obtain ⟨hc1, hf1⟩ := hb1.cells; have hl1 := hb1.lt; have hle1 := hb1.le; have hs1 := hb1.size; (try simp at hs1); (try have hs1a : w.heap.size < w1.heap.size := by omega); (try have hs1aa : w.heap.size ≤ w1.heap.size := by omega); (try have hs1b : w.heap.size + 1 < w1.heap.size := by omega); (try have hs1bb : w.heap.size + 1 ≤ w1.heap.size := by omega); (try have hs1c : w.heap.size + 1 + 1 < w1.heap.size := by omega); (try have hs1cc : w.heap.size + 1 + 1 ≤ w1.heap.size := by omega); (try have hs1d : w.heap.size + 1 + 1 + 1 < w1.heap.size := by omega); (try have hs1dd : w.heap.size + 1 + 1 + 1 ≤ w1.heap.size := by omega); (try have hs1L := Nat.lt_of_succ_le hs1); (try have hs1M := Nat.lt_of_succ_lt hs1L); (try have hs1N := Nat.lt_of_succ_lt hs1M); (try have hs1LE := Nat.le_of_lt hs1L); (try have hs1ME := Nat.le_of_lt hs1M)))
        exact bodyPost_ret (v := .slice (some ⟨w1.heap.size, 0, none⟩) 0 0) (by simp only [results]; go_simp; try simp) rfl ⟨_, rfl, by rw [E0.out]; exact Wr.made1 _ _ _ _ _ _ (Nat.le_refl _), (by repeat (first | with_reducible exact Up.refl _ | with_reducible refine Up.alloc ?_ _ | with_reducible refine Up.drew ?_ | with_reducible refine Up.drewN ?_ _ | (with_reducible refine Up.setCell ?_ (by first | omega | (simp; done) | (simp; omega)) _) | with_reducible assumption | (with_reducible refine Up.trans ?_ (by with_reducible assumption))))⟩
      | true =>
      have Hs : ∀ W, Calls Try.prog 55 #[.agg #[.int .i64 s.a, .int .i64 s.b, .int .i64 s.c, .int .i64 s.d]] W fun en w' => en = .returned (.bool true) ∧ Up W w' := fun W => by have hh := sRowR_any s W; rw [hks] at hh; exact hh
      have e4 := HN4.out (by rw [hkp, hkq, hkr, hks]; rfl) hg0
      have E4 := Lib.hid e4
      have hpm : sg = 1 ∨ sg = -1 := by
        rw [HSS.out]
        exact sg4_pm (g4_ne (by rw [← HGG.out]; exact hg0))
      clear e4
      have hck : ∀ j, j < 4 → wo.cell? ⟨h, j, none⟩ = some (.int .i64 (F j)) := fun j hj => (hup.cells.1 _ j hgl).trans (HC.out j hj)
      have hfk : ∀ o, wo.frozen? ⟨h, o, none⟩ = false := fun o => (hup.cells.2 _ o hgl).trans (HCF.out o)
      have HCK0 := Lib.hid hck
      have HFK0 := Lib.hid hfk
      have hlk0 : h < wo.heap.size := Nat.lt_of_lt_of_le hgl hup.size
      clear hck hfk
      go_wp2_with (first | (go_at_call 55; (with_reducible refine (Hp _).mono ?_); rintro e w1 ⟨rfl, hb1⟩; obtain ⟨hc1, hf1⟩ := hb1.cells; have hl1 := hb1.lt; have hle1 := hb1.le; have hs1 := hb1.size; (try simp at hs1); (try have hs1a : w.heap.size < w1.heap.size := by omega); (try have hs1aa : w.heap.size ≤ w1.heap.size := by omega); (try have hs1b : w.heap.size + 1 < w1.heap.size := by omega); (try have hs1bb : w.heap.size + 1 ≤ w1.heap.size := by omega); (try have hs1c : w.heap.size + 1 + 1 < w1.heap.size := by omega); (try have hs1cc : w.heap.size + 1 + 1 ≤ w1.heap.size := by omega); (try have hs1d : w.heap.size + 1 + 1 + 1 < w1.heap.size := by omega); (try have hs1dd : w.heap.size + 1 + 1 + 1 ≤ w1.heap.size := by omega); (try have hs1L := Nat.lt_of_succ_le hs1); (try have hs1M := Nat.lt_of_succ_lt hs1L); (try have hs1N := Nat.lt_of_succ_lt hs1M); (try have hs1LE := Nat.le_of_lt hs1L); (try have hs1ME := Nat.le_of_lt hs1M)) | (go_at_call 55; (with_reducible refine (Hq _).mono ?_); rintro e w1 ⟨rfl, hb1⟩; obtain ⟨hc1, hf1⟩ := hb1.cells; have hl1 := hb1.lt; have hle1 := hb1.le; have hs1 := hb1.size; (try simp at hs1); (try have hs1a : w.heap.size < w1.heap.size := by omega); (try have hs1aa : w.heap.size ≤ w1.heap.size := by omega); (try have hs1b : w.heap.size + 1 < w1.heap.size := by omega); (try have hs1bb : w.heap.size + 1 ≤ w1.heap.size := by omega); (try have hs1c : w.heap.size + 1 + 1 < w1.heap.size := by omega); (try have hs1cc : w.heap.size + 1 + 1 ≤ w1.heap.size := by omega); (try have hs1d : w.heap.size + 1 + 1 + 1 < w1.heap.size := by omega); (try have hs1dd : w.heap.size + 1 + 1 + 1 ≤ w1.heap.size := by omega); (try have hs1L := Nat.lt_of_succ_le hs1); (try have hs1M := Nat.lt_of_succ_lt hs1L); (try have hs1N := Nat.lt_of_succ_lt hs1M); (try have hs1LE := Nat.le_of_lt hs1L); (try have hs1ME := Nat.le_of_lt hs1M)) | (go_at_call 55; (with_reducible refine (Hr _).mono ?_); rintro e w1 ⟨rfl, hb1⟩; obtain ⟨hc1, hf1⟩ := hb1.cells; have hl1 := hb1.lt; have hle1 := hb1.le; have hs1 := hb1.size; (try simp at hs1); (try have hs1a : w.heap.size < w1.heap.size := by omega); (try have hs1aa : w.heap.size ≤ w1.heap.size := by omega); (try have hs1b : w.heap.size + 1 < w1.heap.size := by omega); (try have hs1bb : w.heap.size + 1 ≤ w1.heap.size := by omega); (try have hs1c : w.heap.size + 1 + 1 < w1.heap.size := by omega); (try have hs1cc : w.heap.size + 1 + 1 ≤ w1.heap.size := by omega); (try have hs1d : w.heap.size + 1 + 1 + 1 < w1.heap.size := by omega); (try have hs1dd : w.heap.size + 1 + 1 + 1 ≤ w1.heap.size := by omega); (try have hs1L := Nat.lt_of_succ_le hs1); (try have hs1M := Nat.lt_of_succ_lt hs1L); (try have hs1N := Nat.lt_of_succ_lt hs1M); (try have hs1LE := Nat.le_of_lt hs1L); (try have hs1ME := Nat.le_of_lt hs1M)) | (go_at_call 55; (with_reducible refine (Hs _).mono ?_); rintro e w1 ⟨rfl, hb1⟩; obtain ⟨hc1, hf1⟩ := hb1.cells; have hl1 := hb1.lt; have hle1 := hb1.le; have hs1 := hb1.size; (try simp at hs1); (try have hs1a : w.heap.size < w1.heap.size := by omega); (try have hs1aa : w.heap.size ≤ w1.heap.size := by omega); (try have hs1b : w.heap.size + 1 < w1.heap.size := by omega); (try have hs1bb : w.heap.size + 1 ≤ w1.heap.size := by omega); (try have hs1c : w.heap.size + 1 + 1 < w1.heap.size := by omega); (try have hs1cc : w.heap.size + 1 + 1 ≤ w1.heap.size := by omega); (try have hs1d : w.heap.size + 1 + 1 + 1 < w1.heap.size := by omega); (try have hs1dd : w.heap.size + 1 + 1 + 1 ≤ w1.heap.size := by omega); (try have hs1L := Nat.lt_of_succ_le hs1); (try have hs1M := Nat.lt_of_succ_lt hs1L); (try have hs1N := Nat.lt_of_succ_lt hs1M); (try have hs1LE := Nat.le_of_lt hs1L); (try have hs1ME := Nat.le_of_lt hs1M)))
      have huo : Up wo w1 := (by repeat (first | with_reducible exact Up.refl _ | with_reducible refine Up.alloc ?_ _ | with_reducible refine Up.drew ?_ | with_reducible refine Up.drewN ?_ _ | (with_reducible refine Up.setCell ?_ (by first | omega | (simp; done) | (simp; omega)) _) | with_reducible assumption | (with_reducible refine Up.trans ?_ (by with_reducible assumption))))
      have HCK : Hid (∀ j, j < 4 → w1.cell? ⟨h, j, none⟩ = some (.int .i64 (F j))) := fun j hj => (huo.cells.1 _ j hlk0).trans (HCK0.out j hj)
      have HFK : Hid (∀ o, w1.frozen? ⟨h, o, none⟩ = false) := fun o => (huo.cells.2 _ o hlk0).trans (HFK0.out o)
      have hlk : h < w1.heap.size := Nat.lt_of_lt_of_le hlk0 huo.size
      have hu5 : Up w w1 := hupw.trans huo
      obtain ⟨w5, rfl⟩ : ∃ w5 : World, w5 = w1 := ⟨_, rfl⟩
      go_loopw [13] (fun i wr => ∃ j : Nat, i = .int .i64 (j : Int) ∧ j ≤ 4 ∧ Hid (∀ k, k < 4 → wr.cell? ⟨h, k, none⟩ = some (.int .i64 (if k < j then (sg * F k).tdiv (g : Int) else F k))) ∧ Hid (∀ o, wr.frozen? ⟨h, o, none⟩ = false) ∧ h < wr.heap.size ∧ Up w wr) (fun i _ => 4 - (intOf i).toNat)
      case atStart => exact ⟨0, rfl, Nat.zero_le _, fun k hk => by rw [if_neg (by omega)]; exact HCK.out k hk, HFK, hlk, hu5⟩
      case round =>
        obtain ⟨j, rfl, hj, hcs, hfs, hlr, hur⟩ := hrel
        by_cases hj4 : j < 4
        · have hcj2 := hcs.out j hj4
          rw [if_neg (by omega)] at hcj2
          have hfj := hfs.out j
          have hj5 : (j : Int) < 4 := by omega
          have hbd := HF.out j hj4
          have hm1 : -60000 ≤ sg * F j ∧ sg * F j ≤ 60000 := by rcases hpm with h | h <;> rw [h] <;> omega
          have htd := tdiv_le (d := (g : Int)) hm1.1 hm1.2
          have hwm : IntKind.i64.wrap (sg * F j) = sg * F j := by rw [IntKind.wrap_i64]; omega
          have hwt : IntKind.i64.wrap ((sg * F j).tdiv (g : Int)) = (sg * F j).tdiv (g : Int) := by rw [IntKind.wrap_i64]; omega
          generalize hQ : (sg * F j).tdiv (g : Int) = Q at htd hwt
          have HQ := Lib.hid hQ
          have hQQ : (sg * F j).tdiv (g : Int) = Q := hQ
          clear hQ hbd
          go_wp2
          refine ⟨⟨j + 1, by rfl, by omega, fun k hk => ?_, fun o => by rw [World.frozen?_setCell]; exact hfs.out o, by simpa [World.setCell] using hlr, hur.setCell hle4 _⟩, by simp only [intOf]; omega⟩
          by_cases hkj : k = j
          · subst hkj
            rw [if_pos (by omega), HQ.out]
            exact World.cell?_setCell_same' _ _ _ (by rw [hcj2]; rfl)
          · rw [World.cell?_setCell_other _ _ _ _ (by simp <;> omega), hcs.out k hk]
            by_cases hkl : k < j
            · rw [if_pos hkl, if_pos (by omega)]
            · rw [if_neg hkl, if_neg (by omega)]
        · have hj4' : j = 4 := by omega
          subst hj4'
          go_wp2
          go_ret
          refine ⟨.slice (some ⟨h, 0, none⟩) 4 4, rfl, ?_, hur⟩
          rw [E4.out]
          refine ⟨Nat.le_refl _, _, 4, rfl, Nat.le_refl _, fun _ => ⟨h, rfl, hle4, hlr, fun i jj hi hjj => ?_, hfs.out⟩⟩
          have := hcs.out i hi
          rw [if_pos hi] at this
          have hz0 : jj = 0 := by omega
          subst hz0
          simp only [intF]
          rw [HRR.out, ← tdiv_sg hpm]
          simpa using this
end Go.Proofs.Ytlpbmdoggcclpaa
