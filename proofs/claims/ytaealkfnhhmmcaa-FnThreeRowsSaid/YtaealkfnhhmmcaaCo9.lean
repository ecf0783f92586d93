/- CornersOf beside leavers: from the rows' being sound to the end. No condition. -/
import Derived.Test.YtaealkfnhhmmcaaCo11
import Derived.Conc.AppendWalk
namespace Go.Proofs.Ytaealkfnhhmmcaa
open Sim Go.Conc Go.ConcN Go.RowKit Go.Conc.Lib Go.ConcR.Gen Go.ConcN.Gen
open Go.ConcR (KK wgBlock WgAt stA smA rd wr mk Payload DC0)
set_option linter.unusedVariables false
section
variable {Shun : Go.Loc → Prop} {SB S : Nat → Prop} {Post : Value → World → Prop} {c1 : Frame} {cs1 : List Frame}
theorem not_shun (hSB : ∀ l, Shun l → ∃ a : Addr, l = .cell a ∧ SB a.block) {a : Addr} (h : ¬ SB a.block) : ¬ Shun (.cell a) := fun hs => by
  obtain ⟨b, e, hb⟩ := hSB _ hs
  cases e
  exact h hb
theorem TL_info : (Try.prog.info? 45).map (fun i => (i.zero, i.size, i.bytes)) = some (some (.slice none 0 0), 1, 24) := by kernel_rfl
set_option maxRecDepth 100000 in
set_option maxHeartbeats 4000000 in
theorem mid7 {w : World} {A0 n c Br : Nat} {R : Nat → Nat → Int} {T : Array Value} (hSB : ∀ l, Shun l → ∃ a : Addr, l = .cell a ∧ SB a.block) (hj : JW Try.prog SB S w) (hSA : S A0) (hSBr : S Br) (hInt : IntB w A0) (hsl : Sl w 0 w.heap.size 4 (.slice (some ⟨A0, 0, none⟩) n c) n (intF R))
    (hcB : w.cell? ⟨Br, 0, none⟩ = some (.slice (some ⟨A0, 0, none⟩) n c)) (hT : T.size = 55) (t1 : T[1]? = some (.pointer (some ⟨Br, 0, none⟩))) (al : alive T = U0) (hok : coOk R n = true)
    (hnext : ∀ v w' (Shun' : Go.Loc → Prop) (SB' S' : Nat → Prop), (∀ l, Shun' l → ∃ a : Addr, l = .cell a ∧ SB' a.block) → (∀ b, SB b → SB' b) → (∀ b, SB' b → SB b ∨ w.heap.size ≤ b) → (∀ b, S b → S' b) → JW Try.prog SB' S' w' → VR (idS S') v v → Wr w' w.heap.size w'.heap.size 4 v (coL R n).length (thF (coL R n)) → UpN SB w w' → J Try.prog Post Shun' (G (c1.finish v) cs1) w') :
    J Try.prog Post Shun (G ((base 14).at ⟨T, []⟩ [.code R3]) (c1 :: cs1)) w := by
  obtain ⟨v0, v1, v2, v3, v4, v5, v6, v7, v8, v9, v10, v11, v12, v13, v14, v15, v16, v17, v18, v19, v20, v21, v22, v23, v24, v25, v26, v27, v28, v29, v30, v31, v32, v33, v34, v35, v36, v37, v38, v39, v40, v41, v42, v43, v44, v45, v46, v47, v48, v49, v50, v51, v52, v53, v54, rfl⟩ := array55 T hT
  simp only [List.getElem?_toArray, List.getElem?_cons_succ, List.getElem?_cons_zero, Option.some.injEq] at t1
  subst t1
  have hn3 : 3 ≤ n ∧ n ≤ 20 := by
    have h := hok
    rw [coOk, Bool.and_eq_true] at h
    have := inB_true.1 h.1
    omega
  have hBl := jw_lt hj hSBr
  have hev : ∀ x, EvX Shun w.heap.size ⟨.cell ⟨Br, 0, none⟩, x, false⟩ := fun x => evX_cell _ _ (not_shun hSB (hj.nb Br hSBr)) hBl
  simp only [R3, body7, Try.f14, Option.getD_some]
  have hf : AtRel w w := atRel_refl w
  refine J.quiet (n := 20) ?_
  u_c stepG_seq at_tr hf
  u_reg at_tr hf
  refine Goes.stop fun w₁ h₁ => J.at ?_ (at_tr hf h₁)
  clear hf
  refine J.value (w' := w) (v := .slice (some ⟨A0, 0, none⟩) n c) rfl rfl (by decide) (fun d => ⟨run_eq_of fun K hK => by go_simp; exact hK, fun e he => by simp [go_sem, *] at he; subst he; exact hev _⟩) (Nat.le_refl _) ?_
  walk_nrm
  have hf : AtRel w w := atRel_refl w
  refine J.quiet (n := 20) ?_
  u_op at_tr hf
  refine Goes.stop fun w₁ h₁ => J.at ?_ (at_tr hf h₁)
  clear hf
  -- the list of the workers' results
  obtain ⟨i0, hi0, hz0, hz1, hz2⟩ := info_parts TL_info
  have hmk : ∀ W : World, (Instr.makeSlice 70 (.int .i64 (n : Int)) (.int .i64 (n : Int))).run Try.prog W = .ok (.slice (some ⟨W.heap.size, 0, none⟩) n n) (W.alloc (.cells (madeCells #[.slice none 0 0] n) 45)) := fun W => by
    have := run_mkN (P := Try.prog) 70 45 i0 (.slice none 0 0) Try.underlying70 hi0 hz0 n (by rw [hz2]; omega) (by omega) W
    rw [hz1, Nat.mul_one] at this
    exact this
  have hme : ∀ W : World, (Instr.makeSlice 70 (.int .i64 (n : Int)) (.int .i64 (n : Int))).events Try.prog W #[] = #[] := fun W =>
    events_make W 70 45 i0 (.slice none 0 0) Try.underlying70 hi0 hz0 .i64 .i64 n n (by omega) (by omega) (by rw [hz2]; omega) (by omega) (by rw [hz2]; omega) #[]
  refine J.value (w' := w.alloc (.cells (madeCells #[.slice none 0 0] n) 45)) (v := .slice (some ⟨w.heap.size, 0, none⟩) n n) rfl rfl (by decide) (fun d => ⟨run_eq_of fun K hK => by go_simp; exact hK, fun e he => by simp [go_sem, hme] at he⟩) (by simp) ?_
  walk_nrm
  clear hmk hme
  have hnew := heap_alloc_new w (.cells (madeCells #[.slice none 0 0] n) 45)
  have hup := (UpN.refl SB w).alloc (.cells (madeCells #[.slice none 0 0] n) 45)
  have hjC : JW Try.prog SB S (w.alloc (.cells (madeCells #[.slice none 0 0] n) 45)) := jw_keep hj (fun b hb => hup.keep b (jw_lt hj hb) (hj.nb b hb)) hup.size
  have hCl : w.heap.size < (w.alloc (.cells (madeCells #[.slice none 0 0] n) 45)).heap.size := by simp
  obtain ⟨C, hC⟩ : ∃ C, C = w.heap.size := ⟨_, rfl⟩
  obtain ⟨wC, hwC⟩ : ∃ wC, wC = w.alloc (.cells (madeCells #[.slice none 0 0] n) 45) := ⟨_, rfl⟩
  rw [← hC, ← hwC] at hnew hCl
  rw [← hwC] at hup hjC
  rw [← hC, ← hwC]
  have HC := Lib.hid hC
  have HwC := Lib.hid hwC
  clear hC hwC
  -- the box of the list
  refine J.value (w' := wC.alloc (.cells #[.slice none 0 0] 70)) (v := .pointer (some ⟨wC.heap.size, 0, none⟩)) rfl rfl (by decide) (fun d => ⟨run_eq_of fun K hK => by go_simp; exact hK, fun e he => by simp [go_sem, *] at he⟩) (by simp) ?_
  walk_nrm
  have hnewF := heap_alloc_new wC (.cells #[.slice none 0 0] 70)
  have hupF := hup.alloc (.cells #[.slice none 0 0] 70)
  have hjF : JW Try.prog SB S (wC.alloc (.cells #[.slice none 0 0] 70)) := jw_keep hjC (fun b hb => Below.heap_alloc _ _ b (jw_lt hjC hb)) (by simp)
  have hFl : wC.heap.size < (wC.alloc (.cells #[.slice none 0 0] 70)).heap.size := by simp
  have hnewC : (wC.alloc (.cells #[.slice none 0 0] 70)).heap[C]? = some (.cells (madeCells #[.slice none 0 0] n) 45) := (Below.heap_alloc _ _ C hCl).trans hnew
  obtain ⟨F, hF⟩ : ∃ F, F = wC.heap.size := ⟨_, rfl⟩
  obtain ⟨wF, hwF⟩ : ∃ wF, wF = wC.alloc (.cells #[.slice none 0 0] 70) := ⟨_, rfl⟩
  rw [← hF, ← hwF] at hnewF hFl
  rw [← hwF] at hupF hjF hnewC
  rw [← hF, ← hwF]
  have hCF : C < F := by rw [hF]; exact hCl
  have hwF0 : w.heap.size ≤ C := by rw [HC.out]; exact Nat.le_refl _
  have HF := Lib.hid hF
  clear hF hwF hnew hCl hup hjC
  have hcF : wF.cell? ⟨F, 0, none⟩ = some (.slice none 0 0) := cell_cells hnewF
  have hzF : wF.frozen? ⟨F, 0, none⟩ = false := by simp [World.frozen?, hnewF]
  have hnF : ¬ SB F := fun h => by
    have h1 := hj.sb F h
    omega
  have hevF : ∀ x, EvX Shun wF.heap.size ⟨.cell ⟨F, 0, none⟩, x, false⟩ := fun x => evX_cell _ _ (not_shun hSB hnF) hFl
  refine J.none (w' := wF.setCell ⟨F, 0, none⟩ (.slice (some ⟨C, 0, none⟩) n n)) rfl rfl (by decide) (fun d => ?_) (by rw [(aside_setCell wF ⟨F, 0, none⟩ (.slice (some ⟨C, 0, none⟩) n n)).size]; exact Nat.le_refl _) ?_
  · refine ⟨?_, fun e he => ?_⟩
    · unfold execOp
      simp [go_sem, stored, Act.eval, hcF, hzF]
      rfl
    · unfold execOp at he
      simp [go_sem, events_store_sl, storedEv, Act.eval, hcF, hzF] at he
      subst he
      rw [(aside_setCell wF ⟨F, 0, none⟩ (.slice (some ⟨C, 0, none⟩) n n)).size]
      exact hevF _
  walk_nrm
  have hupS := hupF.set ⟨F, 0, none⟩ (.slice (some ⟨C, 0, none⟩) n n) (by show w.heap.size ≤ F; omega)
  have hSF : ∀ b, S b → b ≠ F := fun b hb e => by have := jw_lt hj hb; omega
  have hSC : ∀ b, S b → b ≠ C := fun b hb e => by have := jw_lt hj hb; omega
  have hsz1 := (aside_setCell wF ⟨F, 0, none⟩ (.slice (some ⟨C, 0, none⟩) n n)).size
  have hjS : JW Try.prog SB S (wF.setCell ⟨F, 0, none⟩ (.slice (some ⟨C, 0, none⟩) n n)) := jw_keep hjF (fun b hb => (aside_setCell wF ⟨F, 0, none⟩ (.slice (some ⟨C, 0, none⟩) n n)).block b (hSF b hb)) (by rw [hsz1]; exact Nat.le_refl _)
  have hCS : (wF.setCell ⟨F, 0, none⟩ (.slice (some ⟨C, 0, none⟩) n n)).heap[C]? = some (.cells (madeCells #[.slice none 0 0] n) 45) := ((aside_setCell wF ⟨F, 0, none⟩ (.slice (some ⟨C, 0, none⟩) n n)).block C (by show C ≠ F; omega)).trans hnewC
  have hFS : (wF.setCell ⟨F, 0, none⟩ (.slice (some ⟨C, 0, none⟩) n n)).heap[F]? = some (.cells #[.slice (some ⟨C, 0, none⟩) n n] 70) := by simp [World.setCell, Array.getElem?_modify, hnewF]
  obtain ⟨wS, hwS⟩ : ∃ wS, wS = wF.setCell ⟨F, 0, none⟩ (.slice (some ⟨C, 0, none⟩) n n) := ⟨_, rfl⟩
  rw [← hwS] at hupS hjS hCS hFS
  rw [← hwS]
  clear hwS hcF hzF hnewF hevF hupF hjF hnewC hsz1 hFl
  have hf : AtRel wS wS := atRel_refl wS
  refine J.quiet (n := 20) ?_
  u_c stepG_region_end at_tr hf
  u_c stepG_seq at_tr hf
  u_reg at_tr hf
  refine Goes.stop fun w₁ h₁ => J.at ?_ (at_tr hf h₁)
  clear hf
  -- the group: from here on its block is shunned
  refine J.shun ?_
  refine J.value (w' := wS.alloc (.cells #[.int .u64 0, .int .u32 0] 80)) (v := .pointer (some ⟨wS.heap.size, 0, none⟩)) rfl rfl (by decide) (fun d => ⟨run_eq_of fun K hK => by go_simp; exact hK, fun e he => by simp [go_sem, *] at he⟩) (by simp) ?_
  walk_nrm
  have hwg : WgAt link.tWg wS.heap.size (wS.alloc (.cells #[.int .u64 0, .int .u32 0] 80)) 0 0 := heap_alloc_new wS _
  have hupA := hupS.alloc (.cells #[.int .u64 0, .int .u32 0] 80)
  have hWgl : wS.heap.size < (wS.alloc (.cells #[.int .u64 0, .int .u32 0] 80)).heap.size := by simp
  have hjA0 : JW Try.prog SB S (wS.alloc (.cells #[.int .u64 0, .int .u32 0] 80)) := jw_keep hjS (fun b hb => Below.heap_alloc _ _ b (jw_lt hjS hb)) (by simp)
  have hjA := jw_shun hjA0 (x := wS.heap.size) (fun h => by have := jw_lt hjS h; omega) hWgl
  have hFw : F < wS.heap.size := (Array.getElem?_eq_some_iff.1 hFS).1
  have hFA := (Below.heap_alloc wS (.cells #[.int .u64 0, .int .u32 0] 80) F hFw).trans hFS
  have hCA := (Below.heap_alloc wS (.cells #[.int .u64 0, .int .u32 0] 80) C (by omega)).trans hCS
  obtain ⟨Wg, hWg⟩ : ∃ Wg, Wg = wS.heap.size := ⟨_, rfl⟩
  obtain ⟨wA, hwA⟩ : ∃ wA, wA = wS.alloc (.cells #[.int .u64 0, .int .u32 0] 80) := ⟨_, rfl⟩
  rw [← hWg, ← hwA] at hwg hWgl hjA
  rw [← hwA] at hupA hFA hCA
  rw [← hWg, ← hwA]
  have hFW : F < Wg := by rw [hWg]; exact hFw
  clear hwA hWg hFS hCS hjS hjA0 hupS hFw
  have hSB' : ∀ l, shunNew Shun Wg l → ∃ a : Addr, l = .cell a ∧ (SB a.block ∨ a.block = Wg) := fun l hl => by
    rcases hl with h | ⟨a, e, ha⟩
    · obtain ⟨a, e, h⟩ := hSB l h
      exact ⟨a, e, .inl h⟩
    · exact ⟨a, e, .inr ha⟩
  have hcB' : wA.cell? ⟨Br, 0, none⟩ = some (.slice (some ⟨A0, 0, none⟩) n c) := (cell_heap (hupA.keep Br hBl (hj.nb Br hSBr))).trans hcB
  have hBA := Nat.lt_of_lt_of_le hBl hupA.size
  have hev2 : ∀ x, EvX (shunNew Shun Wg) wA.heap.size ⟨.cell ⟨Br, 0, none⟩, x, false⟩ := fun x => evX_cell _ _ (not_shun (SB := fun b => SB b ∨ b = Wg) hSB' (hjA.nb Br hSBr)) hBA
  have hf : AtRel wA wA := atRel_refl wA
  refine J.quiet (n := 20) ?_
  u_c stepG_region_end at_tr hf
  u_c stepG_seq at_tr hf
  u_c stepG_seq at_tr hf
  u_reg at_tr hf
  refine Goes.stop fun w₁ h₁ => J.at ?_ (at_tr hf h₁)
  clear hf
  refine J.value (w' := wA) (v := .slice (some ⟨A0, 0, none⟩) n c) rfl rfl (by decide) (fun d => ⟨run_eq_of fun K hK => by go_simp; exact hK, fun e he => by simp [go_sem, *] at he; subst he; exact hev2 _⟩) (Nat.le_refl _) ?_
  walk_nrm
  have hf : AtRel wA wA := atRel_refl wA
  refine J.quiet (n := 20) ?_
  u_op at_tr hf
  u_op at_tr hf
  u_c stepG_region_end at_tr hf
  u_c stepG_block at_tr hf
  u_c stepG_loop at_tr hf
  refine Goes.stop fun w₁ h₁ => J.at ?_ (at_tr hf h₁)
  clear hf
  have hCW : C ≠ Wg := by omega
  have hnC : ¬ SB C := fun h => by
    have h1 := hj.sb C h
    omega
  have hnF' : ¬ (SB F ∨ F = Wg) := fun h => h.elim hnF (by omega)
  have hnC' : ¬ (SB C ∨ C = Wg) := fun h => h.elim hnC hCW
  have hFl := (Array.getElem?_eq_some_iff.1 hFA).1
  have hAl := jw_lt hjA hSA
  have hKA : A0 < wA.heap.size ∧ A0 ≠ C ∧ ¬ (SB A0 ∨ A0 = Wg) := ⟨hAl, hSC A0 hSA, hjA.nb A0 hSA⟩
  have hKB : Br < wA.heap.size ∧ Br ≠ C ∧ ¬ (SB Br ∨ Br = Wg) := ⟨hBA, hSC Br hSBr, hjA.nb Br hSBr⟩
  have hKF : F < wA.heap.size ∧ F ≠ C ∧ ¬ (SB F ∨ F = Wg) := ⟨hFl, by omega, hnF'⟩
  have hAh : wA.heap[A0]? = w.heap[A0]? := hupA.keep A0 (jw_lt hj hSA) (hj.nb A0 hSA)
  have hWg0 : w.heap.size ≤ Wg := by omega
  show J Try.prog Post (shunNew Shun Wg) (G ((base 14).at ⟨_, []⟩ [.code L7c, .inLoop L7c, .inBlock 0, .code R11]) (c1 :: cs1)) wA
  refine phase7 (SB := fun b => SB b ∨ b = Wg) (Res := ResF (cf R n)) (K0 := fun b => b < wA.heap.size ∧ b ≠ C ∧ ¬ (SB b ∨ b = Wg)) (Wg := Wg) (C := C) (Br := Br) (F := F) (A := A0) (U := U0) (n := n) resF_kn hSB' (fun l h => .inr h) (.inr rfl) hnC' (by omega) hKB hKF hKA (fun b h => h.1) (fun b h => h.2.2) (fun h => h.2.1 rfl) hjA.sb
    (fun w1 j Bi hkn hjn hcI hBi => ?_) hwg ⟨_, hCA, size_madeCells _ _⟩ ⟨rfl, rfl, rfl, rfl, rfl, rfl, al⟩ (fun T' w' E K0' Lf' hsz t3 al' hkn hp hv hg => ?_)
  · have hA1 : w1.heap[A0]? = w.heap[A0]? := (hkn.keep A0 hKA).trans hAh
    refine workF (A := A0) (o := 0) (c := c) (R := R) hjn hn3.2 hCW (Nat.le_trans hjA.wr.gc hkn.size) ?_ ?_ (by rw [cell_cells ((hkn.keep F hKF).trans hFA)]; rfl) hcI ((cell_heap (hkn.keep Br hKB)).trans hcB') (Nat.lt_of_lt_of_le hFl hkn.size) hBi (Nat.lt_of_lt_of_le hBA hkn.size)
    · obtain ⟨cs, e, f, h1, h2⟩ := hInt
      exact ⟨cs, e, f, hA1.trans h1, h2⟩
    · obtain ⟨_, _, _, e, hc, hx⟩ := hsl
      cases e
      refine ⟨Nat.le_refl _, _, _, rfl, hc, fun h => ?_⟩
      obtain ⟨b, o, e, hlo, hlt, hcs⟩ := hx h
      cases e
      exact ⟨A0, 0, rfl, hlo, Nat.lt_of_lt_of_le hAl hkn.size, fun i j hi hj' => (cell_heap hA1).trans (hcs i j hi hj')⟩
  · refine post7 (w0 := wA) (SB := fun b => SB b ∨ b = Wg) hSB' hjA (fun b hb => hkn.keep b ⟨jw_lt hjA hb, hSC b hb, hjA.nb b hb⟩) hkn.size ((hkn.keep F hKF).trans hFA) hnF' hnC' hp hv (fun i hi b hb => hg.sh i hi b hb) hsz t3 al' hn3.2 hok fun v w'' S'' hS' hj'' hv'' hW'' hu'' => ?_
    have hle : w.heap.size ≤ w'.heap.size := Nat.le_trans hupA.size hkn.size
    refine hnext v w'' _ _ S'' hSB' (fun b h => .inl h) (fun b h => h.imp id fun e => by omega) hS' hj'' hv'' (hW''.wide hle (Nat.le_refl _) (Nat.le_refl _)) ⟨Nat.le_trans hle hu''.size, fun b hb hnb => ?_, hupA.env.trans (hkn.env.trans hu''.env)⟩
    have hb' : ¬ (SB b ∨ b = Wg) := fun h => h.elim hnb (by omega)
    exact (hu''.keep b (by omega) hb').trans ((hkn.keep b ⟨Nat.lt_of_lt_of_le hb hupA.size, by omega, hb'⟩).trans (hupA.keep b hb hnb))
end
end Go.Proofs.Ytaealkfnhhmmcaa
