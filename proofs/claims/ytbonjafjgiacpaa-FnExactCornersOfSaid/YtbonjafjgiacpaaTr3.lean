/- toRowS beside leavers: the contract. No condition. -/
import Derived.Test.YtbonjafjgiacpaaTr2
import Derived.Conc.AppendWalk
namespace Go.Proofs.Ytbonjafjgiacpaa
open Sim Go.Conc Go.ConcN Go.RowKit Go.Conc.Lib Go.ConcR.Gen Go.ConcN.Gen
open Go.ConcR (KK wgBlock WgAt stA smA rd wr mk Payload DC0)
set_option linter.unusedVariables false
theorem RW_info : (Try.prog.info? 35).map (fun i => (i.zero, i.size, i.bytes)) = some (some (.agg #[.int .i64 0, .int .i64 0, .int .i64 0, .int .i64 0]), 4, 32) := by kernel_rfl
theorem fil_made {w : World} {B n : Nat} {R : Nat → Nat → Int} (h : w.heap[B]? = some (Obj.cells (madeCells #[.int .i64 0, .int .i64 0, .int .i64 0, .int .i64 0] (n * 4)) 35)) : Fil B n 0 R w := by
  refine ⟨_, h, size_madeCells _ _, fun i x hx => ?_, fun i j hi => absurd hi (Nat.not_lt_zero _)⟩
  have hl : i < n * 4 := by have := (Array.getElem?_eq_some_iff.1 hx).1; rwa [size_madeCells] at this
  simp only [madeCells, Array.getElem?_map, Option.map_eq_some_iff] at hx
  obtain ⟨a, _, rfl⟩ := hx
  have h4 : a % 4 = 0 ∨ a % 4 = 1 ∨ a % 4 = 2 ∨ a % 4 = 3 := by omega
  rcases h4 with h | h | h | h <;> exact ⟨.i64, 0, by simp [h]⟩
section
variable {Shun : Go.Loc → Prop} {SB S : Nat → Prop} {Post : Value → World → Prop} {c1 : Frame} {cs1 : List Frame}
set_option maxRecDepth 100000 in
set_option maxHeartbeats 4000000 in
theorem toRowS_j {w : World} {A : Option Addr} {n c : Nat} {R : Nat → Nat → Int} (hSB : ∀ l, Shun l → ∃ a : Addr, l = .cell a ∧ SB a.block) (hj : JW Try.prog SB S w) (hsl : Sl w 0 w.heap.size 4 (.slice A n c) n (intF R)) (hn : n ≤ 1048576) (hna : 0 < n → ∀ a, A = some a → ¬ SB a.block)
    (hnext : ∀ B w' S', w.heap.size ≤ B → (∀ b, S b → S' b) → S' B → JW Try.prog SB S' w' → IntB w' B → Wr w' w.heap.size w'.heap.size 4 (.slice (some ⟨B, 0, none⟩) n n) n (intF R) → UpN SB w w' → J Try.prog Post Shun (G (c1.finish (.slice (some ⟨B, 0, none⟩) n n)) cs1) w') :
    J Try.prog Post Shun (G (Frame.enter Try.prog 6 #[.slice A n c] .normal) (c1 :: cs1)) w := by
  obtain ⟨i0, hi0, hz0, hz1, hz2⟩ := info_parts RW_info
  have hmk : ∀ W : World, (Instr.makeSlice 26 (.int .i64 (n : Int)) (.int .i64 (n : Int))).run Try.prog W = .ok (.slice (some ⟨W.heap.size, 0, none⟩) n n) (W.alloc (.cells (madeCells #[.int .i64 0, .int .i64 0, .int .i64 0, .int .i64 0] (n * 4)) 35)) := fun W => by
    have := run_mkN (P := Try.prog) 26 35 i0 _ Try.underlying26 hi0 hz0 n (by rw [hz2]; omega) (by omega) W
    rw [hz1] at this
    exact this
  have hme : ∀ W : World, (Instr.makeSlice 26 (.int .i64 (n : Int)) (.int .i64 (n : Int))).events Try.prog W #[] = #[] := fun W =>
    events_make W 26 35 i0 _ Try.underlying26 hi0 hz0 .i64 .i64 n n (by omega) (by omega) (by rw [hz2]; omega) (by omega) (by rw [hz2]; omega) #[]
  rw [enter6]
  simp only [body6, Try.f6, Option.getD_some]
  have hf : AtRel w w := atRel_refl w
  refine J.quiet (n := 20) ?_
  u_c stepG_seq at_tr hf
  u_reg at_tr hf
  u_op at_tr hf
  u_c stepG_region_end at_tr hf
  u_c stepG_seq at_tr hf
  u_reg at_tr hf
  u_op at_tr hf
  u_op at_tr hf
  refine Goes.stop fun w₁ h₁ => J.at ?_ (at_tr hf h₁)
  clear hf
  refine J.value (w' := w.alloc (.cells (madeCells #[.int .i64 0, .int .i64 0, .int .i64 0, .int .i64 0] (n * 4)) 35)) (v := .slice (some ⟨w.heap.size, 0, none⟩) n n) rfl rfl (by decide) (fun d => ⟨run_eq_of fun K hK => by go_simp; exact hK, fun e he => by simp [go_sem, hme] at he⟩) (by simp) ?_
  walk_nrm
  clear hmk hme
  have hnew := heap_alloc_new w (.cells (madeCells #[.int .i64 0, .int .i64 0, .int .i64 0, .int .i64 0] (n * 4)) 35)
  have hup := (UpN.refl SB w).alloc (.cells (madeCells #[.int .i64 0, .int .i64 0, .int .i64 0, .int .i64 0] (n * 4)) 35)
  have hjC : JW Try.prog SB S (w.alloc (.cells (madeCells #[.int .i64 0, .int .i64 0, .int .i64 0, .int .i64 0] (n * 4)) 35)) := jw_keep hj (fun b hb => hup.keep b (jw_lt hj hb) (hj.nb b hb)) hup.size
  obtain ⟨B, hB⟩ : ∃ B, B = w.heap.size := ⟨_, rfl⟩
  obtain ⟨wB, hwB⟩ : ∃ wB, wB = w.alloc (.cells (madeCells #[.int .i64 0, .int .i64 0, .int .i64 0, .int .i64 0] (n * 4)) 35) := ⟨_, rfl⟩
  rw [← hB, ← hwB] at hnew
  rw [← hwB] at hup hjC
  rw [← hB, ← hwB]
  have HB := Lib.hid hB
  clear hB hwB
  have hBw : w.heap.size ≤ B := by rw [HB.out]; exact Nat.le_refl _
  have hBn : ¬ SB B := fun h => by
    have h1 := hj.sb B h
    omega
  have hf : AtRel wB wB := atRel_refl wB
  refine J.quiet (n := 20) ?_
  u_op at_tr hf
  u_c stepG_region_end at_tr hf
  u_c stepG_seq at_tr hf
  u_c stepG_seq at_tr hf
  u_reg at_tr hf
  u_op at_tr hf
  u_c stepG_region_end at_tr hf
  u_c stepG_block at_tr hf
  u_c stepG_loop at_tr hf
  refine Goes.stop fun w₁ h₁ => J.at ?_ (at_tr hf h₁)
  clear hf
  show J Try.prog Post Shun (G ((base 6).at ⟨_, []⟩ [.code L6c, .inLoop L6c, .inBlock 0, .code R6c]) (c1 :: cs1)) wB
  refine rows6 (w0 := w) (R := R) hn hSB hBw hBn hsl hna (fun b hb => jw_lt hj hb) (fun w' h1 h2 h3 => ?_) n 0 (by omega) hjC hup (fil_made hnew) rfl rfl rfl rfl
  obtain ⟨cs, f1, f2, f3, f4⟩ := h3.ex
  have hBl := (Array.getElem?_eq_some_iff.1 f1).1
  refine hnext B w' _ hBw (fun b hb => .inl hb) (.inr rfl) (jw_join (S' := fun b => b = B) h1 (fun b hb => ?_) fun b hb => hb ▸ hBn) ⟨cs, _, _, f1, f3⟩ ⟨Nat.le_refl _, _, n, rfl, Nat.le_refl _, fun h => ⟨B, rfl, hBw, hBl, fun i j hi hj' => by rw [cell_cells f1]; exact f4 i j hi hj', fun o => by simp [World.frozen?, f1]⟩⟩ h2
  rw [hb, f1]
  exact .inl ⟨cs, cs, _, _, _, rfl, rfl, intB_ar f3, ⟨.inr rfl, fun o a b => ⟨a, b⟩⟩, fun h => h.elim⟩
end
end Go.Proofs.Ytbonjafjgiacpaa
