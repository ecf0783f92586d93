/- CornersOf beside leavers: its first regions. No condition. -/
import Derived.Test.YtaealkfnhhmmcaaCo7
namespace Go.Proofs.Ytaealkfnhhmmcaa
open Sim Go.Conc Go.ConcN Go.RowKit Go.Conc.Lib Go.ConcR.Gen Go.ConcN.Gen
open Go.ConcR (KK wgBlock WgAt stA smA rd wr mk Payload DC0)
set_option linter.unusedVariables false
theorem enter7 (rv : Value) : Frame.enter Try.prog 14 #[rv] .normal = (base 14).at ⟨#[rv, undef, undef, undef, undef, undef, undef, undef, undef, undef, undef, undef, undef, undef, undef, undef, undef, undef, undef, undef, undef, undef, undef, undef, undef, undef, undef, undef, undef, undef, undef, undef, undef, undef, undef, undef, undef, undef, undef, undef, undef, undef, undef, undef, undef, undef, undef, undef, undef, undef, undef, undef, undef, undef, undef], []⟩ [.code body7] := by
  simp [Frame.enter, Try.func14, Try.f14, Frame.at, base, body7]
theorem results7 (T : Array Value) (v : Value) (h : T[2]? = some v) (w : World) : (results Try.f14 T).runT Try.prog w #[] = (.ok v w, #[]) := by
  simp [results, Try.f14, h]
/-- What the live slots hold ahead of the join. -/
def U0 : List (Option Value) := [some (.slice none 0 0), some undef, some undef, some undef, some undef, some undef, some undef, some undef, some undef, some undef, some undef, some undef, some undef, some undef, some undef, some undef, some undef, some undef, some undef, some undef, some undef, some undef, some undef, some undef, some undef, some undef, some undef]
noncomputable def R3 : Code := match body7 with | .seq _ (.seq _ r) => r | _ => .skip
section
variable {Shun : Go.Loc → Prop} {SB S : Nat → Prop} {Post : Value → World → Prop} {c1 : Frame} {cs1 : List Frame}
set_option maxRecDepth 100000 in
set_option maxHeartbeats 4000000 in
theorem pre7 {w : World} {rv : Value} {A : Option Addr} {n c : Nat} {R : Nat → Nat → Int} (hrv : rv = .slice A n c) (hSB : ∀ l, Shun l → ∃ a : Addr, l = .cell a ∧ SB a.block) (hj : JW Try.prog SB S w) (hS : VR (idS S) rv rv) (hsl : Sl w 0 w.heap.size 4 rv n (intF R)) (hA0 : 0 < n → ∃ A0, A = some ⟨A0, 0, none⟩)
    (hnil : coL R n = [] → ∀ w' S', (∀ b, S b → S' b) → JW Try.prog SB S' w' → UpN SB w w' → J Try.prog Post Shun (G (c1.finish (.slice none 0 0)) cs1) w')
    (hmain : coOk R n = true → ∀ (T : Array Value) (Br : Nat) (w' : World) (S' : Nat → Prop), T.size = 55 → T[1]? = some (.pointer (some ⟨Br, 0, none⟩)) → alive T = U0 → Br = w.heap.size → w'.cell? ⟨Br, 0, none⟩ = some rv → (∀ b, S b → S' b) → S' Br → JW Try.prog SB S' w' → UpN SB w w' →
      J Try.prog Post Shun (G ((base 14).at ⟨T, []⟩ [.code R3]) (c1 :: cs1)) w') :
    J Try.prog Post Shun (G (Frame.enter Try.prog 14 #[rv] .normal) (c1 :: cs1)) w := by
  subst hrv
  rw [enter7]
  simp only [R3, body7, Try.f14, Option.getD_some] at hmain ⊢
  have hf : AtRel w w := atRel_refl w
  refine J.quiet (n := 20) ?_
  u_c stepG_seq at_tr hf
  u_reg at_tr hf
  refine Goes.stop fun w₁ h₁ => J.at ?_ (at_tr hf h₁)
  clear hf
  -- the rows' box
  refine J.value (w' := w.alloc (.cells #[.slice A n c] 37)) (v := .pointer (some ⟨w.heap.size, 0, none⟩)) rfl rfl (by decide) (fun d => ⟨run_eq_of fun K hK => by go_simp; exact hK, fun e he => by simp [go_sem, *] at he⟩) (by simp) ?_
  walk_nrm
  have hnew := heap_alloc_new w (.cells #[.slice A n c] 37)
  have hjB := jw_box hj 37 (ar_one hS)
  have hup := (UpN.refl SB w).alloc (.cells #[.slice A n c] 37)
  have hBl : w.heap.size < (w.alloc (.cells #[.slice A n c] 37)).heap.size := by simp
  obtain ⟨Br, hBr⟩ : ∃ Br, Br = w.heap.size := ⟨_, rfl⟩
  obtain ⟨wB, hwB⟩ : ∃ wB, wB = w.alloc (.cells #[.slice A n c] 37) := ⟨_, rfl⟩
  rw [← hBr, ← hwB] at hnew hjB hBl
  rw [← hwB] at hup
  rw [← hBr, ← hwB]
  have hcB : wB.cell? ⟨Br, 0, none⟩ = some (.slice A n c) := cell_cells hnew
  have HBr := Lib.hid hBr
  have HwB := Lib.hid hwB
  clear hBr hwB hnew
  have hev : ∀ x, EvX Shun wB.heap.size ⟨.cell ⟨Br, 0, none⟩, x, false⟩ := fun x => evX_cell _ _ (fun h => by
    obtain ⟨a, e, ha⟩ := hSB _ h
    cases e
    exact hjB.nb Br (.inr rfl) ha) hBl
  have hf : AtRel wB wB := atRel_refl wB
  refine J.quiet (n := 20) ?_
  u_op at_tr hf
  u_c stepG_region_end at_tr hf
  u_c stepG_seq at_tr hf
  u_c stepG_seq at_tr hf
  u_reg at_tr hf
  refine Goes.stop fun w₁ h₁ => J.at ?_ (at_tr hf h₁)
  clear hf
  refine J.value (w' := wB) (v := .slice A n c) rfl rfl (by decide) (fun d => ⟨run_eq_of fun K hK => by go_simp; exact hK, fun e he => by simp [go_sem, *] at he; subst he; exact hev _⟩) (Nat.le_refl _) ?_
  walk_nrm
  have hf : AtRel wB wB := atRel_refl wB
  refine J.quiet (n := 20) ?_
  u_op at_tr hf
  refine Goes.stop fun w₁ h₁ => J.at ?_ (at_tr hf h₁)
  clear hf
  refine J.enter (vs := #[.int .i64 (n : Int), .int .i64 3, .int .i64 20]) rfl rfl (by decide) rfl Try.func23 (by kernel_rfl) rfl (by simp [Act.eval]) ?_
  refine J.call ok_set hSB hjB (f := 23) rfl (ar_ints [(n : Int), 3, 20]) (Rh := fun v h => v = .bool (inB 3 (n : Int) 20) ∧ h = wB.heap) (fun T => (within_any _ _ _ _).mono (by rintro e w' ⟨rfl, rfl⟩; exact ⟨_, rfl, rfl, rfl⟩)) fun v w' hp => ?_
  obtain ⟨⟨rfl, hh⟩, ⟨d, hd⟩, _, _⟩ := hp
  obtain rfl : w' = wB.at d := by rw [hd, hh]; rfl
  refine J.at ?_ ⟨d, rfl⟩
  rw [Frame.finish_at]
  try walk_nrm
  cases hin : inB 3 (n : Int) 20 with
  | false =>
    have hf : AtRel wB wB := atRel_refl wB
    refine J.quiet (n := 20) ?_
    u_op at_tr hf
    u_op at_tr hf
    u_skip at_tr hf
    u_skip at_tr hf
    u_skip at_tr hf
    u_op at_tr hf
    u_c stepG_region_end at_tr hf
    u_cond true at_tr hf
    u_c stepG_seq at_tr hf
    u_reg at_tr hf
    u_op at_tr hf
    u_c stepG_region_end at_tr hf
    u_c stepG_ret' at_tr hf
    refine Goes.stop fun w₁ h₁ => J.at ?_ (at_tr hf h₁)
    clear hf
    refine J.back Try.func14 (v := .slice none 0 0) (fun d => results7 _ _ rfl _) ?_
    exact hnil (coL_in hin) wB _ (fun b hb => .inl hb) hjB hup
  | true =>
    have hn3 := inB_true.1 hin
    obtain ⟨A0, rfl⟩ := hA0 (by omega)
    have hf : AtRel wB wB := atRel_refl wB
    refine J.quiet (n := 20) ?_
    u_op at_tr hf
    u_op at_tr hf
    refine Goes.stop fun w₁ h₁ => J.at ?_ (at_tr hf h₁)
    clear hf
    refine J.value (w' := wB) (v := .slice (some ⟨A0, 0, none⟩) n c) rfl rfl (by decide) (fun d => ⟨run_eq_of fun K hK => by go_simp; exact hK, fun e he => by simp [go_sem, *] at he; subst he; exact hev _⟩) (Nat.le_refl _) ?_
    walk_nrm
    have hslB : ∀ T, Sl (wt wB T) 0 (wt wB T).heap.size 4 (.slice (some ⟨A0, 0, none⟩) n c) n (intF R) := fun T => by
      obtain ⟨_, _, _, e, hc, hx⟩ := hsl
      cases e
      refine ⟨Nat.le_refl _, _, _, rfl, hc, fun h => ?_⟩
      obtain ⟨b, o, e, hlo, hlt, hcs⟩ := hx h
      cases e
      have hSA : S A0 := by cases hS with | slice _ _ _ _ _ _ h => exact h.2
      exact ⟨A0, 0, rfl, hlo, Nat.lt_of_lt_of_le hlt hup.size, fun i j hi hj' => (cell_heap (w' := wt wB T) (hup.keep A0 hlt (hj.nb A0 hSA))).trans (hcs i j hi hj')⟩
    refine J.enter (vs := #[.slice (some ⟨A0, 0, none⟩) n c]) rfl rfl (by decide) rfl Try.func22 (by kernel_rfl) rfl (by simp [Act.eval]) ?_
    refine J.call ok_set hSB hjB (f := 22) rfl ((ar_one hS).le fun x y hxy => ⟨hxy.1, .inl hxy.2⟩) (Rh := fun v h => v = .bool (allN (fun i => rowB (R i 0) (R i 1) (R i 2) (R i 3)) n) ∧ ∀ b, b < wB.heap.size → h[b]? = wB.heap[b]?) (fun T => (rowsOk_sl R n A0 c _ (hslB T) (by omega) (by omega)).mono (by rintro e w' ⟨rfl, hu⟩; exact ⟨_, rfl, rfl, fun b hb => hu.block b hb⟩)) fun v w' hp => ?_
    obtain ⟨⟨rfl, hh⟩, hwd, hsz, S', hS', hj', _⟩ := hp
    have hup' : UpN SB w w' := hup.trans (SB' := SB) ⟨hsz, fun b hb _ => hh b hb, env_wd hwd⟩ fun _ _ h => h
    have hcB' : w'.cell? ⟨Br, 0, none⟩ = some (.slice (some ⟨A0, 0, none⟩) n c) := (cell_heap (hh Br hBl)).trans hcB
    rw [Frame.finish_at]
    walk_nrm
    cases hro : allN (fun i => rowB (R i 0) (R i 1) (R i 2) (R i 3)) n with
    | false =>
      have hf : AtRel w' w' := atRel_refl w'
      refine J.quiet (n := 20) ?_
      u_op at_tr hf
      u_op at_tr hf
      u_c stepG_region_end at_tr hf
      u_cond true at_tr hf
      u_c stepG_seq at_tr hf
      u_reg at_tr hf
      u_op at_tr hf
      u_c stepG_region_end at_tr hf
      u_c stepG_ret' at_tr hf
      refine Goes.stop fun w₁ h₁ => J.at ?_ (at_tr hf h₁)
      clear hf
      refine J.back Try.func14 (v := .slice none 0 0) (fun d => results7 _ _ rfl _) ?_
      exact hnil (coL_rows hro) w' _ (fun b hb => hS' b (.inl hb)) hj' hup'
    | true =>
      have hf : AtRel w' w' := atRel_refl w'
      refine J.quiet (n := 20) ?_
      u_op at_tr hf
      u_op at_tr hf
      u_c stepG_region_end at_tr hf
      u_cond false at_tr hf
      u_c stepG_skip at_tr hf
      refine Goes.stop fun w₁ h₁ => J.at ?_ (at_tr hf h₁)
      clear hf
      exact hmain (by rw [coOk, hin, hro]; rfl) _ Br w' S' rfl rfl rfl HBr.out hcB' (fun b hb => hS' b (.inl hb)) (hS' Br (.inr rfl)) hj' hup'
end
end Go.Proofs.Ytaealkfnhhmmcaa
