/- The law's second stretch: both are alike, and stand when the rows are overwritten. No condition. -/
import Derived.Test.YtbonjafjgiacpaaLj
namespace Go.Proofs.Ytbonjafjgiacpaa
open Sim Go.Conc Go.ConcN Go.RowKit Go.Conc.Lib Go.ConcR.Gen Go.ConcN.Gen
open Go.ConcR (KK wgBlock WgAt stA smA rd wr mk Payload DC0)
set_option linter.unusedVariables false
section
variable {wE w : World} {Shun : Go.Loc → Prop} {SB S : Nat → Prop} {A : Option Addr} {n c M B4 l3 h3 l4 h4 l5 h5 : Nat} {R Q : Nat → Nat → Int} {v3' v5' : Value} {T : Array Value}
set_option maxRecDepth 100000 in
set_option maxHeartbeats 8000000 in
theorem law_B (hn : n ≤ 1048576) (hM : M ≤ 1048576) (hA : Sl wE 0 wE.heap.size 4 (.slice A n c) n (intF R)) (hT : T.size = 69) (t0 : T[0]? = some (.slice A n c)) (t4 : T[4]? = some v3') (t5 : T[5]? = some (.slice (some ⟨B4, 0, none⟩) n n)) (t6 : T[6]? = some v5')
    (st : LSt wE Shun SB S w) (o3 : Ow S w l3 h3 v3' M (intF Q)) (o4 : Ow S w l4 h4 (.slice (some ⟨B4, 0, none⟩) n n) n (intF R)) (o5 : Ow S w l5 h5 v5' M (intF Q)) (hl4 : wE.heap.size ≤ l4) (h34 : h3 ≤ l4) (h45 : h4 ≤ l5)
    (hnext : ∀ (T : Array Value) (w : World) (S : Nat → Prop), T.size = 69 → T[0]? = some (.slice A n c) → T[4]? = some v3' → T[6]? = some v5' → LSt wE Shun SB S w → Ow S w l3 h3 v3' M (intF Q) → Ow S w l5 h5 v5' M (intF Q) → J Try.prog (PostL wE) Shun (G ((base 3).at ⟨T, []⟩ [.code C16]) []) w) :
    J Try.prog (PostL wE) Shun (G ((base 3).at ⟨T, []⟩ [.code C8]) []) w := by
  obtain ⟨v0, v1, v2, v3, v4, v5, v6, v7, v8, v9, v10, v11, v12, v13, v14, v15, v16, v17, v18, v19, v20, v21, v22, v23, v24, v25, v26, v27, v28, v29, v30, v31, v32, v33, v34, v35, v36, v37, v38, v39, v40, v41, v42, v43, v44, v45, v46, v47, v48, v49, v50, v51, v52, v53, v54, v55, v56, v57, v58, v59, v60, v61, v62, v63, v64, v65, v66, v67, v68, rfl⟩ := array69 T hT
  simp only [List.getElem?_toArray, List.getElem?_cons_succ, List.getElem?_cons_zero, Option.some.injEq] at t0 t4 t5 t6
  subst t0 t4 t5 t6
  clear hT
  simp only [C16, C8, body3, Try.f3, Option.getD_some] at hnext ⊢
  have hg1 : ¬ (1 + (n : Int) * 4 < 0) := by omega
  have hf : AtRel w w := atRel_refl w
  refine J.quiet (n := 30) ?_
  u_c stepG_seq at_tr hf
  u_c stepG_seq at_tr hf
  u_reg at_tr hf
  u_op at_tr hf
  u_op at_tr hf
  refine Goes.stop fun w₁ h₁ => J.at ?_ (at_tr hf h₁)
  clear hf
  refine J.enter (vs := #[v6, v4]) rfl rfl (by decide) rfl Try.func8 (by kernel_rfl) rfl (by simp [Act.eval]) ?_
  refine j_up st.sb st.jw (g := 8) rfl (ar_two o5.vr o3.vr) (fun T => eqThrustS_same _ _ _ _ _ _ _ Q _ (sl_wt o5.sl T) (sl_wt o3.sl T) hM) fun w6 S6 hs6 hj6 hu6 => ?_
  have st6 := st.to hu6 hj6
  have o36 := o3.to hs6 hu6
  have o46 := o4.to hs6 hu6
  have o56 := o5.to hs6 hu6
  clear st o3 o4 o5 hu6 hj6
  rw [Frame.finish_at]
  walk_nrm
  have hf : AtRel w6 w6 := atRel_refl w6
  refine J.quiet (n := 30) ?_
  u_op at_tr hf
  u_c stepG_region_end at_tr hf
  u_cond false at_tr hf
  u_c stepG_skip at_tr hf
  u_c stepG_seq at_tr hf
  u_c stepG_seq at_tr hf
  u_reg at_tr hf
  u_op at_tr hf
  u_op at_tr hf
  refine Goes.stop fun w₁ h₁ => J.at ?_ (at_tr hf h₁)
  clear hf
  refine J.enter (vs := #[.slice A n c]) rfl rfl (by decide) rfl Try.func6 (by kernel_rfl) rfl (by simp [Act.eval]) ?_
  refine toRowS_j st6.sb st6.jw (st6.rows hA).1 hn (st6.rows hA).2 fun B7 w7 S7 hB7 hs7 hS7 hj7 hI7 hW7 hu7 => ?_
  have st7 := st6.toN hu7 hj7
  have o77 := Ow.rows hS7 hW7
  have o37 := o36.toN st6.jw hs7 hu7
  have o47 := o46.toN st6.jw hs7 hu7
  have o57 := o56.toN st6.jw hs7 hu7
  clear st6 o36 o46 o56 hu7 hj7 hW7 hI7
  rw [Frame.finish_at]
  walk_nrm
  refine J.enter (vs := #[.slice (some ⟨B4, 0, none⟩) n n, .slice (some ⟨B7, 0, none⟩) n n]) rfl rfl (by decide) rfl Try.func9 (by kernel_rfl) rfl (by simp [Act.eval]) ?_
  refine j_up st7.sb st7.jw (g := 9) rfl (ar_two o47.vr o77.vr) (fun T => eqRowS_same _ _ _ _ _ _ _ R _ (sl_wt o47.sl T) (sl_wt o77.sl T) hn) fun w8 S8 hs8 hj8 hu8 => ?_
  have st8 := st7.to hu8 hj8
  have o38 := o37.to hs8 hu8
  have o48 := o47.to hs8 hu8
  have o58 := o57.to hs8 hu8
  clear st7 o37 o47 o57 o77 hu8 hj8
  rw [Frame.finish_at]
  walk_nrm
  have hf : AtRel w8 w8 := atRel_refl w8
  refine J.quiet (n := 30) ?_
  u_op at_tr hf
  u_c stepG_region_end at_tr hf
  u_cond false at_tr hf
  u_c stepG_skip at_tr hf
  u_c stepG_seq at_tr hf
  u_reg at_tr hf
  u_op at_tr hf
  u_c stepG_region_end at_tr hf
  u_c stepG_seq at_tr hf
  u_reg at_tr hf
  u_op at_tr hf
  u_op at_tr hf
  refine Goes.stop fun w₁ h₁ => J.at ?_ (at_tr hf h₁)
  clear hf
  refine J.enter (vs := #[.slice (some ⟨B4, 0, none⟩) n n, .int .i64 1]) rfl rfl (by decide) rfl Try.func10 (by kernel_rfl) rfl (by simp [Act.eval]) ?_
  refine j_mark (wE := wE) (lo := l4) (hi := h4) (sz := 4) (n := n) (k := 1) (r := 1 + (n : Int) * 4) st8.up st8.sb st8.jw (g := 10) rfl (ar_two o48.vr (vr_int 1)) (fun T => markRowS_any _ _ _ _ _ _ _ _ (wr_wt o48.wr T) hn (by omega) (by omega) (up_wt st8.up T) hl4) fun w9 S9 hs9 hj9 hW9 hc9 hu9 => ?_
  have st9 : LSt wE Shun SB S9 w9 := ⟨hu9, st8.sbE, st8.sb, hj9⟩
  have o39 := o38.off hs9 hc9 (by omega)
  have o59 := o58.off hs9 hc9 (by omega)
  clear st8 o38 o48 o58 hu9 hj9 hW9 hc9
  rw [Frame.finish_at]
  walk_nrm
  have hf : AtRel w9 w9 := atRel_refl w9
  refine J.quiet (n := 30) ?_
  u_op at_tr hf
  u_c stepG_region_end at_tr hf
  u_c stepG_seq at_tr hf
  u_c stepG_seq at_tr hf
  u_reg at_tr hf
  u_op at_tr hf
  u_op at_tr hf
  u_op at_tr hf
  u_op at_tr hf
  u_op at_tr hf
  refine Goes.stop fun w₁ h₁ => J.at ?_ (at_tr hf h₁)
  clear hf
  refine J.enter (vs := #[v6, v4]) rfl rfl (by decide) rfl Try.func8 (by kernel_rfl) rfl (by simp [Act.eval]) ?_
  refine j_up st9.sb st9.jw (g := 8) rfl (ar_two o59.vr o39.vr) (fun T => eqThrustS_same _ _ _ _ _ _ _ Q _ (sl_wt o59.sl T) (sl_wt o39.sl T) hM) fun w10 S10 hs10 hj10 hu10 => ?_
  have st10 := st9.to hu10 hj10
  have o310 := o39.to hs10 hu10
  have o510 := o59.to hs10 hu10
  clear st9 o39 o59 hu10 hj10
  rw [Frame.finish_at]
  walk_nrm
  have hf : AtRel w10 w10 := atRel_refl w10
  refine J.quiet (n := 30) ?_
  u_op at_tr hf
  u_op at_tr hf
  u_c stepG_region_end at_tr hf
  u_cond false at_tr hf
  u_c stepG_skip at_tr hf
  refine Goes.stop fun w₁ h₁ => J.at ?_ (at_tr hf h₁)
  clear hf
  exact hnext _ w10 S10 rfl rfl rfl rfl st10 o310 o510
end
end Go.Proofs.Ytbonjafjgiacpaa
