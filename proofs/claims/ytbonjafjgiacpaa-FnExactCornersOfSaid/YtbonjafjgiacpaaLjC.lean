/- The law's third stretch: what was found is overwritten and reads so. No condition. -/
import Derived.Test.YtbonjafjgiacpaaLj
namespace Go.Proofs.Ytbonjafjgiacpaa
open Sim Go.Conc Go.ConcN Go.RowKit Go.Conc.Lib Go.ConcR.Gen Go.ConcN.Gen
open Go.ConcR (KK wgBlock WgAt stA smA rd wr mk Payload DC0)
set_option linter.unusedVariables false
section
variable {wE w : World} {Shun : Go.Loc → Prop} {SB S : Nat → Prop} {A : Option Addr} {n c M B4 l3 h3 l4 h4 l5 h5 : Nat} {R Q : Nat → Nat → Int} {v3' v5' : Value} {T : Array Value}
set_option maxRecDepth 100000 in
set_option maxHeartbeats 8000000 in
theorem law_C (hM : M ≤ 1048576) (hT : T.size = 69) (t0 : T[0]? = some (.slice A n c)) (t4 : T[4]? = some v3') (t6 : T[6]? = some v5')
    (st : LSt wE Shun SB S w) (o3 : Ow S w l3 h3 v3' M (intF Q)) (o5 : Ow S w l5 h5 v5' M (intF Q)) (hl5 : wE.heap.size ≤ l5) (h35 : h3 ≤ l5)
    (hnext : ∀ (T : Array Value) (w : World) (S : Nat → Prop), T.size = 69 → T[0]? = some (.slice A n c) → T[4]? = some v3' → T[6]? = some v5' → T[8]? = some (.int .i64 (1 + (M : Int) * 4)) → LSt wE Shun SB S w → Ow S w l3 h3 v3' M (intF Q) → Ow S w l5 h5 v5' M (mkF 4 1) → J Try.prog (PostL wE) Shun (G ((base 3).at ⟨T, []⟩ [.code C24]) []) w) :
    J Try.prog (PostL wE) Shun (G ((base 3).at ⟨T, []⟩ [.code C16]) []) w := by
  obtain ⟨v0, v1, v2, v3, v4, v5, v6, v7, v8, v9, v10, v11, v12, v13, v14, v15, v16, v17, v18, v19, v20, v21, v22, v23, v24, v25, v26, v27, v28, v29, v30, v31, v32, v33, v34, v35, v36, v37, v38, v39, v40, v41, v42, v43, v44, v45, v46, v47, v48, v49, v50, v51, v52, v53, v54, v55, v56, v57, v58, v59, v60, v61, v62, v63, v64, v65, v66, v67, v68, rfl⟩ := array69 T hT
  simp only [List.getElem?_toArray, List.getElem?_cons_succ, List.getElem?_cons_zero, Option.some.injEq] at t0 t4 t6
  subst t0 t4 t6
  clear hT
  simp only [C24, C16, C8, body3, Try.f3, Option.getD_some] at hnext ⊢
  have hg2 : ¬ (1 + (M : Int) * 4 < 0) := by omega
  have hf : AtRel w w := atRel_refl w
  refine J.quiet (n := 30) ?_
  u_c stepG_seq at_tr hf
  u_reg at_tr hf
  u_op at_tr hf
  u_c stepG_region_end at_tr hf
  u_c stepG_seq at_tr hf
  u_reg at_tr hf
  u_op at_tr hf
  u_op at_tr hf
  refine Goes.stop fun w₁ h₁ => J.at ?_ (at_tr hf h₁)
  clear hf
  refine J.enter (vs := #[v6, .int .i64 1]) rfl rfl (by decide) rfl Try.func11 (by kernel_rfl) rfl (by simp [Act.eval]) ?_
  refine j_mark (wE := wE) (lo := l5) (hi := h5) (sz := 4) (n := M) (k := 1) (r := 1 + (M : Int) * 4) st.up st.sb st.jw (g := 11) rfl (ar_two o5.vr (vr_int 1)) (fun T => markThrustS_any _ _ _ _ _ _ _ _ (wr_wt o5.wr T) hM (by omega) (by omega) (up_wt st.up T) hl5) fun w6 S6 hs6 hj6 hW6 hc6 hu6 => ?_
  have st6 : LSt wE Shun SB S6 w6 := ⟨hu6, st.sbE, st.sb, hj6⟩
  have o36 := o3.off hs6 hc6 (by omega)
  have o56 : Ow S6 w6 l5 h5 v6 M (mkF 4 1) := ⟨vr_le o5.vr hs6, hW6⟩
  clear st o3 o5 hu6 hj6 hW6 hc6
  rw [Frame.finish_at]
  walk_nrm
  have hf : AtRel w6 w6 := atRel_refl w6
  refine J.quiet (n := 30) ?_
  u_op at_tr hf
  u_c stepG_region_end at_tr hf
  u_c stepG_seq at_tr hf
  u_reg at_tr hf
  u_op at_tr hf
  u_c stepG_region_end at_tr hf
  u_c stepG_seq at_tr hf
  u_reg at_tr hf
  u_op at_tr hf
  u_op at_tr hf
  refine Goes.stop fun w₁ h₁ => J.at ?_ (at_tr hf h₁)
  clear hf
  refine J.enter (vs := #[v6, .int .i64 1]) rfl rfl (by decide) rfl Try.func12 (by kernel_rfl) rfl (by simp [Act.eval]) ?_
  refine j_held st6.sb st6.jw (g := 12) rfl (ar_two o56.vr (vr_int 1)) (fun T => heldThrustS_any _ _ _ _ _ _ (sl_wt o56.sl T) hM (by omega) (by omega)) fun w7 S7 hs7 hj7 hu7 => ?_
  have st7 := st6.to hu7 hj7
  have o37 := o36.to hs7 hu7
  have o57 := o56.to hs7 hu7
  clear st6 o36 o56 hu7 hj7
  rw [Frame.finish_at]
  walk_nrm
  have hf : AtRel w7 w7 := atRel_refl w7
  refine J.quiet (n := 30) ?_
  u_op at_tr hf
  u_c stepG_region_end at_tr hf
  u_c stepG_seq at_tr hf
  u_c stepG_seq at_tr hf
  u_reg at_tr hf
  u_op at_tr hf
  u_op at_tr hf
  u_c stepG_region_end at_tr hf
  u_cond false at_tr hf
  u_c stepG_skip at_tr hf
  u_c stepG_seq at_tr hf
  u_c stepG_seq at_tr hf
  u_reg at_tr hf
  u_op at_tr hf
  u_op at_tr hf
  u_op at_tr hf
  u_c stepG_region_end at_tr hf
  u_cond false at_tr hf
  u_c stepG_skip at_tr hf
  refine Goes.stop fun w₁ h₁ => J.at ?_ (at_tr hf h₁)
  clear hf
  exact hnext _ w7 S7 rfl rfl rfl rfl rfl st7 o37 o57
end
end Go.Proofs.Ytbonjafjgiacpaa
