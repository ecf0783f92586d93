/- The law's last stretch: once more, and what was overwritten still stands. No condition. -/
import Derived.Test.YtbonjafjgiacpaaLj
namespace Go.Proofs.Ytbonjafjgiacpaa
open Sim Go.Conc Go.ConcN Go.RowKit Go.Conc.Lib Go.ConcR.Gen Go.ConcN.Gen
open Go.ConcR (KK wgBlock WgAt stA smA rd wr mk Payload DC0)
set_option linter.unusedVariables false
section
variable {wE w : World} {Shun : Go.Loc → Prop} {SB S : Nat → Prop} {A : Option Addr} {n c M B4 l3 h3 l4 h4 l5 h5 : Nat} {R Q : Nat → Nat → Int} {v3' v5' : Value} {T : Array Value}
set_option maxRecDepth 100000 in
set_option maxHeartbeats 8000000 in
theorem law_D (hn : n ≤ 1048576) (hA : Sl wE 0 wE.heap.size 4 (.slice A n c) n (intF R)) (hT : T.size = 69) (t0 : T[0]? = some (.slice A n c)) (t4 : T[4]? = some v3') (t6 : T[6]? = some v5') (t8 : T[8]? = some (.int .i64 (1 + ((coL R n).length : Int) * 4)))
    (st : LSt wE Shun SB S w) (o3 : Ow S w l3 h3 v3' (coL R n).length (thF (coL R n))) (o5 : Ow S w l5 h5 v5' (coL R n).length (mkF 4 1)) :
    J Try.prog (PostL wE) Shun (G ((base 3).at ⟨T, []⟩ [.code C24]) []) w := by
  obtain ⟨v0, v1, v2, v3, v4, v5, v6, v7, v8, v9, v10, v11, v12, v13, v14, v15, v16, v17, v18, v19, v20, v21, v22, v23, v24, v25, v26, v27, v28, v29, v30, v31, v32, v33, v34, v35, v36, v37, v38, v39, v40, v41, v42, v43, v44, v45, v46, v47, v48, v49, v50, v51, v52, v53, v54, v55, v56, v57, v58, v59, v60, v61, v62, v63, v64, v65, v66, v67, v68, rfl⟩ := array69 T hT
  simp only [List.getElem?_toArray, List.getElem?_cons_succ, List.getElem?_cons_zero, Option.some.injEq] at t0 t4 t6 t8
  subst t0 t4 t6 t8
  clear hT
  simp only [C24, C16, C8, body3, Try.f3, Option.getD_some]
  have hM := coL_len R n
  have hg2 : ¬ (1 + ((coL R n).length : Int) * 4 < 0) := by omega
  have hf : AtRel w w := atRel_refl w
  refine J.quiet (n := 30) ?_
  u_c stepG_seq at_tr hf
  u_reg at_tr hf
  u_op at_tr hf
  refine Goes.stop fun w₁ h₁ => J.at ?_ (at_tr hf h₁)
  clear hf
  refine J.enter (vs := #[.slice A n c]) rfl rfl (by decide) rfl Try.func6 (by kernel_rfl) rfl (by simp [Act.eval]) ?_
  refine toRowS_j st.sb st.jw (st.rows hA).1 hn (st.rows hA).2 fun B6 w6 S6 hB6 hs6 hS6 hj6 hI6 hW6 hu6 => ?_
  have st6 := st.toN hu6 hj6
  have o66 := Ow.rows hS6 hW6
  have o36 := o3.toN st.jw hs6 hu6
  have o56 := o5.toN st.jw hs6 hu6
  clear st o3 o5 hu6 hj6 hW6
  rw [Frame.finish_at]
  walk_nrm
  refine J.enter (vs := #[.slice (some ⟨B6, 0, none⟩) n n]) rfl rfl (by decide) rfl Try.func7 (by kernel_rfl) rfl (by simp [Act.eval]) ?_
  refine corners7 (R := R) rfl st6.sb st6.jw o66.vr (o66.sl.wide (Nat.zero_le _) (Nat.le_refl _) (Nat.le_refl _)) (fun _ => ⟨B6, rfl, hI6⟩) fun u7 w7 Shun7 SB7 S7 hsb7 hle7 hnew7 hs7 hj7 hv7 hW7 hu7 => ?_
  have st7 := st6.phase hu7 hsb7 hnew7 hj7
  have o77 : Ow S7 w7 w6.heap.size w7.heap.size u7 _ _ := ⟨hv7, hW7⟩
  have o37 := o36.toN st6.jw hs7 hu7
  have o57 := o56.toN st6.jw hs7 hu7
  clear st6 o36 o56 o66 hu7 hj7 hW7 hv7 hI6
  rw [Frame.finish_at]
  walk_nrm
  have hf : AtRel w7 w7 := atRel_refl w7
  refine J.quiet (n := 30) ?_
  u_op at_tr hf
  u_c stepG_region_end at_tr hf
  u_c stepG_seq at_tr hf
  u_c stepG_seq at_tr hf
  u_reg at_tr hf
  u_op at_tr hf
  u_op at_tr hf
  refine Goes.stop fun w₁ h₁ => J.at ?_ (at_tr hf h₁)
  clear hf
  refine J.enter (vs := #[u7, v4]) rfl rfl (by decide) rfl Try.func8 (by kernel_rfl) rfl (by simp [Act.eval]) ?_
  refine j_up st7.sb st7.jw (g := 8) rfl (ar_two o77.vr o37.vr) (fun T => eqThrustS_same _ _ _ _ _ _ _ (fun i j => t4 ((coL R n).getD i (0, 0, 0, 0)) j) _ (sl_wt o77.sl T) (sl_wt o37.sl T) hM) fun w8 S8 hs8 hj8 hu8 => ?_
  have st8 := st7.to hu8 hj8
  have o58 := o57.to hs8 hu8
  clear st7 o37 o57 o77 hu8 hj8
  rw [Frame.finish_at]
  walk_nrm
  have hf : AtRel w8 w8 := atRel_refl w8
  refine J.quiet (n := 30) ?_
  u_op at_tr hf
  u_c stepG_region_end at_tr hf
  u_cond false at_tr hf
  u_c stepG_skip at_tr hf
  u_c stepG_seq at_tr hf
  u_reg at_tr hf
  u_op at_tr hf
  u_c stepG_region_end at_tr hf
  u_c stepG_seq at_tr hf
  u_reg at_tr hf
  u_op at_tr hf
  u_op at_tr hf
  refine Goes.stop fun w₁ h₁ => J.at ?_ (at_tr hf h₁)
  clear hf
  refine J.enter (vs := #[v6, .int .i64 1]) rfl rfl (by decide) rfl Try.func12 (by kernel_rfl) rfl (by simp [Act.eval]) ?_
  refine j_held st8.sb st8.jw (g := 12) rfl (ar_two o58.vr (vr_int 1)) (fun T => heldThrustS_any _ _ _ _ _ _ (sl_wt o58.sl T) hM (by omega) (by omega)) fun w9 S9 hs9 hj9 hu9 => ?_
  have st9 := st8.to hu9 hj9
  clear st8 o58 hu9 hj9
  rw [Frame.finish_at]
  walk_nrm
  have hf : AtRel w9 w9 := atRel_refl w9
  refine J.quiet (n := 40) ?_
  u_op at_tr hf
  u_c stepG_region_end at_tr hf
  u_c stepG_seq at_tr hf
  u_c stepG_seq at_tr hf
  u_reg at_tr hf
  u_op at_tr hf
  u_op at_tr hf
  u_c stepG_region_end at_tr hf
  u_cond false at_tr hf
  u_c stepG_skip at_tr hf
  u_c stepG_seq at_tr hf
  u_c stepG_seq at_tr hf
  u_reg at_tr hf
  u_op at_tr hf
  u_op at_tr hf
  u_op at_tr hf
  u_c stepG_region_end at_tr hf
  u_cond false at_tr hf
  u_c stepG_skip at_tr hf
  u_c stepG_seq at_tr hf
  u_reg at_tr hf
  u_op at_tr hf
  u_c stepG_region_end at_tr hf
  u_c stepG_ret' at_tr hf
  refine Goes.stop fun w₁ h₁ => J.at ?_ (at_tr hf h₁)
  clear hf
  exact last3 rfl st9.up
end
end Go.Proofs.Ytbonjafjgiacpaa
