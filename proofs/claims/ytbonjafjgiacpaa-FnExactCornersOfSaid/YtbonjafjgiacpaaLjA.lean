/- The law's first stretch: both corners are reckoned. No condition. -/
import Derived.Test.YtbonjafjgiacpaaLj
namespace Go.Proofs.Ytbonjafjgiacpaa
open Sim Go.Conc Go.ConcN Go.RowKit Go.Conc.Lib Go.ConcR.Gen Go.ConcN.Gen
open Go.ConcR (KK wgBlock WgAt stA smA rd wr mk Payload DC0)
set_option linter.unusedVariables false
theorem st_first (wE : World) (hg : Try.prog.globals.size ≤ wE.heap.size) : LSt wE (fun _ => False) (fun _ => False) (fun _ => False) wE :=
  ⟨Up.refl wE, fun _ h => h.elim, fun _ h => h.elim, ⟨fun _ _ _ h _ => h.2.elim, fun _ _ _ h _ => h.2.elim, fun _ _ h => h.2.elim, fun _ h => h.elim, fun _ _ h => by rw [h.1], hg, hg⟩, fun _ h => h.elim, fun _ h => h.elim⟩
section
variable {wE : World} {A : Option Addr} {n c : Nat} {R : Nat → Nat → Int}
set_option maxRecDepth 100000 in
set_option maxHeartbeats 8000000 in
theorem law_out (hm : n ≤ maxLen) (hn : ¬ n ≤ 1048576) : J Try.prog (PostL wE) (fun _ => False) (G (Frame.enter Try.prog 3 #[.slice A n c] .normal) []) wE := by
  rw [enter3]
  simp only [body3, Try.f3, Option.getD_some]
  have hz : szI 1048576 n = -1 := by rw [szI, if_pos (by omega)]
  have hf : AtRel wE wE := atRel_refl wE
  refine J.quiet (n := 30) ?_
  u_c stepG_seq at_tr hf
  u_reg at_tr hf
  u_op at_tr hf
  u_c stepG_region_end at_tr hf
  u_c stepG_seq at_tr hf
  u_reg at_tr hf
  u_op at_tr hf
  u_c stepG_region_end at_tr hf
  u_c stepG_seq at_tr hf
  u_reg at_tr hf
  u_op at_tr hf
  u_op at_tr hf
  refine Goes.stop fun w₁ h₁ => J.at ?_ (at_tr hf h₁)
  clear hf
  refine J.enter (vs := #[.slice A n c, .int .i64 1048576]) rfl rfl (by decide) rfl Try.func4 (by kernel_rfl) rfl (by simp [Act.eval]) ?_
  refine szRowS_j hm (by omega) (by omega) ?_
  rw [hz]
  rw [Frame.finish_at]
  walk_nrm
  have hf : AtRel wE wE := atRel_refl wE
  refine J.quiet (n := 30) ?_
  u_op at_tr hf
  u_c stepG_region_end at_tr hf
  u_c stepG_seq at_tr hf
  u_c stepG_seq at_tr hf
  u_reg at_tr hf
  u_op at_tr hf
  u_op at_tr hf
  u_c stepG_region_end at_tr hf
  u_cond true at_tr hf
  u_c stepG_seq at_tr hf
  u_reg at_tr hf
  u_op at_tr hf
  u_c stepG_region_end at_tr hf
  u_c stepG_ret' at_tr hf
  refine Goes.stop fun w₁ h₁ => J.at ?_ (at_tr hf h₁)
  clear hf
  exact last3 rfl (Up.refl wE)
set_option maxRecDepth 100000 in
set_option maxHeartbeats 8000000 in
theorem law_A (hst : LSt wE (fun _ => False) (fun _ => False) (fun _ => False) wE) (hn : n ≤ 1048576) (hA : Sl wE 0 wE.heap.size 4 (.slice A n c) n (intF R))
    (hnext : ∀ (T : Array Value) (w : World) (Shun : Go.Loc → Prop) (SB S : Nat → Prop) (v3 v5 : Value) (B4 l3 h3 l4 h4 l5 h5 : Nat), T.size = 69 → T[0]? = some (.slice A n c) → T[4]? = some v3 → T[5]? = some (.slice (some ⟨B4, 0, none⟩) n n) → T[6]? = some v5 → LSt wE Shun SB S w →
      Ow S w l3 h3 v3 (coL R n).length (thF (coL R n)) → Ow S w l4 h4 (.slice (some ⟨B4, 0, none⟩) n n) n (intF R) → Ow S w l5 h5 v5 (coL R n).length (thF (coL R n)) → wE.heap.size ≤ l3 → l3 ≤ h3 → h3 ≤ l4 → l4 ≤ h4 → h4 ≤ l5 → J Try.prog (PostL wE) Shun (G ((base 3).at ⟨T, []⟩ [.code C8]) []) w) :
    J Try.prog (PostL wE) (fun _ => False) (G (Frame.enter Try.prog 3 #[.slice A n c] .normal) []) wE := by
  rw [enter3]
  simp only [C8, body3, Try.f3, Option.getD_some] at hnext ⊢
  have hm : n ≤ maxLen := by simp only [maxLen]; omega
  have hz : szI 1048576 n = 1048576 - (n : Int) := by rw [szI, if_neg (by omega)]
  have hz2 : ¬ (1048576 - (n : Int) < 0) := by omega
  have hf : AtRel wE wE := atRel_refl wE
  refine J.quiet (n := 30) ?_
  u_c stepG_seq at_tr hf
  u_reg at_tr hf
  u_op at_tr hf
  u_c stepG_region_end at_tr hf
  u_c stepG_seq at_tr hf
  u_reg at_tr hf
  u_op at_tr hf
  u_c stepG_region_end at_tr hf
  u_c stepG_seq at_tr hf
  u_reg at_tr hf
  u_op at_tr hf
  u_op at_tr hf
  refine Goes.stop fun w₁ h₁ => J.at ?_ (at_tr hf h₁)
  clear hf
  refine J.enter (vs := #[.slice A n c, .int .i64 1048576]) rfl rfl (by decide) rfl Try.func4 (by kernel_rfl) rfl (by simp [Act.eval]) ?_
  refine szRowS_j hm (by omega) (by omega) ?_
  rw [hz]
  rw [Frame.finish_at]
  walk_nrm
  have hf : AtRel wE wE := atRel_refl wE
  refine J.quiet (n := 30) ?_
  u_op at_tr hf
  u_c stepG_region_end at_tr hf
  u_c stepG_seq at_tr hf
  u_c stepG_seq at_tr hf
  u_reg at_tr hf
  u_op at_tr hf
  u_op at_tr hf
  u_c stepG_region_end at_tr hf
  u_cond false at_tr hf
  u_c stepG_skip at_tr hf
  u_c stepG_seq at_tr hf
  u_reg at_tr hf
  u_op at_tr hf
  refine Goes.stop fun w₁ h₁ => J.at ?_ (at_tr hf h₁)
  clear hf
  refine J.enter (vs := #[.slice A n c]) rfl rfl (by decide) rfl Try.func6 (by kernel_rfl) rfl (by simp [Act.eval]) ?_
  refine toRowS_j hst.sb hst.jw (hst.rows hA).1 hn (hst.rows hA).2 fun B2 w2 S2 hB2 hs2 hS2 hj2 hI2 hW2 hu2 => ?_
  have st2 := hst.toN hu2 hj2
  have o2 := Ow.rows hS2 hW2
  have sz2 := hu2.size
  clear hst hI2 hu2 hj2 hW2
  rw [Frame.finish_at]
  walk_nrm
  refine J.enter (vs := #[.slice (some ⟨B2, 0, none⟩) n n]) rfl rfl (by decide) rfl Try.func5 (by kernel_rfl) rfl (by simp [Act.eval]) ?_
  refine j_to st2.sb st2.jw (g := 5) rfl (ar_one o2.vr) (fun T => sCornersOf_any _ _ _ _ R _ (sl_wt o2.sl T) hn) fun v3 w3 S3 hs3 hj3 hv3 hW3 hu3 => ?_
  have st3 := st2.to hu3 hj3
  have o3 : Ow S3 w3 w2.heap.size w3.heap.size v3 _ _ := ⟨hv3, hW3⟩
  have sz3 := hu3.size
  clear st2 o2 hu3 hj3 hW3 hv3
  rw [Frame.finish_at]
  walk_nrm
  have hf : AtRel w3 w3 := atRel_refl w3
  refine J.quiet (n := 30) ?_
  u_op at_tr hf
  u_c stepG_region_end at_tr hf
  u_c stepG_seq at_tr hf
  u_reg at_tr hf
  u_op at_tr hf
  refine Goes.stop fun w₁ h₁ => J.at ?_ (at_tr hf h₁)
  clear hf
  refine J.enter (vs := #[.slice A n c]) rfl rfl (by decide) rfl Try.func6 (by kernel_rfl) rfl (by simp [Act.eval]) ?_
  refine toRowS_j st3.sb st3.jw (st3.rows hA).1 hn (st3.rows hA).2 fun B4 w4 S4 hB4 hs4 hS4 hj4 hI4 hW4 hu4 => ?_
  have st4 := st3.toN hu4 hj4
  have o4 := Ow.rows hS4 hW4
  have q4 := o3.toN st3.jw hs4 hu4
  have sz4 := hu4.size
  clear st3 o3 hu4 hj4 hW4
  rw [Frame.finish_at]
  walk_nrm
  have hf : AtRel w4 w4 := atRel_refl w4
  refine J.quiet (n := 30) ?_
  u_op at_tr hf
  u_c stepG_region_end at_tr hf
  u_c stepG_seq at_tr hf
  u_reg at_tr hf
  u_op at_tr hf
  refine Goes.stop fun w₁ h₁ => J.at ?_ (at_tr hf h₁)
  clear hf
  refine J.enter (vs := #[.slice (some ⟨B4, 0, none⟩) n n]) rfl rfl (by decide) rfl Try.func7 (by kernel_rfl) rfl (by simp [Act.eval]) ?_
  refine corners7 (R := R) rfl st4.sb st4.jw o4.vr (o4.sl.wide (Nat.zero_le _) (Nat.le_refl _) (Nat.le_refl _)) (fun _ => ⟨B4, rfl, hI4⟩) fun v5 w5 Shun5 SB5 S5 hsb5 hle5 hnew5 hs5 hj5 hv5 hW5 hu5 => ?_
  have st5 := st4.phase hu5 hsb5 hnew5 hj5
  have o5 : Ow S5 w5 w4.heap.size w5.heap.size v5 _ _ := ⟨hv5, hW5⟩
  have p4 := o4.toN st4.jw hs5 hu5
  have q5 := q4.toN st4.jw hs5 hu5
  clear st4 o4 q4 hu5 hj5 hW5 hv5 hI4
  rw [Frame.finish_at]
  walk_nrm
  have hf : AtRel w5 w5 := atRel_refl w5
  refine J.quiet (n := 30) ?_
  u_op at_tr hf
  u_c stepG_region_end at_tr hf
  refine Goes.stop fun w₁ h₁ => J.at ?_ (at_tr hf h₁)
  clear hf
  exact hnext _ w5 Shun5 SB5 S5 v3 v5 B4 _ _ _ _ _ _ rfl rfl rfl rfl rfl st5 q5 p4 o5 sz2 sz3 (Nat.le_refl _) sz4 (Nat.le_refl _)
end
end Go.Proofs.Ytbonjafjgiacpaa
