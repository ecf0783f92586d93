/- szRowS beside leavers. No condition. -/
import Derived.Test.YtbonjafjgiacpaaTr3
namespace Go.Proofs.Ytbonjafjgiacpaa
open Sim Go.Conc Go.ConcN Go.RowKit Go.Conc.Lib Go.ConcR.Gen Go.ConcN.Gen
open Go.ConcR (KK wgBlock WgAt stA smA rd wr mk Payload DC0)
set_option linter.unusedVariables false
noncomputable def body4 : Code := Try.f4.body.getD .skip
theorem enter4 (rv x : Value) : Frame.enter Try.prog 4 #[rv, x] .normal = (base 4).at ⟨#[rv, x, undef, undef, undef, undef, undef, undef, undef, undef, undef, undef], []⟩ [.code body4] := by
  simp [Frame.enter, Try.func4, Try.f4, Frame.at, base, body4]
theorem results4 (T : Array Value) (v : Value) (h : T[4]? = some v) (w : World) : (results Try.f4 T).runT Try.prog w #[] = (.ok v w, #[]) := by
  simp [results, Try.f4, h]
section
variable {Shun : Go.Loc → Prop} {Post : Value → World → Prop} {c1 : Frame} {cs1 : List Frame}
set_option maxRecDepth 100000 in
set_option maxHeartbeats 4000000 in
theorem szRowS_j {w : World} {A : Option Addr} {n c : Nat} {left : Int} (hn : n ≤ maxLen) (h0 : 0 ≤ left) (h1 : left ≤ 1048576) (hnext : J Try.prog Post Shun (G (c1.finish (.int .i64 (szI left n))) cs1) w) :
    J Try.prog Post Shun (G (Frame.enter Try.prog 4 #[.slice A n c, .int .i64 left] .normal) (c1 :: cs1)) w := by
  have hm : n ≤ 9223372036854775807 := by simpa [maxLen] using hn
  have hwr : IntKind.i64.wrap (left - (n : Int)) = left - (n : Int) := by rw [IntKind.wrap_i64]; omega
  rw [enter4]
  simp only [body4, Try.f4, Option.getD_some]
  by_cases h : left - (n : Int) < 0
  · rw [szI, if_pos h] at hnext
    have hq : AtRel w w := atRel_refl w
    refine J.quiet (n := 30) ?_
    u_c stepG_seq at_tr hq
    u_reg at_tr hq
    u_op at_tr hq
    u_c stepG_region_end at_tr hq
    u_c stepG_seq at_tr hq
    u_reg at_tr hq
    u_op at_tr hq
    u_op at_tr hq
    u_op at_tr hq
    u_op at_tr hq
    u_op at_tr hq
    u_c stepG_region_end at_tr hq
    u_c stepG_seq at_tr hq
    u_c stepG_seq at_tr hq
    u_reg at_tr hq
    u_op at_tr hq
    u_op at_tr hq
    u_c stepG_region_end at_tr hq
    u_cond true at_tr hq
    u_c stepG_seq at_tr hq
    u_reg at_tr hq
    u_op at_tr hq
    u_c stepG_region_end at_tr hq
    u_c stepG_ret' at_tr hq
    refine Goes.stop fun w₁ h₁ => J.at ?_ (at_tr hq h₁)
    exact J.back Try.func4 (fun d => results4 _ _ rfl _) hnext
  · rw [szI, if_neg h] at hnext
    have hq : AtRel w w := atRel_refl w
    refine J.quiet (n := 30) ?_
    u_c stepG_seq at_tr hq
    u_reg at_tr hq
    u_op at_tr hq
    u_c stepG_region_end at_tr hq
    u_c stepG_seq at_tr hq
    u_reg at_tr hq
    u_op at_tr hq
    u_op at_tr hq
    u_op at_tr hq
    u_op at_tr hq
    u_op at_tr hq
    u_c stepG_region_end at_tr hq
    u_c stepG_seq at_tr hq
    u_c stepG_seq at_tr hq
    u_reg at_tr hq
    u_op at_tr hq
    u_op at_tr hq
    u_c stepG_region_end at_tr hq
    u_cond false at_tr hq
    u_c stepG_skip at_tr hq
    u_c stepG_seq at_tr hq
    u_reg at_tr hq
    u_op at_tr hq
    u_op at_tr hq
    u_c stepG_region_end at_tr hq
    u_c stepG_ret' at_tr hq
    refine Goes.stop fun w₁ h₁ => J.at ?_ (at_tr hq h₁)
    exact J.back Try.func4 (fun d => results4 _ _ rfl _) hnext
end
end Go.Proofs.Ytbonjafjgiacpaa
