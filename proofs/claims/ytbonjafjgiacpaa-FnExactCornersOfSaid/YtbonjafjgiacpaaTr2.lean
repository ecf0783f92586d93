/- toRowS beside leavers: the whole. No condition. -/
import Derived.Test.YtbonjafjgiacpaaTr
namespace Go.Proofs.Ytbonjafjgiacpaa
open Sim Go.Conc Go.ConcN Go.RowKit Go.Conc.Lib Go.ConcR.Gen Go.ConcN.Gen
open Go.ConcR (KK wgBlock WgAt stA smA rd wr mk Payload DC0)
set_option linter.unusedVariables false
theorem results6 (T : Array Value) (v : Value) (h : T[2]? = some v) (w : World) : (results Try.f6 T).runT Try.prog w #[] = (.ok v w, #[]) := by
  simp [results, Try.f6, h]
section
variable {Shun : Go.Loc → Prop} {SB S : Nat → Prop} {Post : Value → World → Prop} {c1 : Frame} {cs1 : List Frame}
set_option maxRecDepth 100000 in
set_option maxHeartbeats 4000000 in
theorem end6 {w : World} {A : Option Addr} {n c B : Nat} {T : Array Value} (hT : T.size = 23) (t0 : T[0]? = some (.slice A n c)) (t3 : T[3]? = some (.slice (some ⟨B, 0, none⟩) n n)) (t4 : T[4]? = some (.int .i64 n))
    (hnext : J Try.prog Post Shun (G (c1.finish (.slice (some ⟨B, 0, none⟩) n n)) cs1) w) :
    J Try.prog Post Shun (G ((base 6).at ⟨T, []⟩ [.code L6c, .inLoop L6c, .inBlock 0, .code R6c]) (c1 :: cs1)) w := by
  obtain ⟨v0, v1, v2, v3, v4, v5, v6, v7, v8, v9, v10, v11, v12, v13, v14, v15, v16, v17, v18, v19, v20, v21, v22, rfl⟩ := array23 T hT
  simp only [List.getElem?_toArray, List.getElem?_cons_succ, List.getElem?_cons_zero, Option.some.injEq] at t0 t3 t4
  subst t0 t3 t4
  clear hT
  have hlt1 : ¬ ((n : Int) < (n : Int)) := by omega
  simp only [L6c, R6c, body6, Try.f6, Option.getD_some]
  have hq : AtRel w w := atRel_refl w
  refine J.quiet (n := 30) ?_
  u_c stepG_seq at_tr hq
  u_c stepG_seq at_tr hq
  u_reg at_tr hq
  u_op at_tr hq
  u_op at_tr hq
  u_op at_tr hq
  u_op at_tr hq
  u_c stepG_region_end at_tr hq
  u_cond false at_tr hq
  u_exit at_tr hq
  u_c stepG_seq at_tr hq
  u_reg at_tr hq
  u_op at_tr hq
  u_op at_tr hq
  u_c stepG_region_end at_tr hq
  u_c stepG_ret' at_tr hq
  refine Goes.stop fun w₁ h₁ => J.at ?_ (at_tr hq h₁)
  clear hq
  exact J.back Try.func6 (fun d => results6 _ _ rfl _) hnext
theorem rows6 {w0 : World} {A : Option Addr} {n c B : Nat} {R : Nat → Nat → Int} (hn : n ≤ 1048576) (hSB : ∀ l, Shun l → ∃ a : Addr, l = .cell a ∧ SB a.block) (hB : w0.heap.size ≤ B) (hBn : ¬ SB B)
    (hsl : Sl w0 0 w0.heap.size 4 (.slice A n c) n (intF R)) (hna : 0 < n → ∀ a, A = some a → ¬ SB a.block) (hSN : ∀ b, S b → b < w0.heap.size)
    (hnext : ∀ w', JW Try.prog SB S w' → UpN SB w0 w' → Fil B n n R w' → J Try.prog Post Shun (G (c1.finish (.slice (some ⟨B, 0, none⟩) n n)) cs1) w') :
    ∀ (r k : Nat), k + r = n → ∀ {T : Array Value} {w : World}, JW Try.prog SB S w → UpN SB w0 w → Fil B n k R w → T.size = 23 → T[0]? = some (.slice A n c) → T[3]? = some (.slice (some ⟨B, 0, none⟩) n n) → T[4]? = some (.int .i64 k) →
      J Try.prog Post Shun (G ((base 6).at ⟨T, []⟩ [.code L6c, .inLoop L6c, .inBlock 0, .code R6c]) (c1 :: cs1)) w := by
  intro r
  induction r with
  | zero =>
    intro k hk T w hj hup hf hT t0 t3 t4
    obtain rfl : k = n := by omega
    exact end6 hT t0 t3 t4 (hnext w hj hup hf)
  | succ r ih =>
    intro k hk T w hj hup hf hT t0 t3 t4
    exact row6 (by omega) hn hSB hj hup hB hBn hf hsl (hna (by omega)) hSN hT t0 t3 t4 fun T' w' h1 h2 h3 h4 h5 h6 h7 => ih (k + 1) (by omega) h5 h6 h7 h1 h2 h3 h4
end
end Go.Proofs.Ytbonjafjgiacpaa
