/- toRowS beside leavers. No condition. -/
import Derived.Test.YtbonjafjgiacpaaCo12
import Derived.Test.YtbonjafjgiacpaaSlT
namespace Go.Proofs.Ytbonjafjgiacpaa
open Sim Go.Conc Go.ConcN Go.RowKit Go.Conc.Lib Go.ConcR.Gen Go.ConcN.Gen
open Go.ConcR (KK wgBlock WgAt stA smA rd wr mk Payload DC0)
set_option linter.unusedVariables false
theorem array23 (T : Array Value) (h : T.size = 23) : ∃ v0 v1 v2 v3 v4 v5 v6 v7 v8 v9 v10 v11 v12 v13 v14 v15 v16 v17 v18 v19 v20 v21 v22 : Value, T = #[v0, v1, v2, v3, v4, v5, v6, v7, v8, v9, v10, v11, v12, v13, v14, v15, v16, v17, v18, v19, v20, v21, v22] := by
  obtain ⟨l⟩ := T
  simp only [List.size_toArray] at h
  rcases l with _ | ⟨v0, l⟩
  · simp at h
  rcases l with _ | ⟨v1, l⟩
  · simp at h
  rcases l with _ | ⟨v2, l⟩
  · simp at h
  rcases l with _ | ⟨v3, l⟩
  · simp at h
  rcases l with _ | ⟨v4, l⟩
  · simp at h
  rcases l with _ | ⟨v5, l⟩
  · simp at h
  rcases l with _ | ⟨v6, l⟩
  · simp at h
  rcases l with _ | ⟨v7, l⟩
  · simp at h
  rcases l with _ | ⟨v8, l⟩
  · simp at h
  rcases l with _ | ⟨v9, l⟩
  · simp at h
  rcases l with _ | ⟨v10, l⟩
  · simp at h
  rcases l with _ | ⟨v11, l⟩
  · simp at h
  rcases l with _ | ⟨v12, l⟩
  · simp at h
  rcases l with _ | ⟨v13, l⟩
  · simp at h
  rcases l with _ | ⟨v14, l⟩
  · simp at h
  rcases l with _ | ⟨v15, l⟩
  · simp at h
  rcases l with _ | ⟨v16, l⟩
  · simp at h
  rcases l with _ | ⟨v17, l⟩
  · simp at h
  rcases l with _ | ⟨v18, l⟩
  · simp at h
  rcases l with _ | ⟨v19, l⟩
  · simp at h
  rcases l with _ | ⟨v20, l⟩
  · simp at h
  rcases l with _ | ⟨v21, l⟩
  · simp at h
  rcases l with _ | ⟨v22, l⟩
  · simp at h
  rcases l with _ | ⟨x, l⟩
  · exact ⟨v0, v1, v2, v3, v4, v5, v6, v7, v8, v9, v10, v11, v12, v13, v14, v15, v16, v17, v18, v19, v20, v21, v22, rfl⟩
  · simp at h
noncomputable def body6 : Code := Try.f6.body.getD .skip
theorem enter6 (rv : Value) : Frame.enter Try.prog 6 #[rv] .normal = (base 6).at ⟨#[rv, undef, undef, undef, undef, undef, undef, undef, undef, undef, undef, undef, undef, undef, undef, undef, undef, undef, undef, undef, undef, undef, undef], []⟩ [.code body6] := by
  simp [Frame.enter, Try.func6, Try.f6, Frame.at, base, body6]
noncomputable def L6c : Code := match body6 with | .seq _ (.seq _ (.seq (.seq _ (.block _ (.loop c))) _)) => c | _ => .skip
noncomputable def R6c : Code := match body6 with | .seq _ (.seq _ (.seq _ r)) => r | _ => .skip
/-- The new rows, k of them filled. -/
structure Fil (B n k : Nat) (R : Nat → Nat → Int) (w : World) : Prop where
  ex : ∃ cs : Array Value, w.heap[B]? = some (.cells cs 35) ∧ cs.size = n * 4 ∧ (∀ (i : Nat) x, cs[i]? = some x → ∃ k m, x = Value.int k m) ∧ ∀ i j, i < k → j < 4 → cs[i * 4 + j]? = some (intF R i j)
theorem set_heap {w : World} {B p : Nat} {cs : Array Value} {e : TypeId} {v : Value} (h : w.heap[B]? = some (.cells cs e)) : (w.setCell ⟨B, p, none⟩ v).heap[B]? = some (.cells (cs.setIfInBounds p v) e) := by simp [World.setCell, Array.getElem?_modify, h]
theorem fil_set {w : World} {B n k : Nat} {R : Nat → Nat → Int} {cs : Array Value} (f1 : w.heap[B]? = some (.cells cs 35)) (f2 : cs.size = n * 4) (f3 : ∀ (i : Nat) x, cs[i]? = some x → ∃ k m, x = Value.int k m) (f4 : ∀ i j, i < k → j < 4 → cs[i * 4 + j]? = some (intF R i j)) (hk : k < n) :
    Fil B n (k + 1) R ((((w.setCell ⟨B, k * 4, none⟩ (.int .i64 (R k 0))).setCell ⟨B, k * 4 + 1, none⟩ (.int .i64 (R k 1))).setCell ⟨B, k * 4 + 2, none⟩ (.int .i64 (R k 2))).setCell ⟨B, k * 4 + 3, none⟩ (.int .i64 (R k 3))) := by
  refine ⟨_, set_heap (set_heap (set_heap (set_heap f1))), by simp [f2], fun i x hx => ?_, fun i j hi hj => ?_⟩
  · simp only [Array.getElem?_setIfInBounds, Array.size_setIfInBounds] at hx
    split at hx
    · split at hx <;> cases hx; exact ⟨_, _, rfl⟩
    split at hx
    · split at hx <;> cases hx; exact ⟨_, _, rfl⟩
    split at hx
    · split at hx <;> cases hx; exact ⟨_, _, rfl⟩
    split at hx
    · split at hx <;> cases hx; exact ⟨_, _, rfl⟩
    exact f3 i x hx
  · simp only [Array.getElem?_setIfInBounds, Array.size_setIfInBounds]
    by_cases hik : i = k
    · subst hik
      match j, hj with
      | 0, _ => simp [f2, intF]; omega
      | 1, _ => simp [f2, intF]; omega
      | 2, _ => simp [f2, intF]; omega
      | 3, _ => simp [f2, intF]; omega
    · rw [if_neg (by omega), if_neg (by omega), if_neg (by omega), if_neg (by omega)]
      exact f4 i j (by omega) hj
section
variable {Shun : Go.Loc → Prop} {SB S : Nat → Prop} {Post : Value → World → Prop} {c1 : Frame} {cs1 : List Frame}
set_option maxRecDepth 100000 in
set_option maxHeartbeats 4000000 in
theorem row6 {w0 w : World} {A : Option Addr} {n c B k : Nat} {R : Nat → Nat → Int} {T : Array Value} (hk : k < n) (hn : n ≤ 1048576) (hSB : ∀ l, Shun l → ∃ a : Addr, l = .cell a ∧ SB a.block) (hj : JW Try.prog SB S w) (hup : UpN SB w0 w) (hB : w0.heap.size ≤ B) (hBn : ¬ SB B) (hf : Fil B n k R w)
    (hsl : Sl w0 0 w0.heap.size 4 (.slice A n c) n (intF R)) (hna : ∀ a, A = some a → ¬ SB a.block) (hSN : ∀ b, S b → b < w0.heap.size)
    (hT : T.size = 23) (t0 : T[0]? = some (.slice A n c)) (t3 : T[3]? = some (.slice (some ⟨B, 0, none⟩) n n)) (t4 : T[4]? = some (.int .i64 k))
    (hnext : ∀ T' w', T'.size = 23 → T'[0]? = some (.slice A n c) → T'[3]? = some (.slice (some ⟨B, 0, none⟩) n n) → T'[4]? = some (.int .i64 ((k + 1 : Nat) : Int)) → JW Try.prog SB S w' → UpN SB w0 w' → Fil B n (k + 1) R w' → J Try.prog Post Shun (G ((base 6).at ⟨T', []⟩ [.code L6c, .inLoop L6c, .inBlock 0, .code R6c]) (c1 :: cs1)) w') :
    J Try.prog Post Shun (G ((base 6).at ⟨T, []⟩ [.code L6c, .inLoop L6c, .inBlock 0, .code R6c]) (c1 :: cs1)) w := by
  obtain ⟨v0, v1, v2, v3, v4, v5, v6, v7, v8, v9, v10, v11, v12, v13, v14, v15, v16, v17, v18, v19, v20, v21, v22, rfl⟩ := array23 T hT
  simp only [List.getElem?_toArray, List.getElem?_cons_succ, List.getElem?_cons_zero, Option.some.injEq] at t0 t3 t4
  subst t0 t3 t4
  clear hT
  obtain ⟨_, _, _, e, hc, hx⟩ := hsl
  cases e
  obtain ⟨b, o, rfl, _, hlt, hcs⟩ := hx (by omega)
  have hbn : ¬ SB b := hna _ rfl
  have hlt1 : (k : Int) < (n : Int) := by omega
  have hk0 : (0 : Int) ≤ (k : Int) := by omega
  have hbl := Nat.lt_of_lt_of_le hlt hup.size
  have hev : ∀ o x, EvX Shun w.heap.size ⟨.cell ⟨b, o, none⟩, x, false⟩ := fun o x => evX_cell _ _ (not_shun hSB hbn) hbl
  have hcell : ∀ j, j < 4 → w.cell? ⟨b, o + k * 4 + j, none⟩ = some (.int .i64 (R k j)) := fun j h => (cell_heap (hup.keep b hlt hbn)).trans (by rw [Nat.add_assoc]; exact hcs k j hk h)
  have g0 : w.cell? ⟨b, o + k * 4, none⟩ = some (.int .i64 (R k 0)) := hcell 0 (by omega)
  have g1 := hcell 1 (by omega)
  have g2 := hcell 2 (by omega)
  have g3 := hcell 3 (by omega)
  clear hcell hcs hx
  simp only [L6c, R6c, body6, Try.f6, Option.getD_some] at hnext ⊢
  have hq : AtRel w w := atRel_refl w
  refine J.quiet (n := 30) ?_
  u_c stepG_seq at_tr hq
  u_c stepG_seq at_tr hq
  u_reg at_tr hq
  u_op at_tr hq
  u_op at_tr hq
  u_op at_tr hq
  u_op at_tr hq
  u_c stepG_region_end at_tr hq
  u_cond true at_tr hq
  u_c stepG_skip at_tr hq
  u_c stepG_seq at_tr hq
  u_c stepG_block at_tr hq
  u_reg at_tr hq
  u_op at_tr hq
  u_op at_tr hq
  u_op at_tr hq
  u_op at_tr hq
  u_op at_tr hq
  refine Goes.stop fun w₁ h₁ => J.at ?_ (at_tr hq h₁)
  clear hq
  refine J.value (w' := w) (v := .agg #[.int .i64 (R k 0), .int .i64 (R k 1), .int .i64 (R k 2), .int .i64 (R k 3)]) rfl rfl (by decide) (fun d => ⟨run_eq_of fun K hK => by go_simp; exact hK, fun e he => ?_⟩) (Nat.le_refl _) ?_
  · simp [go_sem, *] at he
    rcases he with rfl | rfl | rfl | rfl <;> exact hev _ _
  walk_nrm
  refine J.enter (vs := #[.agg #[.int .i64 (R k 0), .int .i64 (R k 1), .int .i64 (R k 2), .int .i64 (R k 3)]]) rfl rfl (by decide) rfl Try.func18 (by kernel_rfl) rfl (by simp [Act.eval]) ?_
  refine J.call ok_set hSB hj (f := 18) rfl (ar_one (VR.agg _ _ rfl (ar_ints [R k 0, R k 1, R k 2, R k 3]).2)) (Rh := fun v h => v = .agg #[.int .i64 (R k 0), .int .i64 (R k 1), .int .i64 (R k 2), .int .i64 (R k 3)] ∧ ∀ b, b < w.heap.size → h[b]? = w.heap[b]?) (fun T => (cpRow_any _ _ _ _ _).mono (by rintro e w' ⟨rfl, hu⟩; exact ⟨_, rfl, rfl, fun b hb => hu.block b hb⟩)) fun v w1 hp => ?_
  obtain ⟨⟨rfl, hh⟩, hwd, hsz, _⟩ := hp
  have hj1 : JW Try.prog SB S w1 := jw_keep hj (fun b hb => hh b (jw_lt hj hb)) hsz
  have hup1 : UpN SB w0 w1 := hup.trans (SB' := SB) ⟨hsz, fun b hb _ => hh b hb, env_wd hwd⟩ fun _ _ h => h
  obtain ⟨cs, f1, f2, f3, f4⟩ := hf.ex
  have hBl := (Array.getElem?_eq_some_iff.1 f1).1
  have f1' : w1.heap[B]? = some (.cells cs 35) := (hh B hBl).trans f1
  have hBl1 := Nat.lt_of_lt_of_le hBl hsz
  rw [Frame.finish_at]
  walk_nrm
  clear g0 g1 g2 g3 hev
  have hz : ∀ o, w1.frozen? ⟨B, o, none⟩ = false := fun o => by simp [World.frozen?, f1']
  have hold : ∀ j, j < 4 → ∃ x, w1.cell? ⟨B, k * 4 + j, none⟩ = some x := fun j hj => ⟨cs[k * 4 + j]'(by omega), by rw [cell_cells f1', Array.getElem?_eq_getElem (by omega)]⟩
  obtain ⟨x0, g0⟩ := hold 0 (by omega)
  obtain ⟨x1, g1⟩ := hold 1 (by omega)
  obtain ⟨x2, g2⟩ := hold 2 (by omega)
  obtain ⟨x3, g3⟩ := hold 3 (by omega)
  have z0 := hz (k * 4)
  have z1 := hz (k * 4 + 1)
  have z2 := hz (k * 4 + 2)
  have z3 := hz (k * 4 + 3)
  simp only [Nat.add_zero] at g0
  clear hold hz
  have hev : ∀ o x, EvX Shun w1.heap.size ⟨.cell ⟨B, o, none⟩, x, false⟩ := fun o x => evX_cell _ _ (not_shun hSB hBn) hBl1
  have hq : AtRel w1 w1 := atRel_refl w1
  refine J.quiet (n := 30) ?_
  u_op at_tr hq
  refine Goes.stop fun w₁ h₁ => J.at ?_ (at_tr hq h₁)
  clear hq
  refine J.none (w' := (((w1.setCell ⟨B, k * 4, none⟩ (.int .i64 (R k 0))).setCell ⟨B, k * 4 + 1, none⟩ (.int .i64 (R k 1))).setCell ⟨B, k * 4 + 2, none⟩ (.int .i64 (R k 2))).setCell ⟨B, k * 4 + 3, none⟩ (.int .i64 (R k 3))) rfl rfl (by decide) (fun d => ⟨?_, fun e he => ?_⟩) (by simp) ?_
  · unfold execOp
    simp [go_sem, stored, Act.eval, g0, g1, g2, g3, z0, z1, z2, z3]
    rfl
  · unfold execOp at he
    simp [go_sem, storedEv, Act.eval, g0, g1, g2, g3, z0, z1, z2, z3] at he
    rcases he with rfl | rfl | rfl | rfl <;> exact evX_cell _ _ (not_shun hSB hBn) (by simpa using hBl1)
  walk_nrm
  have hup4 := (((hup1.set ⟨B, k * 4, none⟩ (.int .i64 (R k 0)) hB).set ⟨B, k * 4 + 1, none⟩ (.int .i64 (R k 1)) hB).set ⟨B, k * 4 + 2, none⟩ (.int .i64 (R k 2)) hB).set ⟨B, k * 4 + 3, none⟩ (.int .i64 (R k 3)) hB
  have hF4 : Fil B n (k + 1) R ((((w1.setCell ⟨B, k * 4, none⟩ (.int .i64 (R k 0))).setCell ⟨B, k * 4 + 1, none⟩ (.int .i64 (R k 1))).setCell ⟨B, k * 4 + 2, none⟩ (.int .i64 (R k 2))).setCell ⟨B, k * 4 + 3, none⟩ (.int .i64 (R k 3))) := fil_set f1' f2 f3 f4 hk
  have hj4 : JW Try.prog SB S ((((w1.setCell ⟨B, k * 4, none⟩ (.int .i64 (R k 0))).setCell ⟨B, k * 4 + 1, none⟩ (.int .i64 (R k 1))).setCell ⟨B, k * 4 + 2, none⟩ (.int .i64 (R k 2))).setCell ⟨B, k * 4 + 3, none⟩ (.int .i64 (R k 3))) :=
    jw_keep hj1 (fun b hb => by
      have hne : b ≠ B := fun e => by have := hSN b hb; omega
      rw [(aside_setCell _ _ _).block b hne, (aside_setCell _ _ _).block b hne, (aside_setCell _ _ _).block b hne, (aside_setCell _ _ _).block b hne]) (by simp)
  generalize (((w1.setCell ⟨B, k * 4, none⟩ (.int .i64 (R k 0))).setCell ⟨B, k * 4 + 1, none⟩ (.int .i64 (R k 1))).setCell ⟨B, k * 4 + 2, none⟩ (.int .i64 (R k 2))).setCell ⟨B, k * 4 + 3, none⟩ (.int .i64 (R k 3)) = w4 at hup4 hF4 hj4 ⊢
  clear g0 g1 g2 g3 z0 z1 z2 z3 hev
  have hwr : IntKind.i64.wrap ((k : Int) + 1) = ((k + 1 : Nat) : Int) := by rw [IntKind.wrap_i64]; omega
  have hq : AtRel w4 w4 := atRel_refl w4
  refine J.quiet (n := 30) ?_
  u_c stepG_region_end at_tr hq
  u_c stepG_inBlock at_tr hq
  u_reg at_tr hq
  u_op at_tr hq
  u_op at_tr hq
  u_op at_tr hq
  u_c stepG_region_end at_tr hq
  u_c stepG_inLoop at_tr hq
  refine Goes.stop fun w₁ h₁ => J.at ?_ (at_tr hq h₁)
  clear hq
  exact hnext _ w4 rfl rfl rfl rfl hj4 hup4 hF4
end
end Go.Proofs.Ytbonjafjgiacpaa
