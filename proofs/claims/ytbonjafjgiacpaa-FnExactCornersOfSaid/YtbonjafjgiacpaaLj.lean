/- The law at goroutine 0, beside leavers: what is known along its way. No condition. -/
import Derived.Test.YtbonjafjgiacpaaCj
namespace Go.Proofs.Ytbonjafjgiacpaa
open Sim Go.Conc Go.ConcN Go.RowKit Go.Conc.Lib Go.ConcR.Gen Go.ConcN.Gen
open Go.ConcR (KK wgBlock WgAt stA smA rd wr mk Payload DC0)
set_option linter.unusedVariables false
theorem array69 (T : Array Value) (h : T.size = 69) : ∃ v0 v1 v2 v3 v4 v5 v6 v7 v8 v9 v10 v11 v12 v13 v14 v15 v16 v17 v18 v19 v20 v21 v22 v23 v24 v25 v26 v27 v28 v29 v30 v31 v32 v33 v34 v35 v36 v37 v38 v39 v40 v41 v42 v43 v44 v45 v46 v47 v48 v49 v50 v51 v52 v53 v54 v55 v56 v57 v58 v59 v60 v61 v62 v63 v64 v65 v66 v67 v68 : Value, T = #[v0, v1, v2, v3, v4, v5, v6, v7, v8, v9, v10, v11, v12, v13, v14, v15, v16, v17, v18, v19, v20, v21, v22, v23, v24, v25, v26, v27, v28, v29, v30, v31, v32, v33, v34, v35, v36, v37, v38, v39, v40, v41, v42, v43, v44, v45, v46, v47, v48, v49, v50, v51, v52, v53, v54, v55, v56, v57, v58, v59, v60, v61, v62, v63, v64, v65, v66, v67, v68] := by
  obtain ⟨l⟩ := T
  simp only [List.size_toArray] at h
  rcases l with _ | ⟨v0, l⟩
  · simp at h
  rcases l with _ | ⟨v1, l⟩
  · simp at h
  rcases l with _ | ⟨v2, l⟩
  · simp at h
  rcases l with _ | ⟨v3, l⟩
  · simp at h
  rcases l with _ | ⟨v4, l⟩
  · simp at h
  rcases l with _ | ⟨v5, l⟩
  · simp at h
  rcases l with _ | ⟨v6, l⟩
  · simp at h
  rcases l with _ | ⟨v7, l⟩
  · simp at h
  rcases l with _ | ⟨v8, l⟩
  · simp at h
  rcases l with _ | ⟨v9, l⟩
  · simp at h
  rcases l with _ | ⟨v10, l⟩
  · simp at h
  rcases l with _ | ⟨v11, l⟩
  · simp at h
  rcases l with _ | ⟨v12, l⟩
  · simp at h
  rcases l with _ | ⟨v13, l⟩
  · simp at h
  rcases l with _ | ⟨v14, l⟩
  · simp at h
  rcases l with _ | ⟨v15, l⟩
  · simp at h
  rcases l with _ | ⟨v16, l⟩
  · simp at h
  rcases l with _ | ⟨v17, l⟩
  · simp at h
  rcases l with _ | ⟨v18, l⟩
  · simp at h
  rcases l with _ | ⟨v19, l⟩
  · simp at h
  rcases l with _ | ⟨v20, l⟩
  · simp at h
  rcases l with _ | ⟨v21, l⟩
  · simp at h
  rcases l with _ | ⟨v22, l⟩
  · simp at h
  rcases l with _ | ⟨v23, l⟩
  · simp at h
  rcases l with _ | ⟨v24, l⟩
  · simp at h
  rcases l with _ | ⟨v25, l⟩
  · simp at h
  rcases l with _ | ⟨v26, l⟩
  · simp at h
  rcases l with _ | ⟨v27, l⟩
  · simp at h
  rcases l with _ | ⟨v28, l⟩
  · simp at h
  rcases l with _ | ⟨v29, l⟩
  · simp at h
  rcases l with _ | ⟨v30, l⟩
  · simp at h
  rcases l with _ | ⟨v31, l⟩
  · simp at h
  rcases l with _ | ⟨v32, l⟩
  · simp at h
  rcases l with _ | ⟨v33, l⟩
  · simp at h
  rcases l with _ | ⟨v34, l⟩
  · simp at h
  rcases l with _ | ⟨v35, l⟩
  · simp at h
  rcases l with _ | ⟨v36, l⟩
  · simp at h
  rcases l with _ | ⟨v37, l⟩
  · simp at h
  rcases l with _ | ⟨v38, l⟩
  · simp at h
  rcases l with _ | ⟨v39, l⟩
  · simp at h
  rcases l with _ | ⟨v40, l⟩
  · simp at h
  rcases l with _ | ⟨v41, l⟩
  · simp at h
  rcases l with _ | ⟨v42, l⟩
  · simp at h
  rcases l with _ | ⟨v43, l⟩
  · simp at h
  rcases l with _ | ⟨v44, l⟩
  · simp at h
  rcases l with _ | ⟨v45, l⟩
  · simp at h
  rcases l with _ | ⟨v46, l⟩
  · simp at h
  rcases l with _ | ⟨v47, l⟩
  · simp at h
  rcases l with _ | ⟨v48, l⟩
  · simp at h
  rcases l with _ | ⟨v49, l⟩
  · simp at h
  rcases l with _ | ⟨v50, l⟩
  · simp at h
  rcases l with _ | ⟨v51, l⟩
  · simp at h
  rcases l with _ | ⟨v52, l⟩
  · simp at h
  rcases l with _ | ⟨v53, l⟩
  · simp at h
  rcases l with _ | ⟨v54, l⟩
  · simp at h
  rcases l with _ | ⟨v55, l⟩
  · simp at h
  rcases l with _ | ⟨v56, l⟩
  · simp at h
  rcases l with _ | ⟨v57, l⟩
  · simp at h
  rcases l with _ | ⟨v58, l⟩
  · simp at h
  rcases l with _ | ⟨v59, l⟩
  · simp at h
  rcases l with _ | ⟨v60, l⟩
  · simp at h
  rcases l with _ | ⟨v61, l⟩
  · simp at h
  rcases l with _ | ⟨v62, l⟩
  · simp at h
  rcases l with _ | ⟨v63, l⟩
  · simp at h
  rcases l with _ | ⟨v64, l⟩
  · simp at h
  rcases l with _ | ⟨v65, l⟩
  · simp at h
  rcases l with _ | ⟨v66, l⟩
  · simp at h
  rcases l with _ | ⟨v67, l⟩
  · simp at h
  rcases l with _ | ⟨v68, l⟩
  · simp at h
  rcases l with _ | ⟨x, l⟩
  · exact ⟨v0, v1, v2, v3, v4, v5, v6, v7, v8, v9, v10, v11, v12, v13, v14, v15, v16, v17, v18, v19, v20, v21, v22, v23, v24, v25, v26, v27, v28, v29, v30, v31, v32, v33, v34, v35, v36, v37, v38, v39, v40, v41, v42, v43, v44, v45, v46, v47, v48, v49, v50, v51, v52, v53, v54, v55, v56, v57, v58, v59, v60, v61, v62, v63, v64, v65, v66, v67, v68, rfl⟩
  · simp at h
noncomputable def body3 : Code := Try.f3.body.getD .skip
theorem enter3 (rv : Value) : Frame.enter Try.prog 3 #[rv] .normal = (base 3).at ⟨#[rv, undef, undef, undef, undef, undef, undef, undef, undef, undef, undef, undef, undef, undef, undef, undef, undef, undef, undef, undef, undef, undef, undef, undef, undef, undef, undef, undef, undef, undef, undef, undef, undef, undef, undef, undef, undef, undef, undef, undef, undef, undef, undef, undef, undef, undef, undef, undef, undef, undef, undef, undef, undef, undef, undef, undef, undef, undef, undef, undef, undef, undef, undef, undef, undef, undef, undef, undef, undef], []⟩ [.code body3] := by
  simp [Frame.enter, Try.func3, Try.f3, Frame.at, base, body3]
theorem results3 (T : Array Value) (v : Value) (h : T[2]? = some v) (w : World) : (results Try.f3 T).runT Try.prog w #[] = (.ok v w, #[]) := by
  simp [results, Try.f3, h]
noncomputable def C8 : Code := match body3 with | .seq _ (.seq _ (.seq _ (.seq _ (.seq _ (.seq _ (.seq _ r)))))) => r | _ => .skip
noncomputable def C16 : Code := match C8 with | .seq _ (.seq _ (.seq _ (.seq _ (.seq _ r)))) => r | _ => .skip
noncomputable def C24 : Code := match C16 with | .seq _ (.seq _ (.seq _ (.seq _ (.seq _ (.seq _ r))))) => r | _ => .skip
/-- What the law comes to. -/
def PostL (wE : World) (v : Value) (w : World) : Prop := v = .bool true ∧ Up wE w
theorem last_ok {P : Program} {f : FuncId} {fn : Func} (hf : P.funcs[f]? = some fn) (hi : P.inits.idxOf? f = none) {t : Array Value} {todo : List Item} {w w' : World} {v : Value} {es : Array Event} (hr : (results fn t).runT P w #[] = (.ok v w', es)) :
    stepG P true (G { (base f).at ⟨t, []⟩ todo with mode := .returning } []) w = .ended (.done v) w' (seen P f es) := by
  have h1 : (results fn t).run P w = .ok v w' := by rw [← Sem.runT_fst P _ w #[], hr]
  have h2 : (results fn t).events P w #[] = es := by unfold Sem.events; rw [hr]
  simp [G, stepG, unwind, doReturn, Frame.at, base, hf, h1, h2, hi, GStep.after]
theorem last3 {wE w : World} {Shun : Go.Loc → Prop} {T : Array Value} {todo : List Item} (h : T[2]? = some (.bool true)) (hu : Up wE w) : J Try.prog (PostL wE) Shun (G { (base 3).at ⟨T, []⟩ todo with mode := .returning } []) w := by
  refine J.last fun w₁ h₁ => ?_
  obtain ⟨d, rfl⟩ := h₁
  exact ⟨rfl, _, _, last_ok Try.func3 (by kernel_rfl) (results3 _ _ h _), fun e he => by simp [seen] at he, rfl, ⟨hu.os, hu.tape, hu.output, hu.size, fun b hb => hu.block b hb⟩⟩
/-- The state of things. -/
structure LSt (wE : World) (Shun : Go.Loc → Prop) (SB S : Nat → Prop) (w : World) : Prop where
  up : Up wE w
  sbE : ∀ b, SB b → wE.heap.size ≤ b
  sb : ∀ l, Shun l → ∃ a : Addr, l = .cell a ∧ SB a.block
  jw : JW Try.prog SB S w
/-- A slice that the law has made. -/
structure Ow (S : Nat → Prop) (w : World) (lo hi : Nat) (v : Value) (n : Nat) (f : Nat → Nat → Value) : Prop where
  vr : VR (idS S) v v
  wr : Wr w lo hi 4 v n f
section
variable {wE w w' : World} {Shun Shun' : Go.Loc → Prop} {SB SB' S S' : Nat → Prop} {lo hi lo' hi' n : Nat} {v : Value} {f : Nat → Nat → Value}
theorem LSt.to (h : LSt wE Shun SB S w) (hu : Up w w') (hj : JW Try.prog SB S' w') : LSt wE Shun SB S' w' := ⟨h.up.trans hu, h.sbE, h.sb, hj⟩
theorem LSt.toN (h : LSt wE Shun SB S w) (hu : UpN SB w w') (hj : JW Try.prog SB S' w') : LSt wE Shun SB S' w' := ⟨up_upN h.up hu h.sbE, h.sbE, h.sb, hj⟩
theorem LSt.phase (h : LSt wE Shun SB S w) (hu : UpN SB w w') (h1 : ∀ l, Shun' l → ∃ a : Addr, l = .cell a ∧ SB' a.block) (h2 : ∀ b, SB' b → SB b ∨ w.heap.size ≤ b) (hj : JW Try.prog SB' S' w') : LSt wE Shun' SB' S' w' :=
  ⟨up_upN h.up hu h.sbE, fun b hb => (h2 b hb).elim (h.sbE b) fun k => Nat.le_trans h.up.size k, h1, hj⟩
theorem LSt.rows (h : LSt wE Shun SB S w) {A : Option Addr} {c : Nat} (hA : Sl wE 0 wE.heap.size 4 (.slice A n c) n f) : Sl w 0 w.heap.size 4 (.slice A n c) n f ∧ (0 < n → ∀ a, A = some a → ¬ SB a.block) := by
  refine ⟨(hA.up h.up).wide (Nat.le_refl _) h.up.size (Nat.le_refl _), fun hn a e hb => ?_⟩
  obtain ⟨_, _, _, e1, _, hx⟩ := hA
  cases e1
  obtain ⟨b, o, e2, _, hlt, _⟩ := hx hn
  rw [e2] at e
  cases e
  have := h.sbE _ hb
  simp only at this
  omega
theorem Ow.to (h : Ow S w lo hi v n f) (hs : ∀ b, S b → S' b) (hu : Up w w') : Ow S' w' lo hi v n f := ⟨vr_le h.vr hs, h.wr.up hu⟩
theorem Ow.toN (h : Ow S w lo hi v n f) (hj : JW Try.prog SB S w) (hs : ∀ b, S b → S' b) (hu : UpN SB w w') : Ow S' w' lo hi v n f := ⟨vr_le h.vr hs, wr_upN hj h.vr h.wr hu⟩
theorem Ow.off (h : Ow S w lo hi v n f) (hs : ∀ b, S b → S' b) (hc : Chg lo' hi' w w') (hd : hi ≤ lo' ∨ hi' ≤ lo) : Ow S' w' lo hi v n f := ⟨vr_le h.vr hs, h.wr.off hc hd⟩
theorem Ow.sl (h : Ow S w lo hi v n f) : Sl w lo hi 4 v n f := h.wr.sl
theorem Ow.rows {B : Nat} (hS : S B) (h : Wr w lo hi 4 (.slice (some ⟨B, 0, none⟩) n n) n f) : Ow S w lo hi (.slice (some ⟨B, 0, none⟩) n n) n f := ⟨.slice B B 0 none n n ⟨rfl, hS⟩, h⟩
theorem vr_int {ρ : BR} (x : Int) : VR ρ (.int .i64 x) (.int .i64 x) := .int _ _
end
theorem coL_len (R : Nat → Nat → Int) (n : Nat) : (coL R n).length ≤ 1048576 := by
  rw [coL]
  split
  · rename_i h
    rw [coOk, Bool.and_eq_true] at h
    have h1 := inB_true.1 h.1
    have h2 := ddp_len (ca R n n) []
    have h3 := ca_len R (n := n) (by omega) n
    have h4 : n * 400 ≤ 20 * 400 := Nat.mul_le_mul_right _ (by omega)
    simp only [List.length_nil] at h2
    omega
  · simp
end Go.Proofs.Ytbonjafjgiacpaa
