/- CornersOf: the loop that starts the workers, and Wait. No condition. -/
import Derived.Test.YtaealkfnhhmmcaaWk
import Derived.Conc.WgWords
namespace Go.Proofs.Ytaealkfnhhmmcaa
open Sim Go.Conc Go.ConcN Go.RowKit Go.Conc.Lib Go.ConcR.Gen Go.ConcN.Gen
open Go.ConcR (KK wgBlock WgAt stA smA rd wr mk Payload DC0)
set_option linter.unusedVariables false
theorem array55 (T : Array Value) (h : T.size = 55) : ∃ v0 v1 v2 v3 v4 v5 v6 v7 v8 v9 v10 v11 v12 v13 v14 v15 v16 v17 v18 v19 v20 v21 v22 v23 v24 v25 v26 v27 v28 v29 v30 v31 v32 v33 v34 v35 v36 v37 v38 v39 v40 v41 v42 v43 v44 v45 v46 v47 v48 v49 v50 v51 v52 v53 v54 : Value, T = #[v0, v1, v2, v3, v4, v5, v6, v7, v8, v9, v10, v11, v12, v13, v14, v15, v16, v17, v18, v19, v20, v21, v22, v23, v24, v25, v26, v27, v28, v29, v30, v31, v32, v33, v34, v35, v36, v37, v38, v39, v40, v41, v42, v43, v44, v45, v46, v47, v48, v49, v50, v51, v52, v53, v54] := by
  obtain ⟨l⟩ := T
  simp only [List.size_toArray] at h
  rcases l with _ | ⟨v0, l⟩
  · simp at h
  rcases l with _ | ⟨v1, l⟩
  · simp at h
  rcases l with _ | ⟨v2, l⟩
  · simp at h
  rcases l with _ | ⟨v3, l⟩
  · simp at h
  rcases l with _ | ⟨v4, l⟩
  · simp at h
  rcases l with _ | ⟨v5, l⟩
  · simp at h
  rcases l with _ | ⟨v6, l⟩
  · simp at h
  rcases l with _ | ⟨v7, l⟩
  · simp at h
  rcases l with _ | ⟨v8, l⟩
  · simp at h
  rcases l with _ | ⟨v9, l⟩
  · simp at h
  rcases l with _ | ⟨v10, l⟩
  · simp at h
  rcases l with _ | ⟨v11, l⟩
  · simp at h
  rcases l with _ | ⟨v12, l⟩
  · simp at h
  rcases l with _ | ⟨v13, l⟩
  · simp at h
  rcases l with _ | ⟨v14, l⟩
  · simp at h
  rcases l with _ | ⟨v15, l⟩
  · simp at h
  rcases l with _ | ⟨v16, l⟩
  · simp at h
  rcases l with _ | ⟨v17, l⟩
  · simp at h
  rcases l with _ | ⟨v18, l⟩
  · simp at h
  rcases l with _ | ⟨v19, l⟩
  · simp at h
  rcases l with _ | ⟨v20, l⟩
  · simp at h
  rcases l with _ | ⟨v21, l⟩
  · simp at h
  rcases l with _ | ⟨v22, l⟩
  · simp at h
  rcases l with _ | ⟨v23, l⟩
  · simp at h
  rcases l with _ | ⟨v24, l⟩
  · simp at h
  rcases l with _ | ⟨v25, l⟩
  · simp at h
  rcases l with _ | ⟨v26, l⟩
  · simp at h
  rcases l with _ | ⟨v27, l⟩
  · simp at h
  rcases l with _ | ⟨v28, l⟩
  · simp at h
  rcases l with _ | ⟨v29, l⟩
  · simp at h
  rcases l with _ | ⟨v30, l⟩
  · simp at h
  rcases l with _ | ⟨v31, l⟩
  · simp at h
  rcases l with _ | ⟨v32, l⟩
  · simp at h
  rcases l with _ | ⟨v33, l⟩
  · simp at h
  rcases l with _ | ⟨v34, l⟩
  · simp at h
  rcases l with _ | ⟨v35, l⟩
  · simp at h
  rcases l with _ | ⟨v36, l⟩
  · simp at h
  rcases l with _ | ⟨v37, l⟩
  · simp at h
  rcases l with _ | ⟨v38, l⟩
  · simp at h
  rcases l with _ | ⟨v39, l⟩
  · simp at h
  rcases l with _ | ⟨v40, l⟩
  · simp at h
  rcases l with _ | ⟨v41, l⟩
  · simp at h
  rcases l with _ | ⟨v42, l⟩
  · simp at h
  rcases l with _ | ⟨v43, l⟩
  · simp at h
  rcases l with _ | ⟨v44, l⟩
  · simp at h
  rcases l with _ | ⟨v45, l⟩
  · simp at h
  rcases l with _ | ⟨v46, l⟩
  · simp at h
  rcases l with _ | ⟨v47, l⟩
  · simp at h
  rcases l with _ | ⟨v48, l⟩
  · simp at h
  rcases l with _ | ⟨v49, l⟩
  · simp at h
  rcases l with _ | ⟨v50, l⟩
  · simp at h
  rcases l with _ | ⟨v51, l⟩
  · simp at h
  rcases l with _ | ⟨v52, l⟩
  · simp at h
  rcases l with _ | ⟨v53, l⟩
  · simp at h
  rcases l with _ | ⟨v54, l⟩
  · simp at h
  rcases l with _ | ⟨x, l⟩
  · exact ⟨v0, v1, v2, v3, v4, v5, v6, v7, v8, v9, v10, v11, v12, v13, v14, v15, v16, v17, v18, v19, v20, v21, v22, v23, v24, v25, v26, v27, v28, v29, v30, v31, v32, v33, v34, v35, v36, v37, v38, v39, v40, v41, v42, v43, v44, v45, v46, v47, v48, v49, v50, v51, v52, v53, v54, rfl⟩
  · simp at h
noncomputable def body7 : Code := Try.f14.body.getD .skip
noncomputable def L7c : Code := match body7 with | .seq _ (.seq _ (.seq _ (.seq _ (.seq (.seq _ (.block _ (.loop c))) _)))) => c | _ => .skip
noncomputable def R11 : Code := match body7 with | .seq _ (.seq _ (.seq _ (.seq _ (.seq _ r)))) => r | _ => .skip
noncomputable def ops11 : Array Oper := match R11 with | .seq (.region _ ops _) _ => ops | _ => #[]
noncomputable def R12 : Code := match R11 with | .seq _ r => r | _ => .skip
/-- The slots that the code behind the join names, but the third. -/
def alive (T : Array Value) : List (Option Value) := [T[2]?, T[6]?, T[8]?, T[10]?, T[32]?, T[33]?, T[34]?, T[35]?, T[36]?, T[37]?, T[38]?, T[39]?, T[40]?, T[41]?, T[42]?, T[43]?, T[44]?, T[45]?, T[46]?, T[47]?, T[48]?, T[49]?, T[50]?, T[51]?, T[52]?, T[53]?, T[54]?]
section
variable {U : List (Option Value)} {Wg C Br F A n : Nat} {rv : Value} {wA : World} {K0 : Nat → Prop} {c1 : Frame} {cs1 : List Frame} {Res : Nat → Value → (Nat → Prop) → World → Prop}
/-- Behind Wait. -/
def ContF (U : List (Option Value)) (F : Nat) (wA : World) (K0 : Nat → Prop) (c1 : Frame) (cs1 : List Frame) (K : Nat → Prop) (g : Goroutine) (w : World) : Prop :=
  ∃ T : Array Value, g = G ((base 14).at ⟨T, []⟩ (.inRegion ops11 [] :: [.code R12])) (c1 :: cs1) ∧ T.size = 55 ∧ T[3]? = some (.pointer (some ⟨F, 0, none⟩)) ∧ alive T = U ∧ Kn K0 wA w
/-- The next stop, r workers being still to be started. -/
def StopS (U : List (Option Value)) (Wg C n F : Nat) (wA : World) (K0 : Nat → Prop) (c1 : Frame) (cs1 : List Frame) (Res : Nat → Value → (Nat → Prop) → World → Prop) (Lf : Nat) : Nat → (Nat → Prop) → Goroutine → World → Prop
  | 0 => fun K g w => WgLive link.tWg Wg w → ∃ m, Goes Try.prog true (RS link.tWg Wg K) DC0 (XKd Try.prog link.tWg Wg (AnchX link Wg (ContF U F wA K0 c1 cs1)) K) m g w
  | r + 1 => fun K g w => WgLive link.tWg Wg w → ∃ m, Goes Try.prog true (RS link.tWg Wg K) DC0 (SKd Try.prog link.tWg Wg C n Res K (n - (r + 1)) Lf (Starts Try.prog link.tWg Wg C n Res (QX Try.prog (ContF U F wA K0 c1 cs1)) (AnchX link Wg (ContF U F wA K0 c1 cs1)) r)) m g w
theorem starts_of {r Lf : Nat} {K : Nat → Prop} {g : Goroutine} {w : World} {m : Nat} (h : Co Try.prog true (fun b => b < Lf) (StopS U Wg C n F wA K0 c1 cs1 Res Lf r) m K g w) :
    Starts Try.prog link.tWg Wg C n Res (QX Try.prog (ContF U F wA K0 c1 cs1)) (AnchX link Wg (ContF U F wA K0 c1 cs1)) r Lf K g w := by
  cases r with
  | zero => exact ⟨m, h⟩
  | succ r => exact ⟨m, h⟩
/-- The head of the loop. -/
structure Head (U : List (Option Value)) (Wg Br F n j : Nat) (T : Array Value) : Prop where
  sz : T.size = 55
  t1 : T[1]? = some (.pointer (some ⟨Br, 0, none⟩))
  t3 : T[3]? = some (.pointer (some ⟨F, 0, none⟩))
  t4 : T[4]? = some (.pointer (some ⟨Wg, 0, none⟩))
  t24 : T[24]? = some (.int .i64 n)
  t25 : T[25]? = some (.int .i64 j)
  al : alive T = U
theorem kn_in {K : Nat → Prop} (hK : ∀ b, K0 b → K b) {w w₁ : World} (h : Kn K0 wA w) (r : Kn K w w₁) : Kn K0 wA w₁ := h.trans (r.sub hK)
set_option maxRecDepth 100000 in
set_option maxHeartbeats 4000000 in
theorem head0 {T : Array Value} (hT : Head U Wg Br F n n T) {K : Nat → Prop} {Lf : Nat} {w : World} (hK : ∀ b, K0 b → K b) (hKW : ¬ K Wg) (hw : Kn K0 wA w) :
    Co Try.prog true (fun b => b < Lf) (StopS U Wg C n F wA K0 c1 cs1 Res Lf 0) (0 + 20) K (G ((base 14).at ⟨T, []⟩ [.code L7c, .inLoop L7c, .inBlock 0, .code R11]) (c1 :: cs1)) w := by
  obtain ⟨hsz, t1, t3, t4, t24, t25, al⟩ := hT
  obtain ⟨v0, v1, v2, v3, v4, v5, v6, v7, v8, v9, v10, v11, v12, v13, v14, v15, v16, v17, v18, v19, v20, v21, v22, v23, v24, v25, v26, v27, v28, v29, v30, v31, v32, v33, v34, v35, v36, v37, v38, v39, v40, v41, v42, v43, v44, v45, v46, v47, v48, v49, v50, v51, v52, v53, v54, rfl⟩ := array55 T hsz
  simp only [List.getElem?_toArray, List.getElem?_cons_succ, List.getElem?_cons_zero, Option.some.injEq] at t1 t3 t4 t24 t25
  subst t1 t3 t4 t24 t25
  clear hsz
  have hnl : ¬ ((n : Int) < (n : Int)) := by omega
  have hA := fun (a₀ : Act) (ops₀ : Array Oper) (i₀ : Nat) (rest₀ : List Nat) (k₀ : List Item) => waitStartX (L := link) (P := Try.prog) (Wg := Wg) (Cont := ContF U F wA K0 c1 cs1) (b₀ := base 14) (a₀ := a₀) (ops₀ := ops₀) (i₀ := i₀) (rest₀ := rest₀) (k₀ := k₀) (cs := c1 :: cs1) wgLib K
  simp only [StopS, L7c, R11, body7, body_wait, Try.f14, waitFn, Option.getD_some] at hA ⊢
  refine co_quiet ?_
  u_c stepG_seq (kn_in hK) hw
  u_reg (kn_in hK) hw
  u_op (kn_in hK) hw
  u_c stepG_region_end (kn_in hK) hw
  u_c stepG_seq (kn_in hK) hw
  u_cond false (kn_in hK) hw
  u_exit (kn_in hK) hw
  u_c stepG_seq (kn_in hK) hw
  u_reg (kn_in hK) hw
  refine Goes.stop fun w₁ h₁ => ?_
  replace hw := kn_in hK hw h₁
  clear h₁
  refine Co.stop fun w₂ h₂ hl => ⟨4, ?_⟩
  replace hw := kn_in hK hw h₂
  clear h₂
  refine Goes.step rfl fun w₃ h₃ => ?_
  replace hl := h₃.live hl
  replace hw := kn_in hK hw h₃.kn
  clear h₃
  refine goes_call rfl rfl (by decide) rfl Try.func34 (nm_wait link) rfl ⟨by u_nil, ?_⟩
  walk_nrmf Try.f34
  refine hA _ _ _ _ _ w₃ (fun w' hk => ?_) hl hKW
  exact ⟨_, rfl, by simp, by simp, al, kn_in hK hw hk⟩
theorem cell_one {w : World} (v : Value) (t : TypeId) : (w.alloc (.cells #[v] t)).cell? ⟨w.heap.size, 0, none⟩ = some v := by
  have hb := heap_alloc_new w (.cells #[v] t)
  simp only [World.cell?, hb]
  simp
theorem frozen_one {w : World} (v : Value) (t : TypeId) : (w.alloc (.cells #[v] t)).frozen? ⟨w.heap.size, 0, none⟩ = false := by
  have hb := heap_alloc_new w (.cells #[v] t)
  simp only [World.frozen?, hb]
  simp
theorem events_store_in (P : Program) (w : World) (es : Array Event) (a : Addr) (m : Go.Mode) (k : IntKind) (x : Int) : (store a (.int k x) m).events P w es = storedEv P w es a (.int k x) m := events_store P w es a _ m rfl
theorem kn_alloc (K : Nat → Prop) (hK : ∀ b, K b → b < wA.heap.size) {w : World} (h : Kn K wA w) (o : Obj) : Kn K wA (w.alloc o) :=
  ⟨fun b hb => (Below.heap_alloc w o _ (Nat.lt_of_lt_of_le (hK b hb) h.size)).trans (h.keep b hb), Nat.le_trans h.size (by simp), h.env.trans ⟨rfl, rfl, rfl⟩⟩
theorem kn_set (K : Nat → Prop) {w : World} (h : Kn K wA w) (a : Addr) (v : Value) (ha : ¬ K a.block) : Kn K wA (w.setCell a v) :=
  ⟨fun b hb => ((aside_setCell w a v).block b fun e => ha (e ▸ hb)).trans (h.keep b hb), by rw [(aside_setCell w a v).size]; exact h.size, h.env.trans ⟨(aside_setCell w a v).tape, (aside_setCell w a v).os, (aside_setCell w a v).output⟩⟩
set_option maxRecDepth 100000 in
set_option maxHeartbeats 8000000 in
theorem headS {r j : Nat} (hj : j + (r + 1) = n) (hn : n < 1000) (hBr : K0 Br) (hF : K0 F) (hA0 : K0 A) (hWg : ¬ K0 Wg) (hk0 : ∀ b, K0 b → b < wA.heap.size)
    (hW : ∀ (w : World) (j Bi : Nat), Kn K0 wA w → j < n → w.cell? ⟨Bi, 0, none⟩ = some (.int .i64 j) → Bi < w.heap.size →
      ∃ m, Co Try.prog false (fun b => b < w.heap.size) (AtStore Try.prog link.tWg Wg C n Res j) m (fun b => b = Br ∨ b = Bi ∨ b = F ∨ b = A) (born Try.prog (call22 Wg Br Bi F)) w)
    (ih : ∀ {T : Array Value} {K : Nat → Prop} {Lf : Nat} {w : World}, Head U Wg Br F n (j + 1) T → (∀ b, K0 b → K b) → (¬ K Wg) → Kn K0 wA w → Lf ≤ w.heap.size →
      Co Try.prog true (fun b => b < Lf) (StopS U Wg C n F wA K0 c1 cs1 Res Lf r) 60 K (G ((base 14).at ⟨T, []⟩ [.code L7c, .inLoop L7c, .inBlock 0, .code R11]) (c1 :: cs1)) w)
    {T : Array Value} (hT : Head U Wg Br F n j T) {K : Nat → Prop} {Lf : Nat} {w : World} (hK : ∀ b, K0 b → K b) (hKW : ¬ K Wg) (hWl : Wg < wA.heap.size) (hw : Kn K0 wA w) (hLf : Lf ≤ w.heap.size) :
    Co Try.prog true (fun b => b < Lf) (StopS U Wg C n F wA K0 c1 cs1 Res Lf (r + 1)) (0 + 12 + 1 + 1 + 20) K (G ((base 14).at ⟨T, []⟩ [.code L7c, .inLoop L7c, .inBlock 0, .code R11]) (c1 :: cs1)) w := by
  obtain ⟨hsz, t1, t3, t4, t24, t25, al⟩ := hT
  obtain ⟨v0, v1, v2, v3, v4, v5, v6, v7, v8, v9, v10, v11, v12, v13, v14, v15, v16, v17, v18, v19, v20, v21, v22, v23, v24, v25, v26, v27, v28, v29, v30, v31, v32, v33, v34, v35, v36, v37, v38, v39, v40, v41, v42, v43, v44, v45, v46, v47, v48, v49, v50, v51, v52, v53, v54, rfl⟩ := array55 T hsz
  simp only [List.getElem?_toArray, List.getElem?_cons_succ, List.getElem?_cons_zero, Option.some.injEq] at t1 t3 t4 t24 t25
  subst t1 t3 t4 t24 t25
  clear hsz
  have ej : n - (r + 1) = j := by omega
  have hlt : (j : Int) < (n : Int) := by omega
  have hj0 : (0 : Int) ≤ (j : Int) := by omega
  simp only [StopS, ej]
  have hL7 := hW
  have ih' := @ih
  simp only [L7c, R11, body7, Try.f14, Option.getD_some] at ih' ⊢
  refine co_quiet ?_
  have hf := And.intro hw hLf
  have rl : ∀ {a b : World}, (Kn K0 wA a ∧ Lf ≤ a.heap.size) → Kn K a b → (Kn K0 wA b ∧ Lf ≤ b.heap.size) := fun h k => ⟨kn_in hK h.1 k, Nat.le_trans h.2 k.size⟩
  clear hw hLf
  u_c stepG_seq rl hf
  u_reg rl hf
  u_op rl hf
  u_c stepG_region_end rl hf
  u_c stepG_seq rl hf
  u_cond true rl hf
  u_c stepG_skip rl hf
  u_c stepG_seq rl hf
  u_c stepG_block rl hf
  u_c stepG_seq rl hf
  u_reg rl hf
  u_op rl hf
  refine Goes.stop fun w₁ h₁ => ?_
  replace hf := rl hf h₁
  clear h₁
  -- this round's i is made
  refine co_oper_k rfl rfl (by decide) fun w₂ h₂ K' hK' => ?_
  replace hf := rl hf h₂
  clear h₂
  go_simp
  have hnew : ∀ b, b < w₂.heap.size → (w₂.alloc (.cells #[.int .i64 0] 3)).heap[b]? = w₂.heap[b]? := fun b hb => Below.heap_alloc _ _ _ hb
  refine hK' _ _ ⟨by simp, fun c hc _ => hnew c hc, rfl, rfl, rfl, fun e he => ?_⟩ ?_
  · have hm := mem_listed he
    simp [go_sem, *] at hm
  clear hK' K'
  obtain ⟨Bi, hBi⟩ : ∃ Bi, w₂.heap.size = Bi := ⟨_, rfl⟩
  obtain ⟨wX, hX⟩ : ∃ wX, w₂.alloc (.cells #[.int .i64 0] 3) = wX := ⟨_, rfl⟩
  obtain ⟨KX, hKX⟩ : ∃ KX, grow K w₂ wX = KX := ⟨_, rfl⟩
  have hcX : wX.cell? ⟨Bi, 0, none⟩ = some (.int .i64 0) := by rw [← hX, ← hBi]; exact cell_one _ _
  have hzX : wX.frozen? ⟨Bi, 0, none⟩ = false := by rw [← hX, ← hBi]; exact frozen_one _ _
  have hBl : Bi < wX.heap.size := by rw [← hX, ← hBi]; simp
  have hKB : KX Bi := by rw [← hKX]; exact .inr ⟨by omega, hBl⟩
  have hKs : ∀ b, K b → KX b := fun b hb => by rw [← hKX]; exact .inl hb
  have hLB : Lf ≤ Bi := by rw [← hBi]; exact hf.2
  have hB0 : ¬ K0 Bi := fun h => by have := hk0 _ h; have := hf.1.size; omega
  have hKWX : ¬ KX Wg := by
    rw [← hKX]
    rintro (h | ⟨h, _⟩)
    · exact hKW h
    · have := hf.1.size; omega
  have hwX : Kn K0 wA wX := by rw [← hX]; exact kn_alloc K0 hk0 hf.1 _
  rw [hX]
  simp only [hBi, hKX]
  clear hX hKX hnew hf rl
  -- .. and written
  refine co_oper_k rfl rfl (by decide) fun w₃ h₃ K' hK' => ?_
  have hc3 := kn_cells ⟨h₃.keep, h₃.size⟩ hKB hcX
  have hz3 : w₃.frozen? ⟨Bi, 0, none⟩ = false := by
    have := h₃.keep Bi hKB
    rw [← hzX]; simp [World.frozen?, this]
  go_simp
  try (unfold stored; go_simp)
  refine hK' _ _ ⟨by rw [(aside_setCell w₃ ⟨Bi, 0, none⟩ (.int .i64 j)).size]; exact Nat.le_refl _, fun c hc hd => (aside_setCell w₃ ⟨Bi, 0, none⟩ (.int .i64 j)).block c (fun e => ?_), rfl, rfl, rfl, fun e he => ?_⟩ ?_
  · rcases hd with h | h
    · exact absurd h (by rw [e]; show ¬ Bi < Lf; omega)
    · exact h (by rw [e]; exact hKB)
  · have hm := mem_listed he
    simp [go_sem, events_store_in, storedEv, *] at hm
    subst hm
    refine .inl ⟨_, _, rfl, ?_, fun _ => by show ¬ Bi < Lf; omega⟩
    exact .inl hKB
  clear hK' K' hcX hzX
  rw [grow_size KX (aside_setCell w₃ ⟨Bi, 0, none⟩ (.int .i64 j)).size]
  have hwS : Kn K0 wA (w₃.setCell ⟨Bi, 0, none⟩ (.int .i64 j)) := kn_set K0 (hwX.trans (h₃.sub fun b hb => hKs b (hK b hb))) _ _ hB0
  have hcS : (w₃.setCell ⟨Bi, 0, none⟩ (.int .i64 j)).cell? ⟨Bi, 0, none⟩ = some (.int .i64 j) := World.cell?_setCell_same _ _ _ hc3
  have hBS : Bi < (w₃.setCell ⟨Bi, 0, none⟩ (.int .i64 j)).heap.size := by rw [(aside_setCell w₃ ⟨Bi, 0, none⟩ (.int .i64 j)).size]; exact Nat.lt_of_lt_of_le hBl h₃.size
  generalize w₃.setCell ⟨Bi, 0, none⟩ (.int .i64 j) = wS at hwS hcS hBS ⊢
  clear hc3 hz3 h₃ hBl hwX
  have hA := fun (b₀ : Frame) (a₀ : Act) (ops₀ : Array Oper) (i₀ : Nat) (rest₀ : List Nat) (k₀ : List Item) (cs : List Frame) (mT : Nat) => addPosX (L := link) (P := Try.prog) (Wg := Wg) (C := C) (n := n) (Res := Res) (j := j) (Lf := Lf) (K := KX) (Next := Starts Try.prog link.tWg Wg C n Res (QX Try.prog (ContF U F wA K0 c1 cs1)) (AnchX link Wg (ContF U F wA K0 c1 cs1)) r) (F := Kn KX wS) (b₀ := b₀) (a₀ := a₀) (ops₀ := ops₀) (i₀ := i₀) (rest₀ := rest₀) (k₀ := k₀) (cs := cs) (mT := mT) wgLib (fun _ _ h1 h2 => h2.trans h1) hKWX
  simp only [body_add, addFn, Option.getD_some] at hA
  refine co_quiet (m := 0) (n := 12) ?_
  have hf := Kn.refl KX wS
  u_c stepG_region_end Kn.trans hf
  u_c stepG_seq Kn.trans hf
  u_reg Kn.trans hf
  refine Goes.stop fun w₄ h₄ => ?_
  replace hf := hf.trans h₄
  clear h₄
  refine Co.stop fun w₅ h₅ hl => ⟨13, ?_⟩
  replace hf := hf.trans h₅
  clear h₅
  refine Goes.step rfl fun w₆ h₆ => ?_
  replace hf := hf.trans h₆.kn
  replace hl := h₆.live hl
  clear h₆
  refine goes_call rfl rfl (by decide) rfl Try.func30 (nm_add link) rfl ⟨by u_nil, ?_⟩
  walk_nrmf Try.f30
  refine hA _ _ _ _ _ _ _ (0 + 4) ?_ _ ⟨hf, hl⟩
  clear hA hf hl
  intro w₇ h₇
  walk_nrm
  refine co_quiet (m := 0) (n := 4) ?_
  have hf := h₇
  clear h₇
  u_c stepG_region_end Kn.trans hf
  u_reg Kn.trans hf
  u_op Kn.trans hf
  -- the go statement
  refine Goes.stop fun w₈ h₈ => ?_
  replace hf := hf.trans h₈
  clear h₈
  refine Co.stop fun w₉ h₉ => ?_
  replace hf := hf.trans h₉
  clear h₉
  refine ⟨rfl, ?_⟩
  rw [stepG_spawn (d := call22 Wg Br Bi F) (w' := w₉) (f := .func 31) (c := #[.pointer (some ⟨Wg, 0, none⟩), .pointer (some ⟨Br, 0, none⟩), .pointer (some ⟨Bi, 0, none⟩), .pointer (some ⟨F, 0, none⟩)]) rfl rfl (by decide) (by simp [go_sem, call22, Deferred.ofValue]) rfl]
  generalize hL : listed _ _ _ _ _ = Lx
  have hLx : Lx = #[] := by
    rw [← hL]
    simp [listed, go_sem, seen, Deferred.ofValue]
    rfl
  subst hLx
  clear hL
  have hw9 : Kn K0 wA w₉ := hwS.trans (hf.sub fun b hb => hKs b (hK b hb))
  have hc9 := kn_cells ⟨hf.keep, hf.size⟩ hKB hcS
  have hB9 := Nat.lt_of_lt_of_le hBS hf.size
  obtain ⟨mw, hwk⟩ := hW w₉ j Bi hw9 (by omega) hc9 hB9
  refine ⟨_, _, rfl, rfl, ⟨_, mw, fun b hb => ?_, hwk⟩, ?_⟩
  · rcases hb with rfl | rfl | rfl | rfl
    · exact ⟨hKs _ (hK _ hBr), Nat.lt_of_lt_of_le (hk0 _ hBr) hw9.size⟩
    · exact ⟨hKB, hB9⟩
    · exact ⟨hKs _ (hK _ hF), Nat.lt_of_lt_of_le (hk0 _ hF) hw9.size⟩
    · exact ⟨hKs _ (hK _ hA0), Nat.lt_of_lt_of_le (hk0 _ hA0) hw9.size⟩
  -- on to the loop's head
  refine starts_of (m := 60 + 8) (co_quiet (m := 60) (n := 8) ?_)
  have hg := And.intro hw9 (Nat.le_refl w₉.heap.size)
  have rl : ∀ {a b : World}, (Kn K0 wA a ∧ w₉.heap.size ≤ a.heap.size) → Kn KX a b → (Kn K0 wA b ∧ w₉.heap.size ≤ b.heap.size) := fun h k => ⟨kn_in (fun b hb => hKs b (hK b hb)) h.1 k, Nat.le_trans h.2 k.size⟩
  have hwr : IntKind.i64.wrap ((j : Int) + 1) = ((j + 1 : Nat) : Int) := by rw [IntKind.wrap_i64]; omega
  clear hf hw9 hc9 hB9 hwk
  walk_nrm
  u_c stepG_region_end rl hg
  u_c stepG_inBlock rl hg
  u_reg rl hg
  u_op rl hg
  u_op rl hg
  u_c stepG_region_end rl hg
  u_c stepG_inLoop rl hg
  refine Goes.stop fun w₁ h₁ => ?_
  exact ih' ⟨by simp, by simp, by simp, by simp, by simp, by simp, al⟩ (fun b hb => hKs b (hK b hb)) hKWX (rl hg h₁).1 (rl hg h₁).2
theorem spawns (hn : n < 1000) (hBr : K0 Br) (hF : K0 F) (hA0 : K0 A) (hWg : ¬ K0 Wg) (hk0 : ∀ b, K0 b → b < wA.heap.size) (hWl : Wg < wA.heap.size)
    (hW : ∀ (w : World) (j Bi : Nat), Kn K0 wA w → j < n → w.cell? ⟨Bi, 0, none⟩ = some (.int .i64 j) → Bi < w.heap.size →
      ∃ m, Co Try.prog false (fun b => b < w.heap.size) (AtStore Try.prog link.tWg Wg C n Res j) m (fun b => b = Br ∨ b = Bi ∨ b = F ∨ b = A) (born Try.prog (call22 Wg Br Bi F)) w) :
    ∀ (r j : Nat), j + r = n → ∀ {T : Array Value} {K : Nat → Prop} {Lf : Nat} {w : World}, Head U Wg Br F n j T → (∀ b, K0 b → K b) → (¬ K Wg) → Kn K0 wA w → Lf ≤ w.heap.size →
      Co Try.prog true (fun b => b < Lf) (StopS U Wg C n F wA K0 c1 cs1 Res Lf r) 60 K (G ((base 14).at ⟨T, []⟩ [.code L7c, .inLoop L7c, .inBlock 0, .code R11]) (c1 :: cs1)) w := by
  intro r
  induction r with
  | zero =>
    intro j hj T K Lf w hT hK hKW hw hLf
    obtain rfl : j = n := by omega
    exact (head0 hT hK hKW hw).more (by omega)
  | succ r ih =>
    intro j hj T K Lf w hT hK hKW hw hLf
    exact (headS (r := r) hj hn hBr hF hA0 hWg hk0 hW (fun h1 h2 h3 h4 h5 => ih (j + 1) (by omega) h1 h2 h3 h4 h5) hT hK hKW hWl hw hLf).more (by omega)
theorem goes_mn {P : Program} {main : Bool} {R : World → World → Prop} {D : World → World → Array Event → Prop} {S S' : Goroutine → World → Prop} (h : ∀ g w, S g w → S' g w) : ∀ {n : Nat} {g : Goroutine} {w : World}, Goes P main R D S n g w → Goes P main R D S' n g w
  | 0, _, _, hg => fun w₁ r => h _ _ (hg w₁ r)
  | n + 1, g, w, hg => by
    rcases hg with hs | ⟨hr, hst⟩
    · exact .inl fun w₁ r => h _ _ (hs w₁ r)
    · refine .inr ⟨hr, fun w₁ r => ?_⟩
      obtain ⟨g', w', es, e, hd, hn⟩ := goes_elim (hst w₁ r)
      rw [e, goes_go]
      exact ⟨hd, goes_mn h hn⟩
/-- THE PHASE. -/
theorem phase7 {Shun : Go.Loc → Prop} {SB : Nat → Prop} {Post : Value → World → Prop} (hR : ∀ i v K w w', Kn K w w' → Res i v K w → Res i v K w') (hSB : ∀ l, Shun l → ∃ a : Addr, l = .cell a ∧ SB a.block) (hWS : ∀ l, ShN Wg l → Shun l) (hWgS : SB Wg) (hC : ¬ SB C)
    (hn : n < 1000) (hBr : K0 Br) (hF : K0 F) (hA0 : K0 A) (hk0 : ∀ b, K0 b → b < wA.heap.size) (hksb : ∀ b, K0 b → ¬ SB b) (hkc : ¬ K0 C) (hsb : ∀ b, SB b → b < wA.heap.size)
    (hW : ∀ (w : World) (j Bi : Nat), Kn K0 wA w → j < n → w.cell? ⟨Bi, 0, none⟩ = some (.int .i64 j) → Bi < w.heap.size →
      ∃ m, Co Try.prog false (fun b => b < w.heap.size) (AtStore Try.prog link.tWg Wg C n Res j) m (fun b => b = Br ∨ b = Bi ∨ b = F ∨ b = A) (born Try.prog (call22 Wg Br Bi F)) w)
    (hwg : WgAt link.tWg Wg wA 0 0) (hpay : PayAt C n wA) {T : Array Value} (hT : Head U Wg Br F n 0 T)
    (hnext : ∀ (T : Array Value) (w' : World) (E : Nat → WX) (K0' : Nat → Prop) (Lf' : Nat), T.size = 55 → T[3]? = some (.pointer (some ⟨F, 0, none⟩)) → alive T = U → Kn K0 wA w' → PayAt C n w' → (∀ i, i < n → Has C i (E i).v w' ∧ Res i (E i).v (E i).K w') → Geo C n SB K0' Lf' E w' →
      J Try.prog Post Shun (G ((base 14).at ⟨T, []⟩ (.inRegion ops11 [] :: [.code R12])) (c1 :: cs1)) w') :
    J Try.prog Post Shun (G ((base 14).at ⟨T, []⟩ [.code L7c, .inLoop L7c, .inBlock 0, .code R11]) (c1 :: cs1)) wA := by
  have H : Hyp Try.prog link.tWg Wg C n Res (QX Try.prog (ContF U F wA K0 c1 cs1)) (AnchX link Wg (ContF U F wA K0 c1 cs1)) Shun SB :=
    ⟨hR, fun K g w ⟨_, _, _, _, _, _, _, _, e, _⟩ => by rw [e]; rfl, fun K g w h => waitRoundX wgLib K g w h, hSB, hWS, hWgS, hC, by omega⟩
  have hKW : ¬ K0 Wg := fun h => hksb _ h hWgS
  refine J.phase H (K0 := K0) (Lf := wA.heap.size) (starts_of (spawns hn hBr hF hA0 hKW hk0 (hsb _ hWgS) hW n 0 (by omega) hT (fun b hb => hb) hKW (.refl K0 wA) (Nat.le_refl _))) hwg hpay (Nat.le_refl _) hk0 hksb hkc hsb fun a' w' E K0' Lf' hq hp hv hg => ?_
  obtain ⟨g0, ⟨T', rfl, h1, h2, h4, h3⟩, m, hgo⟩ := hq
  have hj := hnext T' w' E K0' Lf' h1 h2 h4 h3 hp hv hg
  exact J.quiet (goes_mn (fun g w ⟨e, hr⟩ => by rw [e]; exact hj.at hr) hgo)
end
end Go.Proofs.Ytaealkfnhhmmcaa
