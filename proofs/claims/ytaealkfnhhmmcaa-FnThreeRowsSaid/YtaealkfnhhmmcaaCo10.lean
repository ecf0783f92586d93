/- CornersOf beside leavers: behind the join. No condition. -/
import Derived.Test.YtaealkfnhhmmcaaCo8
namespace Go.Proofs.Ytaealkfnhhmmcaa
open Sim Go.Conc Go.ConcN Go.RowKit Go.Conc.Lib Go.ConcR.Gen Go.ConcN.Gen
open Go.ConcR (KK wgBlock WgAt stA smA rd wr mk Payload DC0)
set_option linter.unusedVariables false
theorem wr_heap {w w' : World} {lo sz n : Nat} {v : Value} {f : Nat → Nat → Value} (e : w.heap = w'.heap) (h : Wr w lo w.heap.size sz v n f) : Wr w' lo w'.heap.size sz v n f := by
  obtain ⟨h0, A, c, rfl, hc, hx⟩ := h
  refine ⟨Nat.le_refl _, A, c, rfl, hc, fun h => ?_⟩
  obtain ⟨b, rfl, hlo, hlt, hcs, hfz⟩ := hx h
  exact ⟨b, rfl, hlo, by rw [← e]; exact hlt, fun i j hi hj => (cell_heap (by rw [e])).trans (hcs i j hi hj), fun o => by have := hfz o; simp only [World.frozen?] at this ⊢; rw [← e]; exact this⟩
theorem ad_of {ρ : BR} {F : Nat} {T : Array Value} (hF : ρ F F) (hT : T.size = 55) (t3 : T[3]? = some (.pointer (some ⟨F, 0, none⟩))) (al : alive T = U0) : AD (okF.dead 14) ρ (tmpT F) T := by
  obtain ⟨v0, v1, v2, v3, v4, v5, v6, v7, v8, v9, v10, v11, v12, v13, v14, v15, v16, v17, v18, v19, v20, v21, v22, v23, v24, v25, v26, v27, v28, v29, v30, v31, v32, v33, v34, v35, v36, v37, v38, v39, v40, v41, v42, v43, v44, v45, v46, v47, v48, v49, v50, v51, v52, v53, v54, rfl⟩ := array55 T hT
  simp only [alive, U0, List.getElem?_toArray, List.getElem?_cons_succ, List.getElem?_cons_zero, Option.some.injEq, List.cons.injEq, and_true] at t3 al
  subst t3
  obtain ⟨rfl, rfl, rfl, rfl, rfl, rfl, rfl, rfl, rfl, rfl, rfl, rfl, rfl, rfl, rfl, rfl, rfl, rfl, rfl, rfl, rfl, rfl, rfl, rfl, rfl, rfl, rfl⟩ := al
  refine ⟨rfl, fun i x y hd hx hy => ?_⟩
  have key : ∀ i : Nat, i < 55 → okF.dead 14 i = false → (tmpT F)[i]? = (#[v0, v1, .slice none 0 0, .pointer (some ⟨F, 0, none⟩), v4, v5, undef, v7, undef, v9, undef, v11, v12, v13, v14, v15, v16, v17, v18, v19, v20, v21, v22, v23, v24, v25, v26, v27, v28, v29, v30, v31, undef, undef, undef, undef, undef, undef, undef, undef, undef, undef, undef, undef, undef, undef, undef, undef, undef, undef, undef, undef, undef, undef, undef] : Array Value)[i]? ∧ ∀ x, (tmpT F)[i]? = some x → VR ρ x x := by
    intro i h55 hi
    have h2 : VR ρ (.slice none 0 0) (.slice none 0 0) := .slice0 0 0
    have h3 : VR ρ (.pointer (some ⟨F, 0, none⟩)) (.pointer (some ⟨F, 0, none⟩)) := .ptr F F 0 none hF
    have hu : VR ρ undef undef := (ar_undef ρ 1).2 0 _ _ rfl rfl
    match i, h55, hi with
    | 0, _, hi => exact absurd hi (by decide)
    | 1, _, hi => exact absurd hi (by decide)
    | 2, _, _ => exact ⟨rfl, fun x e => by cases e; exact h2⟩
    | 3, _, _ => exact ⟨rfl, fun x e => by cases e; exact h3⟩
    | 4, _, hi => exact absurd hi (by decide)
    | 5, _, hi => exact absurd hi (by decide)
    | 6, _, _ => exact ⟨rfl, fun x e => by cases e; exact hu⟩
    | 7, _, hi => exact absurd hi (by decide)
    | 8, _, _ => exact ⟨rfl, fun x e => by cases e; exact hu⟩
    | 9, _, hi => exact absurd hi (by decide)
    | 10, _, _ => exact ⟨rfl, fun x e => by cases e; exact hu⟩
    | 11, _, hi => exact absurd hi (by decide)
    | 12, _, hi => exact absurd hi (by decide)
    | 13, _, hi => exact absurd hi (by decide)
    | 14, _, hi => exact absurd hi (by decide)
    | 15, _, hi => exact absurd hi (by decide)
    | 16, _, hi => exact absurd hi (by decide)
    | 17, _, hi => exact absurd hi (by decide)
    | 18, _, hi => exact absurd hi (by decide)
    | 19, _, hi => exact absurd hi (by decide)
    | 20, _, hi => exact absurd hi (by decide)
    | 21, _, hi => exact absurd hi (by decide)
    | 22, _, hi => exact absurd hi (by decide)
    | 23, _, hi => exact absurd hi (by decide)
    | 24, _, hi => exact absurd hi (by decide)
    | 25, _, hi => exact absurd hi (by decide)
    | 26, _, hi => exact absurd hi (by decide)
    | 27, _, hi => exact absurd hi (by decide)
    | 28, _, hi => exact absurd hi (by decide)
    | 29, _, hi => exact absurd hi (by decide)
    | 30, _, hi => exact absurd hi (by decide)
    | 31, _, hi => exact absurd hi (by decide)
    | 32, _, _ => exact ⟨rfl, fun x e => by cases e; exact hu⟩
    | 33, _, _ => exact ⟨rfl, fun x e => by cases e; exact hu⟩
    | 34, _, _ => exact ⟨rfl, fun x e => by cases e; exact hu⟩
    | 35, _, _ => exact ⟨rfl, fun x e => by cases e; exact hu⟩
    | 36, _, _ => exact ⟨rfl, fun x e => by cases e; exact hu⟩
    | 37, _, _ => exact ⟨rfl, fun x e => by cases e; exact hu⟩
    | 38, _, _ => exact ⟨rfl, fun x e => by cases e; exact hu⟩
    | 39, _, _ => exact ⟨rfl, fun x e => by cases e; exact hu⟩
    | 40, _, _ => exact ⟨rfl, fun x e => by cases e; exact hu⟩
    | 41, _, _ => exact ⟨rfl, fun x e => by cases e; exact hu⟩
    | 42, _, _ => exact ⟨rfl, fun x e => by cases e; exact hu⟩
    | 43, _, _ => exact ⟨rfl, fun x e => by cases e; exact hu⟩
    | 44, _, _ => exact ⟨rfl, fun x e => by cases e; exact hu⟩
    | 45, _, _ => exact ⟨rfl, fun x e => by cases e; exact hu⟩
    | 46, _, _ => exact ⟨rfl, fun x e => by cases e; exact hu⟩
    | 47, _, _ => exact ⟨rfl, fun x e => by cases e; exact hu⟩
    | 48, _, _ => exact ⟨rfl, fun x e => by cases e; exact hu⟩
    | 49, _, _ => exact ⟨rfl, fun x e => by cases e; exact hu⟩
    | 50, _, _ => exact ⟨rfl, fun x e => by cases e; exact hu⟩
    | 51, _, _ => exact ⟨rfl, fun x e => by cases e; exact hu⟩
    | 52, _, _ => exact ⟨rfl, fun x e => by cases e; exact hu⟩
    | 53, _, _ => exact ⟨rfl, fun x e => by cases e; exact hu⟩
    | 54, _, _ => exact ⟨rfl, fun x e => by cases e; exact hu⟩
    | k + 55, h, _ => exact absurd h (by omega)
  have hi : i < 55 := (Array.getElem?_eq_some_iff.1 hx).1
  obtain ⟨k1, k2⟩ := key i hi hd
  rw [k1, hy] at hx
  cases hx
  exact k2 _ (k1.trans hy)
end Go.Proofs.Ytaealkfnhhmmcaa
