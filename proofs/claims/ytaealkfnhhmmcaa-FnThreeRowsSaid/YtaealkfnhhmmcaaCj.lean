/- Calls of pure code beside leavers, told by what they leave. No condition. -/
import Derived.Test.YtaealkfnhhmmcaaCo12
namespace Go.Proofs.Ytaealkfnhhmmcaa
open Sim Go.Conc Go.ConcN Go.RowKit Go.Conc.Lib Go.ConcR.Gen Go.ConcN.Gen
open Go.ConcR (KK wgBlock WgAt stA smA rd wr mk Payload DC0)
set_option linter.unusedVariables false
theorem up_heap {w w' : World} (hh : ∀ b, b < w.heap.size → w'.heap[b]? = w.heap[b]?) (hs : w.heap.size ≤ w'.heap.size) (he : Env w w') : Up w w' := ⟨he.2.1, he.1, he.2.2, hs, hh⟩
theorem up_wt {w w' : World} (h : Up w w') (T : Tp) : Up (wt w T) (wt w' T) := ⟨h.os, rfl, h.output, h.size, fun b hb => h.block b hb⟩
/-- Behind a stretch beside leavers, seen from the law's start. -/
theorem up_upN {SB : Nat → Prop} {wE w w' : World} (hE : Up wE w) (h : UpN SB w w') (hs : ∀ b, SB b → wE.heap.size ≤ b) : Up wE w' :=
  ⟨h.env.2.1.trans hE.os, h.env.1.trans hE.tape, h.env.2.2.trans hE.output, Nat.le_trans hE.size h.size, fun b hb => (h.keep b (Nat.lt_of_lt_of_le hb hE.size) fun k => by have := hs b k; omega).trans (hE.block b hb)⟩
theorem wr_heap' {w w' : World} {lo hi sz n : Nat} {v : Value} {f : Nat → Nat → Value} (e : w.heap = w'.heap) (h : Wr w lo hi sz v n f) : Wr w' lo hi sz v n f := by
  obtain ⟨h0, A, c, rfl, hc, hx⟩ := h
  refine ⟨by rw [← e]; exact h0, A, c, rfl, hc, fun h => ?_⟩
  obtain ⟨b, rfl, hlo, hlt, hcs, hfz⟩ := hx h
  exact ⟨b, rfl, hlo, hlt, fun i j hi hj => (cell_heap (by rw [e])).trans (hcs i j hi hj), fun o => by have := hfz o; simp only [World.frozen?] at this ⊢; rw [← e]; exact this⟩
theorem sl_wt {w : World} {lo hi sz n : Nat} {v : Value} {f : Nat → Nat → Value} (h : Sl w lo hi sz v n f) (T : Tp) : Sl (wt w T) lo hi sz v n f := by
  obtain ⟨h0, A, c, rfl, hc, hx⟩ := h
  exact ⟨h0, A, c, rfl, hc, hx⟩
theorem wr_wt {w : World} {lo hi sz n : Nat} {v : Value} {f : Nat → Nat → Value} (h : Wr w lo hi sz v n f) (T : Tp) : Wr (wt w T) lo hi sz v n f := wr_heap' rfl h
theorem chg_heap {w w' w₁ w₁' : World} {lo hi : Nat} (e : w.heap = w₁.heap) (e' : w'.heap = w₁'.heap) (h : Chg lo hi w w') : Chg lo hi w₁ w₁' := by
  obtain ⟨h1, h2⟩ := h
  refine ⟨by rw [← e, ← e']; exact h1, fun b o hb hr => ?_⟩
  have h3 := h2 b o (by rw [e]; exact hb) hr
  simp only [World.cell?, World.frozen?] at h3 ⊢
  rw [← e, ← e']
  exact h3
/-- A slice of blocks that goroutine 0 knows stands where the shunned ones turn. -/
theorem wr_upN {P : Program} {SB S : Nat → Prop} {w w' : World} {lo hi sz n : Nat} {v : Value} {f : Nat → Nat → Value} (hj : JW P SB S w) (hv : VR (idS S) v v) (h : Wr w lo hi sz v n f) (hu : UpN SB w w') : Wr w' lo hi sz v n f := by
  obtain ⟨h0, A, c, rfl, hc, hx⟩ := h
  refine ⟨Nat.le_trans h0 hu.size, A, c, rfl, hc, fun h => ?_⟩
  obtain ⟨b, rfl, hlo, hlt, hcs, hfz⟩ := hx h
  have hS : S b := by cases hv with | slice _ _ _ _ _ _ h => exact h.2
  have hb := hu.keep b (jw_lt hj hS) (hj.nb b hS)
  exact ⟨b, rfl, hlo, hlt, fun i j hi hj => (cell_heap hb).trans (hcs i j hi hj), fun o => by have := hfz o; simp only [World.frozen?] at this ⊢; rw [hb]; exact this⟩
theorem vr_le {S S' : Nat → Prop} {v : Value} (h : VR (idS S) v v) (hs : ∀ b, S b → S' b) : VR (idS S') v v := h.le fun x y hxy => ⟨hxy.1, hs _ hxy.2⟩
theorem ar_two {ρ : BR} {u v : Value} (h : VR ρ u u) (k : VR ρ v v) : AR ρ #[u, v] #[u, v] := by
  refine ⟨rfl, fun i x y hx hy => ?_⟩
  rw [hx] at hy
  cases hy
  match i with
  | 0 => cases hx; exact h
  | 1 => cases hx; exact k
  | k + 2 => simp at hx
section
variable {Shun : Go.Loc → Prop} {SB S : Nat → Prop} {Post : Value → World → Prop} {c1 : Frame} {cs1 : List Frame} {w : World} {g : FuncId} {args : Array Value}
theorem j_up (hSB : ∀ l, Shun l → ∃ a : Addr, l = .cell a ∧ SB a.block) (hj : JW Try.prog SB S w) (hL : okF.ok g = true) (ha : AR (idS S) args args) {v0 : Value} (H : ∀ T, Calls Try.prog g args (wt w T) fun e w' => e = .returned v0 ∧ Up (wt w T) w')
    (hnext : ∀ w' S', (∀ b, S b → S' b) → JW Try.prog SB S' w' → Up w w' → J Try.prog Post Shun (G (c1.finish v0) cs1) w') : J Try.prog Post Shun (G (Frame.enter Try.prog g args .normal) (c1 :: cs1)) w := by
  refine J.call ok_set hSB hj hL ha (Rh := fun v h => v = v0 ∧ ∀ b, b < w.heap.size → h[b]? = w.heap[b]?) (fun T => (H T).mono fun e w' ⟨he, hu⟩ => ⟨v0, he, rfl, fun b hb => hu.block b hb⟩) fun v w' hp => ?_
  obtain ⟨⟨rfl, hh⟩, hwd, hsz, S', h4, h5, h6⟩ := hp
  exact hnext w' S' h4 h5 (up_heap hh hsz (env_wd hwd))
theorem j_to (hSB : ∀ l, Shun l → ∃ a : Addr, l = .cell a ∧ SB a.block) (hj : JW Try.prog SB S w) (hL : okF.ok g = true) (ha : AR (idS S) args args) {sz n : Nat} {f : Nat → Nat → Value} (H : ∀ T, Calls Try.prog g args (wt w T) (ToP (wt w T) sz n f))
    (hnext : ∀ v w' S', (∀ b, S b → S' b) → JW Try.prog SB S' w' → VR (idS S') v v → Wr w' w.heap.size w'.heap.size sz v n f → Up w w' → J Try.prog Post Shun (G (c1.finish v) cs1) w') : J Try.prog Post Shun (G (Frame.enter Try.prog g args .normal) (c1 :: cs1)) w := by
  refine J.call ok_set hSB hj hL ha (Rh := fun v h => (∀ w', w'.heap = h → Wr w' w.heap.size w'.heap.size sz v n f) ∧ ∀ b, b < w.heap.size → h[b]? = w.heap[b]?) (fun T => (H T).mono fun e w' ⟨v, he, hw, hu⟩ => ⟨v, he, fun w'' e => wr_heap e.symm hw, fun b hb => hu.block b hb⟩) fun v w' hp => ?_
  obtain ⟨⟨h1, hh⟩, hwd, hsz, S', h4, h5, h6⟩ := hp
  exact hnext v w' S' h4 h5 h6 (h1 w' rfl) (up_heap hh hsz (env_wd hwd))
theorem j_mark {wE : World} {lo hi sz n : Nat} {v : Value} {k r : Int} (hE : Up wE w) (hSB : ∀ l, Shun l → ∃ a : Addr, l = .cell a ∧ SB a.block) (hj : JW Try.prog SB S w) (hL : okF.ok g = true) (ha : AR (idS S) args args) (H : ∀ T, Calls Try.prog g args (wt w T) (MkP (wt w T) (wt wE T) lo hi sz v n k r))
    (hnext : ∀ w' S', (∀ b, S b → S' b) → JW Try.prog SB S' w' → Wr w' lo hi sz v n (mkF sz k) → Chg lo hi w w' → Up wE w' → J Try.prog Post Shun (G (c1.finish (.int .i64 r)) cs1) w') : J Try.prog Post Shun (G (Frame.enter Try.prog g args .normal) (c1 :: cs1)) w := by
  refine J.call ok_set hSB hj hL ha (Rh := fun u h => u = .int .i64 r ∧ (∀ w', w'.heap = h → Wr w' lo hi sz v n (mkF sz k) ∧ Chg lo hi w w') ∧ ∀ b, b < wE.heap.size → h[b]? = wE.heap[b]?)
    (fun T => (H T).mono fun e w' ⟨he, hw, hc, hu⟩ => ⟨_, he, rfl, fun w'' e => ⟨wr_heap' e.symm hw, chg_heap rfl e.symm hc⟩, fun b hb => hu.block b hb⟩) fun u w' hp => ?_
  obtain ⟨⟨rfl, h1, hh⟩, hwd, hsz, S', h4, h5, h6⟩ := hp
  have he := env_wd hwd
  exact hnext w' S' h4 h5 (h1 w' rfl).1 (h1 w' rfl).2 ⟨he.2.1.trans hE.os, he.1.trans hE.tape, he.2.2.trans hE.output, Nat.le_trans hE.size hsz, hh⟩
theorem j_held (hSB : ∀ l, Shun l → ∃ a : Addr, l = .cell a ∧ SB a.block) (hj : JW Try.prog SB S w) (hL : okF.ok g = true) (ha : AR (idS S) args args) {v0 : Value} (H : ∀ T, Calls Try.prog g args (wt w T) fun e w' => e = .returned v0 ∧ wt w T = w')
    (hnext : ∀ w' S', (∀ b, S b → S' b) → JW Try.prog SB S' w' → Up w w' → J Try.prog Post Shun (G (c1.finish v0) cs1) w') : J Try.prog Post Shun (G (Frame.enter Try.prog g args .normal) (c1 :: cs1)) w :=
  j_up hSB hj hL ha (fun T => (H T).mono fun e w' ⟨he, hu⟩ => ⟨he, hu ▸ Up.refl _⟩) hnext
end
end Go.Proofs.Ytaealkfnhhmmcaa
