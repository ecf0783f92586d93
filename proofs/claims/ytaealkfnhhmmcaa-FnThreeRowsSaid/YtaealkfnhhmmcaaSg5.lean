/- n workers that make memory: the phase runs to its end; goroutine 0 beside leavers. No condition. -/
import Derived.Test.YtaealkfnhhmmcaaSg4
import Derived.Conc.CompanyDraw
import Derived.Conc.FxGenLone
/- n workers that make memory: each step of the starter's. No condition. -/
namespace Go.Proofs.Ytaealkfnhhmmcaa
namespace Sim
open Go.Conc Go.ConcN
open Go.ConcR (KK wgBlock WgAt stA smA rd wr mk Payload DC0 Bk g_of_ofEvents loc_of_ofEvent ofEvent_loc_mark ofEvent_mk)
set_option linter.unusedVariables false
variable [Payload]
section
variable (P : Program) (ty : TypeId) (Wg C n : Nat) (Res : Nat → Value → (Nat → Prop) → World → Prop) (Q Anch : (Nat → Prop) → Goroutine → World → Prop) (Shun : Go.Loc → Prop) (SB : Nat → Prop) (e : Nat)
/-- The phase has come to its end: all workers are only leaving, and all that they have found is there. -/
def PhDone (m : Machine) (t : Trace) : Prop :=
  ∃ (gs : Array Goroutine) (w : World) (sl : Option (Nat × Nat)) (a : Goroutine) (q : Nat → Nat) (E : Nat → WX) (K0 : Nat → Prop) (Lf : Nat), m = crowd gs w sl ∧ gs.size = e + 1 + n ∧ Bs P Shun gs a w t q ∧ Q K0 a w ∧ PayAt C n w ∧ (∀ i, i < n → Has C i (E i).v w ∧ Res i (E i).v (E i).K w) ∧ Geo C n SB K0 Lf E w
end
section
variable {P : Program} {ty : TypeId} {Wg C n : Nat} {Res : Nat → Value → (Nat → Prop) → World → Prop} {Q Anch : (Nat → Prop) → Goroutine → World → Prop} {Shun : Go.Loc → Prop} {SB : Nat → Prop} {e : Nat}
  {gs : Array Goroutine} {w w' : World} {sl : Option (Nat × Nat)} {j : Nat} {D : Nat → WD} {E : Nat → WX} {q : Nat → Nat} {tag tag' : CTag} {f0 f' d0 Lf : Nat} {K0 : Nat → Prop} {a a' : Goroutine} {t : Trace} {st sm st' sm' : Int} {es : Array Event}
/-- The starter's step that turns its own blocks alone. -/
theorem coC (H : Hyp P ty Wg C n Res Q Anch Shun SB) (ha : gs[0]? = some a) (hcom : Com P ty Wg C n Res Shun SB e j gs w t D E q K0 Lf d0) (hwg : WgAt ty Wg w st sm) (hmode : Go.ConcN.Mode j D tag st sm)
    (hgo : stepG P true a w = .go a' w' es) (hD : Did (fun b => b < Lf) K0 w w' es) (hcs' : CX P ty Wg C n Res Q Anch tag j f' d0 Lf (grow K0 w w') a' w') (hf : f' < f0) :
    ∃ m₁ ops μ', runT P (crowd gs w sl) 0 = (.next m₁, ops) ∧ Lt2 μ' (Mu n e j D q tag f0) ∧ Inv P ty Wg C n Res Q Anch Shun SB e μ' m₁ (t ++ ops) := by
  have G := hcom.geo
  have hWl : Wg < w.heap.size := G.sb _ H.hW
  have hKW : ¬ K0 Wg := fun h => G.sh0 _ h H.hW
  obtain ⟨cs, hc1, hc2⟩ := hcom.pay
  have G' := G.grow0 hD.size
  have hdf : deafBehind d0 es = d0 := deafBehind_idle (fun ev he => evK_still (hD.evs ev he)) d0
  have htr := (hcom.tr.mono hD.size).app0 (G'.apart H.hSB H.hC) (u := MemOp.ofEvents 0 a.frame.fn a.frame.place es) (okA_of (fun ev he => okE_evK G'.k0 (hD.evs ev he)) _ _ _) (fun op hop => by
    obtain ⟨ev, he, rfl⟩ := Go.Conc.mem_ofEvents hop
    refine ⟨rfl, fun x hx => ?_⟩
    obtain ⟨_, b, hb, hk, hw⟩ := evK_touch (hD.evs ev he) hx
    refine .inr ⟨fun hs => ?_, fun k k1 kj ⟨i, hi, hki, ho⟩ => ?_, fun hxw k k1 kj ⟨i, hi, hki, b', hb', hk', hlo⟩ => ?_⟩
    · obtain ⟨ad, e1, hsb⟩ := H.hSB _ hs
      rw [e1] at hb
      cases hb
      exact G'.sh0 _ hk hsb
    · rcases ho with e1 | ⟨b', hb', hk', hlo⟩
      · rw [e1] at hb
        cases hb
        exact G'.c0 hk
      · rw [hb] at hb'; cases hb'
        exact G'.sep0 i hi _ hk' hlo hk
    · rw [hb] at hb'; cases hb'
      exact hw hxw (Nat.lt_of_lt_of_le hlo (G.low i hi)))
  refine callerStep H.hR ha hcom hgo (fun i hi => ⟨⟨fun b hb => hD.far b (G.kb i hi b hb) ?_, hD.size, hD.env⟩, rw_of_did hD hKW G.c0 hWl G.cl i⟩) htr ⟨cs, (hD.far C G.cl (.inr G.c0)).trans hc1, hc2⟩ G' (by rw [hdf]; exact hcs') (hwg.of_block (hD.far Wg hWl (.inr hKW))) hmode (.inr ⟨rfl, hf⟩)
  by_cases hk0 : K0 b
  · exact .inl (Nat.lt_of_not_le fun hlo => G.sep0 i hi b hb (Nat.le_trans (G.low i hi) hlo) hk0)
  · exact .inr hk0
/-- A step of the starter's at which at most the group's block turns. -/
theorem wgC (H : Hyp P ty Wg C n Res Q Anch Shun SB) (ha : gs[0]? = some a) (hcom : Com P ty Wg C n Res Shun SB e j gs w t D E q K0 Lf d0)
    (hgo : stepG P true a w = .go a' w' es) (hAs : Aside Wg w w') (hwg' : WgAt ty Wg w' st' sm') (hok : ∀ ev ∈ es, OkE w.heap.size ev) (hsh : ∀ ev ∈ es, ∀ x, (MemAct.ofEvent ev).touch? = some x → Shun x.loc ∧ x.kind ≠ .plain)
    (hcs' : CX P ty Wg C n Res Q Anch tag' j f' (deafBehind d0 es) Lf K0 a' w')
    (hmode' : Go.ConcN.Mode j D tag' st' sm') (hlt : phi n (Vc j D) tag' < phi n (Vc j D) tag ∨ (phi n (Vc j D) tag' = phi n (Vc j D) tag ∧ f' < f0)) :
    ∃ m₁ ops μ', runT P (crowd gs w sl) 0 = (.next m₁, ops) ∧ Lt2 μ' (Mu n e j D q tag f0) ∧ Inv P ty Wg C n Res Q Anch Shun SB e μ' m₁ (t ++ ops) := by
  have G := hcom.geo
  obtain ⟨cs, hc1, hc2⟩ := hcom.pay
  have htr : TR Shun e j (OwnF e C j E) (RdF e j E) w'.heap.size (t ++ MemOp.ofEvents 0 a.frame.fn a.frame.place es) := by
    rw [hAs.size]
    exact hcom.tr.app0 (G.apart H.hSB H.hC) (okA_of hok _ _ _) fun op hop => by
      obtain ⟨ev, he, rfl⟩ := Go.Conc.mem_ofEvents hop
      exact ⟨rfl, fun x hx => .inl (hsh ev he x hx)⟩
  exact callerStep H.hR ha hcom hgo (fun i hi => ⟨kn_aside hAs fun h => G.sh i hi _ h H.hW, RW.of_wg hAs ⟨_, _, hwg'⟩ H.hCW⟩) htr ⟨cs, (hAs.block C H.hCW).trans hc1, hc2⟩ (G.same hAs.size) hcs' hwg' hmode' hlt
theorem bookC (H : Hyp P ty Wg C n Res Q Anch Shun SB) (ha : gs[0]? = some a) (hcom : Com P ty Wg C n Res Shun SB e j gs w t D E q K0 Lf d0)
    (hgo : stepG P true a w = .go a' w' es) (hAs : Aside Wg w w') (hwg' : WgAt ty Wg w' st' sm') (hbk : ∀ e ∈ es, Bk Wg e)
    (hcs' : CX P ty Wg C n Res Q Anch tag' j f' (deafBehind d0 es) Lf K0 a' w')
    (hmode' : Go.ConcN.Mode j D tag' st' sm') (hlt : phi n (Vc j D) tag' < phi n (Vc j D) tag ∨ (phi n (Vc j D) tag' = phi n (Vc j D) tag ∧ f' < f0)) :
    ∃ m₁ ops μ', runT P (crowd gs w sl) 0 = (.next m₁, ops) ∧ Lt2 μ' (Mu n e j D q tag f0) ∧ Inv P ty Wg C n Res Q Anch Shun SB e μ' m₁ (t ++ ops) := by
  refine wgC H ha hcom hgo hAs hwg' (fun ev he => okE_bk (hcom.geo.sb _ H.hW) (hbk ev he)) (fun ev he x hx => ?_) hcs' hmode' hlt
  rcases hbk ev he with h1 | h1 | ⟨a, wr, rfl, ha⟩
  · rw [ofEvent_loc_mark h1] at hx; cases hx
  · rw [ofEvent_loc_mark h1] at hx; cases hx
  · simp only [ofEvent_cell0, MemAct.touch?, Option.some.injEq] at hx
    subst hx
    exact ⟨H.hWS _ ⟨a, rfl, ha⟩, by simp⟩
/-- 'race.Read' or 'race.Write' of the semaphore. -/
theorem saidC (H : Hyp P ty Wg C n Res Q Anch Shun SB) (ha : gs[0]? = some a) (hcom : Com P ty Wg C n Res Shun SB e j gs w t D E q K0 Lf d0) {m : Mark} (hm : m = .read (smA Wg) ∨ m = .write (smA Wg))
    (hgo : stepG P true a w = .go a' w #[mk m]) (hwg : WgAt ty Wg w st' sm')
    (hcs' : CX P ty Wg C n Res Q Anch tag' j f' d0 Lf K0 a' w)
    (hmode' : Go.ConcN.Mode j D tag' st' sm') (hlt : phi n (Vc j D) tag' < phi n (Vc j D) tag ∨ (phi n (Vc j D) tag' = phi n (Vc j D) tag ∧ f' < f0)) :
    ∃ m₁ ops μ', runT P (crowd gs w sl) 0 = (.next m₁, ops) ∧ Lt2 μ' (Mu n e j D q tag f0) ∧ Inv P ty Wg C n Res Q Anch Shun SB e μ' m₁ (t ++ ops) := by
  have hWl := hcom.geo.sb _ H.hW
  refine wgC H ha hcom hgo (.refl Wg w) hwg (fun ev he => ?_) (fun ev he x hx => ?_) (by rcases hm with rfl | rfl <;> exact hcs') hmode' hlt
  · simp at he; subst he
    rcases hm with rfl | rfl
    · exact ⟨fun a h => (by cases h), fun x hx => (by simp [mk, MemAct.ofEvent, MemAct.touch?] at hx; subst hx; rfl), hWl⟩
    · exact ⟨fun a h => (by cases h), fun x hx => (by simp [mk, MemAct.ofEvent, MemAct.touch?] at hx; subst hx; rfl), hWl⟩
  · simp at he; subst he
    rcases hm with rfl | rfl
    · simp [mk, MemAct.ofEvent, MemAct.touch?] at hx; subst hx; exact ⟨H.hWS _ ⟨_, rfl, rfl⟩, by simp⟩
    · simp [mk, MemAct.ofEvent, MemAct.touch?] at hx; subst hx; exact ⟨H.hWS _ ⟨_, rfl, rfl⟩, by simp⟩
/-- An idle step. -/
theorem idleC (H : Hyp P ty Wg C n Res Q Anch Shun SB) (ha : gs[0]? = some a) (hcom : Com P ty Wg C n Res Shun SB e j gs w t D E q K0 Lf d0) (hwg : WgAt ty Wg w st sm) (hmode : Go.ConcN.Mode j D tag st sm)
    (hgo : stepG P true a w = .go a' w' es) (hD : DC0 w w' es) (hcs' : CX P ty Wg C n Res Q Anch tag j f' d0 Lf K0 a' w') (hf : f' < f0) :
    ∃ m₁ ops μ', runT P (crowd gs w sl) 0 = (.next m₁, ops) ∧ Lt2 μ' (Mu n e j D q tag f0) ∧ Inv P ty Wg C n Res Q Anch Shun SB e μ' m₁ (t ++ ops) := by
  obtain ⟨e1, e2⟩ := hD
  rw [e1, e2] at hgo
  rw [e1] at hcs'
  exact bookC H ha hcom hgo (.refl Wg w) hwg (fun ev he => by simp at he) hcs' hmode (.inr ⟨rfl, hf⟩)
theorem WS.quits {i : Nat} {x : WX} {s m d : Nat} {g : Goroutine} (h : WS P ty Wg C n Res i x s m d g w) (hs : s = 1) : QuitsD P m d g ∧ x.stored = true := by
  cases h with
  | co _ _ => omega
  | r0 _ _ => omega
  | st h _ hst => exact ⟨by cases h <;> first | (exact absurd hs (by decide)) | assumption, hst⟩
/-- THE LAST STEP: the starter says 'acquire'. -/
theorem acqC (H : Hyp P ty Wg C n Res Q Anch Shun SB) (ha : gs[0]? = some a) (hcom : Com P ty Wg C n Res Shun SB e n gs w t D E q K0 Lf 0) (hq : AllQuit n D)
    (hgo : stepG P true a w = .go a' w #[mk (.acquire (stA Wg))]) (hQ : Q K0 a' w) :
    ∃ m₁ ops, runT P (crowd gs w sl) 0 = (.next m₁, ops) ∧ PhDone P C n Res Q Shun SB e m₁ (t ++ ops) := by
  have hrun := runT_crowd_go (P := P) (sl := sl) (i := 0) ha (by simpa using hgo)
  have G := hcom.geo
  have e1 : MemOp.ofEvents 0 a.frame.fn a.frame.place #[mk (.acquire (stA Wg))] = #[{ g := 0, fn := a.frame.fn, pos := a.frame.place, act := .mark (.acquire (stA Wg)) }] := by rw [ofEvents_eq]; simp [ofEvent_mk]
  have hWl := G.sb _ H.hW
  have hnt : ∀ op ∈ MemOp.ofEvents 0 a.frame.fn a.frame.place #[mk (.acquire (stA Wg))], op.act.touch? = none := fun op hop => by
    rw [e1] at hop; simp at hop; subst hop; rfl
  have htr := hcom.tr.app0 (G.apart H.hSB H.hC) (u := MemOp.ofEvents 0 a.frame.fn a.frame.place #[mk (.acquire (stA Wg))]) (okA_of (fun ev he => by
      simp at he; subst he; exact ⟨fun a h => (by cases h), fun x hx => (by simp [mk, MemAct.ofEvent, MemAct.touch?] at hx), hWl⟩) _ _ _)
    fun op hop => ⟨g_of_ofEvents op hop, fun x hx => by rw [hnt op hop] at hx; cases hx⟩
  have hsz := hcom.size
  have hq2 : (t ++ MemOp.ofEvents 0 a.frame.fn a.frame.place #[mk (.acquire (stA Wg))])[t.size]? = some { g := 0, fn := a.frame.fn, pos := a.frame.place, act := .mark (.acquire (stA Wg)) } := by rw [e1]; simp
  have hd0 : Deaf (t ++ MemOp.ofEvents 0 a.frame.fn a.frame.place #[mk (.acquire (stA Wg))]) 0 = 0 := by rw [Deaf_own, hcom.deaf0]; rfl
  have hpast := htr.past hd0 (a := stA Wg) (q := t.size) (act?_of hq2) (by simp [Trace.g?, hq2]) ⟨0, by simp [Trace.g?, hq2], by rw [deaf_old (Nat.le_refl _)]; exact hcom.deaf0⟩ (fun i hi => by
    obtain ⟨r, hr⟩ := hcom.rel i hi (by rw [hq i hi]; omega)
    exact ⟨r, hr.appOther g_of_ofEvents (by omega), lt_of_act? hr.act⟩)
  obtain ⟨q', hq'⟩ : ∃ q' : Nat → Nat, q' = fun x => if x ≤ e then q x else (D (x - (e + 1))).fuel := ⟨_, rfl⟩
  refine ⟨_, _, hrun, _, w, sl, a', q', E, K0, Lf, rfl, by simp [hsz], ⟨?_, ⟨fun i x hi hx => ?_, fun k hk => ?_⟩, hpast, htr.ct.quiet, fun i op hop => ?_, htr.rl, htr.mem⟩, hQ, hcom.pay, fun i hi => ?_, G⟩
  · exact get_map_set_same _ _ _ (by omega)
  · rw [Deaf_other t (by omega) _ g_of_ofEvents]
    rw [get_map_set _ _ _ _ (by omega)] at hx
    obtain ⟨y, hy, rfl⟩ := Option.map_eq_some_iff.1 hx
    rcases Nat.lt_or_ge e i with hlt | hge
    · have his : i < e + 1 + n := by have := (Array.getElem?_eq_some_iff.1 hy).1; omega
      obtain ⟨g, hg, hws⟩ := hcom.wk (i - (e + 1)) (by omega)
      rw [show e + 1 + (i - (e + 1)) = i by omega, hy] at hg
      cases hg
      rw [hws.woken]
      have h1 := (hws.quits (hq _ (by omega))).1
      have h2 := hcom.deafW (i - (e + 1)) (by omega)
      rw [show e + 1 + (i - (e + 1)) = i by omega] at h2
      rw [h2, hq']
      simp only
      rw [if_neg (by omega)]
      exact h1
    · obtain ⟨g, hg, hqq⟩ := hcom.el i hi hge
      rw [hy] at hg
      cases hg
      rw [woken_quitsD hqq, hq']
      simp only
      rw [if_pos hge]
      exact hqq
  · simp only [Array.size_setIfInBounds, Array.size_map] at hk
    rw [Deaf_other t (by omega) _ g_of_ofEvents]
    exact Deaf_absent fun i op hi he => by have := hcom.tr.ct.gs i op hi; omega
  · simp only [Array.size_setIfInBounds, Array.size_map]
    have := htr.ct.gs i op hop
    omega
  · obtain ⟨g, hg, hws⟩ := hcom.wk i hi
    exact ⟨hcom.has i hi (by rw [hq i hi]; omega), hcom.res i hi (hws.quits (hq i hi)).2⟩
end
end Sim
end Go.Proofs.Ytaealkfnhhmmcaa
/- n workers that make memory and their starter: the phase runs to its end on every tape. No condition. -/
namespace Go.Proofs.Ytaealkfnhhmmcaa
namespace Sim
open Go.Conc Go.ConcN
open Go.ConcR (KK wgBlock WgAt stA smA rd wr mk Payload DC0 Bk g_of_ofEvents loc_of_ofEvent ofEvent_loc_mark ofEvent_mk)
set_option linter.unusedVariables false
variable [Payload]
section
variable {P : Program} {ty : TypeId} {Wg C n : Nat} {Res : Nat → Value → (Nat → Prop) → World → Prop} {Q Anch : (Nat → Prop) → Goroutine → World → Prop} {Shun : Go.Loc → Prop} {SB : Nat → Prop} {e : Nat}
  {gs : Array Goroutine} {w w' : World} {sl : Option (Nat × Nat)} {j : Nat} {D : Nat → WD} {E : Nat → WX} {q : Nat → Nat} {tag tag' : CTag} {f0 f' d0 Lf : Nat} {K0 : Nat → Prop} {a a' : Goroutine} {t : Trace} {st sm st' sm' : Int} {es : Array Event}
theorem kdStep (H : Hyp P ty Wg C n Res Q Anch Shun SB) (ha : gs[0]? = some a) (hcom : Com P ty Wg C n Res Shun SB e n gs w t D E q K0 Lf 0) (hwg : WgAt ty Wg w st sm) (hmode : Go.ConcN.Mode n D .kd st sm)
    (h : (Goes P true (RS ty Wg K0) DC0) (XKd P ty Wg Anch K0) f0 a w) :
    ∃ m₁ ops μ', runT P (crowd gs w sl) 0 = (.next m₁, ops) ∧ Lt2 μ' (Mu n e n D q .kd f0) ∧ Inv P ty Wg C n Res Q Anch Shun SB e μ' m₁ (t ++ ops) := by
  have hVj := Vc_le n D
  rcases Goes.cases h with hstop | ⟨m', rfl, hstep⟩
  · obtain ⟨_, a', hgo, m₂, hk⟩ := hstop w (rs_refl w)
    exact bookC H ha hcom hgo (.refl Wg w) hwg bk_dis (.anch hk) (hmode.reopen trivial trivial rfl (by simp)) (.inl (by simp only [phi]; omega))
  · obtain ⟨a', w', es, hgo, hD, hg'⟩ := hstep w (rs_refl w)
    exact idleC H ha hcom hwg hmode hgo hD (.kd hg') (by omega)
theorem skdStep (H : Hyp P ty Wg C n Res Q Anch Shun SB) {r : Nat} (hr : r < n) (ha : gs[0]? = some a) (hcom : Com P ty Wg C n Res Shun SB e (n - (r + 1)) gs w t D E q K0 Lf 0) (hwg : WgAt ty Wg w st sm) (hmode : Go.ConcN.Mode (n - (r + 1)) D (.sp (r + 1) 7) st sm)
    (h : (Goes P true (RS ty Wg K0) DC0) (SKd P ty Wg C n Res K0 (n - (r + 1)) Lf ((Starts P ty Wg C n Res Q Anch) r)) f0 a w) :
    ∃ m₁ ops μ', runT P (crowd gs w sl) 0 = (.next m₁, ops) ∧ Lt2 μ' (Mu n e (n - (r + 1)) D q (.sp (r + 1) 7) f0) ∧ Inv P ty Wg C n Res Q Anch Shun SB e μ' m₁ (t ++ ops) := by
  rcases Goes.cases h with hstop | ⟨m', rfl, hstep⟩
  · obtain ⟨_, a', hgo, m₂, hk⟩ := hstop w (rs_refl w)
    exact bookC H ha hcom hgo (.refl Wg w) hwg bk_dis (.sa1 hr hk) (hmode.reopen trivial trivial rfl (by simp)) (.inl (by simp only [phi]; omega))
  · obtain ⟨a', w', es, hgo, hD, hg'⟩ := hstep w (rs_refl w)
    exact idleC H ha hcom hwg hmode hgo hD (.skd hr hg') (by omega)
theorem w1Step (H : Hyp P ty Wg C n Res Q Anch Shun SB) (ha : gs[0]? = some a) (hcom : Com P ty Wg C n Res Shun SB e n gs w t D E q K0 Lf 1) (hwg : WgAt ty Wg w st sm) (hmode : Go.ConcN.Mode n D .w1 st sm)
    (h : (Goes P true (RS ty Wg K0) DC0) (XW1 P ty Wg Q Anch K0) f0 a w) :
    ∃ m₁ ops μ', runT P (crowd gs w sl) 0 = (.next m₁, ops) ∧ Lt2 μ' (Mu n e n D q .w1 f0) ∧ Inv P ty Wg C n Res Q Anch Shun SB e μ' m₁ (t ++ ops) := by
  have hn := H.hn
  rcases Goes.cases h with hstop | ⟨m', rfl, hstep⟩
  · obtain ⟨_, hall⟩ := hstop w (rs_refl w)
    obtain ⟨ho, rfl, rfl, _⟩ := hmode.open_inv trivial
    have hV := Vc_le n D
    obtain ⟨a', hgo, h0, hne⟩ := hall (Vc n D) (by omega) (by simpa [pend] using hwg)
    have hbk : ∀ e ∈ #[rd (stA Wg)], Bk Wg e := by intro e he; simp at he; subst he; exact bk_cell _ _ rfl
    by_cases hv : Vc n D = 0
    · obtain ⟨m₂, hk⟩ := h0 hv
      refine bookC H ha hcom hgo (.refl Wg w) hwg hbk (tag' := .ke) (.ke hk) ?_ (.inl (by simp only [phi]; omega))
      have e : ((Vc n D + pend .w1 : Nat) : Int) * KK = 0 := by rw [hv]; simp [pend]
      rw [e]
      exact .fin trivial (allQuit_of ho hv)
    · obtain ⟨m₂, hk⟩ := hne hv
      exact bookC H ha hcom hgo (.refl Wg w) hwg hbk (tag' := .w2 (Vc n D)) (.w2 hk) (hmode.reopen trivial trivial rfl (fun vs e => by cases e; omega)) (.inl (by simp only [phi]; omega))
  · obtain ⟨a', w', es, hgo, hD, hg'⟩ := hstep w (rs_refl w)
    exact idleC H ha hcom hwg hmode hgo hD (.w1 hg') (by omega)
/-- THE go STATEMENT. -/
theorem goStep (H : Hyp P ty Wg C n Res Q Anch Shun SB) {r : Nat} (hr : r < n) (ha : gs[0]? = some a) (hcom : Com P ty Wg C n Res Shun SB e (n - (r + 1)) gs w t D E q K0 Lf 0) (hwg : WgAt ty Wg w st sm) (hmode : Go.ConcN.Mode (n - (r + 1)) D (.sp (r + 1) 0) st sm)
    (h : SGo P ty Wg C n Res (n - (r + 1)) ((Starts P ty Wg C n Res Q Anch) r) K0 a w) :
    ∃ m₁ ops μ', runT P (crowd gs w sl) 0 = (.next m₁, ops) ∧ Lt2 μ' (Mu n e (n - (r + 1)) D q (.sp (r + 1) 0) f0) ∧ Inv P ty Wg C n Res Q Anch Shun SB e μ' m₁ (t ++ ops) := by
  obtain ⟨_, a', child, hsp, _, ⟨Kc, m₂, hKc, hco⟩, hnext⟩ := h
  obtain ⟨ho, rfl, rfl, _⟩ := hmode.open_inv trivial
  have hrun' := runT_crowd_spawn (P := P) (sl := sl) (i := 0) ha (by simpa using hsp)
  have hsz := hcom.size
  rw [show gs.size = e + (n - (r + 1)) + 1 by omega] at hrun'
  have hcom' := hcom.spawn H.hSB H.hC (a' := a') (x := { g := 0, fn := a.frame.fn, pos := a.frame.place, act := .go (e + (n - (r + 1)) + 1) }) (y := { g := e + (n - (r + 1)) + 1, fn := child.frame.fn, pos := a.frame.place, act := .start }) ⟨rfl, rfl⟩ ⟨rfl, rfl⟩ hKc hco undef
  have eV : Vc (n - (r + 1) + 1) (upd D (n - (r + 1)) ⟨7, m₂ + 201, 0⟩) = Vc (n - (r + 1)) D + 1 := by
    simp only [Vc, sumTo, upd_same]
    rw [sumTo_upd_out D _ cnt (Nat.le_refl _)]; rfl
  have eS : Ssum (n - (r + 1) + 1) (upd D (n - (r + 1)) ⟨7, m₂ + 201, 0⟩) = Ssum (n - (r + 1)) D + 7 := by
    simp only [Ssum, sumTo, upd_same]
    rw [sumTo_upd_out D _ WD.stage (Nat.le_refl _)]
  have ho' : OpenSt (n - (r + 1) + 1) (upd D (n - (r + 1)) ⟨7, m₂ + 201, 0⟩) := fun i hi => by
    by_cases e : i = n - (r + 1)
    · subst e; rw [upd_same]; simp
    · rw [upd_ne D _ e]; exact ho i (by omega)
  have ha' : ((gs.setIfInBounds 0 a').push child)[0]? = some a' := by
    rw [Array.getElem?_push_lt (by simp; omega), ← Array.getElem?_eq_getElem, Array.getElem?_setIfInBounds_self_of_lt (by omega)]
  have ej : n - (r + 1) + 1 = n - r := by omega
  rw [ej] at hcom' eV eS ho'
  have est : ∀ tag', pend tag' = 0 → ((Vc (n - (r + 1)) D + pend (.sp (r + 1) 0) : Nat) : Int) * KK = ((Vc (n - r) (upd D (n - (r + 1)) ⟨7, m₂ + 201, 0⟩) + pend tag' : Nat) : Int) * KK := fun tag' hp => by rw [eV, hp]; simp [pend]
  have e2 : ∀ (x y : MemOp), (#[].push x).push y = #[x, y] := fun _ _ => rfl
  have hrun2 : ∃ ops, runT P (crowd gs w sl) 0 = (.next (crowd ((gs.setIfInBounds 0 a').push child) w sl), ops) ∧ ops = #[{ g := 0, fn := a.frame.fn, pos := a.frame.place, act := .go (e + (n - (r + 1)) + 1) }, { g := e + (n - (r + 1)) + 1, fn := child.frame.fn, pos := a.frame.place, act := .start }] :=
    ⟨_, hrun', by simp [ofEvents_eq]⟩
  obtain ⟨ops, hrun3, hops⟩ := hrun2
  rw [← hops] at hcom'
  cases r with
  | zero =>
    obtain ⟨m₃, hk⟩ := hnext
    simp only [Nat.sub_zero] at hcom' eV eS ho' est
    refine ⟨_, _, Mu n e n (upd D (n - (0 + 1)) ⟨7, m₂ + 201, 0⟩) q (.sp 0 8) m₃, hrun3, Prod.Lex.left _ _ (by simp only [phi]; omega),
      _, w, sl, n, _, _, q, .sp 0 8, m₃, 0, w.heap.size, K0, a', _, _, rfl, ha', .run0 hk, hcom', hwg, ?_, rfl⟩
    rw [est (.sp 0 8) rfl]
    exact .opn trivial ho' (by simp)
  | succ r' =>
    obtain ⟨m₃, hk⟩ := hnext
    refine ⟨_, _, Mu n e (n - (r' + 1)) (upd D (n - (r' + 1 + 1)) ⟨7, m₂ + 201, 0⟩) q (.sp (r' + 1) 8) m₃, hrun3, Prod.Lex.left _ _ (by simp only [phi]; omega),
      _, w, sl, n - (r' + 1), _, _, q, .sp (r' + 1) 8, m₃, 0, w.heap.size, K0, a', _, _, rfl, ha', .run (by omega) hk, hcom', hwg, ?_, rfl⟩
    rw [est (.sp (r' + 1) 8) rfl]
    exact .opn trivial ho' (by simp)
theorem sgoStep (H : Hyp P ty Wg C n Res Q Anch Shun SB) {r : Nat} (hr : r < n) (ha : gs[0]? = some a) (hcom : Com P ty Wg C n Res Shun SB e (n - (r + 1)) gs w t D E q K0 Lf 0) (hwg : WgAt ty Wg w st sm) (hmode : Go.ConcN.Mode (n - (r + 1)) D (.sp (r + 1) 0) st sm)
    (h : Co P true (fun b => b < Lf) (SGo P ty Wg C n Res (n - (r + 1)) ((Starts P ty Wg C n Res Q Anch) r)) f0 K0 a w) :
    ∃ m₁ ops μ', runT P (crowd gs w sl) 0 = (.next m₁, ops) ∧ Lt2 μ' (Mu n e (n - (r + 1)) D q (.sp (r + 1) 0) f0) ∧ Inv P ty Wg C n Res Q Anch Shun SB e μ' m₁ (t ++ ops) := by
  rcases h.cases with hstop | ⟨m', rfl, a', w', es, hgo, hD, hg'⟩
  · exact goStep H hr ha hcom hwg hmode hstop
  · exact coC H ha hcom hwg hmode hgo hD (.sgo hr hg') (by omega)
set_option maxHeartbeats 1600000 in
theorem stepCaller (H : Hyp P ty Wg C n Res Q Anch Shun SB)
    (ha : gs[0]? = some a) (hcs : CX P ty Wg C n Res Q Anch tag j f0 d0 Lf K0 a w) (hcom : Com P ty Wg C n Res Shun SB e j gs w t D E q K0 Lf d0) (hwg : WgAt ty Wg w st sm) (hmode : Go.ConcN.Mode j D tag st sm) (hrun : a.status = .running) :
    (∃ m₁ ops, runT P (crowd gs w sl) 0 = (.next m₁, ops) ∧ PhDone P C n Res Q Shun SB e m₁ (t ++ ops)) ∨
    (∃ m₁ ops μ', runT P (crowd gs w sl) 0 = (.next m₁, ops) ∧ Lt2 μ' (Mu n e j D q tag f0) ∧ Inv P ty Wg C n Res Q Anch Shun SB e μ' m₁ (t ++ ops)) := by
  have hVj := Vc_le j D
  have hn := H.hn
  cases hcs with
  | run0 h =>
    rcases h.cases with hstop | ⟨m', rfl, a', w', es, hgo, hD, hg'⟩
    · obtain ⟨m, hk⟩ := hstop ⟨_, _, hwg⟩
      obtain ⟨m₁, ops, μ', h1, h2, h3⟩ := kdStep (sl := sl) H ha hcom hwg (hmode.reopen trivial trivial rfl (by simp)) hk
      exact .inr ⟨m₁, ops, μ', h1, lt2_trans h2 (Prod.Lex.left _ _ (by simp only [phi]; omega)), h3⟩
    · exact .inr (coC H ha hcom hwg hmode hgo hD (.run0 hg') (by omega))
  | run hr h =>
    rcases h.cases with hstop | ⟨m', rfl, a', w', es, hgo, hD, hg'⟩
    · obtain ⟨m, hk⟩ := hstop ⟨_, _, hwg⟩
      obtain ⟨m₁, ops, μ', h1, h2, h3⟩ := skdStep (sl := sl) H hr ha hcom hwg (hmode.reopen trivial trivial rfl (by simp)) hk
      exact .inr ⟨m₁, ops, μ', h1, lt2_trans h2 (Prod.Lex.left _ _ (by simp only [phi]; omega)), h3⟩
    · exact .inr (coC H ha hcom hwg hmode hgo hD (.run hr hg') (by omega))
  | skd hr h => exact .inr (skdStep H hr ha hcom hwg hmode h)
  | sa1 hr h =>
    rename_i r
    rcases Goes.cases h with hstop | ⟨m', rfl, hstep⟩
    · obtain ⟨_, hall⟩ := hstop w (rs_refl w)
      obtain ⟨ho, rfl, rfl, _⟩ := hmode.open_inv trivial
      obtain ⟨a', hgo, hz, hnz⟩ := hall (Vc (n - (r + 1)) D) (by omega) (by simpa [pend] using hwg)
      have e3 : (((Vc (n - (r + 1)) D : Nat) : Int) + 1) * KK = ((Vc (n - (r + 1)) D + pend (.sp (r + 1) 3) : Nat) : Int) * KK := by simp [pend]
      have e2 : (((Vc (n - (r + 1)) D : Nat) : Int) + 1) * KK = ((Vc (n - (r + 1)) D + pend (.sp (r + 1) 2) : Nat) : Int) * KK := by simp [pend]
      by_cases hv : Vc (n - (r + 1)) D = 0
      · obtain ⟨m₂, hk⟩ := hz hv
        exact .inr (bookC H ha hcom hgo (aside_setCell w (stA Wg) _) (hwg.setSt _) bk_rw (.srr hr hk) (by rw [e3]; exact .opn trivial ho (by simp)) (.inl (by simp only [phi]; omega)))
      · obtain ⟨m₂, hk⟩ := hnz hv
        exact .inr (bookC H ha hcom hgo (aside_setCell w (stA Wg) _) (hwg.setSt _) bk_rw (.ske hr hk) (by rw [e2]; exact .opn trivial ho (by simp)) (.inl (by simp only [phi]; omega)))
    · obtain ⟨a', w', es, hgo, hD, hg'⟩ := hstep w (rs_refl w)
      exact .inr (idleC H ha hcom hwg hmode hgo hD (.sa1 hr hg') (by omega))
  | srr hr h =>
    rcases Goes.cases h with hstop | ⟨m', rfl, hstep⟩
    · obtain ⟨_, a', hgo, m₂, hk⟩ := hstop w (rs_refl w)
      exact .inr (saidC H ha hcom (.inl rfl) hgo hwg (.ske hr hk) (hmode.reopen trivial trivial rfl (by simp)) (.inl (by simp only [phi]; omega)))
    · obtain ⟨a', w', es, hgo, hD, hg'⟩ := hstep w (rs_refl w)
      exact .inr (idleC H ha hcom hwg hmode hgo hD (.srr hr hg') (by omega))
  | ske hr h =>
    rcases Goes.cases h with hstop | ⟨m', rfl, hstep⟩
    · obtain ⟨_, a', hgo, m₂, hk⟩ := hstop w (rs_refl w)
      exact .inr (bookC H ha hcom hgo (.refl Wg w) hwg bk_en (.sbk hr hk) (hmode.reopen trivial trivial rfl (by simp)) (.inl (by simp only [phi]; omega)))
    · obtain ⟨a', w', es, hgo, hD, hg'⟩ := hstep w (rs_refl w)
      exact .inr (idleC H ha hcom hwg hmode hgo hD (.ske hr hg') (by omega))
  | sbk hr h =>
    rcases Goes.cases h with hstop | ⟨m', rfl, hstep⟩
    · obtain ⟨m, hk⟩ := hstop w (rs_refl w)
      obtain ⟨m₁, ops, μ', h1, h2, h3⟩ := sgoStep (sl := sl) H hr ha hcom hwg (hmode.reopen trivial trivial rfl (by simp)) hk
      exact .inr ⟨m₁, ops, μ', h1, lt2_trans h2 (Prod.Lex.left _ _ (by simp only [phi]; omega)), h3⟩
    · obtain ⟨a', w', es, hgo, hD, hg'⟩ := hstep w (rs_refl w)
      exact .inr (idleC H ha hcom hwg hmode hgo hD (.sbk hr hg') (by omega))
  | sgo hr h => exact .inr (sgoStep H hr ha hcom hwg hmode h)
  | kd h => exact .inr (kdStep H ha hcom hwg hmode h)
  | anch h =>
    rcases Goes.cases h with hstop | ⟨m', rfl, hstep⟩
    · obtain ⟨m₂, hk⟩ := H.hAn _ a w (hstop w (rs_refl w))
      obtain ⟨m₁, ops, μ', h1, h2, h3⟩ := w1Step (sl := sl) H ha hcom hwg (hmode.reopen trivial trivial rfl (by simp)) hk
      exact .inr ⟨m₁, ops, μ', h1, lt2_trans h2 (Prod.Lex.left _ _ (by simp only [phi]; omega)), h3⟩
    · obtain ⟨a', w', es, hgo, hD, hg'⟩ := hstep w (rs_refl w)
      exact .inr (idleC H ha hcom hwg hmode hgo hD (.anch hg') (by omega))
  | w1 h => exact .inr (w1Step H ha hcom hwg hmode h)
  | w2 h =>
    rename_i vs
    rcases Goes.cases h with hstop | ⟨m', rfl, hstep⟩
    · obtain ⟨_, hall⟩ := hstop w (rs_refl w)
      obtain ⟨ho, rfl, rfl, hw2⟩ := hmode.open_inv trivial
      obtain ⟨hle, h1⟩ := hw2 vs rfl
      obtain ⟨hhit, hmiss⟩ := hall (Vc n D) (by omega) (by simpa [pend] using hwg)
      by_cases e : Vc n D = vs
      · obtain ⟨a', hgo, m₂, hk⟩ := hhit e
        exact .inr (bookC H ha hcom hgo (aside_setCell w (stA Wg) _) (hwg.setSt _) bk_rw (.wr hk) (.reg trivial ho (by omega)) (.inl (by simp only [phi]; omega)))
      · obtain ⟨a', hgo, m₂, hk⟩ := hmiss e
        exact .inr (bookC H ha hcom hgo (.refl Wg w) hwg bk_rd (.anch hk) (hmode.reopen trivial trivial rfl (by simp)) (.inl (by simp only [phi]; omega)))
    · obtain ⟨a', w', es, hgo, hD, hg'⟩ := hstep w (rs_refl w)
      exact .inr (idleC H ha hcom hwg hmode hgo hD (.w2 hg') (by omega))
  | wr h =>
    rcases Goes.cases h with hstop | ⟨m', rfl, hstep⟩
    · obtain ⟨_, a', hgo, hk⟩ := hstop w (rs_refl w)
      exact .inr (saidC H ha hcom (.inr rfl) hgo hwg (.w3 hk) hmode (.inr ⟨rfl, by omega⟩))
    · obtain ⟨a', w', es, hgo, hD, hg'⟩ := hstep w (rs_refl w)
      exact .inr (idleC H ha hcom hwg hmode hgo hD (.wr hg') (by omega))
  | w3 h =>
    rcases Goes.cases h with hstop | ⟨m', rfl, hstep⟩
    · obtain ⟨_, hoff, hblk, htake⟩ := hstop w (rs_refl w)
      cases hmode with
      | opn h1 _ _ => exact h1.elim
      | reg h1 h2 h3 => exact .inr (bookC H ha hcom (hblk ⟨_, hwg⟩) (.refl Wg w) hwg (by simp) (.blk hstop) (.reg trivial h2 h3) (.inr ⟨rfl, by omega⟩))
      | last L h1 h2 h3 h4 => exact .inr (bookC H ha hcom (hblk ⟨_, hwg⟩) (.refl Wg w) hwg (by simp) (.blk hstop) (.last L trivial h2 h3 h4) (.inr ⟨rfl, by omega⟩))
      | sema h2 =>
        obtain ⟨a', hgo, m₂, hk⟩ := htake hwg
        exact .inr (bookC H ha hcom hgo (aside_setCell w (smA Wg) _) (hwg.setSm 0) bk_sem (.w4 hk) (.fin trivial h2) (.inl (by simp only [phi]; omega)))
      | fin h1 _ => exact h1.elim
    · obtain ⟨a', w', es, hgo, hD, hg'⟩ := hstep w (rs_refl w)
      exact .inr (idleC H ha hcom hwg hmode hgo hD (.w3 hg') (by omega))
  | blk h => simp at hrun
  | w4 h =>
    rcases Goes.cases h with hstop | ⟨m', rfl, hstep⟩
    · obtain ⟨_, hx⟩ := hstop w (rs_refl w)
      obtain ⟨hq, rfl, rfl⟩ := hmode.fin_inv trivial
      obtain ⟨a', hgo, m₂, hk⟩ := hx hwg
      exact .inr (bookC H ha hcom hgo (.refl Wg w) hwg bk_rd (.ke hk) (.fin trivial hq) (.inl (by simp only [phi]; omega)))
    · obtain ⟨a', w', es, hgo, hD, hg'⟩ := hstep w (rs_refl w)
      exact .inr (idleC H ha hcom hwg hmode hgo hD (.w4 hg') (by omega))
  | ke h =>
    rcases Goes.cases h with hstop | ⟨m', rfl, hstep⟩
    · obtain ⟨_, a', hgo, m₂, hk⟩ := hstop w (rs_refl w)
      obtain ⟨hq, rfl, rfl⟩ := hmode.fin_inv trivial
      exact .inr (bookC H ha hcom hgo (.refl Wg w) hwg bk_en (.acq hk) (.fin trivial hq) (.inl (by simp only [phi]; omega)))
    · obtain ⟨a', w', es, hgo, hD, hg'⟩ := hstep w (rs_refl w)
      exact .inr (idleC H ha hcom hwg hmode hgo hD (.ke hg') (by omega))
  | acq h =>
    rcases Goes.cases h with hstop | ⟨m', rfl, hstep⟩
    · obtain ⟨_, a', hgo, hk⟩ := hstop w (rs_refl w)
      obtain ⟨hq, rfl, rfl⟩ := hmode.fin_inv trivial
      exact .inl (acqC H ha hcom hq hgo hk)
    · obtain ⟨a', w', es, hgo, hD, hg'⟩ := hstep w (rs_refl w)
      exact .inr (idleC H ha hcom hwg hmode hgo hD (.acq hg') (by omega))
end
section
variable {P : Program} {ty : TypeId} {Wg C n : Nat} {Res : Nat → Value → (Nat → Prop) → World → Prop} {Q Anch : (Nat → Prop) → Goroutine → World → Prop} {Shun : Go.Loc → Prop} {SB : Nat → Prop} {e : Nat}
theorem phStep (H : Hyp P ty Wg C n Res Q Anch Shun SB) (μ : Nat × Nat) (m : Machine) (t : Trace) (hI : Inv P ty Wg C n Res Q Anch Shun SB e μ m t) :
    (∃ m₁ ops, stepT P m = (.next m₁, ops) ∧ PhDone P C n Res Q Shun SB e m₁ (t ++ ops)) ∨ (∃ m₁ ops μ', stepT P m = (.next m₁, ops) ∧ Lt2 μ' μ ∧ Inv P ty Wg C n Res Q Anch Shun SB e μ' m₁ (t ++ ops)) := by
  obtain ⟨gs, w, sl, j, D, E, q, tag, f0, d0, Lf, K0, a, st, sm, rfl, ha, hcs, hcom, hwg, hmode, rfl⟩ := hI
  have hl : WgLive ty Wg w := ⟨_, _, hwg⟩
  have haw : ∀ g ∈ gs, awake g := by
    intro g hg tm
    obtain ⟨i, hi⟩ := Array.mem_iff_getElem?.1 hg
    have hsz := hcom.size
    have hlt := (Array.getElem?_eq_some_iff.1 hi).1
    rcases Nat.eq_zero_or_pos i with rfl | hp
    · rw [ha] at hi; cases hi
      rcases hcs.status H.hAr hl with ⟨hs, _⟩ | ⟨hs, _⟩ <;> rw [hs] <;> simp
    · rcases Nat.lt_or_ge e i with hlt2 | hge
      · obtain ⟨g', hg', hs⟩ := hcom.wk (i - (e + 1)) (by omega)
        rw [show e + 1 + (i - (e + 1)) = i by omega, hi] at hg'
        cases hg'
        rcases hs.status with h | h <;> rw [h] <;> simp
      · obtain ⟨g', hg', hs⟩ := hcom.el i hp hge
        rw [hi] at hg'; cases hg'
        rcases hs.status with h | h <;> rw [h] <;> simp
  have hsome : ∃ (i : Nat) (g : Goroutine), gs[i]? = some g ∧ g.status = .running := by
    rcases hcs.status H.hAr hl with ⟨hs, _⟩ | ⟨_, rfl⟩
    · exact ⟨0, a, ha, hs⟩
    · cases hmode with
      | opn h1 _ _ => exact h1.elim
      | reg _ _ h3 =>
        obtain ⟨i, hi, h5⟩ := exists_counted h3
        obtain ⟨g, hg, hs⟩ := hcom.wk i hi
        exact ⟨e + 1 + i, g, hg, hs.running_of (by omega)⟩
      | last L _ h2 h3 _ =>
        obtain ⟨g, hg, hs⟩ := hcom.wk L h2
        exact ⟨e + 1 + L, g, hg, hs.running_of (by omega)⟩
      | fin h1 _ => exact h1.elim
  obtain ⟨i, g, d, sl', hg, hrun, hstep⟩ := crowd_pick (P := P) (w := w) (sl := sl) haw hsome
  rw [hstep]
  have hcs' := hcs.rely (show RS ty Wg K0 w (w.at d) from ⟨id, kn_at _ w d⟩)
  have hcom' := hcom.at H.hR d
  have hwg' : WgAt ty Wg (w.at d) st sm := hwg
  have hsz := hcom.size
  have hlt := (Array.getElem?_eq_some_iff.1 hg).1
  rcases Nat.eq_zero_or_pos i with rfl | hp
  · rw [ha] at hg; cases hg
    exact stepCaller (sl := sl') H ha hcs' hcom' hwg' hmode hrun
  · rcases Nat.lt_or_ge e i with hlt2 | hge
    · have hgi : gs[e + 1 + (i - (e + 1))]? = some g := by rw [show e + 1 + (i - (e + 1)) = i by omega]; exact hg
      have := stepWorker (sl := sl') H ha hcs' hcom' hwg' hmode (i := i - (e + 1)) (by omega) hgi hrun
      rw [show e + 1 + (i - (e + 1)) = i by omega] at this
      exact .inr this
    · exact .inr (elderStep (sl := sl') H.hAr (hcom'.geo.apart H.hSB H.hC) ha hcs' hcom' hwg' hmode hp hge hg hrun)
/-- THE PHASE RUNS TO ITS END. -/
theorem phase_runs (H : Hyp P ty Wg C n Res Q Anch Shun SB) (μ : Nat × Nat) : ∀ (m : Machine) (t : Trace), Inv P ty Wg C n Res Q Anch Shun SB e μ m t → ∃ (N : Nat) (m' : Machine) (t' : Trace), runNT P N m t = (.next m', t') ∧ PhDone P C n Res Q Shun SB e m' t' := by
  induction μ using (Prod.lex Nat.lt_wfRel Nat.lt_wfRel).wf.induction with
  | _ μ ih =>
    intro m t hI
    rcases phStep H μ m t hI with ⟨m₁, ops, h1, h2⟩ | ⟨m₁, ops, μ', h1, h2, h3⟩
    · exact ⟨1, m₁, t ++ ops, by simp only [runNT, h1], h2⟩
    · obtain ⟨N, m', t', e1, e2⟩ := ih μ' h2 m₁ _ h3
      exact ⟨N + 1, m', t', by simp only [runNT, h1]; exact e1, e2⟩
/-- .. from the moment at which goroutine 0 begins to start them, beside leavers. -/
theorem phaseX (H : Hyp P ty Wg C n Res Q Anch Shun SB) {gs : Array Goroutine} {a : Goroutine} {w : World} {sl : Option (Nat × Nat)} {t : Trace} {q : Nat → Nat} {K0 : Nat → Prop} {Lf : Nat} (hsz : gs.size = e + 1) (hb : Bs P Shun gs a w t q)
    (hS : Starts P ty Wg C n Res Q Anch n Lf K0 a w) (hwg : WgAt ty Wg w 0 0) (hpay : PayAt C n w) (hLf : Lf ≤ w.heap.size) (hk0 : ∀ b, K0 b → b < w.heap.size) (hsh : ∀ b, K0 b → ¬ SB b) (hc0 : ¬ K0 C) (hsb : ∀ b, SB b → b < w.heap.size) :
    ∃ (N : Nat) (m' : Machine) (t' : Trace), runNT P N (crowd gs w sl) t = (.next m', t') ∧ PhDone P C n Res Q Shun SB e m' t' := by
  have hcl : C < w.heap.size := let ⟨_, h, _⟩ := hpay; (Array.getElem?_eq_some_iff.1 h).1
  let E : Nat → WX := fun _ => ⟨0, fun _ => False, undef, false⟩
  let D : Nat → WD := fun _ => ⟨0, 0, 0⟩
  have hge : Geo C 0 SB K0 Lf E w := ⟨fun i hi => by omega, hLf, fun i hi => by omega, hk0, fun i hi => by omega, fun i hi => by omega, fun i hi => by omega, hsh, fun i hi => by omega, hc0, hsb, hcl⟩
  have hnone : ∀ k l, ¬ OwnF e C 0 E k l := fun k l ⟨i, hi, _⟩ => by omega
  have hnone2 : ∀ k l, ¬ RdF e 0 E k l := fun k l ⟨i, hi, _⟩ => by omega
  have hkn : ∀ (i : Nat) (x : Touch), touchAt t i = some x → Knows t 0 i ∨ (Shun x.loc ∧ x.kind = .atomic) := fun i x hx => by
    obtain ⟨op, hi, hox⟩ := touch_of hx
    exact hb.pt.known i x hx (hb.mem i op x hi hox)
  have hno : ∀ (i : Nat) (op : MemOp), t[i]? = some op → op.g ≤ e := fun i op hi => by have := hb.no i op hi; omega
  have hct : CT Shun (OwnF e C 0 E) (RdF e 0 E) t (e + 0) := by
    refine ⟨hb.qt, fun k _ _ l hl => (hnone k l hl).elim, fun k _ _ l hl => (hnone2 k l hl).elim, fun l hs _ i x hx hl => ?_, fun l hs _ i x hx hl _ => ?_, hb.pt.clean, fun i op hi => hno i op hi⟩
    · exact (hkn i x hx).resolve_right fun h => hs (hl ▸ h.1)
    · exact (hkn i x hx).resolve_right fun h => hs (hl ▸ h.1)
  have htr : TR Shun e 0 (OwnF e C 0 E) (RdF e 0 E) w.heap.size t := by
    refine ⟨hct, hb.rl, hb.mem, hb.pt.seen, fun i op x hi hg => ?_, fun i op x hi hg hx => hkn i x (by rw [touchAt_of hi]; exact hx), fun i op hi hg h0 hc => hb.pt.over i op.g (by simp [Trace.g?, hi]) h0 hc⟩
    have := hno i op hi
    omega
  have hcom : Com P ty Wg C n Res Shun SB e 0 gs w t D E q K0 Lf 0 :=
    ⟨by omega, fun i hi => by omega, fun x hx hxe => by
      have hlt : x < gs.size := by omega
      exact ⟨gs[x], Array.getElem?_eq_getElem hlt, hb.lv.old x _ hx (Array.getElem?_eq_getElem hlt)⟩, htr, hb.pt.hears, fun i hi => by omega, fun i hi => by omega, fun i hi => by omega, fun i hi => by omega, hpay, hge⟩
  have hmode : ∀ tag, isOpen tag → pend tag = 0 → (∀ vs, tag ≠ .w2 vs) → Go.ConcN.Mode 0 D tag 0 0 := fun tag h1 h2 h3 => by
    have := Mode.opn (j := 0) (D := D) h1 (fun i hi => by omega) (fun vs e => absurd e (h3 vs))
    simpa [Vc, sumTo, h2] using this
  have hInv : ∃ μ, Inv P ty Wg C n Res Q Anch Shun SB e μ (crowd gs w sl) t := by
    cases n with
    | zero =>
      obtain ⟨m, hk⟩ := hS
      exact ⟨_, gs, w, sl, 0, D, E, q, .sp 0 8, m, 0, Lf, K0, a, 0, 0, rfl, hb.h0, .run0 hk, hcom, hwg, hmode (.sp 0 8) trivial rfl (by simp), rfl⟩
    | succ r =>
      obtain ⟨m, hk⟩ := hS
      have hc := CX.run (Nat.lt_succ_self r) hk
      rw [Nat.sub_self] at hc
      exact ⟨_, gs, w, sl, 0, D, E, q, .sp (r + 1) 8, m, 0, Lf, K0, a, 0, 0, rfl, hb.h0, hc, hcom, hwg, hmode (.sp (r + 1) 8) trivial rfl (by simp), rfl⟩
  obtain ⟨μ, hI⟩ := hInv
  exact phase_runs H μ _ t hI
end
end Sim
end Go.Proofs.Ytaealkfnhhmmcaa
/- Done, as a worker's deferred call, up to its release: it lists nothing on the way. No condition. -/
namespace Go.Proofs.Ytaealkfnhhmmcaa
namespace Sim
open Go.Conc Go.ConcN Go.RowKit Go.Conc.Lib Go.ConcR.Gen Go.ConcN.Gen
open Go.ConcR (KK wgBlock WgAt stA smA rd wr mk Payload DC0)
set_option linter.unusedVariables false
variable [Payload] {L : WgLink}
/-- The next step says 'release and merge', and behind it nothing is listed up to a 'disable'. -/
def StopR (P : Program) (R : World → World → Prop) (Wg : Nat) (g : Goroutine) (w : World) : Prop :=
  ∃ g', stepG P false g w = .go g' w #[mk (.releaseMerge (stA Wg))] ∧ ∃ m, Goes P false R DC0 (fun g w => ∃ g2, stepG P false g w = .go g2 w #[mk .disable]) m g' w
section
variable {P : Program} {ty : TypeId} {Wg C n i : Nat} {val : Value}
theorem rwT : ∀ a b c, (RW ty Wg C n 0 i) a b → (RW ty Wg C n 0 i) b c → (RW ty Wg C n 0 i) a c := fun _ _ _ h1 h2 => h1.trans h2
theorem no_pass : ∀ (m : Nat) {m' : Nat} {g : Goroutine} {w : World}, Goes P false (RW ty Wg C n 0 i) DC0 (fun g w => ∃ g2, stepG P false g w = .go g2 w #[mk .disable]) m g w → Goes P false (RW ty Wg C n 0 i) (DWs Wg NoLoc NoLoc C n (i + 1)) (AtR0 P ty Wg C n 0 (i + 1) val) m' g w → False := by
  intro m
  induction m with
  | zero =>
    intro m' g w h h'
    obtain ⟨g2, hs⟩ := h w (RW.refl w)
    rcases Goes.cases h' with hstop | ⟨m1, rfl, hstep⟩
    · obtain ⟨_, _, g', hgo, _⟩ := hstop w (RW.refl w)
      rw [hs] at hgo; simp [mk] at hgo
    · obtain ⟨g', w', es, hgo, hD, _⟩ := hstep w (RW.refl w)
      rw [hs] at hgo; cases hgo
      exact (hD.2 (mk .disable) (by simp)).2.1 rfl
  | succ m ih =>
    intro m' g w h h'
    rcases Goes.cases h with hstop | ⟨m0, e0, hstep0⟩
    · obtain ⟨g2, hs⟩ := hstop w (RW.refl w)
      rcases Goes.cases h' with hstop | ⟨m1, rfl, hstep⟩
      · obtain ⟨_, _, g', hgo, _⟩ := hstop w (RW.refl w)
        rw [hs] at hgo; simp [mk] at hgo
      · obtain ⟨g', w', es, hgo, hD, _⟩ := hstep w (RW.refl w)
        rw [hs] at hgo; cases hgo
        exact (hD.2 (mk .disable) (by simp)).2.1 rfl
    · obtain ⟨g2, w2, es2, hs, ⟨e1, e2⟩, h2⟩ := hstep0 w (RW.refl w)
      rw [e1, e2] at hs
      rw [e1] at h2
      rcases Goes.cases h' with hstop | ⟨m1, rfl, hstep⟩
      · obtain ⟨_, _, g', hgo, _⟩ := hstop w (RW.refl w)
        rw [hs] at hgo; simp at hgo
      · obtain ⟨g', w', es, hgo, hD, h3⟩ := hstep w (RW.refl w)
        rw [hs] at hgo; cases hgo
        obtain rfl : m = m0 := by omega
        exact ih h2 h3
theorem quiet_of : ∀ (m : Nat) {m' : Nat} {g : Goroutine} {w : World}, Goes P false (RW ty Wg C n 0 i) DC0 (StopR P (RW ty Wg C n 0 i) Wg) m g w → Goes P false (RW ty Wg C n 0 i) (DWs Wg NoLoc NoLoc C n (i + 1)) (AtR0 P ty Wg C n 0 (i + 1) val) m' g w → Goes P false (RW ty Wg C n 0 i) DC0 (AtR0 P ty Wg C n 0 (i + 1) val) m g w := by
  have key : ∀ {m' : Nat} {g : Goroutine} {w : World}, (∀ w₁, (RW ty Wg C n 0 i) w w₁ → StopR P (RW ty Wg C n 0 i) Wg g w₁) → Goes P false (RW ty Wg C n 0 i) (DWs Wg NoLoc NoLoc C n (i + 1)) (AtR0 P ty Wg C n 0 (i + 1) val) m' g w → ∀ w₁, (RW ty Wg C n 0 i) w w₁ → AtR0 P ty Wg C n 0 (i + 1) val g w₁ := by
    intro m' g w h h' w₁ hr
    obtain ⟨g', hs, m, hd⟩ := h w₁ hr
    have h1 := Goes.rely rwT h' hr
    rcases Goes.cases h1 with hstop | ⟨m1, rfl, hstep⟩
    · exact hstop w₁ (RW.refl w₁)
    · obtain ⟨g2, w2, es, hgo, hD, h3⟩ := hstep w₁ (RW.refl w₁)
      rw [hs] at hgo; cases hgo
      exact (no_pass m hd h3).elim
  intro m
  induction m with
  | zero => exact fun h h' => key h h'
  | succ m ih =>
    intro m' g w h h'
    rcases h with h | ⟨hrun, h⟩
    · exact .inl (key h h')
    · refine .inr ⟨hrun, fun w₁ hr => ?_⟩
      have h1 := Goes.rely rwT h' hr
      obtain ⟨g2, w2, es2, hs, ⟨e1, e2⟩, h2⟩ := goes_elim (h w₁ hr)
      rw [e1, e2] at hs
      rw [e1] at h2
      rw [hs, goes_go]
      refine ⟨⟨rfl, rfl⟩, ?_⟩
      rcases Goes.cases h1 with hstop | ⟨m1, rfl, hstep⟩
      · obtain ⟨_, _, g', hgo, _⟩ := hstop w₁ (RW.refl w₁)
        rw [hs] at hgo; simp at hgo
      · obtain ⟨g', w', es, hgo, hD, h3⟩ := hstep w₁ (RW.refl w₁)
        rw [hs] at hgo; cases hgo
        exact ih h2 h3
end
set_option maxRecDepth 100000 in
set_option maxHeartbeats 8000000 in
theorem doneX {P : Program} (H : WgLib P L) {Wg C n i : Nat} {val : Value} {c : Frame} {cs : List Frame} {qt : Nat}
    (hcm : c.mode = .returning) (hT : QuitsD P qt 0 (G c cs)) (w : World) (hK : WgLive L.tWg Wg w ∧ Has C i val w) :
    Goes P false (RW L.tWg Wg C n 0 i) DC0 (AtR0 P L.tWg Wg C n 0 (i + 1) val) 23 (G ((baseD L.done).at ⟨#[.pointer (some ⟨Wg, 0, none⟩), undef, undef, undef], []⟩ [.code (body_done L)]) (c :: cs)) w := by
  refine quiet_of 23 ?_ (doneN H (Own := NoLoc) (Rd := NoLoc) (Low := 0) (k := i + 1) hcm hT w hK)
  clear hT
  lib_facts
  simp only [body_done, doneFn, Option.getD_some]
  u_reg kn_rely hK
  u_op kn_rely hK
  u_call H.f_add (nm_add L) addFn kn_rely hK
  u_c stepG_seq kn_rely hK
  u_cond true kn_rely hK
  u_c stepG_seq kn_rely hK
  u_c stepG_seq kn_rely hK
  u_reg kn_rely hK
  u_op kn_rely hK
  u_op kn_rely hK
  u_c stepG_region_end kn_rely hK
  u_cond true kn_rely hK
  u_reg kn_rely hK
  u_op kn_rely hK
  u_conv H.underlying_tWgP H.room_tWg (WgLive.cell0 hK.1).choose_spec kn_rely hK
  refine Goes.stop (fun w₁ h₁ => ?_)
  replace hK := kn_rely hK h₁
  clear h₁
  refine ⟨_, stepG_markAt .releaseMerge (by simp) rfl rfl (by k_ne) rfl H.f_relMerge (x_relMerge_n L) (x_relMerge_b L) (x_relMerge_x L) (x_relMerge_f L) (by simp [Act.eval, stA]), 10, ?_⟩
  walk_nrm
  u_c stepG_region_end kn_rely hK
  u_c stepG_seq kn_rely hK
  u_reg kn_rely hK
  refine Goes.stop (fun w₁ h₁ => ?_)
  exact ⟨_, stepG_mark0 .disable (by simp) rfl rfl (by k_ne) rfl H.f_disable (x_disable_n L) (x_disable_b L) (x_disable_x L) (x_disable_f L)⟩
end Sim
end Go.Proofs.Ytaealkfnhhmmcaa
/- The starter's Wait beside workers that make memory. No condition. -/
namespace Go.Proofs.Ytaealkfnhhmmcaa
namespace Sim
open Go.Conc Go.ConcN Go.RowKit Go.Conc.Lib Go.ConcR.Gen Go.ConcN.Gen
open Go.ConcR (KK wgBlock WgAt stA smA rd wr mk Payload DC0)
set_option linter.unusedVariables false
variable [Payload] {L : WgLink}
omit [Payload] in
theorem at_rely {a b c : World} (h : AtRel a b) (k : AtRel b c) : AtRel a c := atRel_trans a b c h k
/-- Behind the acquire: nothing but the way out of Wait lies between here and the caller. -/
def QX (P : Program) (Cont : (Nat → Prop) → Goroutine → World → Prop) (K : Nat → Prop) (g : Goroutine) (w : World) : Prop :=
  ∃ g0, Cont K g0 w ∧ ∃ m, Goes P true AtRel DC0 (fun g' w' => g' = g0 ∧ AtRel w w') m g w
/-- At the head of Wait's loop, whatever frame of the caller's waits below. -/
def AnchX (L : WgLink) (Wg : Nat) (Cont : (Nat → Prop) → Goroutine → World → Prop) (K : Nat → Prop) (g : Goroutine) (w : World) : Prop :=
  ∃ (b₀ : Frame) (a₀ : Act) (ops₀ : Array Oper) (i₀ : Nat) (rest₀ : List Nat) (k₀ : List Item) (cs : List Frame) (T : Array Value),
    g = G ((base L.wait).at ⟨T, []⟩ [.code (L7 L), .inLoop (L7 L), .inBlock 0]) (b₀.at a₀ (.inRegion ops₀ (i₀ :: rest₀) :: k₀) :: cs) ∧ T.size = 84 ∧ T[0]? = some (.pointer (some ⟨Wg, 0, none⟩)) ∧
    (∀ w', Kn K w w' → Cont K (G (b₀.at (a₀.put ((ops₀[i₀]?).bind (·.dst)) (.tuple #[])) (.inRegion ops₀ rest₀ :: k₀)) cs) w') ∧ WgLive L.tWg Wg w ∧ ¬ K Wg
section
variable {Wg : Nat} {Cont : (Nat → Prop) → Goroutine → World → Prop}
omit [Payload] in
set_option maxRecDepth 100000 in
set_option maxHeartbeats 8000000 in
/-- From the loop's head. -/
theorem waitRoundX {P : Program} (H : WgLib P L) (K : Nat → Prop) (g : Goroutine) (w : World) (h : AnchX L Wg Cont K g w) :
    ∃ m, Goes P true (RS L.tWg Wg K) DC0 (XW1 P L.tWg Wg (QX P Cont) (AnchX L Wg Cont) K) m g w := by
  lib_facts
  obtain ⟨b₀, a₀, ops₀, i₀, rest₀, k₀, cs, T, rfl, hT84, t0, hF0, hF1, hKW⟩ := h
  obtain ⟨FF, hFF⟩ : ∃ F : World → Prop, F = fun w => ∀ w', Kn K w w' → Cont K (G (b₀.at (a₀.put ((ops₀[i₀]?).bind (·.dst)) (.tuple #[])) (.inRegion ops₀ rest₀ :: k₀)) cs) w' := ⟨_, rfl⟩
  have hF2 : ∀ w w', Kn K w w' → FF w → FF w' := by rw [hFF]; exact fun w w' h1 h2 w'' h3 => h2 w'' (h1.trans h3)
  have hFC : ∀ w, FF w → ∀ w', Kn K w w' → Cont K (G (b₀.at (a₀.put ((ops₀[i₀]?).bind (·.dst)) (.tuple #[])) (.inRegion ops₀ rest₀ :: k₀)) cs) w' := by rw [hFF]; exact fun w h => h
  have hF : FF w ∧ WgLive L.tWg Wg w := ⟨by rw [hFF]; exact hF0, hF1⟩
  clear hFF
  obtain ⟨v0, v1, v2, v3, v4, v5, v6, v7, v8, v9, v10, v11, v12, v13, v14, v15, v16, v17, v18, v19, v20, v21, v22, v23, v24, v25, v26, v27, v28, v29, v30, v31, v32, v33, v34, v35, v36, v37, v38, v39, v40, v41, v42, v43, v44, v45, v46, v47, v48, v49, v50, v51, v52, v53, v54, v55, v56, v57, v58, v59, v60, v61, v62, v63, v64, v65, v66, v67, v68, v69, v70, v71, v72, v73, v74, v75, v76, v77, v78, v79, v80, v81, v82, v83, rfl⟩ := array84 T hT84
  clear hT84
  simp only [List.getElem?_toArray, List.getElem?_cons_zero, Option.some.injEq] at t0
  subst t0
  refine ⟨30, ?_⟩
  simp only [L7, body_wait, waitFn, Option.getD_some]
  u_c stepG_block (rs_rely hF2) hF
  u_c stepG_seq (rs_rely hF2) hF
  u_reg (rs_rely hF2) hF
  u_op (rs_rely hF2) hF
  u_op (rs_rely hF2) hF
  u_op (rs_rely hF2) hF
  u_call H.f_uLoad (nm_uLoad L) uLoadFn (rs_rely hF2) hF
  u_c stepG_seq (rs_rely hF2) hF
  u_reg (rs_rely hF2) hF
  u_op (rs_rely hF2) hF
  u_c stepG_region_end (rs_rely hF2) hF
  u_c stepG_seq (rs_rely hF2) hF
  u_reg (rs_rely hF2) hF
  u_op (rs_rely hF2) hF
  u_op (rs_rely hF2) hF
  u_op (rs_rely hF2) hF
  refine Goes.stop (fun w₁ h₁ => ?_)
  replace hF := rs_rely hF2 hF h₁
  clear h₁
  refine ⟨rfl, fun v hv hw => ?_⟩
  rcases Nat.eq_zero_or_pos v with rfl | hvp
  · replace hw : WgAt L.tWg Wg w₁ 0 0 := by simpa using hw
    refine ⟨_, stepG_load_atomic (v := 0) rfl rfl (by k_ne) rfl H.f_loadU64 (x_loadU64_n L) (x_loadU64_b L) (x_loadU64_x L) .u64 (x_loadU64_f L) rfl hw.cellSt, fun _ => ⟨50, ?_⟩, fun h => absurd rfl h⟩
    clear hw
    walk_nrm
    u_op (rs_rely hF2) hF
    u_c stepG_region_end (rs_rely hF2) hF
    u_c stepG_ret' (rs_rely hF2) hF
    u_leave1 H.f_uLoad (rs_rely hF2) hF
    u_op (rs_rely hF2) hF
    u_c stepG_region_end (rs_rely hF2) hF
    u_c stepG_seq (rs_rely hF2) hF
    u_reg (rs_rely hF2) hF
    u_op (rs_rely hF2) hF
    u_op (rs_rely hF2) hF
    u_op (rs_rely hF2) hF
    u_op (rs_rely hF2) hF
    u_c stepG_region_end (rs_rely hF2) hF
    u_c stepG_seq (rs_rely hF2) hF
    u_reg (rs_rely hF2) hF
    u_op (rs_rely hF2) hF
    u_op (rs_rely hF2) hF
    u_op (rs_rely hF2) hF
    u_op (rs_rely hF2) hF
    u_c stepG_region_end (rs_rely hF2) hF
    u_c stepG_seq (rs_rely hF2) hF
    u_c stepG_seq (rs_rely hF2) hF
    u_reg (rs_rely hF2) hF
    u_op (rs_rely hF2) hF
    u_op (rs_rely hF2) hF
    u_c stepG_region_end (rs_rely hF2) hF
    u_cond true (rs_rely hF2) hF
    u_c stepG_seq (rs_rely hF2) hF
    u_cond true (rs_rely hF2) hF
    u_c stepG_seq (rs_rely hF2) hF
    u_reg (rs_rely hF2) hF
    refine Goes.stop (fun w₅ h₅ => ?_)
    replace hF := rs_rely hF2 hF h₅
    clear h₅
    refine ⟨rfl, _, stepG_mark0 .enable (by simp) rfl rfl (by k_ne) rfl H.f_enable (x_enable_n L) (x_enable_b L) (x_enable_x L) (x_enable_f L), 12, ?_⟩
    walk_nrm
    u_c stepG_region_end (rs_rely hF2) hF
    u_reg (rs_rely hF2) hF
    u_op (rs_rely hF2) hF
    u_conv H.underlying_tWgP H.room_tWg (WgLive.cell0 hF.2).choose_spec (rs_rely hF2) hF
    refine Goes.stop (fun w₆ h₆ => ?_)
    replace hF := rs_rely hF2 hF h₆
    clear h₆
    refine ⟨rfl, _, stepG_markAt .acquire (by simp) rfl rfl (by k_ne) rfl H.f_acquire (x_acquire_n L) (x_acquire_b L) (x_acquire_x L) (x_acquire_f L) (by simp [Act.eval, stA]), _, hFC _ hF.1 _ (.refl K _), 40, ?_⟩
    have hA := atRel_refl w₆
    clear hF
    walk_nrm
    u_c stepG_region_end at_rely hA
    u_c stepG_seq at_rely hA
    u_c stepG_seq at_rely hA
    u_reg at_rely hA
    u_op at_rely hA
    u_op at_rely hA
    u_op at_rely hA
    u_op at_rely hA
    u_op at_rely hA
    u_op at_rely hA
    u_op at_rely hA
    u_op at_rely hA
    u_skip at_rely hA
    u_skip at_rely hA
    u_op at_rely hA
    u_c stepG_region_end at_rely hA
    u_cond false at_rely hA
    u_c stepG_skip at_rely hA
    u_c stepG_ret' at_rely hA
    u_leave0 H.f_wait at_rely hA
    exact Goes.stop fun w₇ h₇ => ⟨rfl, at_rely hA h₇⟩
  · obtain ⟨S, hS⟩ : ∃ S : Int, (v : Int) * KK = S := ⟨_, rfl⟩
    have a1 : S / 4294967296 = (v : Int) := by rw [← hS]; simp only [KK]; omega
    have b1 : bits .and .u64 S 2147483648 = 0 := by rw [← hS]; have := st_flag v 0 (by omega) (by omega); simpa [KK] using this
    have b2 : bits .and .u64 S 2147483647 = 0 := by rw [← hS]; have := st_waiters v 0 (by omega) (by omega); simpa [KK] using this
    have c1 : IntKind.i32.wrap (v : Int) = (v : Int) := by rw [IntKind.wrap_i32]; omega
    have w1 : IntKind.u64.wrap (S + 1) = S + 1 := by rw [IntKind.wrap_u64, ← hS]; simp only [KK]; omega
    have q3 : decide ((v : Int) < 0) = false := decide_eq_false (by omega)
    have q4 : decide (0 < (v : Int)) = true := decide_eq_true (by omega)
    have q5 : ((v : Int) == 0) = false := by simp; omega
    have q6 : decide ((v : Int) = 0) = false := decide_eq_false (by omega)
    rw [hS] at hw
    refine ⟨_, stepG_load_atomic (v := S) rfl rfl (by k_ne) rfl H.f_loadU64 (x_loadU64_n L) (x_loadU64_b L) (x_loadU64_x L) .u64 (x_loadU64_f L) rfl hw.cellSt, fun h0 => absurd h0 (by omega), fun _ => ⟨60, ?_⟩⟩
    clear hw
    walk_nrm
    u_op (rs_rely hF2) hF
    u_c stepG_region_end (rs_rely hF2) hF
    u_c stepG_ret' (rs_rely hF2) hF
    u_leave1 H.f_uLoad (rs_rely hF2) hF
    u_op (rs_rely hF2) hF
    u_c stepG_region_end (rs_rely hF2) hF
    u_c stepG_seq (rs_rely hF2) hF
    u_reg (rs_rely hF2) hF
    u_op (rs_rely hF2) hF
    u_op (rs_rely hF2) hF
    u_op (rs_rely hF2) hF
    u_op (rs_rely hF2) hF
    u_c stepG_region_end (rs_rely hF2) hF
    u_c stepG_seq (rs_rely hF2) hF
    u_reg (rs_rely hF2) hF
    u_op (rs_rely hF2) hF
    u_op (rs_rely hF2) hF
    u_op (rs_rely hF2) hF
    u_op (rs_rely hF2) hF
    u_c stepG_region_end (rs_rely hF2) hF
    u_c stepG_seq (rs_rely hF2) hF
    u_c stepG_seq (rs_rely hF2) hF
    u_reg (rs_rely hF2) hF
    u_op (rs_rely hF2) hF
    u_op (rs_rely hF2) hF
    u_c stepG_region_end (rs_rely hF2) hF
    u_cnd false (rs_rely hF2) hF
    u_c stepG_skip (rs_rely hF2) hF
    u_c stepG_seq (rs_rely hF2) hF
    u_reg (rs_rely hF2) hF
    u_op (rs_rely hF2) hF
    u_op (rs_rely hF2) hF
    u_op (rs_rely hF2) hF
    u_op (rs_rely hF2) hF
    u_op (rs_rely hF2) hF
    u_op (rs_rely hF2) hF
    u_call H.f_uCas (nm_uCas L) uCasFn (rs_rely hF2) hF
    u_c stepG_seq (rs_rely hF2) hF
    u_reg (rs_rely hF2) hF
    u_op (rs_rely hF2) hF
    u_c stepG_region_end (rs_rely hF2) hF
    u_c stepG_seq (rs_rely hF2) hF
    u_reg (rs_rely hF2) hF
    u_op (rs_rely hF2) hF
    u_op (rs_rely hF2) hF
    u_op (rs_rely hF2) hF
    u_op (rs_rely hF2) hF
    u_op (rs_rely hF2) hF
    refine Goes.stop (fun w₂ h₂ => ?_)
    replace hF := rs_rely hF2 hF h₂
    clear h₂
    refine ⟨rfl, fun v' hv' hw => ⟨fun e => ?_, fun e => ?_⟩⟩
    · subst e
      rw [hS] at hw ⊢
      refine ⟨_, (stepG_cas_hit (v := S) (n := S + 1) rfl rfl (by k_ne) rfl H.f_casU64 (x_casU64_n L) (x_casU64_b L) (x_casU64_x L) .u64 (x_casU64_f L) rfl rfl rfl hw.cellSt (hw.thaw 0)).trans (by rfl), 70, ?_⟩
      replace hF : FF (w₂.setCell (stA Wg) (.int .u64 (S + 1))) ∧ WgLive L.tWg Wg (w₂.setCell (stA Wg) (.int .u64 (S + 1))) := ⟨hF2 _ _ (kn_wg hKW w₂ 0 _) hF.1, ⟨_, _, hw.setSt _⟩⟩
      clear hw
      walk_nrm
      u_op (rs_rely hF2) hF
      u_c stepG_region_end (rs_rely hF2) hF
      u_c stepG_ret' (rs_rely hF2) hF
      u_leave1 H.f_uCas (rs_rely hF2) hF
      u_c stepG_region_end (rs_rely hF2) hF
      u_cond true (rs_rely hF2) hF
      u_c stepG_seq (rs_rely hF2) hF
      u_c stepG_seq (rs_rely hF2) hF
      u_reg (rs_rely hF2) hF
      u_op (rs_rely hF2) hF
      u_op (rs_rely hF2) hF
      u_op (rs_rely hF2) hF
      u_op (rs_rely hF2) hF
      u_c stepG_region_end (rs_rely hF2) hF
      u_cond true (rs_rely hF2) hF
      u_reg (rs_rely hF2) hF
      u_op (rs_rely hF2) hF
      u_op (rs_rely hF2) hF
      u_op (rs_rely hF2) hF
      u_conv H.underlying_tPU32 H.room_tU32 (WgLive.cell1 hF.2).choose_spec (rs_rely hF2) hF
      refine Goes.stop (fun w₈ h₈ => ?_)
      replace hF := rs_rely hF2 hF h₈
      clear h₈
      refine ⟨rfl, _, stepG_markAt .write (by simp) rfl rfl (by k_ne) rfl H.f_raceWrite (x_raceWrite_n L) (x_raceWrite_b L) (x_raceWrite_x L) (x_raceWrite_f L) (ad := ⟨Wg, 1, none⟩) (by simp [Act.eval]), ?_⟩
      walk_nrm
      u_c stepG_region_end (rs_rely hF2) hF
      u_c stepG_seq (rs_rely hF2) hF
      u_reg (rs_rely hF2) hF
      u_op (rs_rely hF2) hF
      u_c stepG_region_end (rs_rely hF2) hF
      u_c stepG_seq (rs_rely hF2) hF
      u_c stepG_seq (rs_rely hF2) hF
      u_reg (rs_rely hF2) hF
      u_op (rs_rely hF2) hF
      u_op (rs_rely hF2) hF
      u_op (rs_rely hF2) hF
      u_op (rs_rely hF2) hF
      u_skip (rs_rely hF2) hF
      u_op (rs_rely hF2) hF
      u_c stepG_region_end (rs_rely hF2) hF
      u_cond false (rs_rely hF2) hF
      u_c stepG_skip (rs_rely hF2) hF
      u_c stepG_seq (rs_rely hF2) hF
      u_reg (rs_rely hF2) hF
      u_op (rs_rely hF2) hF
      u_op (rs_rely hF2) hF
      u_op (rs_rely hF2) hF
      u_op (rs_rely hF2) hF
      refine Goes.stop (fun w₃ h₃ => ?_)
      replace hF := rs_rely hF2 hF h₃
      clear h₃
      refine ⟨rfl, rfl, fun ⟨st, hw⟩ => stepG_semacquire_wait rfl rfl rfl H.f_semacquire (x_semacquire_n L) (x_semacquire_b L) (x_semacquire_x L) (x_semacquire_f L) (by simp [Act.eval, smA]) hw.cellSm, fun hf => ?_⟩
      refine ⟨_, (stepG_semacquire (n := 1) rfl rfl (by k_ne) rfl H.f_semacquire (x_semacquire_n L) (x_semacquire_b L) (x_semacquire_x L) (x_semacquire_f L) (by simp [Act.eval, smA]) hf.cellSm (by k_ne) (hf.thaw 1)).trans (by rfl), 30, ?_⟩
      replace hF : FF (w₃.setCell (smA Wg) (.int .u32 0)) ∧ WgLive L.tWg Wg (w₃.setCell (smA Wg) (.int .u32 0)) := ⟨hF2 _ _ (kn_wg hKW w₃ 1 _) hF.1, ⟨_, _, hf.setSm 0⟩⟩
      clear hf
      walk_nrm
      u_c stepG_region_end (rs_rely hF2) hF
      u_c stepG_seq (rs_rely hF2) hF
      u_reg (rs_rely hF2) hF
      u_op (rs_rely hF2) hF
      u_op (rs_rely hF2) hF
      u_op (rs_rely hF2) hF
      u_call H.f_uLoad (nm_uLoad L) uLoadFn (rs_rely hF2) hF
      u_c stepG_seq (rs_rely hF2) hF
      u_reg (rs_rely hF2) hF
      u_op (rs_rely hF2) hF
      u_c stepG_region_end (rs_rely hF2) hF
      u_c stepG_seq (rs_rely hF2) hF
      u_reg (rs_rely hF2) hF
      u_op (rs_rely hF2) hF
      u_op (rs_rely hF2) hF
      u_op (rs_rely hF2) hF
      refine Goes.stop (fun w₄ h₄ => ?_)
      replace hF := rs_rely hF2 hF h₄
      clear h₄
      refine ⟨rfl, fun hw => ⟨_, stepG_load_atomic (v := 0) rfl rfl (by k_ne) rfl H.f_loadU64 (x_loadU64_n L) (x_loadU64_b L) (x_loadU64_x L) .u64 (x_loadU64_f L) rfl hw.cellSt, 30, ?_⟩⟩
      clear hw
      walk_nrm
      u_op (rs_rely hF2) hF
      u_c stepG_region_end (rs_rely hF2) hF
      u_c stepG_ret' (rs_rely hF2) hF
      u_leave1 H.f_uLoad (rs_rely hF2) hF
      u_op (rs_rely hF2) hF
      u_op (rs_rely hF2) hF
      u_c stepG_region_end (rs_rely hF2) hF
      u_c stepG_seq (rs_rely hF2) hF
      u_cond true (rs_rely hF2) hF
      u_c stepG_seq (rs_rely hF2) hF
      u_reg (rs_rely hF2) hF
      refine Goes.stop (fun w₅ h₅ => ?_)
      replace hF := rs_rely hF2 hF h₅
      clear h₅
      refine ⟨rfl, _, stepG_mark0 .enable (by simp) rfl rfl (by k_ne) rfl H.f_enable (x_enable_n L) (x_enable_b L) (x_enable_x L) (x_enable_f L), 12, ?_⟩
      walk_nrm
      u_c stepG_region_end (rs_rely hF2) hF
      u_reg (rs_rely hF2) hF
      u_op (rs_rely hF2) hF
      u_conv H.underlying_tWgP H.room_tWg (WgLive.cell0 hF.2).choose_spec (rs_rely hF2) hF
      refine Goes.stop (fun w₆ h₆ => ?_)
      replace hF := rs_rely hF2 hF h₆
      clear h₆
      refine ⟨rfl, _, stepG_markAt .acquire (by simp) rfl rfl (by k_ne) rfl H.f_acquire (x_acquire_n L) (x_acquire_b L) (x_acquire_x L) (x_acquire_f L) (by simp [Act.eval, stA]), _, hFC _ hF.1 _ (.refl K _), 40, ?_⟩
      have hA := atRel_refl w₆
      clear hF
      walk_nrm
      u_c stepG_region_end at_rely hA
      u_c stepG_seq at_rely hA
      u_c stepG_seq at_rely hA
      u_reg at_rely hA
      u_op at_rely hA
      u_c stepG_region_end at_rely hA
      u_cond false at_rely hA
      u_c stepG_skip at_rely hA
      u_c stepG_ret' at_rely hA
      u_leave0 H.f_wait at_rely hA
      exact Goes.stop fun w₇ h₇ => ⟨rfl, at_rely hA h₇⟩
    · refine ⟨_, stepG_cas_miss (v := (v' : Int) * KK) (old := S) (n := S + 1) rfl rfl (by k_ne) rfl H.f_casU64 (x_casU64_n L) (x_casU64_b L) (x_casU64_x L) .u64 (x_casU64_f L) rfl rfl rfl hw.cellSt (hw.thaw 0) (by rw [← hS]; simp only [KK]; omega), 20, ?_⟩
      clear hw
      walk_nrm
      u_op (rs_rely hF2) hF
      u_c stepG_region_end (rs_rely hF2) hF
      u_c stepG_ret' (rs_rely hF2) hF
      u_leave1 H.f_uCas (rs_rely hF2) hF
      u_c stepG_region_end (rs_rely hF2) hF
      u_cond false (rs_rely hF2) hF
      u_c stepG_skip (rs_rely hF2) hF
      u_c stepG_inBlock (rs_rely hF2) hF
      u_c stepG_inLoop (rs_rely hF2) hF
      refine Goes.stop (fun w₃ h₃ => ?_)
      replace hF := rs_rely hF2 hF h₃
      exact ⟨_, _, _, _, _, _, _, _, rfl, by simp, by simp, hFC _ hF.1, hF.2, hKW⟩
omit [Payload] in
set_option maxRecDepth 100000 in
/-- From Wait's entry to the loop's head. -/
theorem waitStartX {P : Program} (H : WgLib P L) {b₀ : Frame} {a₀ : Act} {ops₀ : Array Oper} {i₀ : Nat} {rest₀ : List Nat} {k₀ : List Item} {cs : List Frame} (K : Nat → Prop) (w : World)
    (hC : ∀ w', Kn K w w' → Cont K (G (b₀.at (a₀.put ((ops₀[i₀]?).bind (·.dst)) (.tuple #[])) (.inRegion ops₀ rest₀ :: k₀)) cs) w') (hl : WgLive L.tWg Wg w) (hKW : ¬ K Wg) :
    Goes P true (RS L.tWg Wg K) DC0 (XKd P L.tWg Wg (AnchX L Wg Cont) K) 3
      (G ((base L.wait).at ⟨#[.pointer (some ⟨Wg, 0, none⟩), undef, undef, undef, undef, undef, undef, undef, undef, undef, undef, undef, undef, undef, undef, undef, undef, undef, undef, undef, undef, undef, undef, undef, undef, undef, undef, undef, undef, undef, undef, undef, undef, undef, undef, undef, undef, undef, undef, undef, undef, undef, undef, undef, undef, undef, undef, undef, undef, undef, undef, undef, undef, undef, undef, undef, undef, undef, undef, undef, undef, undef, undef, undef, undef, undef, undef, undef, undef, undef, undef, undef, undef, undef, undef, undef, undef, undef, undef, undef, undef, undef, undef, undef], []⟩ [.code (body_wait L)]) (b₀.at a₀ (.inRegion ops₀ (i₀ :: rest₀) :: k₀) :: cs)) w := by
  lib_facts
  obtain ⟨FF, hFF⟩ : ∃ F : World → Prop, F = fun w => ∀ w', Kn K w w' → Cont K (G (b₀.at (a₀.put ((ops₀[i₀]?).bind (·.dst)) (.tuple #[])) (.inRegion ops₀ rest₀ :: k₀)) cs) w' := ⟨_, rfl⟩
  have hF2 : ∀ w w', Kn K w w' → FF w → FF w' := by rw [hFF]; exact fun w w' h1 h2 w'' h3 => h2 w'' (h1.trans h3)
  have hFC : ∀ w, FF w → ∀ w', Kn K w w' → Cont K (G (b₀.at (a₀.put ((ops₀[i₀]?).bind (·.dst)) (.tuple #[])) (.inRegion ops₀ rest₀ :: k₀)) cs) w' := by rw [hFF]; exact fun w h => h
  have hF : FF w ∧ WgLive L.tWg Wg w := ⟨by rw [hFF]; exact hC, hl⟩
  clear hFF hC hl
  simp only [body_wait, waitFn, Option.getD_some]
  u_c stepG_seq (rs_rely hF2) hF
  u_cond true (rs_rely hF2) hF
  u_reg (rs_rely hF2) hF
  refine Goes.stop (fun w₁ h₁ => ?_)
  replace hF := rs_rely hF2 hF h₁
  clear h₁
  refine ⟨rfl, _, stepG_mark0 .disable (by simp) rfl rfl (by k_ne) rfl H.f_disable (x_disable_n L) (x_disable_b L) (x_disable_x L) (x_disable_f L), 3, ?_⟩
  walk_nrm
  u_c stepG_region_end (rs_rely hF2) hF
  u_c stepG_block (rs_rely hF2) hF
  u_c stepG_loop (rs_rely hF2) hF
  exact Goes.stop fun w₂ h₂ => have hF := rs_rely hF2 hF h₂; ⟨_, _, _, _, _, _, _, _, rfl, by simp, by simp, hFC _ hF.1, hF.2, hKW⟩
end
end Sim
end Go.Proofs.Ytaealkfnhhmmcaa
/- Goroutine 0 beside goroutines that are only leaving: 'from here the run ends well', without any count. No condition. -/
namespace Go.Proofs.Ytaealkfnhhmmcaa
namespace Sim
open Go.Conc Go.ConcN
open Go.ConcR (KK wgBlock WgAt stA smA rd wr mk Payload DC0)
set_option linter.unusedVariables false
section
variable {P : Program} {Shun : Go.Loc → Prop} {Post : Value → World → Prop}
/-- From here, beside whatever leavers, the run ends well. -/
def J (P : Program) (Post : Value → World → Prop) (Shun : Go.Loc → Prop) (a : Goroutine) (w : World) : Prop :=
  ∀ (d : Nat) (gs : Array Goroutine) (sl : Option (Nat × Nat)) (t : Trace) (q : Nat → Nat), Bs P Shun gs a (w.at d) t q → Ends P Post (crowd gs (w.at d) sl) t
theorem J.at {a : Goroutine} {w w₁ : World} (h : J P Post Shun a w) (k : AtRel w w₁) : J P Post Shun a w₁ := by
  obtain ⟨d, rfl⟩ := k
  exact fun d' gs sl t q hb => h d' gs sl t q hb
theorem J.self {a : Goroutine} {w : World} (h : J P Post Shun a w) {gs : Array Goroutine} {sl : Option (Nat × Nat)} {t : Trace} {q : Nat → Nat} (hb : Bs P Shun gs a w t q) : Ends P Post (crowd gs w sl) t := by
  have := h w.drawn gs sl t q
  exact this hb
/-- A stretch whose steps are counted. -/
theorem J.goes {n : Nat} {a : Goroutine} {w : World} (h : Goes P true AtRel (DB Shun) (J P Post Shun) n a w) : J P Post Shun a w := by
  intro d gs sl t q hb
  obtain ⟨N, gs', a', w', sl', t', q', h1, h2, h3, h4⟩ := walkX _ n gs a (w.at d) sl t q (Nat.le_refl _) hb (Goes.rely atRel_trans h ⟨d, rfl⟩)
  exact Ends.after h1 (h4.self h3)
theorem goes_db {Stop : Goroutine → World → Prop} : ∀ {n : Nat} {a : Goroutine} {w : World}, Goes P true AtRel DC0 Stop n a w → Goes P true AtRel (DB Shun) Stop n a w
  | 0, a, w, h => h
  | n + 1, a, w, h => by
    rcases h with h | ⟨hr, h⟩
    · exact .inl h
    · refine .inr ⟨hr, fun w₁ h₁ => ?_⟩
      obtain ⟨g', w', es, hs, ⟨e1, e2⟩, h2⟩ := goes_elim (h w₁ h₁)
      rw [hs, goes_go]
      refine ⟨?_, goes_db h2⟩
      rw [e1, e2]
      exact ⟨Nat.le_refl _, fun e he => by simp at he⟩
/-- A stretch that lists nothing and turns nothing. -/
theorem J.quiet {n : Nat} {a : Goroutine} {w : World} (h : Goes P true AtRel DC0 (J P Post Shun) n a w) : J P Post Shun a w := J.goes (goes_db h)
/-- One step. -/
theorem J.step {a a' : Goroutine} {w : World} (hr : a.status = .running) (h : ∀ w₁, AtRel w w₁ → ∃ w' es, stepG P true a w₁ = .go a' w' es ∧ DB Shun w₁ w' es ∧ J P Post Shun a' w') : J P Post Shun a w := by
  refine J.goes (n := 1) (.inr ⟨hr, fun w₁ h₁ => ?_⟩)
  obtain ⟨w', es, h1, h2, h3⟩ := h w₁ h₁
  rw [h1, goes_go]
  exact ⟨h2, fun w₂ h₂ => h3.at h₂⟩
/-- A block that is not made yet may be shunned. -/
def shunNew (Shun : Go.Loc → Prop) (b : Nat) : Go.Loc → Prop := fun l => Shun l ∨ ∃ ad : Addr, l = .cell ad ∧ ad.block = b
theorem J.shun {a : Goroutine} {w : World} (h : J P Post (shunNew Shun w.heap.size) a w) : J P Post Shun a w := by
  intro d gs sl t q hb
  refine h d gs sl t q ⟨hb.h0, hb.lv, ⟨hb.pt.clean, fun i x hx hm => (hb.pt.known i x hx hm).imp id fun k => ⟨.inl k.1, k.2⟩, hb.pt.over, hb.pt.hears, hb.pt.seen⟩, fun i op x hi hx hs => ?_, hb.no, hb.rl, hb.mem⟩
  rcases hs with hs | ⟨ad, e1, e2⟩
  · exact hb.qt i op x hi hx hs
  · exfalso
    have hf := fresh_of_low hb.pt.seen (l := x.loc) (b := ad.block) (by rw [e1]; rfl) (by rw [e2]; exact Nat.le_refl _)
    exact hf i x (by rw [touchAt_of hi]; exact hx) rfl
/-- The last step. -/
theorem J.last {a : Goroutine} {w : World} (h : AtLast P Shun Post a w) : J P Post Shun a w := by
  intro d gs sl t q hb
  refine endX (n := 0) hb fun w₁ h₁ => ?_
  obtain ⟨d', rfl⟩ := h₁
  exact fun w₂ h₂ => h w₂ (by obtain ⟨d2, rfl⟩ := h₂; exact ⟨d2, rfl⟩)
/-- Through the phase. -/
theorem J.phase [Payload] {ty : TypeId} {Wg C n : Nat} {Res : Nat → Value → (Nat → Prop) → World → Prop} {Q Anch : (Nat → Prop) → Goroutine → World → Prop} {SB : Nat → Prop} (H : Hyp P ty Wg C n Res Q Anch Shun SB) {a : Goroutine} {w : World} {K0 : Nat → Prop} {Lf : Nat}
    (hS : Starts P ty Wg C n Res Q Anch n Lf K0 a w) (hwg : WgAt ty Wg w 0 0) (hpay : PayAt C n w) (hLf : Lf ≤ w.heap.size) (hk0 : ∀ b, K0 b → b < w.heap.size) (hsh : ∀ b, K0 b → ¬ SB b) (hc0 : ¬ K0 C) (hsb : ∀ b, SB b → b < w.heap.size)
    (hnext : ∀ (a' : Goroutine) (w' : World) (E : Nat → WX) (K0' : Nat → Prop) (Lf' : Nat), Q K0' a' w' → PayAt C n w' → (∀ i, i < n → Has C i (E i).v w' ∧ Res i (E i).v (E i).K w') → Geo C n SB K0' Lf' E w' → J P Post Shun a' w') : J P Post Shun a w := by
  intro d gs sl t q hb
  have hpos : 0 < gs.size := (Array.getElem?_eq_some_iff.1 hb.h0).1
  have hS' : Starts P ty Wg C n Res Q Anch n Lf K0 a (w.at d) := by
    cases n with
    | zero => obtain ⟨m, h⟩ := hS; exact ⟨m, h.rely (kn_at _ w d)⟩
    | succ r => obtain ⟨m, h⟩ := hS; exact ⟨m, h.rely (kn_at _ w d)⟩
  obtain ⟨N, m', t', h1, gs', w', sl', a', q', E, K0', Lf', rfl, h2, h3, h4, h5, h6, h7⟩ := phaseX H (e := gs.size - 1) (sl := sl) (by omega) hb hS' hwg hpay hLf hk0 hsh hc0 hsb
  exact Ends.after h1 ((hnext a' w' E K0' Lf' h4 h5 h6 h7).self h3)
/-- A first moment. -/
theorem J.run {a : Goroutine} {w : World} (h : J P Post (fun _ => False) a w) : Ends P Post (solo a w) #[] := by
  rw [solo_eq_crowd]
  exact h.self (bs_first a w)
end
section
variable {P : Program} {L : LSet} {Shun : Go.Loc → Prop} {SB S : Nat → Prop} {Post : Value → World → Prop} {w : World}
theorem loc_same {bv : List Frame} {ρ : BR} {gv gc : Goroutine} (h : GR P L bv bv ρ gv gc) (hw : WR P.globals.size (fun _ => False) ρ w w) (e : gv = gc) : Loc P L bv gv w := by
  subst e
  exact ⟨ρ, h, hw⟩
/-- Into a function of pure code and back. -/
theorem J.call (hS : okSet P L) (hSB : ∀ l, Shun l → ∃ a : Addr, l = .cell a ∧ SB a.block) (hj : JW P SB S w) {f : FuncId} (hL : L.ok f = true) {args : Array Value} (hargs : AR (idS S) args args) {Rh : Value → Array Obj → Prop}
    (H : ∀ T, Calls P f args (wt w T) fun e w' => ∃ v, e = .returned v ∧ Rh v w'.heap) {c : Frame} {cs : List Frame} (hnext : ∀ v w', PostX P SB S w Rh v w' → J P Post Shun (G (c.finish v) cs) w') : J P Post Shun (G (Frame.enter P f args .normal) (c :: cs)) w := by
  obtain ⟨fn, c', hf, hb, hok⟩ := hS.1 f hL
  have henter : Frame.enter P f args .normal = (base f).at ⟨args ++ Array.replicate (fn.ntmps - args.size) undef, []⟩ [.code c'] := by
    simp [Frame.enter, hf, hb, Frame.at, base]
  have har : AR (idS S) (args ++ Array.replicate (fn.ntmps - args.size) undef) (args ++ Array.replicate (fn.ntmps - args.size) undef) := hargs.app (ar_undef _ _)
  have hgr : ∀ bv bc, GR P L bv bc (idS S) (G (Frame.enter P f args .normal) bv) (G (Frame.enter P f args .normal) bc) := fun bv bc => by
    rw [henter]
    exact .run f _ _ _ _ _ ⟨fn, hf⟩ ((okTodo_cons (i := .code c')).2 ⟨hok, rfl⟩) har.ad .base
  obtain ⟨n, hn⟩ := runX hS (Shun := Shun) hSB hj (hgr [c0 P] (c :: cs)) ⟨_, hgr _ _, hj.wr⟩ (Rh := Rh) (Stop := J P Post Shun) (fun T => by
    obtain ⟨e, w', fr, ⟨v, rfl, hR⟩, ⟨n, hs⟩, hfn, hm, hd, hk, fn', hf', hr'⟩ := H T [c0 P]
    exact ⟨n, fr, w', hs, hm, v, fn', hf', hr', hR⟩) hnext
  exact J.goes hn
/-- From the midst of a function of pure code to its return. -/
theorem J.rest (hS : okSet P L) (hSB : ∀ l, Shun l → ∃ a : Addr, l = .cell a ∧ SB a.block) (hj : JW P SB S w) {f : FuncId} {fn : Func} (hf : P.funcs[f]? = some fn) {c : Code} (hok : okCode P L (L.dead f) c = true) {t tc : Array Value} (ht : AD (L.dead f) (idS S) t tc) (htt : AD (L.dead f) (idS S) t t) {Rh : Value → Array Obj → Prop}
    (H : ∀ T, c.wp P (bodyPost P fn fun e w' => ∃ v, e = .returned v ∧ Rh v w'.heap) ⟨t, []⟩ (wt w T)) {c1 : Frame} {cs : List Frame} (hnext : ∀ v w', PostX P SB S w Rh v w' → J P Post Shun (G (c1.finish v) cs) w') : J P Post Shun (G ((base f).at ⟨tc, []⟩ [.code c]) (c1 :: cs)) w := by
  have hgr : GR P L [c0 P] (c1 :: cs) (idS S) (G ((base f).at ⟨t, []⟩ [.code c]) [c0 P]) (G ((base f).at ⟨tc, []⟩ [.code c]) (c1 :: cs)) :=
    .run f _ _ _ _ _ ⟨fn, hf⟩ ((okTodo_cons (i := .code c)).2 ⟨hok, rfl⟩) ht .base
  have hgv : GR P L [c0 P] [c0 P] (idS S) (G ((base f).at ⟨t, []⟩ [.code c]) [c0 P]) (G ((base f).at ⟨t, []⟩ [.code c]) [c0 P]) :=
    .run f _ _ _ _ _ ⟨fn, hf⟩ ((okTodo_cons (i := .code c)).2 ⟨hok, rfl⟩) htt .base
  obtain ⟨n, hn⟩ := runX hS (Shun := Shun) hSB hj hgr ⟨_, hgv, hj.wr⟩ (Rh := Rh) (Stop := J P Post Shun) (fun T => by
    obtain ⟨e, a', w', hq, harr⟩ := H T (base f) [] [c0 P]
    cases e with
    | normal =>
      obtain ⟨hd, v, hr, v', e', hR⟩ := hq
      cases e'
      obtain ⟨n, hs⟩ := Steps.trans harr (.one step_end)
      obtain ⟨t', ds⟩ := a'
      simp only at hd
      subst hd
      exact ⟨n, _, w', hs, rfl, v, fn, hf, hr, hR⟩
    | ret =>
      obtain ⟨hd, v, hr, v', e', hR⟩ := hq
      cases e'
      obtain ⟨todo, n, hs⟩ := harr
      exact ⟨n, _, w', hs, rfl, v, fn, hf, hr, hR⟩
    | panic ch => obtain ⟨_, v, e', _⟩ := hq; cases e'
    | outgrown => obtain ⟨v, e', _⟩ := hq; cases e'
    | exit id => exact hq.elim
    | goto l => exact hq.elim) hnext
  exact J.goes hn
end
end Sim
end Go.Proofs.Ytaealkfnhhmmcaa
/- A goroutine in company goes through a call of pure code; operations and control in company. No condition. -/
namespace Go.Proofs.Ytaealkfnhhmmcaa
namespace Sim
open Go.Conc Go.ConcN
set_option linter.unusedVariables false
section
variable {P : Program} {L : LSet}
/-- What a lone call leaves. -/
def GdR (P : Program) (Rh : Value → Array Obj → Prop) (fr : Frame) (h : Array Obj) : Prop := ∃ v w' fn, w'.heap = h ∧ P.funcs[fr.fn]? = some fn ∧ (results fn fr.tmps).run P w' = .ok v w' ∧ Rh v h
theorem enter_gr (hS : okSet P L) {f : FuncId} (hL : L.ok f = true) {ρ : BR} {args args' : Array Value} (h : AR ρ args args') (bv bc : List Frame) : GR P L bv bc ρ (G (Frame.enter P f args .normal) bv) (G (Frame.enter P f args' .normal) bc) := by
  obtain ⟨fn, c, hf, hb, hok⟩ := hS.1 f hL
  rw [enter_at args hf hb, enter_at args' hf hb, h.1]
  exact .run f _ _ _ _ _ ⟨fn, hf⟩ ((okTodo_cons (i := .code c)).2 ⟨hok, rfl⟩) (h.app (ar_undef ρ _)).ad .base
/-- A lone contract, within a number of steps that no tape moves. -/
theorem ln_call (hS : okSet P L) {f : FuncId} (hL : L.ok f = true) {ρ : BR} {args : Array Value} (hargs : AR ρ args args) {wv : World} (hw : WR P.globals.size (fun _ => False) ρ wv wv) {Rh : Value → Array Obj → Prop}
    (H : ∀ T, Calls P f args (wt wv T) fun e w' => ∃ v, e = .returned v ∧ Rh v w'.heap) : ∃ n, LN P L (GdR P Rh) n (G (Frame.enter P f args .normal) [c0 P]) wv :=
  ln_of_runs hS ⟨ρ, enter_gr hS hL hargs _ _, hw⟩ fun T => by
    obtain ⟨e, w', fr, ⟨v, rfl, hR⟩, ⟨n, hs⟩, hfn, hm, hd, hk, fn', hf', hr'⟩ := H T [c0 P]
    exact ⟨n, fr, w', hs, hm, v, w', fn', rfl, hf', hr', hR⟩
/-- Through a call, in company. -/
theorem co_call (hS : okSet P L) {main : Bool} {Lk : Nat → Prop} {f : FuncId} (hL : L.ok f = true) {ρ0 : BR} {args args' : Array Value} (hargs : AR ρ0 args args') {wv wc : World} {K : Nat → Prop} (hw : WR P.globals.size Lk ρ0 wv wc) (hK : ∀ b c, ρ0 b c → K c)
    {Rh : Value → Array Obj → Prop} {n m : Nat} (hn : LN P L (GdR P Rh) n (G (Frame.enter P f args .normal) [c0 P]) wv) {Stop : (Nat → Prop) → Goroutine → World → Prop} {c : Frame} {cs : List Frame}
    (hnext : ∀ (K' : Nat → Prop) (ρ : BR) (v v' : Value) (wv' wc' : World), Rh v wv'.heap → VR ρ v v' → WR P.globals.size Lk ρ wv' wc' → (∀ x, K x → K' x) → (∀ x y, ρ x y → K' y) → (∀ x, K' x → K x ∨ wc.heap.size ≤ x) → wc.heap.size ≤ wc'.heap.size → (∀ x, Lk x → K x → wc'.heap[x]? = wc.heap[x]?) → Co P main Lk Stop m K' (G (c.finish v') cs) wc') :
    Co P main Lk Stop (m + 1 + n) K (G (Frame.enter P f args' .normal) (c :: cs)) wc := by
  refine Co.bind (k := m + 1) (S1 := fun K g w₁ => g.status = .running ∧ ∃ g' w' es, stepG P main g w₁ = .go g' w' es ∧ Did Lk K w₁ w' es ∧ Co P main Lk Stop m (grow K w₁ w') g' w') (fun K g w h => .inr ⟨(h w (.refl K w)).1, fun w₁ hr => (h w₁ hr).2⟩) ?_
  refine co_of_ln hS (bc := c :: cs) (K0 := K) (ρ0 := ρ0) (s0 := wc.heap.size) (wz := wc) (fun K1 ρ gv gc wv1 wc1 hf hgd hgr hwr hle hKr hfr hk1 hk2 hsz hzz => ?_) n K ρ0 _ _ wv wc hn (enter_gr hS hL hargs _ _) hw (BR.le_refl _) hK (fun x y h => .inl h) (fun x h => h) (fun x h => .inl h) (Nat.le_refl _) (fun x h1 h2 => rfl)
  obtain ⟨f1, tv, tc, todo, hL1, ht, rfl, rfl⟩ := fin_gr hgr hf
  obtain ⟨v, w', fn', hh, hf1, hr, hR⟩ := hgd
  have hf1' : P.funcs[f1]? = some fn' := hf1
  have hr' : (results fn' tv).run P w' = .ok v w' := hr
  have hwr' : WR P.globals.size Lk ρ (wt w' (tapeOf w' wc1)) wc1 := by
    refine ⟨hwr.fn, hwr.inj, fun b c hbc => ?_, hwr.lk, hwr.gl, ?_, hwr.gc⟩
    · show OR _ ρ w'.heap[b]? _
      rw [hh]
      exact hwr.obj b c hbc
    · show _ ≤ w'.heap.size
      rw [hh]
      exact hwr.gv
  have hrl := (run_local (ns_results fn' tv) (w := w') (T := w'.tape) (T' := tapeOf w' wc1) hr' (fun n q h1 h2 => absurd h1 (by omega))).1
  refine ⟨rfl, ?_⟩
  rcases (sr_results fn' ht (hS.2 f1 fn' hf1')).came _ wc1 #[] hwr' (ts_tapeOf w' wc1) with ⟨hx, w3, g1, g2⟩ | ⟨a, b, wv', wc', ρ', es', g1, g2, g3, g4, g5, g6, g7⟩
  · rw [hrl] at g1; cases g1
  · rw [hrl] at g1
    cases g1
    have hran : ∀ x y, ρ' x y → grow K1 wc1 wc' y := fun x y hx => by
      rcases g6.fresh x y hx with h | h
      · exact .inl (hKr x y h)
      · refine .inr ⟨h, ?_⟩
        rcases g4.obj x y hx with ⟨_, _, _, _, _, _, hy, _⟩ | ⟨_, _, _, _, _, _, hy, _⟩ <;> exact (Array.getElem?_eq_some_iff.1 hy).1
    refine ⟨_, wc', seen P f1 es', back_ok hf1' (by simpa using g2), ⟨g6.size, fun y hy hl => g6.far y hy (hl.imp id fun hn ⟨x, hx⟩ => hn (hKr x y hx)), g6.tape, g6.os, g6.output, fun e he => ?_⟩, ?_⟩
    · rcases g7 e (mem_seen he) with ⟨ad, wr, h1, ⟨x, hx⟩, h3⟩ | ⟨r, h1, x, hx⟩ | h1
      · exact .inl ⟨ad, wr, h1, hran x _ hx, h3⟩
      · exact .inr (.inl ⟨r, h1, hran x _ hx⟩)
      · exact .inr (.inr h1)
    · refine hnext _ ρ' v b (wt w' (tapeOf w' wc1)) wc' (by show Rh v w'.heap; rw [hh]; exact hR) g3 g4 (fun x hx => .inl (hk1 x hx)) hran (fun x hx => ?_) (Nat.le_trans hsz g6.size) (fun x h1 h2 => (g6.far x (hwr.lk x h1) (.inl h1)).trans (hzz x h1 h2))
      rcases hx with h | h
      · exact hk2 x h
      · exact .inr (Nat.le_trans hsz h.1)
end
end Sim
end Go.Proofs.Ytaealkfnhhmmcaa
/- A goroutine in company: stretches that list nothing; a region that draws its order; entering a call. No condition. -/
namespace Go.Proofs.Ytaealkfnhhmmcaa
namespace Sim
open Go.Conc Go.ConcN
open Go.ConcR (DC0)
set_option linter.unusedVariables false
section
variable {P : Program} {main : Bool} {Lk : Nat → Prop} {Stop : (Nat → Prop) → Goroutine → World → Prop}
theorem knT (K : Nat → Prop) : ∀ a b c, Kn K a b → Kn K b c → Kn K a c := fun _ _ _ h k => h.trans k
/-- A stretch that lists nothing and turns nothing. -/
theorem co_quiet {m : Nat} {K : Nat → Prop} : ∀ {n : Nat} {g : Goroutine} {w : World}, Goes P main (Kn K) DC0 (fun g w => Co P main Lk Stop m K g w) n g w → Co P main Lk Stop (m + n) K g w
  | 0, g, w, h => h w (.refl K w)
  | n + 1, g, w, h => by
    rcases h with h | ⟨hs, h⟩
    · exact (h w (.refl K w)).more (by omega)
    · refine .inr ⟨hs, fun w₁ hr => ?_⟩
      obtain ⟨g', w', es, hgo, ⟨e1, e2⟩, h2⟩ := goes_elim (h w₁ hr)
      rw [e1, e2] at hgo
      rw [e1] at h2
      refine ⟨g', w₁, #[], hgo, ⟨Nat.le_refl _, fun _ _ _ => rfl, rfl, rfl, rfl, fun e he => by simp at he⟩, ?_⟩
      rw [grow_same]
      exact co_quiet h2
/-- One operation after another, in whatever order the tape picks. -/
theorem co_lin {md : Region.Mode} {ops : Array Oper} {b : Frame} {k : List Item} {cs : List Frame} {c : Nat} (I : Nat → Array Bool → Act → (Nat → Prop) → World → Prop)
    (h0 : ∀ listed a K w, ¬ I 0 listed a K w) (hne : ∀ f listed a K w, I f listed a K w → Region.ready md ops listed ≠ [])
    (hstep : ∀ (f : Nat) (listed : Array Bool) (a : Act) (K : Nat → Prop) (w : World) (i : Nat) (rest : List Nat), I (f + 1) listed a K w → i ∈ Region.ready md ops listed → (f = 0 → rest = []) →
      (∀ a' K' w', I f (listed.setIfInBounds i true) a' K' w' → Co P main Lk Stop (f * c) K' (G (b.at a' (.inRegion ops rest :: k)) cs) w') → Co P main Lk Stop (f * c + c) K (G (b.at a (.inRegion ops (i :: rest) :: k)) cs) w) :
    ∀ (f t : Nat) (listed : Array Bool) (a : Act) (K : Nat → Prop) (w : World), I f listed a K w → Co P main Lk Stop (f * c) K (G (b.at a (.inRegion ops (Region.linearise.go md ops f t listed []) :: k)) cs) w := by
  intro f
  induction f with
  | zero => exact fun t listed a K w h => absurd h (h0 listed a K w)
  | succ f ih =>
    intro t listed a K w hI
    simp only [Region.linearise.go]
    change Co P main Lk Stop ((f + 1) * c) K (G (b.at a (.inRegion ops (match (Region.ready md ops listed)[t % (Region.ready md ops listed).length]? with
      | some i => Region.linearise.go md ops f (t / (Region.ready md ops listed).length) (listed.setIfInBounds i true) [i]
      | none => [].reverse) :: k)) cs) w
    cases hi : (Region.ready md ops listed)[t % (Region.ready md ops listed).length]? with
    | none =>
      exfalso
      have hn := hne _ _ _ _ _ hI
      have hpos : 0 < (Region.ready md ops listed).length := List.length_pos_iff.2 hn
      have := Nat.mod_lt t hpos
      rw [List.getElem?_eq_none_iff] at hi
      omega
    | some i =>
      simp only []
      rw [linearise_go_acc, List.reverse_singleton, List.singleton_append, Nat.succ_mul]
      exact hstep f listed a K w i _ hI (List.mem_of_getElem? hi) (fun e => by subst e; rfl) fun a' K' w' h => ih _ _ a' K' w' h
/-- A region that asks the tape. -/
theorem co_region_draw {b : Frame} {a : Act} {k : List Item} {cs : List Frame} {w : World} {id m : Nat} {ops : Array Oper} {K : Nat → Prop}
    (h : ∀ w₁, Kn K w w₁ → ∀ t, Co P main Lk Stop m K (G (b.at a (.inRegion ops (Region.schedule (P.follows .mixedOrders) ops t) :: k)) cs) { w₁ with drawn := w₁.drawn + 1 }) :
    Co P main Lk Stop (m + 1) K (G (b.at a (.code (.region id ops true) :: k)) cs) w := by
  refine .inr ⟨rfl, fun w₁ hr => ⟨_, _, _, stepG_region_draw, ⟨Nat.le_refl _, fun _ _ _ => rfl, rfl, rfl, rfl, fun e he => by simp at he⟩, ?_⟩⟩
  rw [show grow K w₁ { w₁ with drawn := w₁.drawn + 1 } = K from grow_size K rfl]
  exact h w₁ hr _
/-- Entering a call. -/
theorem co_enter {b : Frame} {a : Act} {k : List Item} {cs : List Frame} {w : World} {ops : Array Oper} {i m : Nat} {rest : List Nat} {o : Oper} {f : FuncId} {args : Array Operand} {ats : Array TypeId} {fn : Func} {c : Code} {K : Nat → Prop} {vs : Array Value}
    (ho : ops[i]? = some o) (hw : Region.wanted o (yielded ops a.tmps) = true) (hk : b.kind ≠ .early) (hop : o.op = .call { callee := .value (.func f), args, argTypes := ats })
    (hf : P.funcs[f]? = some fn) (hname : (fn.name == "runtime.NumGoroutine") = false) (hbody : fn.body = some c) (hvs : args.map a.eval = vs)
    (h : Co P main Lk Stop m K (G (Frame.enter P f vs .normal) (b.at a (.inRegion ops (i :: rest) :: k) :: cs)) w) : Co P main Lk Stop (m + 1) K (G (b.at a (.inRegion ops (i :: rest) :: k)) cs) w := by
  subst hvs
  refine .inr ⟨rfl, fun w₁ hr => ?_⟩
  have henter := enter_at (P := P) (args.map a.eval) hf hbody
  have h1 : (stepG P main (G (b.at a (.inRegion ops (i :: rest) :: k)) cs) w₁).goes fun g' w' es => g' = G (Frame.enter P f (args.map a.eval) .normal) (b.at a (.inRegion ops (i :: rest) :: k) :: cs) ∧ w' = w₁ ∧ es = #[] :=
    goes_call ho hw hk hop hf hname hbody ⟨by rw [henter], rfl, rfl⟩
  obtain ⟨g', w', es, hgo, rfl, e1, e2⟩ := goes_elim h1
  rw [e1, e2] at hgo
  refine ⟨_, w₁, #[], hgo, ⟨Nat.le_refl _, fun _ _ _ => rfl, rfl, rfl, rfl, fun e he => by simp at he⟩, ?_⟩
  rw [grow_same]
  exact h.rely hr
/-- An operation that yields a value, whatever it turns of the goroutine's own. -/
theorem co_oper {b : Frame} {a : Act} {k : List Item} {cs : List Frame} {w : World} {ops : Array Oper} {i m : Nat} {rest : List Nat} {o : Oper} {K : Nat → Prop}
    (ho : ops[i]? = some o) (hw : Region.wanted o (yielded ops a.tmps) = true) (hk : b.kind ≠ .early)
    (h : ∀ w₁, Kn K w w₁ → uponK o a (fun a' w' => Did Lk K w₁ w' (listed P b.fn a o w₁) ∧ Co P main Lk Stop m (grow K w₁ w') (G (b.at a' (.inRegion ops rest :: k)) cs) w') ((execOp a.eval o).run P w₁)) :
    Co P main Lk Stop (m + 1) K (G (b.at a (.inRegion ops (i :: rest) :: k)) cs) w := by
  refine .inr ⟨rfl, fun w₁ hr => ?_⟩
  have h1 : (stepG P main (G (b.at a (.inRegion ops (i :: rest) :: k)) cs) w₁).goes fun g' w' es => Did Lk K w₁ w' es ∧ Co P main Lk Stop m (grow K w₁ w') g' w' :=
    goes_oper ho hw hk (h w₁ hr)
  obtain ⟨g', w', es, hgo, hd, hc⟩ := goes_elim h1
  exact ⟨g', w', es, hgo, hd, hc⟩
theorem co_oper_k {b : Frame} {a : Act} {k : List Item} {cs : List Frame} {w : World} {ops : Array Oper} {i m : Nat} {rest : List Nat} {o : Oper} {K : Nat → Prop}
    (ho : ops[i]? = some o) (hw : Region.wanted o (yielded ops a.tmps) = true) (hk : b.kind ≠ .early)
    (h : ∀ w₁, Kn K w w₁ → ∀ K' : Act → World → Prop, (∀ a' w', Did Lk K w₁ w' (listed P b.fn a o w₁) → Co P main Lk Stop m (grow K w₁ w') (G (b.at a' (.inRegion ops rest :: k)) cs) w' → K' a' w') → uponK o a K' ((execOp a.eval o).run P w₁)) :
    Co P main Lk Stop (m + 1) K (G (b.at a (.inRegion ops (i :: rest) :: k)) cs) w :=
  co_oper ho hw hk fun w₁ hr => h w₁ hr (fun a' w' => Did Lk K w₁ w' (listed P b.fn a o w₁) ∧ Co P main Lk Stop m (grow K w₁ w') (G (b.at a' (.inRegion ops rest :: k)) cs) w') fun _ _ h1 h2 => ⟨h1, h2⟩
end
end Sim
end Go.Proofs.Ytaealkfnhhmmcaa
/- Goroutine 0 beside leavers: its single steps. No condition. -/
namespace Go.Proofs.Ytaealkfnhhmmcaa
namespace Sim
open Go.Conc Go.ConcN
set_option linter.unusedVariables false
section
variable {P : Program} {Shun : Go.Loc → Prop} {Post : Value → World → Prop}
theorem J.ctl {a a' : Goroutine} {w : World} (hr : a.status = .running) (h : ∀ w₁, stepG P true a w₁ = .go a' w₁ #[]) (hn : J P Post Shun a' w) : J P Post Shun a w :=
  J.step hr fun w₁ h₁ => ⟨w₁, #[], h w₁, ⟨Nat.le_refl _, fun e he => by simp at he⟩, hn.at h₁⟩
section
variable {b : Frame} {a : Act} {k : List Item} {cs : List Frame} {w w' : World} {ops : Array Oper} {i : Nat} {rest : List Nat} {o : Oper}
/-- An operation that yields a value. -/
theorem J.value {v : Value} (ho : ops[i]? = some o) (hw : Region.wanted o (yielded ops a.tmps) = true) (hk : b.kind ≠ .early)
    (hr : ∀ d, (execOp a.eval o).run P (w.at d) = .ok (.value v) (w'.at d) ∧ ∀ e, e ∈ (execOp a.eval o).events P (w.at d) #[] → EvX Shun w'.heap.size e) (hs : w.heap.size ≤ w'.heap.size)
    (hn : J P Post Shun (G (b.at (a.put o.dst v) (.inRegion ops rest :: k)) cs) w') : J P Post Shun (G (b.at a (.inRegion ops (i :: rest) :: k)) cs) w := by
  refine J.step (a' := G (b.at (a.put o.dst v) (.inRegion ops rest :: k)) cs) rfl fun w₁ h₁ => ?_
  obtain ⟨d, rfl⟩ := h₁
  exact ⟨_, _, stepG_value ho hw hk (hr d).1, ⟨hs, fun e he => (hr d).2 e (mem_listed he)⟩, hn.at ⟨d, rfl⟩⟩
/-- .. that yields none. -/
theorem J.none (ho : ops[i]? = some o) (hw : Region.wanted o (yielded ops a.tmps) = true) (hk : b.kind ≠ .early)
    (hr : ∀ d, (execOp a.eval o).run P (w.at d) = .ok .skip (w'.at d) ∧ ∀ e, e ∈ (execOp a.eval o).events P (w.at d) #[] → EvX Shun w'.heap.size e) (hs : w.heap.size ≤ w'.heap.size)
    (hn : J P Post Shun (G (b.at (a.put o.dst undef) (.inRegion ops rest :: k)) cs) w') : J P Post Shun (G (b.at a (.inRegion ops (i :: rest) :: k)) cs) w := by
  refine J.step (a' := G (b.at (a.put o.dst undef) (.inRegion ops rest :: k)) cs) rfl fun w₁ h₁ => ?_
  obtain ⟨d, rfl⟩ := h₁
  exact ⟨_, _, stepG_none ho hw hk (hr d).1, ⟨hs, fun e he => (hr d).2 e (mem_listed he)⟩, hn.at ⟨d, rfl⟩⟩
/-- Into a call. -/
theorem J.enter {f : FuncId} {args : Array Operand} {ats : Array TypeId} {fn : Func} {c : Code} {vs : Array Value}
    (ho : ops[i]? = some o) (hw : Region.wanted o (yielded ops a.tmps) = true) (hk : b.kind ≠ .early) (hop : o.op = .call { callee := .value (.func f), args, argTypes := ats })
    (hf : P.funcs[f]? = some fn) (hname : (fn.name == "runtime.NumGoroutine") = false) (hbody : fn.body = some c) (hvs : args.map a.eval = vs)
    (h : J P Post Shun (G (Frame.enter P f vs .normal) (b.at a (.inRegion ops (i :: rest) :: k) :: cs)) w) : J P Post Shun (G (b.at a (.inRegion ops (i :: rest) :: k)) cs) w := by
  subst hvs
  refine J.ctl rfl (fun w₁ => ?_) h
  have henter := enter_at (P := P) (args.map a.eval) hf hbody
  have h1 : (stepG P true (G (b.at a (.inRegion ops (i :: rest) :: k)) cs) w₁).goes fun g' w' es => g' = G (Frame.enter P f (args.map a.eval) .normal) (b.at a (.inRegion ops (i :: rest) :: k) :: cs) ∧ w' = w₁ ∧ es = #[] :=
    goes_call ho hw hk hop hf hname hbody ⟨by rw [henter], rfl, rfl⟩
  obtain ⟨g', w', es, hgo, rfl, e1, e2⟩ := goes_elim h1
  rw [e1, e2] at hgo
  exact hgo
end
/-- Back from a function. -/
theorem J.back {f : FuncId} {fn : Func} {t : Array Value} {todo : List Item} {v : Value} {c1 : Frame} {cs : List Frame} {w : World} (hf : P.funcs[f]? = some fn) (hr : ∀ d, (results fn t).runT P (w.at d) #[] = (.ok v (w.at d), #[])) (hn : J P Post Shun (G (c1.finish v) cs) w) :
    J P Post Shun (G { (base f).at ⟨t, []⟩ todo with mode := .returning } (c1 :: cs)) w := by
  refine J.step (a' := G (c1.finish v) cs) rfl fun w₁ h₁ => ?_
  obtain ⟨d, rfl⟩ := h₁
  exact ⟨_, _, back_ok hf (hr d), ⟨Nat.le_refl _, fun e he => by simp [seen] at he⟩, hn.at ⟨d, rfl⟩⟩
end
end Sim
end Go.Proofs.Ytaealkfnhhmmcaa
