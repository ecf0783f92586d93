/- CornersOf beside leavers: behind the join, to the end. No condition. -/
import Derived.Test.YtaealkfnhhmmcaaCo10
namespace Go.Proofs.Ytaealkfnhhmmcaa
open Sim Go.Conc Go.ConcN Go.RowKit Go.Conc.Lib Go.ConcR.Gen Go.ConcN.Gen
open Go.ConcR (KK wgBlock WgAt stA smA rd wr mk Payload DC0)
set_option linter.unusedVariables false
theorem ok_R12 : okCode Try.prog okF (okF.dead 14) R12 = true := by kernel_rfl
theorem cf_len (R : Nat → Nat → Int) {n : Nat} (hn : n ≤ 20) (i : Nat) : (cf R n i).length ≤ 400 := by
  have h1 := ck_len R n i n
  have h2 : n * n ≤ 20 * 20 := Nat.mul_le_mul hn hn
  rw [cf]
  omega
section
variable {Shun : Go.Loc → Prop} {SB S : Nat → Prop} {Post : Value → World → Prop} {c1 : Frame} {cs1 : List Frame}
theorem post7 {w0 w : World} {n F C : Nat} {R : Nat → Nat → Int} {E : Nat → WX} {T : Array Value} {tF : TypeId} {fF : Nat × Nat} (hSB : ∀ l, Shun l → ∃ a : Addr, l = .cell a ∧ SB a.block) (hj0 : JW Try.prog SB S w0) (hk : ∀ b, S b → w.heap[b]? = w0.heap[b]?) (hsz : w0.heap.size ≤ w.heap.size)
    (hF : w.heap[F]? = some (.cells #[.slice (some ⟨C, 0, none⟩) n n] tF fF)) (hFn : ¬ SB F) (hCn : ¬ SB C) (hp : PayAt C n w) (hv : ∀ i, i < n → Has C i (E i).v w ∧ ResF (cf R n) i (E i).v (E i).K w) (hgeo : ∀ i, i < n → ∀ b, (E i).K b → ¬ SB b)
    (hT : T.size = 55) (t3 : T[3]? = some (.pointer (some ⟨F, 0, none⟩))) (al : alive T = U0) (hn : n ≤ 20) (hok : coOk R n = true)
    (hnext : ∀ v w' S', (∀ b, S b → S' b) → JW Try.prog SB S' w' → VR (idS S') v v → Wr w' w.heap.size w'.heap.size 4 v (coL R n).length (thF (coL R n)) → UpN SB w w' → J Try.prog Post Shun (G (c1.finish v) cs1) w') :
    J Try.prog Post Shun (G ((base 14).at ⟨T, []⟩ (.inRegion ops11 [] :: [.code R12])) (c1 :: cs1)) w := by
  refine J.ctl rfl (fun w₁ => stepG_region_end) ?_
  obtain ⟨cs, hc1, hc2⟩ := hp
  have hex : ∀ i, ∃ Si : Nat → Prop, i < n → (∀ b, Si b → (E i).K b) ∧ (∀ b, Si b → OR False (idS Si) w.heap[b]? w.heap[b]?) ∧ VR (idS Si) (E i).v (E i).v := fun i => by
    by_cases hi : i < n
    · obtain ⟨⟨Si, h1, h2, _, h4⟩, _⟩ := (hv i hi).2
      exact ⟨Si, fun _ => ⟨h1, h2, h4⟩⟩
    · exact ⟨fun _ => False, fun h => absurd h hi⟩
  obtain ⟨Ss, hSs⟩ := Classical.axiomOfChoice hex
  have hjw : JW Try.prog SB (fun b => S b ∨ (b = F ∨ b = C ∨ ∃ i, i < n ∧ Ss i b)) w := by
    refine jw_join (jw_keep hj0 hk hsz) (fun b hb => ?_) fun b hb => ?_
    · rcases hb with rfl | rfl | ⟨i, hi, hb⟩
      · rw [hF]
        exact .inl ⟨_, _, _, _, _, rfl, rfl, ar_one (.slice C C 0 none n n ⟨rfl, .inr (.inr (.inl rfl))⟩), ⟨.inr rfl, fun o a b => ⟨a, b⟩⟩, fun h => h.elim⟩
      · rw [hc1]
        refine .inl ⟨_, _, _, _, _, rfl, rfl, ⟨rfl, fun i x y hx hy => ?_⟩, ⟨.inr rfl, fun o a b => ⟨a, b⟩⟩, fun h => h.elim⟩
        rw [hx] at hy
        cases hy
        have hi : i < n := by rw [← hc2]; exact (Array.getElem?_eq_some_iff.1 hx).1
        have hh := (hv i hi).1
        unfold Has at hh
        rw [cell_cells hc1, hx] at hh
        cases hh
        exact (hSs i hi).2.2.le fun x y hxy => ⟨hxy.1, .inr (.inr (.inr ⟨i, hi, hxy.2⟩))⟩
      · exact ((hSs i hi).2.1 b hb).le' fun x y hxy => ⟨hxy.1, .inr (.inr (.inr ⟨i, hi, hxy.2⟩))⟩
    · rcases hb with rfl | rfl | ⟨i, hi, hb⟩
      · exact hFn
      · exact hCn
      · exact hgeo i hi b ((hSs i hi).1 b hb)
  have hFl := (Array.getElem?_eq_some_iff.1 hF).1
  have hCl := (Array.getElem?_eq_some_iff.1 hc1).1
  have hFF : idS (fun b => S b ∨ (b = F ∨ b = C ∨ ∃ i, i < n ∧ Ss i b)) F F := ⟨rfl, .inr (.inl rfl)⟩
  refine J.rest ok_set hSB hjw (f := 14) (fn := Try.f14) Try.func14 ok_R12 (ad_of hFF hT t3 al) (ad_of hFF rfl rfl rfl)
    (Rh := fun v h => (∀ w', w'.heap = h → Wr w' w.heap.size w'.heap.size 4 v (coL R n).length (thF (coL R n))) ∧ ∀ b, b < w.heap.size → h[b]? = w.heap[b]?) (fun Tp => ?_) fun v w' hp => ?_
  · refine tail_any n F C (cf R n) (fun i => (E i).v) (wt w Tp) (by rw [cell_cells (w := wt w Tp) hF]; rfl) (fun i hi => (hv i hi).1) (fun i hi => sl_heap rfl (hv i hi).2.2.2) (fun i _ => cf_len R hn i) hn hFl hCl fun v wr hW hu => ⟨v, rfl, fun w' e => ?_, fun b hb => hu.block b hb⟩
    have e2 : coL R n = ddp [] (catL (cf R n) n) := by rw [coL, if_pos hok, ca_cat]
    rw [e2]
    exact wr_heap e.symm hW
  · obtain ⟨⟨h1, h2⟩, hwd, h3, S', h4, h5, h6⟩ := hp
    exact hnext v w' S' (fun b hb => h4 b (.inl hb)) h5 h6 (h1 w' rfl) ⟨h3, fun b hb _ => h2 b hb, env_wd hwd⟩
end
end Go.Proofs.Ytaealkfnhhmmcaa
