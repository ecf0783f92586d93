/- CornersOf beside leavers: the contract. No condition. -/
import Derived.Test.YtaealkfnhhmmcaaCo9
namespace Go.Proofs.Ytaealkfnhhmmcaa
open Sim Go.Conc Go.ConcN Go.RowKit Go.Conc.Lib Go.ConcR.Gen Go.ConcN.Gen
open Go.ConcR (KK wgBlock WgAt stA smA rd wr mk Payload DC0)
set_option linter.unusedVariables false
section
variable {Shun : Go.Loc → Prop} {SB S : Nat → Prop} {Post : Value → World → Prop} {c1 : Frame} {cs1 : List Frame}
theorem corners7 {w : World} {rv : Value} {A : Option Addr} {n c : Nat} {R : Nat → Nat → Int} (hrv : rv = .slice A n c) (hSB : ∀ l, Shun l → ∃ a : Addr, l = .cell a ∧ SB a.block) (hj : JW Try.prog SB S w) (hS : VR (idS S) rv rv) (hsl : Sl w 0 w.heap.size 4 rv n (intF R)) (hA0 : 0 < n → ∃ A0, A = some ⟨A0, 0, none⟩ ∧ IntB w A0)
    (hnext : ∀ v w' (Shun' : Go.Loc → Prop) (SB' S' : Nat → Prop), (∀ l, Shun' l → ∃ a : Addr, l = .cell a ∧ SB' a.block) → (∀ b, SB b → SB' b) → (∀ b, SB' b → SB b ∨ w.heap.size ≤ b) → (∀ b, S b → S' b) → JW Try.prog SB' S' w' → VR (idS S') v v → Wr w' w.heap.size w'.heap.size 4 v (coL R n).length (thF (coL R n)) → UpN SB w w' → J Try.prog Post Shun' (G (c1.finish v) cs1) w') :
    J Try.prog Post Shun (G (Frame.enter Try.prog 14 #[rv] .normal) (c1 :: cs1)) w := by
  refine pre7 (R := R) hrv hSB hj hS hsl (fun h => let ⟨A0, e, _⟩ := hA0 h; ⟨A0, e⟩) (fun he w' S' h1 h2 h3 => ?_) fun hok T Br w' S' hT t1 al hBr hcB h1 hSBr h2 h3 => ?_
  · refine hnext _ w' Shun SB S' hSB (fun b h => h) (fun b h => .inl h) h1 h2 (.slice0 0 0) ?_ h3
    rw [he]
    exact Wr.nil _ _ _ _ _ (Nat.le_refl _)
  · have hn3 : 3 ≤ n := by
      have h := hok
      rw [coOk, Bool.and_eq_true] at h
      have := inB_true.1 h.1
      omega
    obtain ⟨A0, rfl, hI⟩ := hA0 (by omega)
    subst hrv
    have hSA : S A0 := by cases hS with | slice _ _ _ _ _ _ h => exact h.2
    have hAl := jw_lt hj hSA
    have hA1 : w'.heap[A0]? = w.heap[A0]? := h3.keep A0 hAl (hj.nb A0 hSA)
    refine mid7 (A0 := A0) (n := n) (c := c) (Br := Br) (R := R) hSB h2 (h1 A0 hSA) hSBr ?_ ?_ hcB hT t1 al hok fun v w'' Shun' SB' S'' k1 k2 k3 k4 k5 k6 k7 k8 => ?_
    · obtain ⟨cs, e, f, g1, g2⟩ := hI
      exact ⟨cs, e, f, hA1.trans g1, g2⟩
    · obtain ⟨_, _, _, e, hc, hx⟩ := hsl
      cases e
      refine ⟨Nat.le_refl _, _, _, rfl, hc, fun h => ?_⟩
      obtain ⟨b, o, e, hlo, hlt, hcs⟩ := hx h
      cases e
      exact ⟨A0, 0, rfl, hlo, Nat.lt_of_lt_of_le hAl h3.size, fun i j hi hj' => (cell_heap hA1).trans (hcs i j hi hj')⟩
    · exact hnext v w'' Shun' SB' S'' k1 k2 (fun b h => (k3 b h).imp id fun e => Nat.le_trans h3.size e) (fun b hb => k4 b (h1 b hb)) k5 k6 (k7.wide h3.size (Nat.le_refl _) (Nat.le_refl _)) (h3.trans k8 fun _ _ h => h)
end
end Go.Proofs.Ytaealkfnhhmmcaa
