/- Plain laws of decimal texts: a number's text is all digits and is worth the number. No condition. -/
import Derived.Test.YtfbhhdbnghghjaaPu
namespace Go.Proofs.Ytfbhhdbnghghjaa
open Go.RowKit
set_option linter.unusedVariables false
def S8 (l : List UInt8) : ByteArray := ⟨l.toArray⟩
theorem bat_S8 (l : List UInt8) (k : Nat) : bat (S8 l) k = (l.getD k 0).toNat := by simp [bat, S8]
theorem bat_app {l : List UInt8} {c : UInt8} {k : Nat} (hk : k < l.length) : bat (S8 (l ++ [c])) k = bat (S8 l) k := by
  rw [bat_S8, bat_S8]
  simp [List.getD_eq_getElem?_getD, List.getElem?_append_left hk]
theorem bat_last (l : List UInt8) (c : UInt8) : bat (S8 (l ++ [c])) l.length = c.toNat := by
  rw [bat_S8]; simp [List.getD_eq_getElem?_getD]
theorem pv_app {l : List UInt8} {c : UInt8} (k : Nat) (hk : k ≤ l.length) : pv (S8 (l ++ [c])) k = pv (S8 l) k := by
  induction k with
  | zero => rfl
  | succ k ih => simp only [pv]; rw [ih (by omega), bat_app (by omega)]
theorem digs_app {l : List UInt8} {c : UInt8} (h : digs (S8 l) l.length) : digs (S8 (l ++ [c])) l.length := fun j hj => by rw [bat_app hj]; exact h j hj
theorem dec_worth (n : Nat) : digs (S8 (decN n)) (decN n).length ∧ pv (S8 (decN n)) (decN n).length = n := by
  induction n using Nat.strongRecOn with
  | ind n ih =>
    by_cases h : n < 10
    · have hb : bat (S8 [UInt8.ofNat (48 + n)]) 0 = 48 + n := by
        rw [bat_S8]; simp; omega
      rw [decN_lt h]
      refine ⟨fun j hj => ?_, ?_⟩
      · have : j = 0 := by simpa using hj
        subst this
        rw [hb]; omega
      · show pv _ 1 = n
        simp only [pv]
        rw [hb]; omega
    · obtain ⟨h1, h2⟩ := ih (n / 10) (by omega)
      have hc : (UInt8.ofNat (48 + n % 10)).toNat = 48 + n % 10 := by simp; omega
      rw [decN_ge h]
      rw [List.length_append, List.length_singleton]
      refine ⟨?_, ?_⟩
      · exact digs_succ (digs_app h1) (by rw [bat_last, hc]; omega) (by rw [bat_last, hc]; omega)
      · simp only [pv]
        rw [pv_app _ (Nat.le_refl _), h2, bat_last, hc]
        omega
theorem S8_size (l : List UInt8) : (S8 l).size = l.length := by simp [S8, ByteArray.size]
theorem pu_in {n : Int} (h1 : 0 ≤ n) (h2 : n ≤ 1000000000) : puB (S8 (fmtI n)) = true ∧ puV (S8 (fmtI n)) = n := by
  have hf : fmtI n = decN n.natAbs := by unfold fmtI; rw [if_neg (by omega)]
  obtain ⟨hd, hp⟩ := dec_worth n.natAbs
  have hl := decN_length_le n.natAbs 9 (by omega)
  have hb : puB (S8 (fmtI n)) = true := by
    refine puB_true ⟨by rw [S8_size, hf]; exact hl, by rw [S8_size, hf]; exact hd, by rw [S8_size, hf, hp]; omega, ?_⟩
    rw [S8_size, hf, hp]
    show fmtI (n.natAbs : Int) = decN n.natAbs
    unfold fmtI
    rw [if_neg (by omega)]
    rfl
  refine ⟨hb, ?_⟩
  rw [puV_true hb, S8_size, hf, hp]
  omega
theorem pu_out {n : Int} (h : ¬ (0 ≤ n ∧ n ≤ 1000000000)) : puB (S8 (fmtI n)) = false := by
  apply puB_false
  rintro ⟨_, hd, hp, _⟩
  rw [S8_size] at hd hp
  by_cases h1 : n < 0
  · have hf : fmtI n = 45 :: decN n.natAbs := by unfold fmtI; rw [if_pos h1]
    rw [hf] at hd
    have := hd 0 (by simp)
    rw [bat_S8] at this
    simp at this
  · have hf : fmtI n = decN n.natAbs := by unfold fmtI; rw [if_neg h1]
    rw [hf, (dec_worth n.natAbs).2] at hp
    omega
theorem fmtI_ne (n : Int) : fmtI n ≠ [] := by
  have := decN_length_pos n.natAbs
  unfold fmtI
  split
  · simp
  · intro h; rw [h] at this; simp at this
end Go.Proofs.Ytfbhhdbnghghjaa
