/- The walks of ProofText. No condition. -/
import Derived.Test.YtchldcjieijkaaaHt
import Derived.Test.YtchldcjieijkaaaPr
namespace Go.Proofs.Ytchldcjieijkaaa
open Go.RowKit
set_option linter.unusedVariables false
/-- A row's word. -/
def pfW (R F : Nat → Nat → Int) (i : Nat) : List UInt8 := fmtI (F i 0) ++ 120 :: fmtI (R i 0)
theorem pfW_le {R F : Nat → Nat → Int} {i : Nat} (h : I64 (R i 0)) (h' : I64 (F i 0)) : (pfW R F i).length ≤ 41 := by have := fmtI_length_le _ h; have := fmtI_length_le _ h'; simp [pfW]; omega
def ptT (n m : Nat) (R F : Nat → Nat → Int) : List UInt8 := if m = n then jtx (pfW R F) n else []
def pf1 (F : Nat → Nat → Int) (i : Nat) : List UInt8 := fmtI (F i 0) ++ [120]
theorem pf1_app (F : Nat → Nat → Int) (i : Nat) : ((⟨(fmtI (F i 0)).toArray⟩ : ByteArray) ++ (⟨#[120]⟩ : ByteArray)) = ⟨(pf1 F i).toArray⟩ := ba_app _ [120]
theorem pfW_app (R F : Nat → Nat → Int) (i : Nat) : ((⟨(pf1 F i).toArray⟩ : ByteArray) ++ (⟨(fmtI (R i 0)).toArray⟩ : ByteArray)) = ⟨(pfW R F i).toArray⟩ := by
  rw [show pfW R F i = pf1 F i ++ fmtI (R i 0) from by simp [pfW, pf1]]
  exact ba_app _ _
set_option maxHeartbeats 1000000 in
set_option maxRecDepth 100000 in
theorem ProofText_any (a b : Value) (n m lo hi lo' hi' : Nat) (R F : Nat → Nat → Int) (w : World) (hs : Sl w lo hi 1 a n (intF R)) (hs' : Sl w lo' hi' 1 b m (intF F)) (hn : n ≤ 1048576) (hm : m ≤ 1048576) (hI : ∀ i j, i < n → j < 1 → I64 (R i j)) (hJ : ∀ i j, i < m → j < 1 → I64 (F i j)) :
    Calls Try.prog 12 #[.agg #[a, b]] w fun e w' => e = .returned (.string ⟨(ptT n m R F).toArray⟩) ∧ Up w w' := by
  obtain ⟨hz1, A1, c1, rfl, hc1, hx1⟩ := hs
  obtain ⟨hz2, A2, c2, rfl, hc2, hx2⟩ := hs'
  obtain ⟨i0, hi0, hi1, hi2, hi3⟩ := info_parts str_info
  have H1 := Lib.hid hx1
  have H2 := Lib.hid hx2
  have HI := Lib.hid hI
  have HJ := Lib.hid hJ
  clear hx1 hx2 hI hJ
  by_cases hmn : m = n
  rotate_left
  · rw [ptT, if_neg hmn]
    have h2 : ((m : Int) != (n : Int)) = true := by rw [bne_iff_ne]; omega
    go_enter Try.func12, Try.ntmps12
    go_wp2
    go_ret
    exact ⟨rfl, (by repeat (first | with_reducible exact Up.refl _ | with_reducible refine Up.alloc ?_ _ | with_reducible refine Up.drew ?_ | with_reducible refine Up.drewN ?_ _ | (with_reducible refine Up.setCell ?_ (by first | omega | (simp; done) | (simp; omega)) _) | with_reducible assumption | (with_reducible refine Up.trans ?_ (by with_reducible assumption))))⟩
  · subst hmn
    rw [ptT, if_pos rfl]
    go_enter Try.func12, Try.ntmps12
    go_wp2
    go_loopw [3, 16] (fun t i wr => ∃ j : Nat, i = .int .i64 (j : Int) ∧ j ≤ m ∧ Hid (wr.ownsRow (w.heap.size + 1) 9 1 t j (flat 1 (strF (pfW R F)) j)) ∧ Up (w.alloc (.cells #[.slice A1 m c1, .slice A2 m c2] 27)) wr) (fun _ i _ => m - (intOf i).toNat)
    case atStart => exact ⟨0, rfl, Nat.zero_le _, World.ownsRow_nil _ _ _ _, (by repeat (first | with_reducible exact Up.refl _ | with_reducible refine Up.alloc ?_ _ | with_reducible refine Up.drew ?_ | with_reducible refine Up.drewN ?_ _ | (with_reducible refine Up.setCell ?_ (by first | omega | (simp; done) | (simp; omega)) _) | with_reducible assumption | (with_reducible refine Up.trans ?_ (by with_reducible assumption))))⟩
    case round =>
      obtain ⟨j, rfl, hj, ho, hup⟩ := hrel
      have hupw : Up w wr := Up.trans (Up.alloc (Up.refl w) _) hup
      by_cases hk1 : j < m
      · obtain ⟨b, o, rfl, hb1, hb2, hcs⟩ := H1.out (by omega)
        obtain ⟨b', o', rfl, hb1', hb2', hcs'⟩ := H2.out (by omega)
        have hbs2 : b < wr.heap.size := Nat.lt_of_lt_of_le (by omega) hupw.size
        have hbs2' : b' < wr.heap.size := Nat.lt_of_lt_of_le (by omega) hupw.size
        have hws : w.heap.size < wr.heap.size := Nat.lt_of_lt_of_le (by simp) hup.size
        have hg0 : wr.cell? ⟨b, o + j, none⟩ = some (.int .i64 (R j 0)) := (hupw.cells.1 _ _ (by omega)).trans (Sl.int hcs hk1)
        have hg1 : wr.cell? ⟨b', o' + j, none⟩ = some (.int .i64 (F j 0)) := (hupw.cells.1 _ _ (by omega)).trans (Sl.int hcs' hk1)
        have hq1 : wr.cell? ⟨w.heap.size, 1, none⟩ = some (.slice (some ⟨b', o', none⟩) m c2) := (hup.cells.1 _ _ (by simp)).trans (by simp [World.cell?_alloc_mark])
        clear hcs hcs'
        have hk2 : (j : Int) < (m : Int) := by omega
        have hIj := HI.out j 0 hk1 (by omega)
        have hJj := HJ.out j 0 hk1 (by omega)
        have hle := fmtI_length_le _ hIj
        have hle' := fmtI_length_le _ hJj
        have hap1 := pf1_app F j
        have hap2 := pfW_app R F j
        have hcap : ¬ 9223372036854775807 < (fmtI (F j 0)).length + 1 := by omega
        have hcap2 : ¬ 9223372036854775807 < (pf1 F j).length + (fmtI (R j 0)).length := by simp [pf1]; omega
        go_wp2_with fail
        (go_at_call 22; (with_reducible refine (FormatInt_any _ _ hJj).mono ?_); rintro e w1 ⟨rfl, hb1⟩)
        go_wp2_with fail
        (go_at_call 22; (with_reducible refine (FormatInt_any _ _ hIj).mono ?_); rintro e w2 ⟨rfl, hb2⟩)
        have hu1 : Up wr w2 := hb1.trans hb2
        have hu2 : Up (w.alloc (.cells #[.slice (some ⟨b, o, none⟩) m c1, .slice (some ⟨b', o', none⟩) m c2] 27)) w2 := hup.trans hu1
        have ho1 := Lib.hid (own_up2 (w := w) ho.out hu1)
        go_wp2_with (at_builtin; refine wpList_append_lies _ rfl (.tmp 21) (.tmp 32) 54 rfl (w.heap.size + 1) 9 i0 _ 1 16 Try.underlying54 hi0 hi1 hi2 hi3 rfl (by omega) _ _ _ rfl (ho1.out.alloc _) ⟨w2.heap.size, 0, none⟩ 1 1 [.string ⟨(pfW R F j).toArray⟩] rfl rfl (World.news_of_block (heap_alloc_new w2 _)) (by simp [Value.oneCell']) (by omega) (by simp only [maxLen]; omega) (by omega) (by have := hu2.size; simp at this; simp; omega) (w2.heap.size + 1) (by simp) ?_; intro g cap w3 hown hgrow hat hlt)
        have ho2 : w3.ownsRow (w.heap.size + 1) 9 1 (.slice (some ⟨g, 0, none⟩) (j + 1) cap) (j + 1) (flat 1 (strF (pfW R F)) (j + 1)) := by rw [flat1s]; exact hown
        have hu3 := up_own2 (hu2.alloc _) (by simp) (ho1.out.alloc _) hgrow
        have HO := Lib.hid ho2
        clear hown hgrow hat hlt ho2
        go_wp2
        exact ⟨⟨j + 1, by rfl, by omega, HO, hu3⟩, by simp only [intOf]; omega⟩
      · have hkk : j = m := by omega
        subst hkk
        have hjo := join_own ho.out hn (fun i hi => Nat.le_trans (pfW_le (HI.out i 0 hi (by omega)) (HJ.out i 0 hi (by omega))) (by omega))
        go_wp2_with fail
        (go_at_call 23; (with_reducible refine hjo.mono ?_); rintro e w1 ⟨rfl, hb1⟩)
        go_wp2
        go_ret
        exact ⟨rfl, hupw.trans hb1⟩
end Go.Proofs.Ytchldcjieijkaaa
