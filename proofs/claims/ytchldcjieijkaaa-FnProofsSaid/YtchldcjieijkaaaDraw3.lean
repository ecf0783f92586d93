/- The walks of a new cursor and of the first draws. No condition. -/
import Derived.Test.YtchldcjieijkaaaDraw2
namespace Go.Proofs.Ytchldcjieijkaaa
open Go.RowKit
set_option linter.unusedVariables false
theorem and_i64 (x y : Int) : I64 (bits .and .i64 x y) := by
  have h : bits .and .i64 x y = IntKind.i64.wrap ((BitVec.ofInt 64 x &&& BitVec.ofInt 64 y).toNat : Int) := rfl
  rw [h, IntKind.wrap_i64]
  constructor <;> omega
def NeP (w : World) (e : Ending) (w' : World) : Prop := ∃ c, e = .returned (.pointer (some ⟨c, 0, none⟩)) ∧ w.heap.size ≤ c ∧ Cur w' c ∧ Up w w'
theorem cur_new {w : World} {lo hi n cp : Nat} {A : Option Addr} {B : Nat → Int} {hh : Int} {t : TypeId} (hs : Sl w lo hi 1 (.slice A n cp) n (bytF B)) (hn : n ≤ 1048576) (hB : ∀ i, i < n → 0 ≤ B i ∧ B i ≤ 255) (hI : I64 hh) :
    Cur (w.alloc (.cells #[.slice A n cp, .int .i64 0, .int .i64 hh] t)) w.heap.size := by
  have hb := heap_alloc_new w (.cells #[.slice A n cp, .int .i64 0, .int .i64 hh] t)
  exact ⟨A, n, cp, 0, hh, B, lo, hi, by rw [World.cell?_alloc_mark]; rfl, by rw [World.cell?_alloc_mark]; rfl, by rw [World.cell?_alloc_mark]; rfl, fun x => by simp only [World.frozen?, hb]; simp, by simp, hs.1, hn, Nat.zero_le _, hI, hs.up (Up.alloc (Up.refl w) _), hB⟩
theorem big_any (v : Value) (n lo hi : Nat) (f : Nat → Nat → Value) (w : World) (hs : Sl w lo hi 1 v n f) (hn : n ≤ maxLen) : Calls Try.prog 4 #[v] w fun e w' => e = .returned (.bool (decide (1048576 < n))) ∧ w = w' := by
  obtain ⟨_, A, c, rfl, hc, _⟩ := hs
  unfold maxLen at hn
  go_enter Try.func4, Try.ntmps4
  go_wp2
  go_ret
  exact ⟨by simp; try omega, rfl⟩
set_option maxHeartbeats 1000000 in
set_option maxRecDepth 100000 in
theorem l01New_any (u : Value) (n lo hi : Nat) (B : Nat → Int) (w : World) (hs : Sl w lo hi 1 u n (bytF B)) (hn : n ≤ 1048576) (hB : ∀ i, i < n → 0 ≤ B i ∧ B i ≤ 255) : Calls Try.prog 14 #[u] w (NeP w) := by
  have HS := hs
  obtain ⟨hz, A, cp, rfl, hcp, hx⟩ := hs
  have H := Lib.hid hx
  have HB := Lib.hid hB
  clear hx hB
  go_enter Try.func14, Try.ntmps14
  go_wp2
  go_loop [3, 4] (fun t i => ∃ (k : Nat) (hh : Int), i = .int .i64 (k : Int) ∧ k ≤ n ∧ t = .int .i64 hh ∧ I64 hh) (fun _ i => n - (intOf i).toNat)
  case atStart => exact ⟨0, 33017 + (n : Int), rfl, Nat.zero_le _, by rfl, by constructor <;> omega⟩
  case round =>
    obtain ⟨k, hh, rfl, hk, rfl, hI⟩ := hrel
    by_cases hk1 : k < n ∧ k < 4000
    · obtain ⟨hk1, hk4⟩ := hk1
      obtain ⟨b, o, rfl, hb1, hb2, hcs⟩ := H.out (by omega)
      have hbs : b < w.heap.size := by omega
      have hg : w.cell? ⟨b, o + k, none⟩ = some (.int .u8 (B k)) := by simpa [bytF] using hcs k 0 hk1 (by omega)
      have hk2 : (k : Int) < (n : Int) := by omega
      have hk5 : (k : Int) < 4000 := by omega
      clear hcs
      go_wp2
      exact ⟨⟨k + 1, _, by rfl, by omega, rfl, and_i64 _ _⟩, by simp only [intOf]; omega⟩
    · by_cases hk2 : k < n
      · have hk3 : (k : Int) < (n : Int) := by omega
        have hk5 : ¬ (k : Int) < 4000 := by omega
        clear hk1
        go_wp2
        go_ret
        exact ⟨w.heap.size, rfl, Nat.le_refl _, cur_new HS hn HB.out hI, (by repeat (first | with_reducible exact Up.refl _ | with_reducible refine Up.alloc ?_ _ | with_reducible refine Up.drew ?_ | with_reducible refine Up.drewN ?_ _ | (with_reducible refine Up.setCell ?_ (by first | omega | (simp; done) | (simp; omega)) _) | with_reducible assumption | (with_reducible refine Up.trans ?_ (by with_reducible assumption))))⟩
      · have hk3 : ¬ (k : Int) < (n : Int) := by omega
        clear hk1
        go_wp2
        go_ret
        exact ⟨w.heap.size, rfl, Nat.le_refl _, cur_new HS hn HB.out hI, (by repeat (first | with_reducible exact Up.refl _ | with_reducible refine Up.alloc ?_ _ | with_reducible refine Up.drew ?_ | with_reducible refine Up.drewN ?_ _ | (with_reducible refine Up.setCell ?_ (by first | omega | (simp; done) | (simp; omega)) _) | with_reducible assumption | (with_reducible refine Up.trans ?_ (by with_reducible assumption))))⟩
end Go.Proofs.Ytchldcjieijkaaa
