/- The walks of FormatInt, the program's and the reference's: the decimal text. No condition. -/
import Derived.Test.YtchldcjieijkaaaTxt
import Derived.Laws.IdiomStrings
namespace Go.Proofs.Ytchldcjieijkaaa
open Go.RowKit
set_option linter.unusedVariables false
/-- A block of bytes, whole. -/
def Blk (w : World) (g : Nat) (t : TypeId) (cs : Array Value) : Prop := w.heap[g]? = some (.cells cs t (0, 0))
theorem Blk.cell {w : World} {g : Nat} {t : TypeId} {cs : Array Value} (h : Blk w g t cs) (i : Nat) : w.cell? ⟨g, i, none⟩ = cs[i]? := cell_of_row w g i cs t (0, 0) h
theorem Blk.frozen {w : World} {g : Nat} {t : TypeId} {cs : Array Value} (h : Blk w g t cs) (i : Nat) : w.frozen? ⟨g, i, none⟩ = false := by
  unfold Blk at h; simp [World.frozen?, h]
theorem Blk.new (w : World) (t : TypeId) (cs : Array Value) : Blk (w.alloc (.cells cs t)) w.heap.size t cs := heap_alloc_new w _
theorem Blk.set_ {w : World} {g : Nat} {t : TypeId} {cs : Array Value} (h : Blk w g t cs) (i : Nat) (u : Value) : Blk (w.setCell ⟨g, i, none⟩ u) g t (cs.setIfInBounds i u) := by
  unfold Blk at h ⊢; simp [World.setCell, Array.getElem?_modify, h]
/-- The last bytes of a block of n. -/
def LastB (cs : Array Value) (n k : Nat) (acc : List UInt8) : Prop := cs.size = n ∧ k + acc.length = n ∧ ∀ j, (hj : j < acc.length) → cs[k + j]? = some (.int .u8 (acc[j].toNat : Int))
theorem LastB.cons {cs : Array Value} {n k : Nat} {acc : List UInt8} (h : LastB cs n (k + 1) acc) (c : UInt8) : LastB (cs.setIfInBounds k (.int .u8 (c.toNat : Int))) n k (c :: acc) := by
  obtain ⟨h1, h2, h3⟩ := h
  refine ⟨by simp [h1], by simp; omega, fun j hj => ?_⟩
  cases j with
  | zero => simp [Array.getElem?_setIfInBounds]; omega
  | succ j =>
    have := h3 j (by simpa using hj)
    rw [Array.getElem?_setIfInBounds_ne (by omega)]
    rw [show k + (j + 1) = k + 1 + j from by omega]
    simpa using this
theorem neg_u64 {n : Int} (h1 : -9223372036854775808 ≤ n) (h2 : n < 0) : IntKind.u64.wrap (-IntKind.u64.wrap n) = (n.natAbs : Int) := by
  simp only [IntKind.wrap, IntKind.bits, IntKind.signed]; simp; omega
theorem pos_u64 {n : Int} (h1 : n ≤ 9223372036854775807) (h2 : 0 ≤ n) : IntKind.u64.wrap n = (n.natAbs : Int) := by
  simp only [IntKind.wrap, IntKind.bits, IntKind.signed]; simp; omega
theorem byte_of (x : Nat) (h : x ≤ 255) : ((UInt8.ofNat x).toNat : Int) = x := by
  have : (UInt8.ofNat x).toNat = x := by simp; omega
  rw [this]
theorem sliceB (w : World) (b k : Nat) (i : Int) (hi : i = (k : Int)) (hk : k < 20) : (Instr.sliceAt 65 (.pointer (some ⟨b, 0, none⟩)) (some (.int .i64 i)) none none).run Try.prog w = .ok (.slice (some ⟨b, k, none⟩) (20 - k) (20 - k)) w := by
  subst hi
  have h1 : (0 : Int) ≤ (k : Int) := by omega
  have h2 : (k : Int) ≤ 20 := by omega
  have h3 : ¬ (20 : Nat) = k := by omega
  go_simp
theorem convB (w : World) (b k : Nat) (cs : Array Value) (acc : List UInt8) (hb : Blk w b 65 cs) (hl : LastB cs 20 k acc) : (convert 22 9 (.slice (some ⟨b, k, none⟩) (20 - k) (20 - k))).run Try.prog w = .ok (.string ⟨acc.toArray⟩) w := by
  obtain ⟨h1, h2, h3⟩ := hl
  have hh := Go.run_convert_bytes_back (P := Try.prog) w 22 9 5 ⟨b, k, none⟩ (20 - k) acc (by go_simp) (by go_simp) (by go_simp) (fun j hj => by
    rw [show (⟨b, k, none⟩ : Addr).add j = ⟨b, k + j, none⟩ from by simp [Addr.add], hb.cell]; exact h3 j hj)
  rw [show acc.length = 20 - k from by omega] at hh
  exact hh
set_option maxRecDepth 100000 in
theorem FormatInt_any (n : Int) (w : World) (hn : I64 n) : Calls Try.prog 22 #[.int .i64 n] w fun e w' => e = .returned (.string ⟨(fmtI n).toArray⟩) ∧ Up w w' := by
  obtain ⟨h1, h2⟩ := hn
  by_cases h0 : n < 0
  · have hN := neg_u64 h1 h0
    generalize hNN : n.natAbs = N at *
    have hNb : N ≤ 9223372036854775808 := by omega
    have HN := Lib.hid hNN
    clear hNN
    go_enter Try.func22, Try.ntmps22
    go_wp2
    go_loopw [4, 5] (fun a u wr => ∃ (k U : Nat) (acc : List UInt8) (cs : Array Value), a = .int .i64 ((k : Int) + 1) ∧ u = .int .u64 (U : Int) ∧ Hid (digI N U acc) ∧ Hid (LastB cs 20 (k + 1) acc) ∧ Blk wr w.heap.size 65 cs ∧ Up w wr) (fun a _ _ => (intOf a).toNat)
    case atStart => exact ⟨19, N, [], _, rfl, rfl, digI_start N, ⟨rfl, rfl, fun j hj => by simp at hj⟩, Blk.new _ _ _, (by repeat (first | with_reducible exact Up.refl _ | with_reducible refine Up.alloc ?_ _ | with_reducible refine Up.drew ?_ | with_reducible refine Up.drewN ?_ _ | (with_reducible refine Up.setCell ?_ (by first | omega | (simp; done) | (simp; omega)) _) | with_reducible assumption | (with_reducible refine Up.trans ?_ (by with_reducible assumption))))⟩
    case round =>
      obtain ⟨k, U, acc, cs, rfl, rfl, hd, hl, hb, hup⟩ := hrel
      have hlen := digI_len hd.out (by omega)
      have hsz := hl.out.2.1
      have hcs : cs.size = 20 := hl.out.1
      have hk0 : 1 ≤ k := by omega
      have hk20 : k < 20 := by omega
      obtain ⟨c0, hc⟩ : ∃ c, wr.cell? ⟨w.heap.size, k, none⟩ = some c := ⟨cs[k], by rw [hb.cell]; simp⟩
      have hf := hb.frozen k
      have hU : U ≤ 9223372036854775808 := by have := hd.out.1; exact Nat.le_trans (Nat.le_trans (Nat.le_mul_of_pos_right _ (Nat.pos_of_ne_zero (by simp))) this) hNb
      have hmod : (0 : Int) ≤ (U : Int) % 10 := by omega
      have hmod2 : (U : Int) % 10 ≤ 9 := by omega
      have hk9 : (k : Int) < 20 := by omega
      by_cases hq : U / 10 = 0
      · have z1 : ((U : Int) / 10 == 0) = true := by rw [beq_iff_eq]; omega
        have hx := hl.out.cons (UInt8.ofNat (48 + U % 10))
        rw [byte_of _ (by omega), show ((48 + U % 10 : Nat) : Int) = (48 + (U : Int) % 10) from by omega] at hx
        have hx2 := (show LastB (cs.setIfInBounds k (.int .u8 (48 + (U : Int) % 10))) 20 (k - 1 + 1) (UInt8.ofNat (48 + U % 10) :: acc) by rw [show k - 1 + 1 = k from by omega]; exact hx).cons 45
        have hb2 := (hb.set_ k (.int .u8 (48 + (U : Int) % 10))).set_ (k - 1) (.int .u8 45)
        have hcv := convB _ _ _ _ _ hb2 hx2
        have hsl : ∀ wx : World, (Instr.sliceAt 65 (.pointer (some ⟨w.heap.size, 0, none⟩)) (some (.int .i64 ((k : Int) - 1))) none none).run Try.prog wx = .ok (.slice (some ⟨w.heap.size, k - 1, none⟩) (20 - (k - 1)) (20 - (k - 1))) wx := fun wx => sliceB wx _ _ _ (by omega) (by omega)
        obtain ⟨c1, hc1⟩ : ∃ c, wr.cell? ⟨w.heap.size, k - 1, none⟩ = some c := ⟨cs[k - 1], by rw [hb.cell]; simp⟩
        have hf1 := hb.frozen (k - 1)
        have hcat : fmtI n = 45 :: UInt8.ofNat (48 + U % 10) :: acc := by rw [fmtI, if_pos h0, HN.out, digI_last hd.out hq]
        clear hlen hsz hcs hb2 hx hx2
        go_wp2
        exact bodyPost_ret (v := .string ⟨(fmtI n).toArray⟩) (by rw [hcat]; simp only [results]; go_simp; try simp) rfl ⟨rfl, (by repeat (first | with_reducible exact Up.refl _ | with_reducible refine Up.alloc ?_ _ | with_reducible refine Up.drew ?_ | with_reducible refine Up.drewN ?_ _ | (with_reducible refine Up.setCell ?_ (by first | omega | (simp; done) | (simp; omega)) _) | with_reducible assumption | (with_reducible refine Up.trans ?_ (by with_reducible assumption))))⟩
      · have z1 : ((U : Int) / 10 == 0) = false := by rw [beq_eq_false_iff_ne]; omega
        clear hlen hsz hcs
        go_wp2
        case roundEnd =>
          refine ⟨⟨k - 1, U / 10, _, _, ?_, ?_, digI_step hd.out hq, ?_, hb.set_ k _, (by repeat (first | with_reducible exact Up.refl _ | with_reducible refine Up.alloc ?_ _ | with_reducible refine Up.drew ?_ | with_reducible refine Up.drewN ?_ _ | (with_reducible refine Up.setCell ?_ (by first | omega | (simp; done) | (simp; omega)) _) | with_reducible assumption | (with_reducible refine Up.trans ?_ (by with_reducible assumption))))⟩, ?_⟩
          · rw [show ((k - 1 : Nat) : Int) + 1 = (k : Int) from by omega]
          · rw [show ((U / 10 : Nat) : Int) = (U : Int) / 10 from by omega]
          · have hx := hl.out.cons (UInt8.ofNat (48 + U % 10))
            rw [byte_of _ (by omega)] at hx
            rw [show k - 1 + 1 = k from by omega, show (48 + (U : Int) % 10) = ((48 + U % 10 : Nat) : Int) from by omega]
            exact hx
          · simp only [intOf]; omega
  · have hN := pos_u64 h2 (by omega)
    generalize hNN : n.natAbs = N at *
    have hNb : N ≤ 9223372036854775808 := by omega
    have HN := Lib.hid hNN
    clear hNN
    go_enter Try.func22, Try.ntmps22
    go_wp2
    go_loopw [4, 5] (fun a u wr => ∃ (k U : Nat) (acc : List UInt8) (cs : Array Value), a = .int .i64 ((k : Int) + 1) ∧ u = .int .u64 (U : Int) ∧ Hid (digI N U acc) ∧ Hid (LastB cs 20 (k + 1) acc) ∧ Blk wr w.heap.size 65 cs ∧ Up w wr) (fun a _ _ => (intOf a).toNat)
    case atStart => exact ⟨19, N, [], _, rfl, rfl, digI_start N, ⟨rfl, rfl, fun j hj => by simp at hj⟩, Blk.new _ _ _, (by repeat (first | with_reducible exact Up.refl _ | with_reducible refine Up.alloc ?_ _ | with_reducible refine Up.drew ?_ | with_reducible refine Up.drewN ?_ _ | (with_reducible refine Up.setCell ?_ (by first | omega | (simp; done) | (simp; omega)) _) | with_reducible assumption | (with_reducible refine Up.trans ?_ (by with_reducible assumption))))⟩
    case round =>
      obtain ⟨k, U, acc, cs, rfl, rfl, hd, hl, hb, hup⟩ := hrel
      have hlen := digI_len hd.out (by omega)
      have hsz := hl.out.2.1
      have hcs : cs.size = 20 := hl.out.1
      have hk0 : 1 ≤ k := by omega
      have hk20 : k < 20 := by omega
      obtain ⟨c0, hc⟩ : ∃ c, wr.cell? ⟨w.heap.size, k, none⟩ = some c := ⟨cs[k], by rw [hb.cell]; simp⟩
      have hf := hb.frozen k
      have hU : U ≤ 9223372036854775808 := by have := hd.out.1; exact Nat.le_trans (Nat.le_trans (Nat.le_mul_of_pos_right _ (Nat.pos_of_ne_zero (by simp))) this) hNb
      have hmod : (0 : Int) ≤ (U : Int) % 10 := by omega
      have hmod2 : (U : Int) % 10 ≤ 9 := by omega
      have hk9 : (k : Int) < 20 := by omega
      by_cases hq : U / 10 = 0
      · have z1 : ((U : Int) / 10 == 0) = true := by rw [beq_iff_eq]; omega
        have hx := hl.out.cons (UInt8.ofNat (48 + U % 10))
        rw [byte_of _ (by omega), show ((48 + U % 10 : Nat) : Int) = (48 + (U : Int) % 10) from by omega] at hx
        have hb2 := hb.set_ k (.int .u8 (48 + (U : Int) % 10))
        have hcv := convB _ _ _ _ _ hb2 hx
        have hsl : ∀ wx : World, (Instr.sliceAt 65 (.pointer (some ⟨w.heap.size, 0, none⟩)) (some (.int .i64 (k : Int))) none none).run Try.prog wx = .ok (.slice (some ⟨w.heap.size, k, none⟩) (20 - k) (20 - k)) wx := fun wx => sliceB wx _ _ _ rfl hk20
        have hcat : fmtI n = UInt8.ofNat (48 + U % 10) :: acc := by rw [fmtI, if_neg (by omega), HN.out, digI_last hd.out hq]
        clear hlen hsz hcs hb2 hx
        go_wp2
        exact bodyPost_ret (v := .string ⟨(fmtI n).toArray⟩) (by rw [hcat]; simp only [results]; go_simp; try simp) rfl ⟨rfl, (by repeat (first | with_reducible exact Up.refl _ | with_reducible refine Up.alloc ?_ _ | with_reducible refine Up.drew ?_ | with_reducible refine Up.drewN ?_ _ | (with_reducible refine Up.setCell ?_ (by first | omega | (simp; done) | (simp; omega)) _) | with_reducible assumption | (with_reducible refine Up.trans ?_ (by with_reducible assumption))))⟩
      · have z1 : ((U : Int) / 10 == 0) = false := by rw [beq_eq_false_iff_ne]; omega
        clear hlen hsz hcs
        go_wp2
        case roundEnd =>
          refine ⟨⟨k - 1, U / 10, _, _, ?_, ?_, digI_step hd.out hq, ?_, hb.set_ k _, (by repeat (first | with_reducible exact Up.refl _ | with_reducible refine Up.alloc ?_ _ | with_reducible refine Up.drew ?_ | with_reducible refine Up.drewN ?_ _ | (with_reducible refine Up.setCell ?_ (by first | omega | (simp; done) | (simp; omega)) _) | with_reducible assumption | (with_reducible refine Up.trans ?_ (by with_reducible assumption))))⟩, ?_⟩
          · rw [show ((k - 1 : Nat) : Int) + 1 = (k : Int) from by omega]
          · rw [show ((U / 10 : Nat) : Int) = (U : Int) / 10 from by omega]
          · have hx := hl.out.cons (UInt8.ofNat (48 + U % 10))
            rw [byte_of _ (by omega)] at hx
            rw [show k - 1 + 1 = k from by omega, show (48 + (U : Int) % 10) = ((48 + U % 10 : Nat) : Int) from by omega]
            exact hx
          · simp only [intOf]; omega
end Go.Proofs.Ytchldcjieijkaaa
