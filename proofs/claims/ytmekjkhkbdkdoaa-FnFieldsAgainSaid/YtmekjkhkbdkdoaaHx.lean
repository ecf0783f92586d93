/- The walks of EncodeHex, the program's, and of DecodeHex, the reference's. No condition. -/
import Derived.Test.YtmekjkhkbdkdoaaHx0
import Derived.Test.YtmekjkhkbdkdoaaSb
namespace Go.Proofs.Ytmekjkhkbdkdoaa
open Go.RowKit
set_option linter.unusedVariables false
theorem hex_at (n : Nat) (h : n < 16) (h' : n < (⟨#[48, 49, 50, 51, 52, 53, 54, 55, 56, 57, 97, 98, 99, 100, 101, 102]⟩ : ByteArray).size) : (((⟨#[48, 49, 50, 51, 52, 53, 54, 55, 56, 57, 97, 98, 99, 100, 101, 102]⟩ : ByteArray)[n]'h').toNat : Int) = figI n := by
  have H : ∀ n : Fin 16, (((⟨#[48, 49, 50, 51, 52, 53, 54, 55, 56, 57, 97, 98, 99, 100, 101, 102]⟩ : ByteArray)[n.val]'(n.isLt)).toNat : Int) = figI n.val := by decide +kernel
  exact H ⟨n, h⟩
theorem Up.trans_below {a b c : World} (h : Up a b) (k : Below a.heap.size b c) : Up a c := Below.trans h k
theorem hxV_bytes (s : ByteArray) (k : Nat) : hxV s k = Lib.byteCells (hxL s k) := hxV_hxL s k
set_option maxHeartbeats 1000000 in
set_option maxRecDepth 100000 in
theorem EncodeHex_any (s : ByteArray) (w : World) : Calls Try.prog 9 #[.string s] w fun e w' => e = .returned (.tuple #[.string ⟨(ehL s).toArray⟩, .bool (ehB s)]) ∧ Up w w' := by
  by_cases hs : s.size ≤ 20000
  rotate_left
  · have hs1 : 20000 < s.size := by omega
    go_enter Try.func9, Try.ntmps9
    go_wp2
    exact bodyPost_ret (v := .tuple #[.string ⟨#[]⟩, .bool false]) (by simp only [results]; go_simp; try simp) rfl ⟨by simp [ehL, ehB, hs], (by repeat (first | with_reducible exact Up.refl _ | with_reducible refine Up.alloc ?_ _ | with_reducible refine Up.drew ?_ | with_reducible refine Up.drewN ?_ _ | (with_reducible refine Up.setCell ?_ (by first | omega | (simp; done) | (simp; omega)) _) | with_reducible assumption | (with_reducible refine Up.trans ?_ (by with_reducible assumption))))⟩
  · have hs1 : ¬ 20000 < s.size := by omega
    go_enter Try.func9, Try.ntmps9
    go_wp2
    go_loopw [11] (fun i wr => ∃ k : Nat, i = .int .i64 (k : Int) ∧ k ≤ s.size ∧ Hid (Lib.IsBuilder 37 5 w.heap.size w.heap.size (hxV s k) wr) ∧ Up w wr) (fun i _ => s.size - (intOf i).toNat)
    case atStart => exact ⟨0, rfl, Nat.zero_le _, Lib.fresh_isBuilder _ _ w, (by repeat (first | with_reducible exact Up.refl _ | with_reducible refine Up.alloc ?_ _ | with_reducible refine Up.drew ?_ | with_reducible refine Up.drewN ?_ _ | (with_reducible refine Up.setCell ?_ (by first | omega | (simp; done) | (simp; omega)) _) | with_reducible assumption | (with_reducible refine Up.trans ?_ (by with_reducible assumption))))⟩
    case round =>
      obtain ⟨k, rfl, hk, ho, hup⟩ := hrel
      by_cases hk1 : k < s.size
      · have hB := bat_at hk1
        have hB2 := bat_le s k
        generalize hBB : bat s k = B at *
        have HBB := Lib.hid hBB
        clear hBB
        have hlen : (hxV s k).length = 2 * k := hxV_length s k
        have hand := hx_and B hB2
        have ha1 := hex_at (B / 16) (by omega)
        have ha2 := hex_at (B % 16) (by omega)
        go_wp2_with fail
        (go_at_call 23; (with_reducible refine (WriteByte_any _ _ _ _ _ ho.out (by omega) hup.size).mono ?_); rintro e w1 ⟨rfl, h1, hb1⟩)
        have hu1 := hup.trans_below hb1
        have hI1 : Lib.IsBuilder 37 5 w.heap.size w.heap.size (hxV s k ++ [.int .u8 (figI (B / 16))]) w1 := .inr h1
        clear ho hup h1
        go_wp2_with fail
        (go_at_call 23; (with_reducible refine (WriteByte_any _ _ _ _ _ hI1 (by simp; omega) hu1.size).mono ?_); rintro e w2 ⟨rfl, h2, hb2⟩)
        have hu2 := hu1.trans_below hb2
        have hI2 : Hid (Lib.IsBuilder 37 5 w.heap.size w.heap.size (hxV s (k + 1)) w2) := Lib.hid (.inr (by rw [hxV, HBB.out]; simpa using h2))
        clear hI1 h2 hu1
        go_wp2
        exact ⟨⟨k + 1, by rfl, by omega, hI2, hu2⟩, by simp only [intOf]; omega⟩
      · have hkk : k = s.size := by omega
        subst hkk
        have hI := ho.out
        rw [hxV_bytes] at hI
        go_wp2_with fail
        (go_at_call 24; (with_reducible refine (String_any _ _ _ _ hI hup.size).mono ?_); rintro e w1 ⟨rfl, hb1⟩)
        go_wp2
        exact bodyPost_ret (v := .tuple #[.string ⟨(hxL s s.size).toArray⟩, .bool true]) (by simp only [results]; go_simp; try simp) rfl ⟨by simp [ehL, ehB, hs], hup.trans_below hb1⟩
theorem law_EncodeHex (s : ByteArray) (w : World) (h1 : s.size ≤ maxLen) : Calls Try.prog 3 #[.string s] w fun e w' => e = .returned (.bool true) ∧ Up w w' := by
  by_cases hbig : 1048576 < s.size
  · go_enter Try.func3, Try.ntmps3
    go_wp2
    go_ret
    exact ⟨rfl, (by repeat (first | with_reducible exact Up.refl _ | with_reducible refine Up.alloc ?_ _ | with_reducible refine Up.drew ?_ | with_reducible refine Up.drewN ?_ _ | (with_reducible refine Up.setCell ?_ (by first | omega | (simp; done) | (simp; omega)) _) | with_reducible assumption | (with_reducible refine Up.trans ?_ (by with_reducible assumption))))⟩
  go_enter Try.func3, Try.ntmps3
  go_wp2_with fail
  (go_at_call 8; (with_reducible refine (sEncodeHex_any _ _).mono ?_); rintro e w1 ⟨rfl, hb1⟩; obtain ⟨hc1, hf1⟩ := hb1.cells; have hs1 := hb1.size; (try simp at hs1); (try have hs1_0a : w.heap.size < w1.heap.size := by omega); (try have hs1_0a' : w.heap.size ≤ w1.heap.size := by omega); (try have hs1_0b : w.heap.size + 1 < w1.heap.size := by omega); (try have hs1_0b' : w.heap.size + 1 ≤ w1.heap.size := by omega); (try have hs1_0c : w.heap.size + 1 + 1 < w1.heap.size := by omega); (try have hs1_0c' : w.heap.size + 1 + 1 ≤ w1.heap.size := by omega))
  go_wp2_with fail
  (go_at_call 9; (with_reducible refine (EncodeHex_any _ _).mono ?_); rintro e w2 ⟨rfl, hb2⟩; obtain ⟨hc2, hf2⟩ := hb2.cells; have hs2 := hb2.size; (try simp at hs2); (try have hs2_0a : w.heap.size < w2.heap.size := by omega); (try have hs2_0a' : w.heap.size ≤ w2.heap.size := by omega); (try have hs2_0b : w.heap.size + 1 < w2.heap.size := by omega); (try have hs2_0b' : w.heap.size + 1 ≤ w2.heap.size := by omega); (try have hs2_0c : w.heap.size + 1 + 1 < w2.heap.size := by omega); (try have hs2_0c' : w.heap.size + 1 + 1 ≤ w2.heap.size := by omega); (try have hs2_1a : w1.heap.size < w2.heap.size := by omega); (try have hs2_1a' : w1.heap.size ≤ w2.heap.size := by omega); (try have hs2_1b : w1.heap.size + 1 < w2.heap.size := by omega); (try have hs2_1b' : w1.heap.size + 1 ≤ w2.heap.size := by omega); (try have hs2_1c : w1.heap.size + 1 + 1 < w2.heap.size := by omega); (try have hs2_1c' : w1.heap.size + 1 + 1 ≤ w2.heap.size := by omega))
  go_wp2
  go_ret
  exact ⟨rfl, (by repeat (first | with_reducible exact Up.refl _ | with_reducible refine Up.alloc ?_ _ | with_reducible refine Up.drew ?_ | with_reducible refine Up.drewN ?_ _ | (with_reducible refine Up.setCell ?_ (by first | omega | (simp; done) | (simp; omega)) _) | with_reducible assumption | (with_reducible refine Up.trans ?_ (by with_reducible assumption))))⟩
end Go.Proofs.Ytmekjkhkbdkdoaa
