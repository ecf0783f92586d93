/- The walks of EncodeHex and DecodeHex, the reference's. No condition. -/
import Derived.Test.YtmekjkhkbdkdoaaPu
import Derived.Deep.AppendLies
import Derived.Deep.RegionHeld3
import Derived.OwnWalk
namespace Go.Proofs.Ytmekjkhkbdkdoaa
open Go.RowKit
set_option linter.unusedVariables false
theorem u8_info : (Try.prog.info? 5).map (fun i => (i.zero, i.size, i.bytes)) = some (some (.int .u8 0), 1, 1) := by kernel_rfl
/-- Behind an append onto a row of the call's own. -/
theorem Up.own {w a b : World} {e : TypeId} {size n : Nat} {v : Value} {xs : List Value} (h : Up w a) (ho : a.ownsRow w.heap.size e size v n xs) (hg : a.grownBy b v.ownBlock) : Up w b :=
  Below.grown h hg h.size (fun k hk => (ho.lt k hk).1)
theorem l01Figure_same (x : Int) (n : Nat) (w : World) (hx : x = (n : Int)) (hn : n < 16) : Calls Try.prog 22 #[.int .i64 x] w fun e w' => e = .returned (.int .u8 (figI n)) ∧ w = w' := by
  subst hx
  have h2 : (n : Int) < 16 := by omega
  by_cases h : n < 10
  · rw [figI_lt h]
    have h1 : (n : Int) < 10 := by omega
    go_enter Try.func22, Try.ntmps22
    go_wp2
    all_goals exact bodyPost_ret (v := .int .u8 (48 + (n : Int))) (by simp only [results]; go_simp) rfl ⟨rfl, rfl⟩
  · rw [figI_ge h hn]
    have h1 : ¬ (n : Int) < 10 := by omega
    have h3 : (97 + (n : Int) - 10) = 87 + (n : Int) := by omega
    go_enter Try.func22, Try.ntmps22
    go_wp2
    all_goals exact bodyPost_ret (v := .int .u8 (87 + (n : Int))) (by simp only [results]; go_simp; try simp [h3]) rfl ⟨rfl, rfl⟩
theorem fig_q {B : Nat} (h : B ≤ 255) : IntKind.i64.wrap ((IntKind.i64.wrap (B : Int)).tdiv 16) = ((B / 16 : Nat) : Int) := by
  rw [show IntKind.i64.wrap (B : Int) = (B : Int) from by simp only [IntKind.wrap, IntKind.bits, IntKind.signed]; simp; omega, Int.tdiv_eq_ediv_of_nonneg (by omega)]
  simp only [IntKind.wrap, IntKind.bits, IntKind.signed]; simp; omega
theorem fig_r {B : Nat} (h : B ≤ 255) : (IntKind.i64.wrap (B : Int)).tmod 16 = ((B % 16 : Nat) : Int) := by
  rw [show IntKind.i64.wrap (B : Int) = (B : Int) from by simp only [IntKind.wrap, IntKind.bits, IntKind.signed]; simp; omega, Int.tmod_eq_emod_of_nonneg (by omega)]
  omega
/-- The hexadecimal text of the first k bytes, as a list of cells. -/
def hxV (s : ByteArray) : Nat → List Value
  | 0 => []
  | k + 1 => hxV s k ++ [.int .u8 (figI (bat s k / 16)), .int .u8 (figI (bat s k % 16))]
theorem hxV_length (s : ByteArray) (k : Nat) : (hxV s k).length = 2 * k := by induction k with
  | zero => rfl
  | succ k ih => simp [hxV, ih]; omega
/-- .. and as a text. -/
def hxL (s : ByteArray) : Nat → List UInt8
  | 0 => []
  | k + 1 => hxL s k ++ [hexF (bat s k / 16), hexF (bat s k % 16)]
theorem hxL_length (s : ByteArray) (k : Nat) : (hxL s k).length = 2 * k := by induction k with
  | zero => rfl
  | succ k ih => simp [hxL, ih]; omega
theorem hxV_hxL (s : ByteArray) (k : Nat) : hxV s k = (hxL s k).map (fun c => Value.int .u8 (c.toNat : Int)) := by induction k with
  | zero => rfl
  | succ k ih => simp [hxV, hxL, ih, figI]
def ehB (s : ByteArray) : Bool := decide (s.size ≤ 20000)
def ehL (s : ByteArray) : List UInt8 := if s.size ≤ 20000 then hxL s s.size else []
theorem conv_nil (w : World) : (convert 30 9 (.slice none 0 0)).run Try.prog w = .ok (.string ⟨#[]⟩) w := by
  rw [run_convert_bytes_string w 30 9 5 none 0 0 (by go_simp) (by go_simp) (by go_simp)]
  rfl
/-- string(bytes) of a row of the call's own. -/
theorem conv_own {w : World} {base : Nat} {v : Value} {n : Nat} (l : List UInt8) (ho : w.ownsRow base 5 1 v n (l.map (fun c => Value.int .u8 (c.toNat : Int)))) : (convert 30 9 v).run Try.prog w = .ok (.string ⟨l.toArray⟩) w := by
  have hn : n = l.length := by have := ho.1; simp at this; omega
  subst hn
  rcases Nat.eq_zero_or_pos l.length with h0 | h0
  · have hl : l = [] := List.eq_nil_of_length_eq_zero h0
    subst hl
    rcases ho.2 with ⟨rfl, _⟩ | ⟨g, cap, cur, rfl, _⟩
    · exact conv_nil w
    · exact Go.run_convert_bytes_back (P := Try.prog) w 30 9 5 ⟨g, 0, none⟩ cap [] (by go_simp) (by go_simp) (by go_simp) (fun j hj => by simp at hj)
  · obtain ⟨g, cap, rfl, _, _⟩ := ho.form h0
    exact Go.run_convert_bytes_back (P := Try.prog) w 30 9 5 ⟨g, 0, none⟩ cap l (by go_simp) (by go_simp) (by go_simp) (fun j hj => ho.cells (g := g) rfl j _ (by simp [hj]))
set_option maxRecDepth 100000 in
theorem sEncodeHex_any (s : ByteArray) (w : World) : Calls Try.prog 8 #[.string s] w fun e w' => e = .returned (.tuple #[.string ⟨(ehL s).toArray⟩, .bool (ehB s)]) ∧ Up w w' := by
  obtain ⟨i0, hi, hz0, hz1, hz2⟩ := info_parts u8_info
  by_cases hs : s.size ≤ 20000
  rotate_left
  · have hs1 : 20000 < s.size := by omega
    go_enter Try.func8, Try.ntmps8
    go_wp2
    exact bodyPost_ret (v := .tuple #[.string ⟨#[]⟩, .bool false]) (by simp only [results]; go_simp; try simp) rfl ⟨by simp [ehL, ehB, hs], (by repeat (first | with_reducible exact Up.refl _ | with_reducible refine Up.alloc ?_ _ | with_reducible refine Up.drew ?_ | with_reducible refine Up.drewN ?_ _ | (with_reducible refine Up.setCell ?_ (by first | omega | (simp; done) | (simp; omega)) _) | with_reducible assumption | (with_reducible refine Up.trans ?_ (by with_reducible assumption))))⟩
  · have hs1 : ¬ 20000 < s.size := by omega
    go_enter Try.func8, Try.ntmps8
    go_wp2
    go_loopw [4, 5] (fun v i wr => ∃ k : Nat, i = .int .i64 (k : Int) ∧ k ≤ s.size ∧ Hid (wr.ownsRow w.heap.size 5 1 v (2 * k) (hxV s k)) ∧ Up w wr) (fun _ i _ => s.size - (intOf i).toNat)
    case atStart => exact ⟨0, rfl, Nat.zero_le _, World.ownsRow_made w #[] 0 (Nat.le_refl _) (Nat.zero_le _) rfl, (by repeat (first | with_reducible exact Up.refl _ | with_reducible refine Up.alloc ?_ _ | with_reducible refine Up.drew ?_ | with_reducible refine Up.drewN ?_ _ | (with_reducible refine Up.setCell ?_ (by first | omega | (simp; done) | (simp; omega)) _) | with_reducible assumption | (with_reducible refine Up.trans ?_ (by with_reducible assumption))))⟩
    case round =>
      obtain ⟨k, rfl, hk, ho, hup⟩ := hrel
      by_cases hk1 : k < s.size
      · have hB := bat_at hk1
        have hB2 := bat_le s k
        generalize hBB : bat s k = B at *
        have HBB := Lib.hid hBB
        clear hBB
        have hq : ((B : Int)).tdiv 16 = ((B / 16 : Nat) : Int) := by rw [Int.tdiv_eq_ediv_of_nonneg (by omega)]; omega
        have hr : ((B : Int)).tmod 16 = ((B % 16 : Nat) : Int) := by rw [Int.tmod_eq_emod_of_nonneg (by omega)]; omega
        have hn : ∀ x y : Int, ∀ j u, ([.int .u8 x, .int .u8 y] : List Value)[j]? = some u → (wr.drew.alloc (.cells #[.int .u8 x, .int .u8 y] 5)).cell? ((⟨wr.heap.size, 0, none⟩ : Addr).add j) = some u := fun x y => World.news_of_block (heap_alloc_new wr.drew (.cells #[.int .u8 x, .int .u8 y] 5))
        go_wp2_with fail
        go_region_held3 (fun w' => True) (trivial) (first | (go_at_call 22; (with_reducible refine (l01Figure_same _ (B / 16) _ (by first | exact fig_q hB2 | omega) (by omega)).mono ?_); rintro e w1 ⟨rfl, rfl⟩) | (go_at_call 22; (with_reducible refine (l01Figure_same _ (B % 16) _ (by first | exact fig_r hB2 | omega) (by omega)).mono ?_); rintro e w1 ⟨rfl, rfl⟩) | ((refine step_append_lies _ (by rfl) (.tmp 16) (.tmp 29) 30 (by rfl) w.heap.size 5 i0 (.int .u8 0) 1 1 Try.underlying30 hi hz0 hz1 hz2 rfl (by omega) _ (2 * k) (hxV s k) (by rfl) (ho.out.drew.alloc _) ⟨wr.heap.size, 0, none⟩ 2 2 [.int .u8 (figI (B / 16)), .int .u8 (figI (B % 16))] (by rfl) rfl (hn _ _) (by simp [Value.oneCell']) (by omega) (by simp only [maxLen]; omega) (by omega) (by have := hup.size; simp; omega) (wr.heap.size + 1) (by simp) ?_; intro g cap w1 hown hgrow hat hlt)))
        all_goals
          have hu1 : Up w w1 := Up.own (Up.alloc (Up.drew hup) _) (ho.out.drew.alloc _) hgrow
          have hown2 : w1.ownsRow w.heap.size 5 1 (.slice (some ⟨g, 0, none⟩) (2 * k + 2) cap) (2 * (k + 1)) (hxV s (k + 1)) := by rw [hxV, HBB.out]; exact hown
          have HO := Lib.hid hown2
          clear hown hgrow hat hlt hown2
          go_wp2
        all_goals exact ⟨⟨k + 1, by rfl, by omega, HO, (by repeat (first | with_reducible exact Up.refl _ | with_reducible refine Up.alloc ?_ _ | with_reducible refine Up.drew ?_ | with_reducible refine Up.drewN ?_ _ | (with_reducible refine Up.setCell ?_ (by first | omega | (simp; done) | (simp; omega)) _) | with_reducible assumption | (with_reducible refine Up.trans ?_ (by with_reducible assumption))))⟩, by simp only [intOf]; omega⟩
      · have hkk : k = s.size := by omega
        subst hkk
        have hcv := conv_own (l := hxL s s.size) (by rw [← hxV_hxL]; exact ho.out)
        go_wp2
        exact bodyPost_ret (v := .tuple #[.string ⟨(hxL s s.size).toArray⟩, .bool true]) (by simp only [results]; go_simp; try simp) rfl ⟨by simp [ehL, ehB, hs], (by repeat (first | with_reducible exact Up.refl _ | with_reducible refine Up.alloc ?_ _ | with_reducible refine Up.drew ?_ | with_reducible refine Up.drewN ?_ _ | (with_reducible refine Up.setCell ?_ (by first | omega | (simp; done) | (simp; omega)) _) | with_reducible assumption | (with_reducible refine Up.trans ?_ (by with_reducible assumption))))⟩
end Go.Proofs.Ytmekjkhkbdkdoaa
