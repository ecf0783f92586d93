/- The walks of PointText, JointText and ThrustText, the program's and the reference's, and of their laws. No condition. -/
import Derived.Test.YtlpbmdoggcclpaaFmt2
import Derived.Test.YtlpbmdoggcclpaaThr
import Derived.Test.YtlpbmdoggcclpaaOpen
namespace Go.Proofs.Ytlpbmdoggcclpaa
open Go.RowKit
set_option linter.unusedVariables false
def pT (x y : Int) : List UInt8 := fmtI x ++ 44 :: fmtI y
theorem pT_len {x y : Int} (hx : I64 x) (hy : I64 y) : (pT x y).length ≤ 41 := by
  have h1 := fmtI_length_le x hx
  have h2 := fmtI_length_le y hy
  simp [pT]; omega
def ptT (x y : Int) : List UInt8 := if ptB x y = true then pT x y else []
theorem ptT_yes {x y : Int} (h : ptB x y = true) : ptT x y = pT x y := if_pos h
theorem ptT_no {x y : Int} (h : ptB x y = false) : ptT x y = [] := by simp [ptT, h]
def jtT (x y z t : Int) : List UInt8 := if jtB x y z t = true then pT x y ++ 45 :: pT z t else []
theorem jtT_yes {x y z t : Int} (h : jtB x y z t = true) : jtT x y z t = pT x y ++ 45 :: pT z t := if_pos h
theorem jtT_no {x y z t : Int} (h : jtB x y z t = false) : jtT x y z t = [] := by simp [jtT, h]
def thT (x y z t : Int) : List UInt8 := if thB x y z t = true then fmtI x ++ 44 :: (fmtI y ++ 44 :: (fmtI z ++ 44 :: fmtI t)) else []
theorem thT_yes {x y z t : Int} (h : thB x y z t = true) : thT x y z t = fmtI x ++ 44 :: (fmtI y ++ 44 :: (fmtI z ++ 44 :: fmtI t)) := if_pos h
theorem thT_no {x y z t : Int} (h : thB x y z t = false) : thT x y z t = [] := by simp [thT, h]
theorem i64_of {x b : Int} (h1 : -b ≤ x) (h2 : x ≤ b) (hb : b ≤ 9223372036854775807) : I64 x := by unfold I64; omega
theorem ptB_i64 {x y : Int} (h : ptB x y = true) : I64 x ∧ I64 y := by have := ptB_bd h; unfold I64; omega
theorem jtB_pts {x y z t : Int} (h : jtB x y z t = true) : ptB x y = true ∧ ptB z t = true := by simp [jtB] at h; exact ⟨h.1.1, h.1.2⟩
theorem cat_caps {a b : List UInt8} (ha : a.length ≤ 1000) (hb : b.length ≤ 1000) : ¬ 9223372036854775807 < a.length + 1 ∧ ¬ 9223372036854775807 < a.length + 1 + b.length := by omega
theorem fmt_1000 {x : Int} (h : I64 x) : (fmtI x).length ≤ 1000 := Nat.le_trans (fmtI_length_le x h) (by decide)
theorem pT_1000 {x y : Int} (hx : I64 x) (hy : I64 y) : (pT x y).length ≤ 1000 := Nat.le_trans (pT_len hx hy) (by decide)
set_option maxRecDepth 100000 in
theorem text_any (x y : Int) (w : World) (hx : I64 x) (hy : I64 y) : Calls Try.prog 63 #[.agg #[.int .i64 x, .int .i64 y]] w fun e w' => e = .returned (.string ⟨(pT x y).toArray⟩) ∧ Up w w' := by
  have c1 := ba_app (fmtI x) [44]
  have c2 := ba_app (fmtI x ++ [44]) (fmtI y)
  obtain ⟨k1, k2⟩ := cat_caps (a := fmtI x) (b := fmtI y) (fmt_1000 hx) (fmt_1000 hy)
  go_enter Try.func63, Try.ntmps63
  go_wp2_with fail
  (refine wp_region_up (by kernel_rfl) (by kernel_rfl) ?_; (repeat (refine wpQuiet_step (fun K hK => ?_); go_simp; first | (refine hK _ ?_; clear hK K) | (apply Exists.intro; refine ⟨fun wq hwq => ?_, hK _ ?_⟩; (obtain ⟨hcq, hfq⟩ := hwq.cells; (try go_simp); first | done | rfl | exact ⟨rfl, rfl⟩ | ((go_at_call 57; exact up_of hwq (FormatInt_any _ _ (by assumption))))); clear hK K))); refine wpQuiet_nil ?_; intro w1 hb1; obtain ⟨hc1, hf1⟩ := hb1.cells; have hl1 := hb1.lt; have hle1 := hb1.le; have hs1 := hb1.size; (try simp at hs1); (try have hs1a : w.heap.size < w1.heap.size := by omega); (try have hs1aa : w.heap.size ≤ w1.heap.size := by omega); (try have hs1b : w.heap.size + 1 < w1.heap.size := by omega); (try have hs1bb : w.heap.size + 1 ≤ w1.heap.size := by omega); (try have hs1c : w.heap.size + 1 + 1 < w1.heap.size := by omega); (try have hs1cc : w.heap.size + 1 + 1 ≤ w1.heap.size := by omega); (try have hs1d : w.heap.size + 1 + 1 + 1 < w1.heap.size := by omega); (try have hs1dd : w.heap.size + 1 + 1 + 1 ≤ w1.heap.size := by omega); (try have hs1L := Nat.lt_of_succ_le hs1); (try have hs1M := Nat.lt_of_succ_lt hs1L); (try have hs1N := Nat.lt_of_succ_lt hs1M); (try have hs1LE := Nat.le_of_lt hs1L); (try have hs1ME := Nat.le_of_lt hs1M))
  go_wp2
  exact bodyPost_ret (v := .string ⟨(pT x y).toArray⟩) (by simp only [results]; go_simp; try simp [pT]) rfl ⟨rfl, (by repeat (first | with_reducible exact Up.refl _ | with_reducible refine Up.alloc ?_ _ | with_reducible refine Up.drew ?_ | with_reducible refine Up.drewN ?_ _ | (with_reducible refine Up.setCell ?_ (by first | omega | (simp; done) | (simp; omega)) _) | with_reducible assumption | (with_reducible refine Up.trans ?_ (by with_reducible assumption))))⟩
theorem PointText_any (x y : Int) (w : World) : Calls Try.prog 35 #[.agg #[.int .i64 x, .int .i64 y]] w fun e w' => e = .returned (.string ⟨(ptT x y).toArray⟩) ∧ Up w w' := by
  by_cases k : ptB x y = true
  · rw [ptT_yes k]
    obtain ⟨hx, hy⟩ := ptB_i64 k
    go_enter Try.func35, Try.ntmps35
    go_wp2_with (first | (go_at_call 60; (with_reducible refine (ptOk_any _ _ _).mono ?_); rintro e w1 ⟨rfl, hb1⟩; obtain ⟨hc1, hf1⟩ := hb1.cells; have hl1 := hb1.lt; have hle1 := hb1.le; have hs1 := hb1.size; (try simp at hs1); (try have hs1a : w.heap.size < w1.heap.size := by omega); (try have hs1aa : w.heap.size ≤ w1.heap.size := by omega); (try have hs1b : w.heap.size + 1 < w1.heap.size := by omega); (try have hs1bb : w.heap.size + 1 ≤ w1.heap.size := by omega); (try have hs1c : w.heap.size + 1 + 1 < w1.heap.size := by omega); (try have hs1cc : w.heap.size + 1 + 1 ≤ w1.heap.size := by omega); (try have hs1d : w.heap.size + 1 + 1 + 1 < w1.heap.size := by omega); (try have hs1dd : w.heap.size + 1 + 1 + 1 ≤ w1.heap.size := by omega); (try have hs1L := Nat.lt_of_succ_le hs1); (try have hs1M := Nat.lt_of_succ_lt hs1L); (try have hs1N := Nat.lt_of_succ_lt hs1M); (try have hs1LE := Nat.le_of_lt hs1L); (try have hs1ME := Nat.le_of_lt hs1M)) | (go_at_call 63; (with_reducible refine (text_any _ _ _ (by assumption) (by assumption)).mono ?_); rintro e w1 ⟨rfl, hb1⟩; obtain ⟨hc1, hf1⟩ := hb1.cells; have hl1 := hb1.lt; have hle1 := hb1.le; have hs1 := hb1.size; (try simp at hs1); (try have hs1a : w.heap.size < w1.heap.size := by omega); (try have hs1aa : w.heap.size ≤ w1.heap.size := by omega); (try have hs1b : w.heap.size + 1 < w1.heap.size := by omega); (try have hs1bb : w.heap.size + 1 ≤ w1.heap.size := by omega); (try have hs1c : w.heap.size + 1 + 1 < w1.heap.size := by omega); (try have hs1cc : w.heap.size + 1 + 1 ≤ w1.heap.size := by omega); (try have hs1d : w.heap.size + 1 + 1 + 1 < w1.heap.size := by omega); (try have hs1dd : w.heap.size + 1 + 1 + 1 ≤ w1.heap.size := by omega); (try have hs1L := Nat.lt_of_succ_le hs1); (try have hs1M := Nat.lt_of_succ_lt hs1L); (try have hs1N := Nat.lt_of_succ_lt hs1M); (try have hs1LE := Nat.le_of_lt hs1L); (try have hs1ME := Nat.le_of_lt hs1M)))
    all_goals exact bodyPost_ret (v := .string ⟨(pT x y).toArray⟩) (by simp only [results]; go_simp) rfl ⟨rfl, (by repeat (first | with_reducible exact Up.refl _ | with_reducible refine Up.alloc ?_ _ | with_reducible refine Up.drew ?_ | with_reducible refine Up.drewN ?_ _ | (with_reducible refine Up.setCell ?_ (by first | omega | (simp; done) | (simp; omega)) _) | with_reducible assumption | (with_reducible refine Up.trans ?_ (by with_reducible assumption))))⟩
  · have k := Bool.eq_false_iff.2 k
    rw [ptT_no k]
    go_enter Try.func35, Try.ntmps35
    go_wp2_with (first | (go_at_call 60; (with_reducible refine (ptOk_any _ _ _).mono ?_); rintro e w1 ⟨rfl, hb1⟩; obtain ⟨hc1, hf1⟩ := hb1.cells; have hl1 := hb1.lt; have hle1 := hb1.le; have hs1 := hb1.size; (try simp at hs1); (try have hs1a : w.heap.size < w1.heap.size := by omega); (try have hs1aa : w.heap.size ≤ w1.heap.size := by omega); (try have hs1b : w.heap.size + 1 < w1.heap.size := by omega); (try have hs1bb : w.heap.size + 1 ≤ w1.heap.size := by omega); (try have hs1c : w.heap.size + 1 + 1 < w1.heap.size := by omega); (try have hs1cc : w.heap.size + 1 + 1 ≤ w1.heap.size := by omega); (try have hs1d : w.heap.size + 1 + 1 + 1 < w1.heap.size := by omega); (try have hs1dd : w.heap.size + 1 + 1 + 1 ≤ w1.heap.size := by omega); (try have hs1L := Nat.lt_of_succ_le hs1); (try have hs1M := Nat.lt_of_succ_lt hs1L); (try have hs1N := Nat.lt_of_succ_lt hs1M); (try have hs1LE := Nat.le_of_lt hs1L); (try have hs1ME := Nat.le_of_lt hs1M)) | (go_at_call 63; (with_reducible refine (text_any _ _ _ (by assumption) (by assumption)).mono ?_); rintro e w1 ⟨rfl, hb1⟩; obtain ⟨hc1, hf1⟩ := hb1.cells; have hl1 := hb1.lt; have hle1 := hb1.le; have hs1 := hb1.size; (try simp at hs1); (try have hs1a : w.heap.size < w1.heap.size := by omega); (try have hs1aa : w.heap.size ≤ w1.heap.size := by omega); (try have hs1b : w.heap.size + 1 < w1.heap.size := by omega); (try have hs1bb : w.heap.size + 1 ≤ w1.heap.size := by omega); (try have hs1c : w.heap.size + 1 + 1 < w1.heap.size := by omega); (try have hs1cc : w.heap.size + 1 + 1 ≤ w1.heap.size := by omega); (try have hs1d : w.heap.size + 1 + 1 + 1 < w1.heap.size := by omega); (try have hs1dd : w.heap.size + 1 + 1 + 1 ≤ w1.heap.size := by omega); (try have hs1L := Nat.lt_of_succ_le hs1); (try have hs1M := Nat.lt_of_succ_lt hs1L); (try have hs1N := Nat.lt_of_succ_lt hs1M); (try have hs1LE := Nat.le_of_lt hs1L); (try have hs1ME := Nat.le_of_lt hs1M)))
    all_goals exact bodyPost_ret (v := .string ⟨#[]⟩) (by simp only [results]; go_simp) rfl ⟨rfl, (by repeat (first | with_reducible exact Up.refl _ | with_reducible refine Up.alloc ?_ _ | with_reducible refine Up.drew ?_ | with_reducible refine Up.drewN ?_ _ | (with_reducible refine Up.setCell ?_ (by first | omega | (simp; done) | (simp; omega)) _) | with_reducible assumption | (with_reducible refine Up.trans ?_ (by with_reducible assumption))))⟩
end Go.Proofs.Ytlpbmdoggcclpaa
