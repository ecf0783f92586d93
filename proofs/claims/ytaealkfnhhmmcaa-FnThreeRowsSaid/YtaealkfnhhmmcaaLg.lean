/- The law FnThreeRows: from every start its run ends well. No condition. -/
import Derived.Test.YtaealkfnhhmmcaaCf0
import Derived.Test.YtaealkfnhhmmcaaJm
import Derived.Test.YtaealkfnhhmmcaaUg
import Derived.Test.YtaealkfnhhmmcaaOk
import Derived.Test.YtaealkfnhhmmcaaCj
import Derived.Test.YtaealkfnhhmmcaaTh
import Derived.Test.YtaealkfnhhmmcaaDet3
/- What the law FnThreeRows says of solved rows and of corners, in plain numbers. No condition. -/
namespace Go.Proofs.Ytaealkfnhhmmcaa
open Go.RowKit
set_option linter.unusedVariables false
theorem mkD_dvd (h v m n : Int) : mkD h v m n ∣ h ∧ mkD h v m n ∣ v ∧ mkD h v m n ∣ m ∧ mkD h v m n ∣ n := by
  have key : ∀ x : Int, (g4 h v m n : Nat) ∣ x.natAbs → mkD h v m n ∣ x := fun x hx => by
    have h1 : ((g4 h v m n : Nat) : Int) ∣ x := Int.natAbs_dvd_natAbs.1 (by simpa using hx)
    unfold mkD
    split
    · exact Int.neg_dvd.2 h1
    · exact h1
  have a1 := Nat.gcd_dvd_left (Nat.gcd h.natAbs v.natAbs) (Nat.gcd m.natAbs n.natAbs)
  have a2 := Nat.gcd_dvd_right (Nat.gcd h.natAbs v.natAbs) (Nat.gcd m.natAbs n.natAbs)
  exact ⟨key h (Nat.dvd_trans a1 (Nat.gcd_dvd_left _ _)), key v (Nat.dvd_trans a1 (Nat.gcd_dvd_right _ _)), key m (Nat.dvd_trans a2 (Nat.gcd_dvd_left _ _)), key n (Nat.dvd_trans a2 (Nat.gcd_dvd_right _ _))⟩
theorem mk_meets {a b c d h v m n : Int} (hk : mkB h v m n = true) (e : a * h + b * v + c * m = d * n) : lefI a b c (mkP h h v m n) (mkP v h v m n) (mkP m h v m n) = rigI d (mkP n h v m n) := by
  simp only [mkP, hk, if_true]
  have hn : n ≠ 0 := by
    have := hk
    simp [mkB, mkIn] at this
    omega
  have hD := mkD_ne (h := h) (v := v) (m := m) hn
  obtain ⟨d1, d2, d3, d4⟩ := mkD_dvd h v m n
  generalize mkD h v m n = g at hD d1 d2 d3 d4
  obtain ⟨x, rfl⟩ := d1
  obtain ⟨y, rfl⟩ := d2
  obtain ⟨z, rfl⟩ := d3
  obtain ⟨t, rfl⟩ := d4
  rw [Int.mul_tdiv_cancel_left _ hD, Int.mul_tdiv_cancel_left _ hD, Int.mul_tdiv_cancel_left _ hD, Int.mul_tdiv_cancel_left _ hD]
  refine Int.eq_of_mul_eq_mul_left hD ?_
  unfold lefI rigI
  grind
theorem mk_th {h v m n : Int} (hk : mkB h v m n = true) : thB (mkP h h v m n) (mkP v h v m n) (mkP m h v m n) (mkP n h v m n) = true := by
  simp only [mkP, hk, if_true]
  simp [mkB] at hk
  exact hk.2
section
variable {a b c d e f g h i j k l : Int}
theorem slB_mk (hs : slB a b c d e f g h i j k l = true) : rowB a b c d = true ∧ rowB e f g h = true ∧ rowB i j k l = true ∧ slD a b c e f g i j k ≠ 0 ∧ mkB (slD d b c h f g l j k) (slD a d c e h g i l k) (slD a b d e f h i j l) (slD a b c e f g i j k) = true := by
  simp only [slB, Bool.and_eq_true] at hs
  obtain ⟨⟨⟨⟨h1, h2⟩, h3⟩, h4⟩, h5⟩ := hs
  exact ⟨h1, h2, h3, by simpa using h4, h5⟩
/-- What was solved is just met by its three rows. -/
theorem sl_jm (hs : slB a b c d e f g h i j k l = true) :
    jmB (slP 0 a b c d e f g h i j k l) (slP 1 a b c d e f g h i j k l) (slP 2 a b c d e f g h i j k l) (slP 3 a b c d e f g h i j k l) a b c d = true ∧
    jmB (slP 0 a b c d e f g h i j k l) (slP 1 a b c d e f g h i j k l) (slP 2 a b c d e f g h i j k l) (slP 3 a b c d e f g h i j k l) e f g h = true ∧
    jmB (slP 0 a b c d e f g h i j k l) (slP 1 a b c d e f g h i j k l) (slP 2 a b c d e f g h i j k l) (slP 3 a b c d e f g h i j k l) i j k l = true := by
  obtain ⟨h1, h2, h3, h4, h5⟩ := slB_mk hs
  have ht := mk_th h5
  have e1 : a * slD d b c h f g l j k + b * slD a d c e h g i l k + c * slD a b d e f h i j l = d * slD a b c e f g i j k := by unfold slD detI; grind
  have e2 : e * slD d b c h f g l j k + f * slD a d c e h g i l k + g * slD a b d e f h i j l = h * slD a b c e f g i j k := by unfold slD detI; grind
  have e3 : i * slD d b c h f g l j k + j * slD a d c e h g i l k + k * slD a b d e f h i j l = l * slD a b c e f g i j k := by unfold slD detI; grind
  have k1 := mk_meets h5 e1
  have k2 := mk_meets h5 e2
  have k3 := mk_meets h5 e3
  simp only [slP, hs, if_true]
  refine ⟨?_, ?_, ?_⟩
  · simp only [jmB, ht, h1, k1, Bool.true_and, beq_self_eq_true]
  · simp only [jmB, ht, h2, k2, Bool.true_and, beq_self_eq_true]
  · simp only [jmB, ht, h3, k3, Bool.true_and, beq_self_eq_true]
theorem jm_fu {x y z t : Int} (hj : jmB x y z t a b c d = true) : fuB x y z t a b c d = true := by
  simp only [jmB, Bool.and_eq_true, beq_iff_eq] at hj
  simp only [fuB, hj.1.1, hj.1.2, Bool.true_and, decide_eq_true_eq]
  omega
theorem dr_turn : drI e f g h i j k l a b c d = drI a b c d e f g h i j k l := by
  unfold drI detI
  have hc : (rowB e f g h && rowB i j k l && rowB a b c d) = (rowB a b c d && rowB e f g h && rowB i j k l) := by cases rowB a b c d <;> cases rowB e f g h <;> cases rowB i j k l <;> rfl
  rw [hc]
  split
  · grind
  · rfl
theorem dr_swap : drI e f g h a b c d i j k l = -drI a b c d e f g h i j k l := by
  unfold drI detI
  have hc : (rowB e f g h && rowB a b c d && rowB i j k l) = (rowB a b c d && rowB e f g h && rowB i j k l) := by cases rowB a b c d <;> cases rowB e f g h <;> rfl
  rw [hc]
  split
  · grind
  · rfl
theorem sl_dr (hs : slB a b c d e f g h i j k l = true) : drI a b c d e f g h i j k l ≠ 0 := by
  obtain ⟨h1, h2, h3, h4, h5⟩ := slB_mk hs
  simp only [drI, h1, h2, h3, Bool.and_self, if_true]
  rw [detI_turn]
  exact h4
end
/-! ### The corners -/
section
variable {R : Nat → Nat → Int} {n : Nat}
theorem addN_mem {L : List T4} {t x : T4} (h : x ∈ addN L t) : x ∈ L ∨ x = t := by
  rw [addN] at h
  split at h
  · exact .inl h
  · simpa using h
theorem ddp_mem : ∀ (L acc : List T4) {x : T4}, x ∈ ddp acc L → x ∈ acc ∨ x ∈ L
  | [], acc, x, h => .inl h
  | t :: L, acc, x, h => by
    rcases ddp_mem L (addN acc t) (x := x) h with h1 | h1
    · rcases addN_mem h1 with h2 | h2
      · exact .inl h2
      · exact .inr (by simp [h2])
    · exact .inr (by simp [h1])
theorem cm_mem {i k : Nat} {x : T4} : ∀ {m : Nat}, x ∈ cm R n i k m → ∃ m', k < m' ∧ m' < m ∧ hit R n i k m' = true ∧ x = sol R i k m'
  | 0, h => by simp [cm] at h
  | m + 1, h => by
    rw [cm, List.mem_append] at h
    rcases h with h | h
    · obtain ⟨m', h1, h2, h3⟩ := cm_mem h
      exact ⟨m', h1, by omega, h3⟩
    · split at h
      · rename_i hc
        exact ⟨m, hc.1, by omega, hc.2, by simpa using h⟩
      · simp at h
theorem ck_mem {i : Nat} {x : T4} : ∀ {k : Nat}, x ∈ ck R n i k → ∃ k', i < k' ∧ k' < k ∧ x ∈ cm R n i k' n
  | 0, h => by simp [ck] at h
  | k + 1, h => by
    rw [ck, List.mem_append] at h
    rcases h with h | h
    · obtain ⟨k', h1, h2, h3⟩ := ck_mem h
      exact ⟨k', h1, by omega, h3⟩
    · split at h
      · rename_i hc
        exact ⟨k, hc, by omega, h⟩
      · simp at h
theorem ca_mem {x : T4} : ∀ {i : Nat}, x ∈ ca R n i → ∃ i', i' < i ∧ x ∈ cf R n i'
  | 0, h => by simp [ca] at h
  | i + 1, h => by
    rw [ca, List.mem_append] at h
    rcases h with h | h
    · obtain ⟨i', h1, h2⟩ := ca_mem h
      exact ⟨i', by omega, h2⟩
    · exact ⟨i, by omega, h⟩
theorem co_mem {x : T4} (h : x ∈ coL R n) : ∃ i k m, i < k ∧ k < m ∧ m < n ∧ hit R n i k m = true ∧ x = sol R i k m := by
  rw [coL] at h
  split at h
  · rcases ddp_mem _ _ h with h1 | h1
    · simp at h1
    · obtain ⟨i, h2, h3⟩ := ca_mem h1
      obtain ⟨k, h4, h5, h6⟩ := ck_mem h3
      obtain ⟨m, h7, h8, h9, h10⟩ := cm_mem h6
      exact ⟨i, k, m, h4, h7, h8, h9, h10⟩
  · simp at h
theorem jmL_len (p : Nat → Bool) (k : Nat) : (jmL p (k + 1)).length = (jmL p k).length + if p k then 1 else 0 := by
  rw [jmL, List.length_append]
  split <;> simp
theorem jmL_mono (p : Nat → Bool) {a : Nat} : ∀ {b : Nat}, a ≤ b → (jmL p a).length ≤ (jmL p b).length
  | 0, h => by rw [Nat.le_zero.1 h]; exact Nat.le_refl _
  | b + 1, h => by
    rcases Nat.lt_or_ge b a with h1 | h1
    · rw [show a = b + 1 by omega]; exact Nat.le_refl _
    · have := jmL_mono p h1
      have := jmL_len p b
      omega
theorem jmL_three (p : Nat → Bool) {i k m n : Nat} (h1 : i < k) (h2 : k < m) (h3 : m < n) (pi : p i = true) (pk : p k = true) (pm : p m = true) : 3 ≤ (jmL p n).length := by
  have a1 := jmL_len p i
  have a2 := jmL_len p k
  have a3 := jmL_len p m
  rw [pi, if_pos rfl] at a1
  rw [pk, if_pos rfl] at a2
  rw [pm, if_pos rfl] at a3
  have b1 := jmL_mono p (show i + 1 ≤ k by omega)
  have b2 := jmL_mono p (show k + 1 ≤ m by omega)
  have b3 := jmL_mono p (show m + 1 ≤ n by omega)
  omega
/-- Each corner fulfills all rows and is just met by three of them. -/
theorem co_good {x : T4} (h : x ∈ coL R n) : faB x.1 x.2.1 x.2.2.1 x.2.2.2 R n = true ∧ 3 ≤ (jmL (jmR x.1 x.2.1 x.2.2.1 x.2.2.2 R) n).length := by
  obtain ⟨i, k, m, h1, h2, h3, h4, rfl⟩ := co_mem h
  rw [hit, Bool.and_eq_true] at h4
  refine ⟨h4.2, ?_⟩
  obtain ⟨j1, j2, j3⟩ := sl_jm h4.1
  exact jmL_three _ h1 h2 h3 j1 j2 j3
theorem co_good_at (k : Nat) (h : k < (coL R n).length) : faB (t4 ((coL R n).getD k (0, 0, 0, 0)) 0) (t4 ((coL R n).getD k (0, 0, 0, 0)) 1) (t4 ((coL R n).getD k (0, 0, 0, 0)) 2) (t4 ((coL R n).getD k (0, 0, 0, 0)) 3) R n = true ∧
    3 ≤ (jmL (jmR (t4 ((coL R n).getD k (0, 0, 0, 0)) 0) (t4 ((coL R n).getD k (0, 0, 0, 0)) 1) (t4 ((coL R n).getD k (0, 0, 0, 0)) 2) (t4 ((coL R n).getD k (0, 0, 0, 0)) 3) R) n).length := by
  refine co_good ?_
  rw [List.getD_eq_getElem?_getD, List.getElem?_eq_getElem h]
  exact List.getElem_mem h
end
end Go.Proofs.Ytaealkfnhhmmcaa
/- The functions that the law reaches ahead of the concurrent ones are pure code. No condition. -/
namespace Go.Proofs.Ytaealkfnhhmmcaa
open Sim
def okUL : List Nat := [4, 5, 6, 7, 8, 9, 10, 11, 12, 13, 16, 17, 18, 19, 20, 21, 22, 23, 24, 25, 26, 27, 28, 29, 36, 37, 38, 39, 40, 41, 42, 43, 44, 45, 46, 47, 48, 49, 69, 70, 71, 72, 73, 74, 75, 76, 77, 78, 79, 80, 86, 87, 88, 89, 90]
def okU (f : FuncId) : Bool := okUL.contains f
theorem okU_each : (okUL.all fun f => match Try.prog.funcs[f]? with | some fn => (match fn.body with | some c => okCodeU Try.prog okU c | none => false) | none => false) = true := by kernel_rfl
theorem okU_set : okSetU Try.prog okU := by
  refine ⟨fun f hf => ?_, by kernel_rfl, fun g => ?_⟩
  · have h := List.all_eq_true.1 okU_each f (by simpa [okU] using hf)
    split at h
    · rename_i fn hfn
      split at h
      · rename_i c hc
        exact ⟨fn, c, hfn, hc, h⟩
      · cases h
    · cases h
  · have h : (Try.prog.funcs.all fun f => (f.body.map readies).all (·.isEmpty)) = true := by kernel_rfl
    unfold Program.stepOf
    rw [Array.findIdx?_eq_none_iff]
    intro f hf
    have h1 := Array.all_eq_true_iff_forall_mem.1 h f hf
    cases hb : f.body with
    | none => rfl
    | some c =>
      rw [hb] at h1
      simp only [Option.map_some, Option.all_some, List.isEmpty_iff] at h1
      simp [h1]
end Go.Proofs.Ytaealkfnhhmmcaa
/- The law FnThreeRows behind the join. No condition. Printed by wip/genlw.py. -/
namespace Go.Proofs.Ytaealkfnhhmmcaa
open Sim Go.Conc Go.ConcN Go.RowKit Go.Conc.Lib Go.ConcR.Gen Go.ConcN.Gen
open Go.ConcR (KK wgBlock WgAt stA smA rd wr mk Payload DC0)
set_option linter.unusedVariables false
noncomputable def body3 : Code := Try.f3.body.getD .skip
noncomputable def C13 : Code := match body3 with | .seq _ (.seq _ (.seq _ (.seq _ (.seq _ (.seq _ (.seq _ (.seq _ (.seq _ (.seq _ r))))))))) => r | _ => .skip
theorem ok_C13 : okCode Try.prog okF (okF.dead 3) C13 = true := by kernel_rfl
/-- The live slots behind the join. -/
def tT (rv u : Value) : Array Value := #[undef, undef, .bool false, undef, undef, undef, undef, undef, undef, undef, undef, rv, u, undef, undef, undef, undef, undef, undef, undef, undef, undef, undef, undef, undef, undef, undef, undef, undef, undef, undef, undef, undef, undef, undef, undef, undef, undef, undef, undef, undef, undef, undef, undef, undef, undef, undef, undef, undef, undef, undef, undef, undef, undef, undef, undef, undef, undef, undef, undef, undef, undef, undef, undef, undef, undef, undef, undef, undef, undef, undef, undef, undef, undef, undef, undef, undef, undef, undef, undef, undef, undef, undef, undef, undef, undef, undef, undef, undef, undef, undef, undef, undef, undef, undef, undef, undef, undef, undef, undef, undef, undef, undef, undef, undef, undef, undef, undef, undef, undef, undef, undef, undef, undef, undef, undef, undef, undef, undef, undef, undef, undef, undef, undef, undef, undef, undef, undef, undef, undef, undef, undef, undef, undef, undef, undef, undef]
theorem drop_get {l : List Value} {i : Nat} (h : l.drop 105 = List.replicate 32 undef) (h1 : 105 ≤ i) {x : Value} (hx : l[i]? = some x) : x = undef := by
  have e : l[i]? = (l.drop 105)[i - 105]? := by rw [List.getElem?_drop]; congr 1; omega
  rw [e, h] at hx
  rw [List.getElem?_replicate] at hx
  split at hx
  · cases hx; rfl
  · cases hx
set_option maxRecDepth 100000 in
theorem ad_T {ρ : BR} {T : Array Value} {rv u : Value} (hT : T.size = 137) (t2 : T[2]? = some (.bool false)) (t11 : T[11]? = some rv) (t12 : T[12]? = some u) (t13 : T[13]? = some undef) (hd : T.toList.drop 105 = List.replicate 32 undef) (hr : VR ρ rv rv) (hu : VR ρ u u) : AD (okF.dead 3) ρ (tT rv u) T := by
  refine ⟨by rw [hT]; rfl, fun i x y hdd hx hy => ?_⟩
  have hun : VR ρ undef undef := (ar_undef ρ 1).2 0 _ _ rfl rfl
  have hc : i = 2 ∨ i = 11 ∨ i = 12 ∨ i = 13 ∨ 105 ≤ i := by
    simp [okF, deadT] at hdd
    omega
  rcases hc with rfl | rfl | rfl | rfl | hc
  · rw [t2] at hy
    cases hx
    cases hy
    exact .bool _
  · rw [t11] at hy
    cases hx
    cases hy
    exact hr
  · rw [t12] at hy
    cases hx
    cases hy
    exact hu
  · rw [t13] at hy
    cases hx
    cases hy
    exact hun
  · have e1 : x = undef := drop_get (l := (tT rv u).toList) rfl hc (by simpa using hx)
    have e2 : y = undef := drop_get hd hc (by simpa using hy)
    rw [e1, e2]
    exact hun
theorem coL_len (R : Nat → Nat → Int) (n : Nat) : (coL R n).length ≤ 1048576 := by
  rw [coL]
  split
  · rename_i h
    rw [coOk, Bool.and_eq_true] at h
    have h1 := inB_true.1 h.1
    have h2 := ddp_len (ca R n n) []
    have h3 := ca_len R (n := n) (by omega) n
    have h4 : n * 400 ≤ 20 * 400 := Nat.mul_le_mul_right _ (by omega)
    simp only [List.length_nil] at h2
    omega
  · simp
/-- Where the law's tail ends. -/
def EnT (w : World) (e : Exit) (a' : Act) (w' : World) : Prop := (e = .normal ∨ e = .ret) ∧ a'.defers = [] ∧ a'.tmps[2]? = some (.bool true) ∧ Up w w'
set_option maxHeartbeats 4000000 in
set_option maxRecDepth 100000 in
theorem tail3 (A A2 : Option Addr) (n c c2 lo hi lo2 hi2 : Nat) (R : Nat → Nat → Int) (w : World) (hs : Sl w lo hi 4 (.slice A n c) n (intF R)) (hl : Sl w lo2 hi2 4 (.slice A2 (coL R n).length c2) (coL R n).length (thF (coL R n))) (hn : n ≤ 17) : C13.wp Try.prog (EnT w) ⟨tT (.slice A n c) (.slice A2 (coL R n).length c2), []⟩ w := by
  have hM := coL_len R n
  have HR := Lib.hid hs
  have HG := Lib.hid (fun k h => co_good_at (R := R) (n := n) k h)
  have hC := fun W (hu : Up w W) => sCornersOf_any _ _ _ _ _ W (hs.up hu) (by omega)
  obtain ⟨_, _, _, e1, _, hx⟩ := hl
  cases e1
  have HX := Lib.hid hx
  clear hx hs
  simp only [C13, body3, Try.f3, Option.getD_some]
  unfold tT
  go_wp2
  go_loopw [13] (fun i wr => ∃ k : Nat, i = .int .i64 (k : Int) ∧ k ≤ (coL R n).length ∧ Up w wr) (fun i _ => (coL R n).length - (intOf i).toNat)
  case atStart => exact ⟨0, rfl, Nat.zero_le _, Up.refl _⟩
  case round =>
    obtain ⟨k, rfl, hk, hup⟩ := hrel
    by_cases hk1 : k < (coL R n).length
    · obtain ⟨b, o, rfl, hb1, hb2, hcs⟩ := HX.out (by omega)
      have hu := hup.size
      have g0 : wr.cell? ⟨b, o + k * 4, none⟩ = some (.int .i64 (t4 ((coL R n).getD k (0, 0, 0, 0)) 0)) := (hup.cells.1 _ _ (by omega)).trans (hcs k 0 hk1 (by omega))
      have g1 : wr.cell? ⟨b, o + k * 4 + 1, none⟩ = some (.int .i64 (t4 ((coL R n).getD k (0, 0, 0, 0)) 1)) := (hup.cells.1 _ _ (by omega)).trans (by rw [Nat.add_assoc]; exact hcs k 1 hk1 (by omega))
      have g2 : wr.cell? ⟨b, o + k * 4 + 2, none⟩ = some (.int .i64 (t4 ((coL R n).getD k (0, 0, 0, 0)) 2)) := (hup.cells.1 _ _ (by omega)).trans (by rw [Nat.add_assoc]; exact hcs k 2 hk1 (by omega))
      have g3 : wr.cell? ⟨b, o + k * 4 + 3, none⟩ = some (.int .i64 (t4 ((coL R n).getD k (0, 0, 0, 0)) 3)) := (hup.cells.1 _ _ (by omega)).trans (by rw [Nat.add_assoc]; exact hcs k 3 hk1 (by omega))
      obtain ⟨hF, hJ⟩ := HG.out k hk1
      clear hcs
      generalize t4 ((coL R n).getD k (0, 0, 0, 0)) 0 = s0 at *
      generalize t4 ((coL R n).getD k (0, 0, 0, 0)) 1 = s1 at *
      generalize t4 ((coL R n).getD k (0, 0, 0, 0)) 2 = s2 at *
      generalize t4 ((coL R n).getD k (0, 0, 0, 0)) 3 = s3 at *
      have hC1 : ∀ W, Up wr W → Calls Try.prog 15 #[.agg #[.int .i64 s0, .int .i64 s1, .int .i64 s2, .int .i64 s3], .slice A n c] W fun e w' => e = .returned (.bool true) ∧ Up W w' := fun W hW => by
        have hh := FulfillsAll_any s0 s1 s2 s3 _ _ _ _ _ W (HR.out.up (hup.trans hW)) (by omega)
        rw [hF] at hh
        exact hh
      have hC2 := fun W (hW : Up wr W) => JustMetBy_any s0 s1 s2 s3 _ _ _ _ _ W (HR.out.up (hup.trans hW)) (by omega)
      generalize (jmL (jmR s0 s1 s2 s3 R) n) = LJ at hJ hC2
      obtain ⟨m, hm⟩ : ∃ m, m = LJ.length := ⟨_, rfl⟩
      rw [← hm] at hJ
      simp only [← hm] at hC2
      clear hm hF
      have hk2 : (k : Int) < ((coL R n).length : Int) := by omega
      have h3 : ¬ (m : Int) < 3 := by omega
      go_wp2_with fail
      (go_at_call 15; (with_reducible refine (hC1 _ (by repeat (first | with_reducible exact Up.refl _ | with_reducible refine Up.alloc ?_ _ | with_reducible refine Up.drew ?_ | with_reducible refine Up.drewN ?_ _ | (with_reducible refine Up.setCell ?_ (by first | omega | (simp; done) | (simp; omega)) _) | with_reducible assumption | (with_reducible refine Up.trans ?_ (by with_reducible assumption))))).mono ?_); rintro e w1 ⟨rfl, hb1⟩)
      have f0 := (hb1.cells.1 _ _ (show b < wr.heap.size by omega)).trans g0
      have f1 := (hb1.cells.1 _ _ (show b < wr.heap.size by omega)).trans g1
      have f2 := (hb1.cells.1 _ _ (show b < wr.heap.size by omega)).trans g2
      have f3 := (hb1.cells.1 _ _ (show b < wr.heap.size by omega)).trans g3
      go_wp2_with fail
      (go_at_call 10; (with_reducible refine (hC2 _ hb1).mono ?_); rintro e w2 ⟨v2, rfl, hv2, hb2⟩)
      obtain ⟨A3, c3, rfl⟩ := hv2.sl.shape
      go_wp2
      exact ⟨⟨k + 1, by rfl, by omega, (hup.trans hb1).trans hb2⟩, by simp only [intOf]; omega⟩
    · have hk2 : ¬ (k : Int) < ((coL R n).length : Int) := by omega
      by_cases hz : 0 < (coL R n).length
      · have hz2 : (0 : Int) < ((coL R n).length : Int) := by omega
        go_wp2
        exact ⟨.inr rfl, rfl, rfl, hup⟩
      · have hz3 : (coL R n).length = 0 := by omega
        have hz2 : ¬ (0 : Int) < ((coL R n).length : Int) := by omega
        have hz4 : ((coL R n).length : Int) = 0 := by omega
        go_wp2_with fail
        (go_at_call 16; (with_reducible refine (hC _ hup).mono ?_); rintro e w2 ⟨v2, rfl, hv2, hb2⟩)
        obtain ⟨A3, c3, rfl⟩ := hv2.sl.shape
        go_wp2
        exact ⟨.inr rfl, rfl, by simp, hup.trans hb2⟩
end Go.Proofs.Ytaealkfnhhmmcaa
/- The law FnThreeRows from its start. No condition. Printed by wip/genlx.py. -/
namespace Go.Proofs.Ytaealkfnhhmmcaa
open Sim Go.Conc Go.ConcN Go.RowKit Go.Conc.Lib Go.ConcR.Gen Go.ConcN.Gen
open Go.ConcR (KK wgBlock WgAt stA smA rd wr mk Payload DC0)
set_option linter.unusedVariables false
theorem enter3 (rv : Value) : Frame.enter Try.prog 3 #[rv] .normal = (base 3).at ⟨#[rv, undef, undef, undef, undef, undef, undef, undef, undef, undef, undef, undef, undef, undef, undef, undef, undef, undef, undef, undef, undef, undef, undef, undef, undef, undef, undef, undef, undef, undef, undef, undef, undef, undef, undef, undef, undef, undef, undef, undef, undef, undef, undef, undef, undef, undef, undef, undef, undef, undef, undef, undef, undef, undef, undef, undef, undef, undef, undef, undef, undef, undef, undef, undef, undef, undef, undef, undef, undef, undef, undef, undef, undef, undef, undef, undef, undef, undef, undef, undef, undef, undef, undef, undef, undef, undef, undef, undef, undef, undef, undef, undef, undef, undef, undef, undef, undef, undef, undef, undef, undef, undef, undef, undef, undef, undef, undef, undef, undef, undef, undef, undef, undef, undef, undef, undef, undef, undef, undef, undef, undef, undef, undef, undef, undef, undef, undef, undef, undef, undef, undef, undef, undef, undef, undef, undef, undef], []⟩ [.code body3] := by
  simp [Frame.enter, Try.func3, Try.f3, Frame.at, base, body3]
theorem results3 (T : Array Value) (v : Value) (h : T[2]? = some v) (w : World) : (results Try.f3 T).runT Try.prog w #[] = (.ok v w, #[]) := by
  simp [results, Try.f3, h]
/-- What the law comes to. -/
def PostL (wE : World) (v : Value) (w : World) : Prop := v = .bool true ∧ Up wE w
theorem last_ok {P : Program} {f : FuncId} {fn : Func} (hf : P.funcs[f]? = some fn) (hi : P.inits.idxOf? f = none) {t : Array Value} {todo : List Item} {w w' : World} {v : Value} {es : Array Event} (hr : (results fn t).runT P w #[] = (.ok v w', es)) :
    stepG P true (G { (base f).at ⟨t, []⟩ todo with mode := .returning } []) w = .ended (.done v) w' (seen P f es) := by
  have h1 : (results fn t).run P w = .ok v w' := by rw [← Sem.runT_fst P _ w #[], hr]
  have h2 : (results fn t).events P w #[] = es := by unfold Sem.events; rw [hr]
  simp [G, stepG, unwind, doReturn, Frame.at, base, hf, h1, h2, hi, GStep.after]
theorem last3 {wE w : World} {Shun : Go.Loc → Prop} {T : Array Value} {todo : List Item} (h : T[2]? = some (.bool true)) (hu : Up wE w) : J Try.prog (PostL wE) Shun (G { (base 3).at ⟨T, []⟩ todo with mode := .returning } []) w := by
  refine J.last fun w₁ h₁ => ?_
  obtain ⟨d, rfl⟩ := h₁
  exact ⟨rfl, _, _, last_ok Try.func3 (by kernel_rfl) (results3 _ _ h _), fun e he => by simp [seen] at he, rfl, ⟨hu.os, hu.tape, hu.output, hu.size, fun b hb => hu.block b hb⟩⟩
theorem no_globals : Try.prog.globals.size = 0 := by kernel_rfl
theorem sl_upN {SB : Nat → Prop} {w w' : World} {lo hi sz n : Nat} {v : Value} {f : Nat → Nat → Value} (h : Sl w lo hi sz v n f) (hu : UpN SB w w') (hs : ∀ b, b < w.heap.size → ¬ SB b) : Sl w' lo hi sz v n f := by
  obtain ⟨h0, A, c, rfl, hc, hx⟩ := h
  refine ⟨Nat.le_trans h0 hu.size, A, c, rfl, hc, fun h => ?_⟩
  obtain ⟨b, o, rfl, hlo, hlt, hcs⟩ := hx h
  have hb := hu.keep b (by omega) (hs b (by omega))
  exact ⟨b, o, rfl, hlo, hlt, fun i j hi hj => (cell_heap hb).trans (hcs i j hi hj)⟩
theorem fr3 : Fr Try.prog 3 := ⟨_, Try.func3⟩
theorem dr_i64 {a b c d e f g h i j k l : Int} (h1 : rowB a b c d = true) (h2 : rowB e f g h = true) (h3 : rowB i j k l = true) : I64 (drI a b c d e f g h i j k l) := by
  simp only [drI, h1, h2, h3, Bool.and_self, if_true]
  rw [← detI_turn]
  exact (rows_dets h1 h2 h3).1
theorem jm3_len {s0 s1 s2 s3 a0 b0 c0 d0 a1 b1 c1 d1 a2 b2 c2 d2 : Int} (h0 : jmB s0 s1 s2 s3 a0 b0 c0 d0 = true) (h1 : jmB s0 s1 s2 s3 a1 b1 c1 d1 = true) (h2 : jmB s0 s1 s2 s3 a2 b2 c2 d2 = true) :
    (jmL (jmR s0 s1 s2 s3 fun i j => ([a0, b0, c0, d0, a1, b1, c1, d1, a2, b2, c2, d2] : List Int).getD (i * 4 + j) 0) 3).length = 3 := by
  have e0 : jmR s0 s1 s2 s3 (fun i j => ([a0, b0, c0, d0, a1, b1, c1, d1, a2, b2, c2, d2] : List Int).getD (i * 4 + j) 0) 0 = true := h0
  have e1 : jmR s0 s1 s2 s3 (fun i j => ([a0, b0, c0, d0, a1, b1, c1, d1, a2, b2, c2, d2] : List Int).getD (i * 4 + j) 0) 1 = true := h1
  have e2 : jmR s0 s1 s2 s3 (fun i j => ([a0, b0, c0, d0, a1, b1, c1, d1, a2, b2, c2, d2] : List Int).getD (i * 4 + j) 0) 2 = true := h2
  rw [jmL_len, jmL_len, jmL_len, e0, e1, e2]
  rfl
section
variable {wE : World} {A : Option Addr} {n c : Nat} {B : Nat → Int}
set_option maxRecDepth 100000 in
set_option maxHeartbeats 8000000 in
theorem law_big (hm : n ≤ maxLen) (hA : Sl wE 0 wE.heap.size 1 (.slice A n c) n (bytF B)) (hn : 1048576 < n) : JL Try.prog (PostL wE) (G (Frame.enter Try.prog 3 #[.slice A n c] .normal) []) wE := by
  have hC : Calls Try.prog 4 #[.slice A n c] wE fun e w' => e = .returned (.bool true) ∧ wE = w' := by
    have hh := big_any _ _ _ _ _ wE hA hm
    rw [decide_eq_true hn] at hh
    exact hh
  rw [enter3]
  simp only [body3, Try.f3, Option.getD_some]
  refine JL.seq okU_set ok_set fr3 (by kernel_rfl) ?_
  go_wp2
  refine JL.ctl rfl stepG_seq ?_
  refine JL.seq okU_set ok_set fr3 (by kernel_rfl) ?_
  go_wp2_with (first | (go_at_call 4; (with_reducible refine hC.mono ?_); rintro e w1 ⟨rfl, rfl⟩))
  refine JL.ctl rfl (stepG_cond rfl) ?_
  simp only [if_true]
  refine JL.seq okU_set ok_set fr3 (by kernel_rfl) ?_
  go_wp2
  refine JL.ctl rfl stepG_ret' ?_
  exact JL.of_j (last3 rfl (Up.refl wE))
/-- What the law's start leaves behind the rows. -/
noncomputable def C10 : Code := match body3 with | .seq _ (.seq _ (.seq _ (.seq _ (.seq _ (.seq _ (.seq _ r)))))) => r | _ => .skip
set_option maxRecDepth 100000 in
set_option maxHeartbeats 8000000 in
theorem law_back (hA : Sl wE 0 wE.heap.size 1 (.slice A n c) n (bytF B)) (hB : ∀ i, i < n → 0 ≤ B i ∧ B i ≤ 255) (hn : n ≤ 1048576) {w : World} {v1 v3 v4 v5 v6 v7 v8 v9 v10 v11 v12 v14 v15 v16 v17 v18 v19 v20 v21 v22 v23 v24 v25 v26 v27 v28 v29 v30 v31 v32 v33 v34 v35 v36 v37 v38 v39 v40 v41 v42 v43 v44 v45 v46 v47 v48 v49 v50 v51 v52 v53 v54 v55 v56 v57 v58 v59 v60 v61 v62 v63 v64 v65 v66 v67 v68 v69 v70 v71 v72 v73 v74 v75 v76 v77 v78 v79 v80 v81 v82 v83 v84 v85 v86 v87 v88 v89 v90 v91 v92 v93 v94 v95 v96 v97 v98 v99 v100 v101 v102 v103 v104 : Value} (hu : Up wE w) :
    JL Try.prog (PostL wE) (G ((base 3).at ⟨#[.slice A n c, v1, .bool false, v3, v4, v5, v6, v7, v8, v9, v10, v11, v12, undef, v14, v15, v16, v17, v18, v19, v20, v21, v22, v23, v24, v25, v26, v27, v28, v29, v30, v31, v32, v33, v34, v35, v36, v37, v38, v39, v40, v41, v42, v43, v44, v45, v46, v47, v48, v49, v50, v51, v52, v53, v54, v55, v56, v57, v58, v59, v60, v61, v62, v63, v64, v65, v66, v67, v68, v69, v70, v71, v72, v73, v74, v75, v76, v77, v78, v79, v80, v81, v82, v83, v84, v85, v86, v87, v88, v89, v90, v91, v92, v93, v94, v95, v96, v97, v98, v99, v100, v101, v102, v103, v104, undef, undef, undef, undef, undef, undef, undef, undef, undef, undef, undef, undef, undef, undef, undef, undef, undef, undef, undef, undef, undef, undef, undef, undef, undef, undef, undef, undef, undef, undef, undef, undef], []⟩ [.code C10]) []) w := by
  simp only [C10, body3, Try.f3, Option.getD_some]
  refine JL.seq okU_set ok_set fr3 (by kernel_rfl) ?_
  go_wp2_with fail
  (go_at_call 12; (with_reducible refine (DrawStanding_any _ _ _ _ _ _ (hA.up hu) hn hB).mono ?_); rintro e w1 ⟨u, v, nn, m, R, L, rfl, hS1, hn1, hL1, hm1, hu1⟩)
  obtain ⟨A1, c1, rfl⟩ := hS1.shape
  obtain ⟨A2, c2, rfl⟩ := hL1.shape
  have hu01 := hu.trans hu1
  go_wp2
  obtain ⟨w2, hw2⟩ : ∃ w2 : World, w2 = w1.alloc (.cells #[.slice A1 nn c1] 40) := ⟨_, rfl⟩
  obtain ⟨b9, hb9⟩ : ∃ b9 : Nat, b9 = w1.heap.size := ⟨_, rfl⟩
  have hu12 : Up w1 w2 := by rw [hw2]; exact Up.alloc (Up.refl _) _
  have q0 : w2.cell? ⟨b9, 0, none⟩ = some (.slice A1 nn c1) := by rw [hw2, hb9]; simp
  rw [← hw2, ← hb9]
  have hS2 := hS1.up hu12
  have hL2 := hL1.up hu12
  have hu02 := hu01.trans hu12
  clear hw2 hb9 hS1 hL1 hu1 hu12 hu01 hu
  refine JL.seq okU_set ok_set fr3 (by kernel_rfl) ?_
  go_wp2_with fail
  (go_at_call 13; (with_reducible refine (RowsOf_any _ _ _ _ _ _ _ _ _ _ _ hS2 hL2 (by omega) (by omega)).mono ?_); rintro e w3 ⟨A3, n3, c3, R3, rfl, hS3, hn3, ⟨B3, rfl, hI3⟩, hb3⟩)
  have hu3 := hu02.trans hb3
  clear hS2 hL2 hb3 hu02 q0
  go_wp2
  refine JL.of_j ?_
  have hj0 : JW Try.prog (fun _ => False) (fun _ => False) w3 := ⟨⟨fun _ _ _ h _ => h.2.elim, fun _ _ _ h _ => h.2.elim, fun _ _ h => h.2.elim, fun _ h => h.elim, fun _ _ h => by rw [h.1], by rw [no_globals]; exact Nat.zero_le _, by rw [no_globals]; exact Nat.zero_le _⟩, fun _ h => h.elim, fun _ h => h.elim⟩
  have hj3 : JW Try.prog (fun _ => False) (fun b => False ∨ b = B3) w3 := by
    refine jw_join (S' := fun b => b = B3) hj0 (fun b hb => ?_) fun b hb h => h
    obtain ⟨cs, e, f, f1, f3⟩ := hI3
    rw [hb, f1]
    exact .inl ⟨cs, cs, _, _, _, rfl, rfl, intB_ar f3, ⟨.inr rfl, fun o a b => ⟨a, b⟩⟩, fun h => h.elim⟩
  have hv3 : VR (idS fun b => False ∨ b = B3) (.slice (some ⟨B3, 0, none⟩) n3 c3) (.slice (some ⟨B3, 0, none⟩) n3 c3) := .slice B3 B3 0 none n3 c3 ⟨rfl, .inr rfl⟩
  have hf : AtRel w3 w3 := atRel_refl w3
  refine J.quiet (n := 30) ?_
  u_c stepG_seq at_tr hf
  u_reg at_tr hf
  u_op at_tr hf
  refine Goes.stop fun w₁ h₁ => J.at ?_ (at_tr hf h₁)
  clear hf
  refine J.enter (vs := #[.slice (some ⟨B3, 0, none⟩) n3 c3]) rfl rfl (by decide) rfl Try.func14 (by kernel_rfl) rfl (by simp [Act.eval]) ?_
  refine corners7 (R := R3) rfl (fun _ h => h.elim) hj3 hv3 hS3 (fun _ => ⟨B3, rfl, hI3⟩) fun u7 w7 Shun7 SB7 S7 hsb7 hle7 hnew7 hs7 hj7 hv7 hW7 hu7 => ?_
  have hup7 : Up wE w7 := up_upN hu3 hu7 fun _ h => h.elim
  have hsl7 : Sl w7 0 w3.heap.size 4 (.slice (some ⟨B3, 0, none⟩) n3 c3) n3 (intF R3) := (sl_upN hS3 hu7 fun _ _ h => h).wide (Nat.le_refl _) (Nat.le_refl _) hu7.size
  obtain ⟨A7, c7, rfl⟩ := hW7.sl.shape
  rw [Frame.finish_at]
  walk_nrm
  have hf : AtRel w7 w7 := atRel_refl w7
  refine J.quiet (n := 30) ?_
  u_op at_tr hf
  u_c stepG_region_end at_tr hf
  refine Goes.stop fun w₁ h₁ => J.at ?_ (at_tr hf h₁)
  clear hf
  have hr7 := vr_le hv3 hs7
  refine J.rest0 ok_set hsb7 hj7 (f := 3) (fn := Try.f3) Try.func3 (c := C13) ok_C13 (t := tT (.slice (some ⟨B3, 0, none⟩) n3 c3) (.slice A7 (coL R3 n3).length c7)) (ad_T rfl rfl rfl rfl rfl rfl hr7 hv7) (ad_T rfl rfl rfl rfl rfl rfl hr7 hv7) (r := 2) (b := true) rfl (fun Tp => ?_) fun tc' todo w' h1 h2 h3 h4 => ?_
  · intro b k cs
    obtain ⟨e, a', w', h, hk⟩ := tail3 (some ⟨B3, 0, none⟩) A7 n3 c3 c7 _ _ _ _ R3 (wt w7 Tp) (sl_wt hsl7 Tp) (sl_wt hW7.sl Tp) hn3 b k cs
    exact ⟨e, a', w', ⟨h.1, h.2.1, h.2.2.1, fun k hk => h.2.2.2.block k hk, h.2.2.2.size⟩, hk⟩
  · exact last3 h1 (hup7.trans (up_heap h2 h3 (env_wd h4)))
set_option maxRecDepth 100000 in
set_option maxHeartbeats 8000000 in
theorem law_main (hA : Sl wE 0 wE.heap.size 1 (.slice A n c) n (bytF B)) (hB : ∀ i, i < n → 0 ≤ B i ∧ B i ≤ 255) (hn : n ≤ 1048576) : JL Try.prog (PostL wE) (G (Frame.enter Try.prog 3 #[.slice A n c] .normal) []) wE := by
  have hC : Calls Try.prog 4 #[.slice A n c] wE fun e w' => e = .returned (.bool false) ∧ wE = w' := by
    have hh := big_any _ _ _ _ _ wE hA (by unfold maxLen; omega)
    rw [decide_eq_false (by omega)] at hh
    exact hh
  rw [enter3]
  simp only [body3, Try.f3, Option.getD_some]
  refine JL.seq okU_set ok_set fr3 (by kernel_rfl) ?_
  go_wp2
  refine JL.seq okU_set ok_set fr3 (by kernel_rfl) ?_
  go_wp2_with (first | (go_at_call 4; (with_reducible refine hC.mono ?_); rintro e w1 ⟨rfl, rfl⟩))
  refine JL.seq okU_set ok_set fr3 (by kernel_rfl) ?_
  go_wp2_with (first | (go_at_call 5; (with_reducible refine (DrawRows_any _ _ _ _ _ _ hA hn hB).mono ?_); rintro e w1 ⟨a0, b0, c0, d0, a1, b1, c1, d1, a2, b2, c2, d2, rfl, hr0, hr1, hr2, hu1⟩))
  obtain ⟨w2, hw2⟩ : ∃ w2 : World, w2 = ((w1.alloc (.cells #[.int .i64 a0, .int .i64 b0, .int .i64 c0, .int .i64 d0] 25)).alloc (.cells #[.int .i64 a1, .int .i64 b1, .int .i64 c1, .int .i64 d1] 25)).alloc (.cells #[.int .i64 a2, .int .i64 b2, .int .i64 c2, .int .i64 d2] 25) := ⟨_, rfl⟩
  obtain ⟨p, hp⟩ : ∃ p : Nat, p = w1.heap.size := ⟨_, rfl⟩
  rw [← hw2, ← hp]
  have r3 : R4c w2 p a0 b0 c0 d0 := by rw [hw2, hp]; exact ((R4c.new w1 a0 b0 c0 d0 _).up (Up.alloc (Up.refl _) _) (by simp)).up (Up.alloc (Up.refl _) _) (by simp; omega)
  have r4 : R4c w2 (p + 1) a1 b1 c1 d1 := by
    rw [hw2, hp]
    have hh := (R4c.new (w1.alloc (.cells #[.int .i64 a0, .int .i64 b0, .int .i64 c0, .int .i64 d0] 25)) a1 b1 c1 d1 25).up (Up.alloc (Up.refl _) (.cells #[.int .i64 a2, .int .i64 b2, .int .i64 c2, .int .i64 d2] 25)) (by simp)
    simpa using hh
  have r5 : R4c w2 (p + 1 + 1) a2 b2 c2 d2 := by
    rw [hw2, hp]
    have hh := R4c.new ((w1.alloc (.cells #[.int .i64 a0, .int .i64 b0, .int .i64 c0, .int .i64 d0] 25)).alloc (.cells #[.int .i64 a1, .int .i64 b1, .int .i64 c1, .int .i64 d1] 25)) a2 b2 c2 d2 25
    simpa using hh
  have hu2 : Up wE w2 := by rw [hw2]; exact ((hu1.alloc _).alloc _).alloc _
  have hz2 : p + 1 + 1 < w2.heap.size := by rw [hw2, hp]; simp
  clear hw2 hp hu1 hC
  obtain ⟨s0, s1, s2, s3, sb, hSol, hJm, hDn⟩ : ∃ (s0 s1 s2 s3 : Int) (sb : Bool), (∀ W, Calls Try.prog 6 #[.agg #[.int .i64 a0, .int .i64 b0, .int .i64 c0, .int .i64 d0], .agg #[.int .i64 a1, .int .i64 b1, .int .i64 c1, .int .i64 d1], .agg #[.int .i64 a2, .int .i64 b2, .int .i64 c2, .int .i64 d2]] W fun en w' => en = .returned (.tuple #[.agg #[.int .i64 s0, .int .i64 s1, .int .i64 s2, .int .i64 s3], .bool sb]) ∧ Up W w') ∧
      (sb = true → jmB s0 s1 s2 s3 a0 b0 c0 d0 = true ∧ jmB s0 s1 s2 s3 a1 b1 c1 d1 = true ∧ jmB s0 s1 s2 s3 a2 b2 c2 d2 = true) ∧ (sb = true → drI a0 b0 c0 d0 a1 b1 c1 d1 a2 b2 c2 d2 ≠ 0) :=
    ⟨_, _, _, _, _, fun W => SolveRows_any _ _ _ _ _ _ _ _ _ _ _ _ W, fun h => sl_jm h, fun h => sl_dr h⟩
  obtain ⟨d, hd1, hd2, hd3, ⟨hdl, hdh⟩, hdn⟩ : ∃ d : Int, (∀ W, Calls Try.prog 7 #[.agg #[.int .i64 a0, .int .i64 b0, .int .i64 c0, .int .i64 d0], .agg #[.int .i64 a1, .int .i64 b1, .int .i64 c1, .int .i64 d1], .agg #[.int .i64 a2, .int .i64 b2, .int .i64 c2, .int .i64 d2]] W fun en w' => en = .returned (.int .i64 d) ∧ Up W w') ∧
      (∀ W, Calls Try.prog 7 #[.agg #[.int .i64 a1, .int .i64 b1, .int .i64 c1, .int .i64 d1], .agg #[.int .i64 a2, .int .i64 b2, .int .i64 c2, .int .i64 d2], .agg #[.int .i64 a0, .int .i64 b0, .int .i64 c0, .int .i64 d0]] W fun en w' => en = .returned (.int .i64 d) ∧ Up W w') ∧
      (∀ W, Calls Try.prog 7 #[.agg #[.int .i64 a1, .int .i64 b1, .int .i64 c1, .int .i64 d1], .agg #[.int .i64 a0, .int .i64 b0, .int .i64 c0, .int .i64 d0], .agg #[.int .i64 a2, .int .i64 b2, .int .i64 c2, .int .i64 d2]] W fun en w' => en = .returned (.int .i64 (-d)) ∧ Up W w') ∧ I64 d ∧ (sb = true → d ≠ 0) :=
    ⟨_, fun W => DetOfRows_any _ _ _ _ _ _ _ _ _ _ _ _ W, fun W => by rw [← dr_turn (a := a0) (b := b0) (c := c0) (d := d0)]; exact DetOfRows_any _ _ _ _ _ _ _ _ _ _ _ _ W, fun W => by rw [← dr_swap (a := a0) (b := b0) (c := c0) (d := d0)]; exact DetOfRows_any _ _ _ _ _ _ _ _ _ _ _ _ W, dr_i64 hr0 hr1 hr2, hDn⟩
  have hRo : ∀ W, Calls Try.prog 8 #[.agg #[.int .i64 a0, .int .i64 b0, .int .i64 c0, .int .i64 d0]] W fun e w' => e = .returned (.bool true) ∧ Up W w' := fun W => by have hh := RowOk_any a0 b0 c0 d0 W; rw [hr0] at hh; exact hh
  clear hDn hr0 hr1 hr2
  have R3 := Lib.hid r3
  have R4 := Lib.hid r4
  have R5 := Lib.hid r5
  obtain ⟨x0, x1, x2, x3⟩ := r3
  obtain ⟨y0, y1, y2, y3⟩ := r4
  obtain ⟨z0, z1, z2, z3⟩ := r5
  have hzp : p < w2.heap.size := by omega
  have hzq : p + 1 < w2.heap.size := by omega
  refine JL.seq okU_set ok_set fr3 (by kernel_rfl) ?_
  go_wp2_with (first | (go_at_call 6; (with_reducible refine (hSol _).mono ?_); rintro e w3 ⟨rfl, hb3⟩))
  obtain ⟨w4, hw4⟩ : ∃ w4 : World, w4 = w3.alloc (.cells #[.int .i64 s0, .int .i64 s1, .int .i64 s2, .int .i64 s3] 29) := ⟨_, rfl⟩
  obtain ⟨b6, hb6⟩ : ∃ b6 : Nat, b6 = w3.heap.size := ⟨_, rfl⟩
  have hu34 : Up w3 w4 := by rw [hw4]; exact Up.alloc (Up.refl _) _
  have r6 : R4c w4 b6 s0 s1 s2 s3 := by rw [hw4, hb6]; exact R4c.new w3 s0 s1 s2 s3 _
  have hz6 : b6 < w4.heap.size := by rw [hw4, hb6]; simp
  rw [← hw4, ← hb6]
  have hb4 := hb3.trans hu34
  have hu4 := hu2.trans hb4
  have r3 := R3.out.up hb4 hzp
  have r4 := R4.out.up hb4 hzq
  have r5 := R5.out.up hb4 hz2
  have hz := hb4.size
  have hzp : p < w4.heap.size := by omega
  have hzq : p + 1 < w4.heap.size := by omega
  have hz2 : p + 1 + 1 < w4.heap.size := by omega
  clear hw4 hb6 hu34 hb3 hb4 R3 R4 R5 hz x0 x1 x2 x3 y0 y1 y2 y3 z0 z1 z2 z3 hu2 hSol
  have R3 := Lib.hid r3
  have R4 := Lib.hid r4
  have R5 := Lib.hid r5
  have R6 := Lib.hid r6
  obtain ⟨x0, x1, x2, x3⟩ := r3
  obtain ⟨y0, y1, y2, y3⟩ := r4
  obtain ⟨z0, z1, z2, z3⟩ := r5
  obtain ⟨q0, q1, q2, q3⟩ := r6
  refine JL.seq okU_set ok_set fr3 (by kernel_rfl) ?_
  go_wp2_with (first | (go_at_call 7; (with_reducible refine (hd1 _).mono ?_); rintro e w5 ⟨rfl, hb5⟩))
  have hu5 := hu4.trans hb5
  have r3 := R3.out.up hb5 hzp
  have r4 := R4.out.up hb5 hzq
  have r5 := R5.out.up hb5 hz2
  have r6 := R6.out.up hb5 hz6
  have hz := hb5.size
  have hzp : p < w5.heap.size := by omega
  have hzq : p + 1 < w5.heap.size := by omega
  have hz2 : p + 1 + 1 < w5.heap.size := by omega
  have hz6 : b6 < w5.heap.size := by omega
  clear hb5 hz R3 R4 R5 R6 x0 x1 x2 x3 y0 y1 y2 y3 z0 z1 z2 z3 q0 q1 q2 q3 hu4 hd1
  have R3 := Lib.hid r3
  have R4 := Lib.hid r4
  have R5 := Lib.hid r5
  have R6 := Lib.hid r6
  obtain ⟨x0, x1, x2, x3⟩ := r3
  obtain ⟨y0, y1, y2, y3⟩ := r4
  obtain ⟨z0, z1, z2, z3⟩ := r5
  have hwd : IntKind.i64.wrap d = d := IntWalk.i64_in _ (by omega)
  have hwn : - -d = d := by omega
  have hdz : sb = true → ¬ d = 0 := hdn
  refine JL.seq okU_set ok_set fr3 (by kernel_rfl) ?_
  cases sb with
  | false =>
    go_wp2_with (first | (go_at_call 7; (with_reducible refine (hd2 _).mono ?_); rintro e w6 ⟨rfl, hb6⟩; have g3 := R3.out.up hb6 hzp; have g4 := R4.out.up hb6 hzq; have g5 := R5.out.up hb6 hz2; obtain ⟨x0, x1, x2, x3⟩ := g3; obtain ⟨y0, y1, y2, y3⟩ := g4; obtain ⟨z0, z1, z2, z3⟩ := g5) | (go_at_call 7; (with_reducible refine (hd3 _).mono ?_); rintro e w7 ⟨rfl, hb7⟩; have g3 := R3.out.up (hb6.trans hb7) hzp; obtain ⟨x0, x1, x2, x3⟩ := g3) | (go_at_call 8; (with_reducible refine (hRo _).mono ?_); rintro e w8 ⟨rfl, hb8⟩))
    have hu8 : Up wE w8 := ((hu5.trans hb6).trans hb7).trans hb8
    clear R3 R4 R5 R6 hb6 hb7 hb8 hu5 x0 x1 x2 x3 y0 y1 y2 y3 z0 z1 z2 z3 hJm hd2 hd3 hRo hdn hdz
    refine JL.seq okU_set ok_set fr3 (by kernel_rfl) ?_
    go_wp2
    exact law_back hA hB hn hu8
  | true =>
    obtain ⟨j1, j2, j3⟩ := hJm rfl
    have hdz2 := hdz rfl
    have hj1 : ∀ W, Calls Try.prog 9 #[.agg #[.int .i64 s0, .int .i64 s1, .int .i64 s2, .int .i64 s3], .agg #[.int .i64 a0, .int .i64 b0, .int .i64 c0, .int .i64 d0]] W fun e w' => e = .returned (.bool true) ∧ Up W w' := fun W => by have hh := IsJustMet_any s0 s1 s2 s3 a0 b0 c0 d0 W; rw [j1] at hh; exact hh
    have hj2 : ∀ W, Calls Try.prog 9 #[.agg #[.int .i64 s0, .int .i64 s1, .int .i64 s2, .int .i64 s3], .agg #[.int .i64 a1, .int .i64 b1, .int .i64 c1, .int .i64 d1]] W fun e w' => e = .returned (.bool true) ∧ Up W w' := fun W => by have hh := IsJustMet_any s0 s1 s2 s3 a1 b1 c1 d1 W; rw [j2] at hh; exact hh
    have hj3 : ∀ W, Calls Try.prog 9 #[.agg #[.int .i64 s0, .int .i64 s1, .int .i64 s2, .int .i64 s3], .agg #[.int .i64 a2, .int .i64 b2, .int .i64 c2, .int .i64 d2]] W fun e w' => e = .returned (.bool true) ∧ Up W w' := fun W => by have hh := IsJustMet_any s0 s1 s2 s3 a2 b2 c2 d2 W; rw [j3] at hh; exact hh
    have hFu : ∀ W, Calls Try.prog 11 #[.agg #[.int .i64 s0, .int .i64 s1, .int .i64 s2, .int .i64 s3], .agg #[.int .i64 a0, .int .i64 b0, .int .i64 c0, .int .i64 d0]] W fun e w' => e = .returned (.bool true) ∧ Up W w' := fun W => by have hh := Fulfills_any s0 s1 s2 s3 a0 b0 c0 d0 W; rw [jm_fu j1] at hh; exact hh
    have hJB : ∀ W : World, Calls Try.prog 10 #[.agg #[.int .i64 s0, .int .i64 s1, .int .i64 s2, .int .i64 s3], .slice (some ⟨W.heap.size, 0, none⟩) 3 3] (W.alloc (.cells #[.int .i64 a0, .int .i64 b0, .int .i64 c0, .int .i64 d0, .int .i64 a1, .int .i64 b1, .int .i64 c1, .int .i64 d1, .int .i64 a2, .int .i64 b2, .int .i64 c2, .int .i64 d2] 25)) fun e w' => (∃ A c, e = .returned (.slice A 3 c)) ∧ Up (W.alloc (.cells #[.int .i64 a0, .int .i64 b0, .int .i64 c0, .int .i64 d0, .int .i64 a1, .int .i64 b1, .int .i64 c1, .int .i64 d1, .int .i64 a2, .int .i64 b2, .int .i64 c2, .int .i64 d2] 25)) w' := fun W => by
      have hh := JustMetBy_any s0 s1 s2 s3 _ 3 _ _ _ _ (sl_lit W 4 3 [a0, b0, c0, d0, a1, b1, c1, d1, a2, b2, c2, d2] 25 rfl) (by omega)
      rw [jm3_len j1 j2 j3] at hh
      refine hh.mono fun e w' hp => ?_
      obtain ⟨v, rfl, hv, hu⟩ := hp
      obtain ⟨A, c, rfl⟩ := hv.sl.shape
      exact ⟨⟨A, c, rfl⟩, hu⟩
    clear hJm hdn hdz j1 j2 j3
    go_wp2_with (first | (go_at_call 7; (with_reducible refine (hd2 _).mono ?_); rintro e w6 ⟨rfl, hb6⟩; have g3 := R3.out.up hb6 hzp; have g4 := R4.out.up hb6 hzq; have g5 := R5.out.up hb6 hz2; obtain ⟨x0, x1, x2, x3⟩ := g3; obtain ⟨y0, y1, y2, y3⟩ := g4; obtain ⟨z0, z1, z2, z3⟩ := g5) | (go_at_call 7; (with_reducible refine (hd3 _).mono ?_); rintro e w7 ⟨rfl, hb7⟩; have g3 := R3.out.up (hb6.trans hb7) hzp; obtain ⟨x0, x1, x2, x3⟩ := g3) | (go_at_call 8; (with_reducible refine (hRo _).mono ?_); rintro e w8 ⟨rfl, hb8⟩))
    have hb58 : Up w5 w8 := (hb6.trans hb7).trans hb8
    clear hb6 hb7 hb8 x0 x1 x2 x3 y0 y1 y2 y3 z0 z1 z2 z3
    have r3 := R3.out.up hb58 hzp
    have r4 := R4.out.up hb58 hzq
    have r5 := R5.out.up hb58 hz2
    have r6 := R6.out.up hb58 hz6
    have hz := Up.size hb58
    have hzp : p < w8.heap.size := by omega
    have hzq : p + 1 < w8.heap.size := by omega
    have hz2 : p + 1 + 1 < w8.heap.size := by omega
    have hz6 : b6 < w8.heap.size := by omega
    have huw8 := Up.trans hu5 hb58
    clear hz R3 R4 R5 R6 hb58 hu5
    have R3 := Lib.hid r3
    have R4 := Lib.hid r4
    have R5 := Lib.hid r5
    have R6 := Lib.hid r6
    obtain ⟨x0, x1, x2, x3⟩ := r3
    obtain ⟨y0, y1, y2, y3⟩ := r4
    obtain ⟨z0, z1, z2, z3⟩ := r5
    obtain ⟨q0, q1, q2, q3⟩ := r6
    refine JL.seq okU_set ok_set fr3 (by kernel_rfl) ?_
    go_wp2_with (first | (go_at_call 9; (with_reducible refine (hj1 _).mono ?_); rintro e w9 ⟨rfl, hb9⟩; have g3 := R3.out.up (hb9) hzp; have g4 := R4.out.up (hb9) hzq; have g5 := R5.out.up (hb9) hz2; have g6 := R6.out.up (hb9) hz6; obtain ⟨x0, x1, x2, x3⟩ := g3; obtain ⟨y0, y1, y2, y3⟩ := g4; obtain ⟨z0, z1, z2, z3⟩ := g5; obtain ⟨q0, q1, q2, q3⟩ := g6) | (go_at_call 9; (with_reducible refine (hj2 _).mono ?_); rintro e w10 ⟨rfl, hb10⟩; have g3 := R3.out.up (hb9.trans hb10) hzp; have g4 := R4.out.up (hb9.trans hb10) hzq; have g5 := R5.out.up (hb9.trans hb10) hz2; have g6 := R6.out.up (hb9.trans hb10) hz6; obtain ⟨x0, x1, x2, x3⟩ := g3; obtain ⟨y0, y1, y2, y3⟩ := g4; obtain ⟨z0, z1, z2, z3⟩ := g5; obtain ⟨q0, q1, q2, q3⟩ := g6) | (go_at_call 9; (with_reducible refine (hj3 _).mono ?_); rintro e w11 ⟨rfl, hb11⟩; have g3 := R3.out.up ((hb9.trans hb10).trans hb11) hzp; have g4 := R4.out.up ((hb9.trans hb10).trans hb11) hzq; have g5 := R5.out.up ((hb9.trans hb10).trans hb11) hz2; have g6 := R6.out.up ((hb9.trans hb10).trans hb11) hz6; obtain ⟨x0, x1, x2, x3⟩ := g3; obtain ⟨y0, y1, y2, y3⟩ := g4; obtain ⟨z0, z1, z2, z3⟩ := g5; obtain ⟨q0, q1, q2, q3⟩ := g6) | (go_at_call 10; (with_reducible refine (hJB _).mono ?_); rintro e w12 ⟨⟨A9, c9, rfl⟩, hb12⟩; have g3 := R3.out.up (((hb9.trans hb10).trans hb11).trans ((Up.alloc (Up.refl w11) _).trans hb12)) hzp; have g4 := R4.out.up (((hb9.trans hb10).trans hb11).trans ((Up.alloc (Up.refl w11) _).trans hb12)) hzq; have g5 := R5.out.up (((hb9.trans hb10).trans hb11).trans ((Up.alloc (Up.refl w11) _).trans hb12)) hz2; have g6 := R6.out.up (((hb9.trans hb10).trans hb11).trans ((Up.alloc (Up.refl w11) _).trans hb12)) hz6; obtain ⟨x0, x1, x2, x3⟩ := g3; obtain ⟨y0, y1, y2, y3⟩ := g4; obtain ⟨z0, z1, z2, z3⟩ := g5; obtain ⟨q0, q1, q2, q3⟩ := g6) | (go_at_call 11; (with_reducible refine (hFu _).mono ?_); rintro e w13 ⟨rfl, hb13⟩))
    have huW : Up wE w13 := huw8.trans ((((hb9.trans hb10).trans hb11).trans ((Up.alloc (Up.refl w11) _).trans hb12)).trans hb13)
    exact law_back hA hB hn huW
end
theorem law_FnThreeRows (A : Option Addr) (n c : Nat) (B : Nat → Int) (w : World) (hm : n ≤ maxLen) (hA : Sl w 0 w.heap.size 1 (.slice A n c) n (bytF B)) (hB : ∀ i, i < n → 0 ≤ B i ∧ B i ≤ 255) : Sim.Ends Try.prog (PostL w) (solo (G (Frame.enter Try.prog 3 #[.slice A n c] .normal) []) w) #[] := by
  by_cases hn : n ≤ 1048576
  · exact (law_main hA hB hn).run
  · exact (law_big hm hA (by omega)).run
end Go.Proofs.Ytaealkfnhhmmcaa
