/- The walks of l16All, the reference's list of all proofs: at most one; at most five thousand. No condition. -/
import Derived.Test.YtlpbmdoggcclpaaQd0
namespace Go.Proofs.Ytlpbmdoggcclpaa
open Go.RowKit
set_option linter.unusedVariables false
theorem chg_grow {a b : World} {r : Nat} (h : a.grownBy b (some r)) : Chg r (r + 1) a b :=
  ⟨h.size, fun x o hx hd => by
    have hbk := h.block x hx (by simp; omega)
    exact ⟨World.cell?_of_block hbk, World.frozen?_of_block hbk⟩⟩
theorem Up.refl_alloc {a b : World} (h : Up a b) (o : Obj) : Up b (b.alloc o) := Up.alloc (Up.refl b) o
/-- What an append onto a row below leaves of two rows above. -/
theorem TwoR.grow {w a b : World} {L H : Nat} {A : Option Addr} {c : Nat} {A' : Option Addr} {c' n m : Nat} {f g : Nat → Nat → Value} (h : TwoR w L H A c A' c' n m f g) (hu : Up w a) {base sz N : Nat} {e : TypeId} {v : Value} {xs : List Value}
    (ho : w.ownsRow base e sz v N xs) (hg : a.grownBy b v.ownBlock) (hL : ∀ r, v.ownBlock = some r → r < L) : TwoR b L H A c A' c' n m f g := by
  have h2 := h.up hu
  rcases hv : v.ownBlock with _ | r
  · rw [hv] at hg
    have hc : Chg 0 0 a b := ⟨hg.size, fun x o hx hd => by
      have hbk := hg.block x hx (by simp)
      exact ⟨World.cell?_of_block hbk, World.frozen?_of_block hbk⟩⟩
    exact h2.off hc (.inr (Nat.zero_le _))
  · have := hL r hv
    rw [hv] at hg
    exact h2.off (chg_grow hg) (.inr (by omega))
theorem proof_info : (Try.prog.info? 26).map (fun i => (i.zero, i.size, i.bytes)) = some (some (.agg #[.slice none 0 0, .slice none 0 0]), 2, 48) := by kernel_rfl
/-- The first proof lies in the row at A. -/
def FndR (wr : World) (B : Nat) (k : Nat) (R : Nat → Nat → Int) (A : Option Addr) : Prop :=
  ∃ (q : Q4) (g : Nat) (A1 : Option Addr) (c1 : Nat) (A2 : Option Addr) (c2 L H : Nat), fpO k R = some q ∧ A = some ⟨g, 0, none⟩ ∧ wr.cell? ⟨g, 0, none⟩ = some (.slice A1 (mq k R q) c1) ∧ wr.cell? ⟨g, 1, none⟩ = some (.slice A2 (mq k R q) c2) ∧ g < wr.heap.size ∧
    TwoR wr L H A1 c1 A2 c2 (mq k R q) (mq k R q) (intF (poP R (qL q))) (intF (poQ R (qL q))) ∧ B ≤ L
def S1 (T : TypeId) (w wr : World) (k : Nat) (R : Nat → Nat → Int) (A : Option Addr) (n c : Nat) (rest : List Q4) : Prop :=
  (n = 0 ∧ ∃ done, done ++ rest = quads k ∧ (∀ x ∈ done, okq k R x = false) ∧ wr.ownsRow w.heap.size T 2 (.slice A n c) n []) ∨ (n = 1 ∧ k ≤ 20 ∧ FndR wr w.heap.size k R A)
def S1O (k : Nat) (R : Nat → Nat → Int) (n : Nat) (g : Nat → Nat → Value) (rest : List Q4) : Prop := n = 0 ∧ ∃ done, done ++ rest = quads k ∧ (∀ x ∈ done, okq k R x = false)
def S1P (w : World) (k : Nat) (R : Nat → Nat → Int) (e : Ending) (w' : World) : Prop :=
  ∃ A n c, e = .returned (.slice A n c) ∧ Up w w' ∧ ((n = 0 ∧ fpO k R = none) ∨ (n = 1 ∧ FndR w' w.heap.size k R A))
theorem S1.start (T : TypeId) (w : World) (k : Nat) (R : Nat → Nat → Int) : S1 T w (w.alloc (.cells #[] T)) k R (some ⟨w.heap.size, 0, none⟩) 0 0 (R1q k 0 (k - 0)) :=
  .inl ⟨rfl, [], rfl, by simp, World.ownsRow_made w #[] 0 (Nat.le_refl _) (Nat.zero_le _) rfl⟩
theorem S1.open {T : TypeId} {w wr : World} {k : Nat} {R : Nat → Nat → Int} {A : Option Addr} {n c : Nat} {rest : List Q4} (h : S1 T w wr k R A n c rest) (hn : n < 1) : ∃ g, wr.ownsRow w.heap.size T 2 (.slice A n c) n (flat 2 g n) ∧ S1O k R n g rest := by
  rcases h with ⟨rfl, done, h1, h2, h3⟩ | ⟨h1, _⟩
  · exact ⟨fun _ _ => .nilIface, h3, rfl, done, h1, h2⟩
  · omega
theorem S1.any {T : TypeId} {w wr : World} {k : Nat} {R : Nat → Nat → Int} {A : Option Addr} {n c : Nat} {rest : List Q4} (h : S1 T w wr k R A n c rest) (hn : ¬ n < 1) (rest' : List Q4) : S1 T w wr k R A n c rest' := by
  rcases h with ⟨h1, _⟩ | h
  · omega
  · exact .inr h
theorem S1.miss {T : TypeId} {w wr : World} {k : Nat} {R : Nat → Nat → Int} {A : Option Addr} {n c : Nat} {q : Q4} {rest : List Q4} {g : Nat → Nat → Value} (h : S1O k R n g (q :: rest)) (ho : wr.ownsRow w.heap.size T 2 (.slice A n c) n (flat 2 g n)) (hq : okq k R q = false) : S1 T w wr k R A n c rest := by
  obtain ⟨rfl, done, h1, h2⟩ := h
  exact .inl ⟨rfl, done ++ [q], by simpa using h1, fun x hx => by
    rw [List.mem_append] at hx
    rcases hx with hx | hx
    · exact h2 x hx
    · simp at hx; rw [hx]; exact hq, ho⟩
theorem S1.hit {T : TypeId} {w w2 : World} {k : Nat} {R : Nat → Nat → Int} {n gb cap : Nat} {q : Q4} {rest : List Q4} {g : Nat → Nat → Value} {A1 A2 : Option Addr} {c1 c2 M L H : Nat} (h : S1O k R n g (q :: rest)) (hk : k ≤ 20) (hn : n < 1)
    (ho : w2.ownsRow w.heap.size T 2 (.slice (some ⟨gb, 0, none⟩) (n + 1) cap) (n + 1) (flat 2 g n ++ [.slice A1 M c1, .slice A2 M c2])) (hq : okq k R q = true) (hM : M = mq k R q)
    (ht : TwoR w2 L H A1 c1 A2 c2 M M (intF (poP R (qL q))) (intF (poQ R (qL q)))) (hL : w.heap.size ≤ L) : S1 T w w2 k R (some ⟨gb, 0, none⟩) (n + 1) cap rest := by
  obtain ⟨rfl, done, h1, h2⟩ := h
  subst hM
  refine .inr ⟨rfl, hk, q, gb, A1, c1, A2, c2, L, H, fp_hit hk h1 h2 hq, rfl, ?_, ?_, (ho.lt gb rfl).2, ht, hL⟩
  · have := ho.cells (g := gb) rfl 0 (.slice A1 (mq k R q) c1) (by simp [flat])
    rw [Go.WideShapes.add_plain] at this; simpa using this
  · have := ho.cells (g := gb) rfl 1 (.slice A2 (mq k R q) c2) (by simp [flat])
    rw [Go.WideShapes.add_plain] at this; simpa using this
theorem S1P.zero {w w' : World} {k : Nat} {R : Nat → Nat → Int} {A : Option Addr} {c : Nat} (hk : ¬ k ≤ 20) (hu : Up w w') : S1P w k R (.returned (.slice A 0 c)) w' := ⟨A, 0, c, rfl, hu, .inl ⟨rfl, by rw [fpO, if_neg hk]⟩⟩
theorem S1P.mk {T : TypeId} {w w' : World} {k : Nat} {R : Nat → Nat → Int} {A : Option Addr} {n c : Nat} (hk : k ≤ 20) (h : S1 T w w' k R A n c []) (hu : Up w w') : S1P w k R (.returned (.slice A n c)) w' := by
  rcases h with ⟨rfl, done, h1, h2, _⟩ | ⟨rfl, _, h⟩
  · rw [List.append_nil] at h1
    exact ⟨A, 0, c, rfl, hu, .inl ⟨rfl, fp_miss (by rw [← h1]; exact h2)⟩⟩
  · exact ⟨A, 1, c, rfl, hu, .inr ⟨rfl, h⟩⟩
/-- The lengths lie in the row at A. -/
def SAO (k : Nat) (R : Nat → Nat → Int) (n : Nat) (g : Nat → Nat → Value) (rest : List Q4) : Prop := ∃ done, done ++ rest = quads k ∧ n = (frL k R done).length ∧ ∀ j, j < n → ∃ A c, g j 0 = .slice A ((frL k R done).getD j 0) c
def SA (T : TypeId) (w wr : World) (k : Nat) (R : Nat → Nat → Int) (A : Option Addr) (n c : Nat) (rest : List Q4) : Prop :=
  k ≤ 20 ∧ ∃ g, wr.ownsRow w.heap.size T 2 (.slice A n c) n (flat 2 g n) ∧ SAO k R n g rest
def frQ (k : Nat) (R : Nat → Nat → Int) : List Nat := if k ≤ 20 then frL k R (quads k) else []
def SAP (w : World) (k : Nat) (R : Nat → Nat → Int) (e : Ending) (w' : World) : Prop :=
  ∃ A c g, e = .returned (.slice A (frQ k R).length c) ∧ Up w w' ∧ Sl w' 0 w'.heap.size 2 (.slice A (frQ k R).length c) (frQ k R).length g ∧ ∀ j, j < (frQ k R).length → ∃ A c, g j 0 = .slice A ((frQ k R).getD j 0) c
theorem SA.start (T : TypeId) (w : World) (k : Nat) (R : Nat → Nat → Int) (hk : k ≤ 20) : SA T w (w.alloc (.cells #[] T)) k R (some ⟨w.heap.size, 0, none⟩) 0 0 (R1q k 0 (k - 0)) :=
  ⟨hk, fun _ _ => .nilIface, World.ownsRow_made w #[] 0 (Nat.le_refl _) (Nat.zero_le _) rfl, [], rfl, rfl, fun j hj => by omega⟩
theorem SA.open {T : TypeId} {w wr : World} {k : Nat} {R : Nat → Nat → Int} {A : Option Addr} {n c : Nat} {rest : List Q4} (h : SA T w wr k R A n c rest) (hn : n < 5000) : ∃ g, wr.ownsRow w.heap.size T 2 (.slice A n c) n (flat 2 g n) ∧ SAO k R n g rest := h.2
theorem SA.any {T : TypeId} {w wr : World} {k : Nat} {R : Nat → Nat → Int} {A : Option Addr} {n c : Nat} {rest : List Q4} (h : SA T w wr k R A n c rest) (hn : ¬ n < 5000) (rest' : List Q4) : SA T w wr k R A n c rest' := by
  obtain ⟨hk, g, _, done, h1, h2, _⟩ := h
  have h3 := frL_len k R done
  have h4 := quads_len k hk
  rw [← h1, List.length_append] at h4
  omega
theorem SA.miss {T : TypeId} {w wr : World} {k : Nat} {R : Nat → Nat → Int} {A : Option Addr} {n c : Nat} {q : Q4} {rest : List Q4} {g : Nat → Nat → Value} (hk : k ≤ 20) (h : SAO k R n g (q :: rest)) (ho : wr.ownsRow w.heap.size T 2 (.slice A n c) n (flat 2 g n)) (hq : okq k R q = false) : SA T w wr k R A n c rest := by
  obtain ⟨done, h1, h2, h3⟩ := h
  exact ⟨hk, g, ho, done ++ [q], by simpa using h1, by rw [frL_f hq]; exact h2, by rw [frL_f hq]; exact h3⟩
theorem SA.hit {T : TypeId} {w w2 : World} {k : Nat} {R : Nat → Nat → Int} {n gb cap : Nat} {q : Q4} {rest : List Q4} {g : Nat → Nat → Value} {A1 A2 : Option Addr} {c1 c2 M L H : Nat} (h : SAO k R n g (q :: rest)) (hk : k ≤ 20) (hn : n < 5000)
    (ho : w2.ownsRow w.heap.size T 2 (.slice (some ⟨gb, 0, none⟩) (n + 1) cap) (n + 1) (flat 2 g n ++ [.slice A1 M c1, .slice A2 M c2])) (hq : okq k R q = true) (hM : M = mq k R q)
    (ht : TwoR w2 L H A1 c1 A2 c2 M M (intF (poP R (qL q))) (intF (poQ R (qL q)))) (hL : w.heap.size ≤ L) : SA T w w2 k R (some ⟨gb, 0, none⟩) (n + 1) cap rest := by
  obtain ⟨done, h1, h2, h3⟩ := h
  subst hM
  refine ⟨hk, fun i j => if i = n then (if j = 0 then .slice A1 (mq k R q) c1 else .slice A2 (mq k R q) c2) else g i j, ?_, done ++ [q], by simpa using h1, by rw [frL_t hq, List.length_append, ← h2]; rfl, ?_⟩
  · have e : flat 2 (fun i j => if i = n then (if j = 0 then .slice A1 (mq k R q) c1 else .slice A2 (mq k R q) c2) else g i j) (n + 1) = flat 2 g n ++ [.slice A1 (mq k R q) c1, .slice A2 (mq k R q) c2] := by
      rw [flat]
      congr 1
      · exact flat_congr fun i j hi _ => by rw [if_neg (by omega)]
      · simp [List.range_succ]
    rw [e]
    exact ho
  · intro j hj
    rw [frL_t hq]
    by_cases e : j = n
    · subst e
      refine ⟨A1, c1, ?_⟩
      dsimp only
      rw [if_pos rfl, if_pos rfl, List.getD_eq_getElem?_getD, List.getElem?_append_right (by omega), h2]
      simp
    · obtain ⟨A, c, hg⟩ := h3 j (by omega)
      refine ⟨A, c, ?_⟩
      dsimp only
      rw [if_neg e, hg, List.getD_eq_getElem?_getD, List.getD_eq_getElem?_getD, List.getElem?_append_left (by omega)]
theorem SAP.zero {w w' : World} {k : Nat} {R : Nat → Nat → Int} {A : Option Addr} {c : Nat} (hk : ¬ k ≤ 20) (hu : Up w w') : SAP w k R (.returned (.slice A 0 c)) w' := by
  have e : frQ k R = [] := by rw [frQ, if_neg hk]
  unfold SAP
  rw [e]
  exact ⟨A, c, fun _ _ => .nilIface, rfl, hu, ⟨Nat.le_refl _, A, c, rfl, Nat.zero_le _, fun h => absurd h (by simp)⟩, fun j hj => by simp at hj⟩
theorem SAP.mk {T : TypeId} {w w' : World} {k : Nat} {R : Nat → Nat → Int} {A : Option Addr} {n c : Nat} (hk : k ≤ 20) (h : SA T w w' k R A n c []) (hu : Up w w') : SAP w k R (.returned (.slice A n c)) w' := by
  obtain ⟨_, g, ho, done, h1, h2, h3⟩ := h
  rw [List.append_nil] at h1
  subst h1
  have e : frQ k R = frL k R (quads k) := by rw [frQ, if_pos hk]
  unfold SAP
  rw [e, ← h2]
  exact ⟨A, c, g, rfl, hu, ((Wr.of_own ho).sl.wide (Nat.zero_le _) (Nat.le_refl _) (Nat.le_refl _)), h3⟩
set_option maxHeartbeats 8000000 in
set_option maxRecDepth 100000 in
theorem l16All_one (u : Value) (k lo hi : Nat) (R : Nat → Nat → Int) (w : World) (hs : Sl w lo hi 4 u k (intF R)) (hkk1 : k ≤ 1048576) :
    Calls Try.prog 41 #[u, .int .i64 1] w (S1P w k R) := by
  obtain ⟨i0, hi0, hz00, hz1, hz2⟩ := info_parts proof_info
  have HS := hs
  obtain ⟨hzz, Au, cu, rfl, hcu, _⟩ := HS
  by_cases hk20 : k ≤ 20
  rotate_left
  · have hk21 : ¬ (k : Int) ≤ 20 := by omega
    go_enter Try.func41, Try.ntmps41
    go_wp2
    go_loopw [5, 7] (fun v ii wr => v = .slice (some ⟨w.heap.size, 0, none⟩) 0 0 ∧ ii = .int .i64 0 ∧ wr = w.alloc (.cells #[] 26)) (fun _ ii _ => 0)
    case atStart => exact ⟨rfl, rfl, rfl⟩
    case round =>
      obtain ⟨rfl, rfl, rfl⟩ := hrel
      go_wp2
      go_ret
      exact S1P.zero hk20 (by repeat (first | with_reducible exact Up.refl _ | with_reducible refine Up.alloc ?_ _ | with_reducible refine Up.drew ?_ | with_reducible refine Up.drewN ?_ _ | (with_reducible refine Up.setCell ?_ (by first | omega | (simp; done) | (simp; omega)) _) | with_reducible assumption | (with_reducible refine Up.trans ?_ (by with_reducible assumption))))
  have hk21 : (k : Int) ≤ 20 := by omega
  go_enter Try.func41, Try.ntmps41
  go_wp2
  go_loopw [5, 7] (fun v ii wr => ∃ (iN : Nat) (A5 : Option Addr) (n5 c5 : Nat), v = .slice A5 n5 c5 ∧ ii = .int .i64 (iN : Int) ∧ iN ≤ k ∧ Hid (S1 26 w wr k R A5 n5 c5 (R1q k iN (k - iN))) ∧ Up w wr) (fun _ ii _ => k - (intOf ii).toNat)
  case atStart => exact ⟨0, _, _, _, rfl, rfl, Nat.zero_le _, Lib.hid (S1.start _ w k R), (by repeat (first | with_reducible exact Up.refl _ | with_reducible refine Up.alloc ?_ _ | with_reducible refine Up.drew ?_ | with_reducible refine Up.drewN ?_ _ | (with_reducible refine Up.setCell ?_ (by first | omega | (simp; done) | (simp; omega)) _) | with_reducible assumption | (with_reducible refine Up.trans ?_ (by with_reducible assumption))))⟩
  case round =>
    obtain ⟨iN, A5, n5, c5, rfl, rfl, hik, hri, hupi⟩ := hrel
    by_cases hi1 : iN < k
    · have hi2 : (iN : Int) < (k : Int) := by omega
      go_wp2
      go_loopw [5, 8] (fun v kk wr => ∃ (kN : Nat) (A5 : Option Addr) (n5 c5 : Nat), v = .slice A5 n5 c5 ∧ kk = .int .i64 (kN : Int) ∧ iN + 1 ≤ kN ∧ kN ≤ k ∧ Hid (S1 26 w wr k R A5 n5 c5 (R2q k iN kN (k - kN) ++ R1q k (iN + 1) (k - (iN + 1)))) ∧ Up w wr) (fun _ kk _ => k - (intOf kk).toNat)
      case atStart => exact ⟨iN + 1, _, _, _, rfl, by rfl, by omega, by omega, Lib.hid (by have h := hri.out; rw [R1q_s hi1] at h; exact h), hupi⟩
      case round =>
        clear hri hupi
        obtain ⟨kN, A5, n5, c5, rfl, rfl, hk0, hkk0, hrk, hupk⟩ := hrel
        by_cases hk1 : kN < k
        · have hk2 : (kN : Int) < (k : Int) := by omega
          go_wp2
          go_loopw [5, 9] (fun v mm wr => ∃ (mN : Nat) (A5 : Option Addr) (n5 c5 : Nat), v = .slice A5 n5 c5 ∧ mm = .int .i64 (mN : Int) ∧ kN + 1 ≤ mN ∧ mN ≤ k ∧ Hid (S1 26 w wr k R A5 n5 c5 (R3q k iN kN mN (k - mN) ++ (R2q k iN (kN + 1) (k - (kN + 1)) ++ R1q k (iN + 1) (k - (iN + 1))))) ∧ Up w wr) (fun _ mm _ => k - (intOf mm).toNat)
          case atStart => exact ⟨kN + 1, _, _, _, rfl, by rfl, by omega, by omega, Lib.hid (by have h := hrk.out; rw [R2q_s hk1, List.append_assoc] at h; exact h), hupk⟩
          case round =>
            clear hrk hupk
            obtain ⟨mN, A5, n5, c5, rfl, rfl, hm0, hmk, hrm, hupm⟩ := hrel
            by_cases hm1 : mN < k
            · have hm2 : (mN : Int) < (k : Int) := by omega
              go_wp2
              go_loopw [5, 10] (fun v xx wr => ∃ (xN : Nat) (A5 : Option Addr) (n5 c5 : Nat), v = .slice A5 n5 c5 ∧ xx = .int .i64 (xN : Int) ∧ mN + 1 ≤ xN ∧ xN ≤ k ∧ Hid (S1 26 w wr k R A5 n5 c5 (R4q iN kN mN xN (k - xN) ++ (R3q k iN kN (mN + 1) (k - (mN + 1)) ++ (R2q k iN (kN + 1) (k - (kN + 1)) ++ R1q k (iN + 1) (k - (iN + 1)))))) ∧ Up w wr) (fun _ xx _ => k - (intOf xx).toNat)
              case atStart => exact ⟨mN + 1, _, _, _, rfl, by rfl, by omega, by omega, Lib.hid (by have h := hrm.out; rw [R3q_s hm1, List.append_assoc] at h; exact h), hupm⟩
              case round =>
                clear hrm hupm
                obtain ⟨xN, A5, n5, c5, rfl, rfl, hx0, hxk, hr, hup⟩ := hrel
                by_cases hx1 : xN < k
                · have hx2 : (xN : Int) < (k : Int) := by omega
                  have hr2 := hr.out
                  rw [R4q_s hx1, List.cons_append] at hr2
                  replace hr := Lib.hid hr2
                  clear hr2
                  by_cases hnm : n5 < 1
                  · have hnm2 : (n5 : Int) < 1 := by omega
                    obtain ⟨g5, ho, hO⟩ := S1.open hr.out hnm
                    have HOO := Lib.hid hO
                    have HO := Lib.hid ho
                    clear hr hO ho
                    have hu0 : Up w (wr.alloc (.cells #[.int .i64 (iN : Int), .int .i64 (kN : Int), .int .i64 (mN : Int), .int .i64 (xN : Int)] 3)) := hup.alloc _
                    have hSq := qL_sl wr iN kN mN xN 3
                    by_cases hB : okq k R (iN, kN, mN, xN) = true
                    · have hC := fun W U l1 h1 X l2 h2 (a1 : Sl W l1 h1 4 U k (intF R)) (a2 : Sl W l2 h2 1 X 4 (intF (qL (iN, kN, mN, xN)))) => sProofOfFour_any U X k 4 l1 h1 l2 h2 R (qL (iN, kN, mN, xN)) W a1 a2 hkk1 (by omega)
                      rw [show poB k 4 R (qL (iN, kN, mN, xN)) = true from hB, show poM k 4 R (qL (iN, kN, mN, xN)) = mq k R (iN, kN, mN, xN) from rfl] at hC
                      have hmle := mq_le k R (iN, kN, mN, xN)
                      generalize hM : mq k R (iN, kN, mN, xN) = M at *
                      have HM := Lib.hid hM
                      clear hM
                      go_wp2_with fail
                      (go_at_call 66; (with_reducible refine (hC _ _ _ _ _ _ _ (hs.up hu0) hSq).mono ?_); intro e w3 hh; obtain ⟨A3, c3, D3, d3, rfl, T3, hb3⟩ := hh.two)
                      clear hC
                      have hu3 : Up w w3 := hu0.trans hb3
                      have hz3 := hb3.size
                      have hz0 := hup.size
                      simp only [World.size_alloc] at hz3
                      have HO3 := Lib.hid (own_up (w := w) (own_up (w := w) HO.out (Up.alloc (Up.refl wr) (.cells #[.int .i64 (iN : Int), .int .i64 (kN : Int), .int .i64 (mN : Int), .int .i64 (xN : Int)] 3))) hb3)
                      have HT3 := Lib.hid T3
                      clear T3 hSq
                      have hcell0 : (w3.alloc (.cells #[.slice A3 M c3, .slice D3 M d3] 26)).cell? ⟨w3.heap.size, 0, none⟩ = some (.slice A3 M c3) := by rw [World.cell?_alloc_mark]; rfl
                      have hcell1 : (w3.alloc (.cells #[.slice A3 M c3, .slice D3 M d3] 26)).cell? ⟨w3.heap.size, 1, none⟩ = some (.slice D3 M d3) := by rw [World.cell?_alloc_mark]; rfl
                      go_wp2_with (at_builtin; refine wpList_append_lies _ rfl (.tmp 63) (.tmp 65) 71 rfl w.heap.size 26 i0 _ 2 48 Try.underlying71 hi0 hz00 hz1 hz2 rfl (by omega) _ _ _ rfl ((HO3.out.alloc _).alloc _) ⟨w3.heap.size + 1, 0, none⟩ 1 1 [.slice A3 M c3, .slice D3 M d3] rfl rfl (by have hh := World.news_of_block (heap_alloc_new (w3.alloc (.cells #[.slice A3 M c3, .slice D3 M d3] 26)) (.cells #[.slice A3 M c3, .slice D3 M d3] 26)); simpa using hh) (by simp [Value.oneCell']) (by omega) (by simp only [maxLen]; omega) (by omega) (by simp; omega) (w3.heap.size + 2) (by simp) ?_; intro g cap w4 hown hgrow hat hlt)
                      have hu4 : Up w w4 := up_own ((hu3.alloc _).alloc _) (Nat.le_refl _) ((HO3.out.alloc _).alloc _) hgrow
                      have HRX := Lib.hid (S1.hit HOO.out hk20 hnm hown hB (by rw [HM.out]) (HT3.out.grow ((hb3.refl_alloc _).alloc _) HO3.out hgrow (fun r hr => by have := (HO.out.lt r hr).2; simp only [World.size_alloc]; omega)) (by simp; omega))
                      clear hown hgrow hat hlt HT3 HO3 HO hcell0 hcell1
                      go_wp2
                      exact ⟨⟨xN + 1, _, _, _, rfl, by rfl, by omega, by omega, HRX, hu4⟩, by simp only [intOf]; omega⟩
                    · have hBf : okq k R (iN, kN, mN, xN) = false := by simpa using hB
                      have hC := fun W U l1 h1 X l2 h2 (a1 : Sl W l1 h1 4 U k (intF R)) (a2 : Sl W l2 h2 1 X 4 (intF (qL (iN, kN, mN, xN)))) => sProofOfFour_any U X k 4 l1 h1 l2 h2 R (qL (iN, kN, mN, xN)) W a1 a2 hkk1 (by omega)
                      rw [show poB k 4 R (qL (iN, kN, mN, xN)) = false from hBf] at hC
                      go_wp2_with fail
                      (go_at_call 66; (with_reducible refine (hC _ _ _ _ _ _ _ (hs.up hu0) hSq).mono ?_); intro e w3 hh; obtain ⟨A3, c3, D3, d3, rfl, T3, hb3⟩ := hh.two)
                      clear hC T3
                      have hu3 : Up w w3 := hu0.trans hb3
                      have HO3 := own_up (w := w) (own_up (w := w) (own_up (w := w) HO.out (Up.alloc (Up.refl wr) (.cells #[.int .i64 (iN : Int), .int .i64 (kN : Int), .int .i64 (mN : Int), .int .i64 (xN : Int)] 3))) hb3) (Up.alloc (Up.refl w3) (.cells #[.slice A3 (poM k 4 R (qL (iN, kN, mN, xN))) c3, .slice D3 (poM k 4 R (qL (iN, kN, mN, xN))) d3] 26))
                      have HRX := Lib.hid (S1.miss HOO.out HO3 hBf)
                      clear HO3 HO HOO
                      generalize poM k 4 R (qL (iN, kN, mN, xN)) = M at *
                      go_wp2
                      exact ⟨⟨xN + 1, _, _, _, rfl, by rfl, by omega, by omega, HRX, hu3.alloc _⟩, by simp only [intOf]; omega⟩
                  · have hnm2 : ¬ (n5 : Int) < 1 := by omega
                    have HRX := Lib.hid (S1.any hr.out hnm (R3q k iN kN (mN + 1) (k - (mN + 1)) ++ (R2q k iN (kN + 1) (k - (kN + 1)) ++ R1q k (iN + 1) (k - (iN + 1)))))
                    clear hr
                    go_wp2
                    exact ⟨⟨mN + 1, _, _, _, rfl, by rfl, by omega, by omega, HRX, hup⟩, by simp only [intOf]; omega⟩
                · have hkk : xN = k := by omega
                  have hrx := hr.out
                  rw [R4q_z hx1, List.nil_append] at hrx
                  subst hkk
                  have HRX := Lib.hid hrx
                  clear hr hrx
                  go_wp2
                  exact ⟨⟨mN + 1, _, _, _, rfl, by rfl, by omega, by omega, HRX, hup⟩, by simp only [intOf]; omega⟩
            · have hkk : mN = k := by omega
              have hrx := hrm.out
              rw [R3q_z hm1, List.nil_append] at hrx
              subst hkk
              have HRX := Lib.hid hrx
              clear hrm hrx
              go_wp2
              exact ⟨⟨kN + 1, _, _, _, rfl, by rfl, by omega, by omega, HRX, hupm⟩, by simp only [intOf]; omega⟩
        · have hkk : kN = k := by omega
          have hrx := hrk.out
          rw [R2q_z hk1, List.nil_append] at hrx
          subst hkk
          have HRX := Lib.hid hrx
          clear hrk hrx
          go_wp2
          exact ⟨⟨iN + 1, _, _, _, rfl, by rfl, by omega, HRX, hupk⟩, by simp only [intOf]; omega⟩
    · have hrx := hri.out
      rw [R1q_z hi1] at hrx
      have hi2 : ¬ (iN : Int) < (k : Int) := by omega
      clear hri
      go_wp2
      go_ret
      exact S1P.mk hk20 hrx hupi
set_option maxHeartbeats 8000000 in
set_option maxRecDepth 100000 in
theorem l16All_all (u : Value) (k lo hi : Nat) (R : Nat → Nat → Int) (w : World) (hs : Sl w lo hi 4 u k (intF R)) (hkk1 : k ≤ 1048576) :
    Calls Try.prog 41 #[u, .int .i64 5000] w (SAP w k R) := by
  obtain ⟨i0, hi0, hz00, hz1, hz2⟩ := info_parts proof_info
  have HS := hs
  obtain ⟨hzz, Au, cu, rfl, hcu, _⟩ := HS
  by_cases hk20 : k ≤ 20
  rotate_left
  · have hk21 : ¬ (k : Int) ≤ 20 := by omega
    go_enter Try.func41, Try.ntmps41
    go_wp2
    go_loopw [5, 7] (fun v ii wr => v = .slice (some ⟨w.heap.size, 0, none⟩) 0 0 ∧ ii = .int .i64 0 ∧ wr = w.alloc (.cells #[] 26)) (fun _ ii _ => 0)
    case atStart => exact ⟨rfl, rfl, rfl⟩
    case round =>
      obtain ⟨rfl, rfl, rfl⟩ := hrel
      go_wp2
      go_ret
      exact SAP.zero hk20 (by repeat (first | with_reducible exact Up.refl _ | with_reducible refine Up.alloc ?_ _ | with_reducible refine Up.drew ?_ | with_reducible refine Up.drewN ?_ _ | (with_reducible refine Up.setCell ?_ (by first | omega | (simp; done) | (simp; omega)) _) | with_reducible assumption | (with_reducible refine Up.trans ?_ (by with_reducible assumption))))
  have hk21 : (k : Int) ≤ 20 := by omega
  go_enter Try.func41, Try.ntmps41
  go_wp2
  go_loopw [5, 7] (fun v ii wr => ∃ (iN : Nat) (A5 : Option Addr) (n5 c5 : Nat), v = .slice A5 n5 c5 ∧ ii = .int .i64 (iN : Int) ∧ iN ≤ k ∧ Hid (SA 26 w wr k R A5 n5 c5 (R1q k iN (k - iN))) ∧ Up w wr) (fun _ ii _ => k - (intOf ii).toNat)
  case atStart => exact ⟨0, _, _, _, rfl, rfl, Nat.zero_le _, Lib.hid (SA.start _ w k R hk20), (by repeat (first | with_reducible exact Up.refl _ | with_reducible refine Up.alloc ?_ _ | with_reducible refine Up.drew ?_ | with_reducible refine Up.drewN ?_ _ | (with_reducible refine Up.setCell ?_ (by first | omega | (simp; done) | (simp; omega)) _) | with_reducible assumption | (with_reducible refine Up.trans ?_ (by with_reducible assumption))))⟩
  case round =>
    obtain ⟨iN, A5, n5, c5, rfl, rfl, hik, hri, hupi⟩ := hrel
    by_cases hi1 : iN < k
    · have hi2 : (iN : Int) < (k : Int) := by omega
      go_wp2
      go_loopw [5, 8] (fun v kk wr => ∃ (kN : Nat) (A5 : Option Addr) (n5 c5 : Nat), v = .slice A5 n5 c5 ∧ kk = .int .i64 (kN : Int) ∧ iN + 1 ≤ kN ∧ kN ≤ k ∧ Hid (SA 26 w wr k R A5 n5 c5 (R2q k iN kN (k - kN) ++ R1q k (iN + 1) (k - (iN + 1)))) ∧ Up w wr) (fun _ kk _ => k - (intOf kk).toNat)
      case atStart => exact ⟨iN + 1, _, _, _, rfl, by rfl, by omega, by omega, Lib.hid (by have h := hri.out; rw [R1q_s hi1] at h; exact h), hupi⟩
      case round =>
        clear hri hupi
        obtain ⟨kN, A5, n5, c5, rfl, rfl, hk0, hkk0, hrk, hupk⟩ := hrel
        by_cases hk1 : kN < k
        · have hk2 : (kN : Int) < (k : Int) := by omega
          go_wp2
          go_loopw [5, 9] (fun v mm wr => ∃ (mN : Nat) (A5 : Option Addr) (n5 c5 : Nat), v = .slice A5 n5 c5 ∧ mm = .int .i64 (mN : Int) ∧ kN + 1 ≤ mN ∧ mN ≤ k ∧ Hid (SA 26 w wr k R A5 n5 c5 (R3q k iN kN mN (k - mN) ++ (R2q k iN (kN + 1) (k - (kN + 1)) ++ R1q k (iN + 1) (k - (iN + 1))))) ∧ Up w wr) (fun _ mm _ => k - (intOf mm).toNat)
          case atStart => exact ⟨kN + 1, _, _, _, rfl, by rfl, by omega, by omega, Lib.hid (by have h := hrk.out; rw [R2q_s hk1, List.append_assoc] at h; exact h), hupk⟩
          case round =>
            clear hrk hupk
            obtain ⟨mN, A5, n5, c5, rfl, rfl, hm0, hmk, hrm, hupm⟩ := hrel
            by_cases hm1 : mN < k
            · have hm2 : (mN : Int) < (k : Int) := by omega
              go_wp2
              go_loopw [5, 10] (fun v xx wr => ∃ (xN : Nat) (A5 : Option Addr) (n5 c5 : Nat), v = .slice A5 n5 c5 ∧ xx = .int .i64 (xN : Int) ∧ mN + 1 ≤ xN ∧ xN ≤ k ∧ Hid (SA 26 w wr k R A5 n5 c5 (R4q iN kN mN xN (k - xN) ++ (R3q k iN kN (mN + 1) (k - (mN + 1)) ++ (R2q k iN (kN + 1) (k - (kN + 1)) ++ R1q k (iN + 1) (k - (iN + 1)))))) ∧ Up w wr) (fun _ xx _ => k - (intOf xx).toNat)
              case atStart => exact ⟨mN + 1, _, _, _, rfl, by rfl, by omega, by omega, Lib.hid (by have h := hrm.out; rw [R3q_s hm1, List.append_assoc] at h; exact h), hupm⟩
              case round =>
                clear hrm hupm
                obtain ⟨xN, A5, n5, c5, rfl, rfl, hx0, hxk, hr, hup⟩ := hrel
                by_cases hx1 : xN < k
                · have hx2 : (xN : Int) < (k : Int) := by omega
                  have hr2 := hr.out
                  rw [R4q_s hx1, List.cons_append] at hr2
                  replace hr := Lib.hid hr2
                  clear hr2
                  by_cases hnm : n5 < 5000
                  · have hnm2 : (n5 : Int) < 5000 := by omega
                    obtain ⟨g5, ho, hO⟩ := SA.open hr.out hnm
                    have HOO := Lib.hid hO
                    have HO := Lib.hid ho
                    clear hr hO ho
                    have hu0 : Up w (wr.alloc (.cells #[.int .i64 (iN : Int), .int .i64 (kN : Int), .int .i64 (mN : Int), .int .i64 (xN : Int)] 3)) := hup.alloc _
                    have hSq := qL_sl wr iN kN mN xN 3
                    by_cases hB : okq k R (iN, kN, mN, xN) = true
                    · have hC := fun W U l1 h1 X l2 h2 (a1 : Sl W l1 h1 4 U k (intF R)) (a2 : Sl W l2 h2 1 X 4 (intF (qL (iN, kN, mN, xN)))) => sProofOfFour_any U X k 4 l1 h1 l2 h2 R (qL (iN, kN, mN, xN)) W a1 a2 hkk1 (by omega)
                      rw [show poB k 4 R (qL (iN, kN, mN, xN)) = true from hB, show poM k 4 R (qL (iN, kN, mN, xN)) = mq k R (iN, kN, mN, xN) from rfl] at hC
                      have hmle := mq_le k R (iN, kN, mN, xN)
                      generalize hM : mq k R (iN, kN, mN, xN) = M at *
                      have HM := Lib.hid hM
                      clear hM
                      go_wp2_with fail
                      (go_at_call 66; (with_reducible refine (hC _ _ _ _ _ _ _ (hs.up hu0) hSq).mono ?_); intro e w3 hh; obtain ⟨A3, c3, D3, d3, rfl, T3, hb3⟩ := hh.two)
                      clear hC
                      have hu3 : Up w w3 := hu0.trans hb3
                      have hz3 := hb3.size
                      have hz0 := hup.size
                      simp only [World.size_alloc] at hz3
                      have HO3 := Lib.hid (own_up (w := w) (own_up (w := w) HO.out (Up.alloc (Up.refl wr) (.cells #[.int .i64 (iN : Int), .int .i64 (kN : Int), .int .i64 (mN : Int), .int .i64 (xN : Int)] 3))) hb3)
                      have HT3 := Lib.hid T3
                      clear T3 hSq
                      have hcell0 : (w3.alloc (.cells #[.slice A3 M c3, .slice D3 M d3] 26)).cell? ⟨w3.heap.size, 0, none⟩ = some (.slice A3 M c3) := by rw [World.cell?_alloc_mark]; rfl
                      have hcell1 : (w3.alloc (.cells #[.slice A3 M c3, .slice D3 M d3] 26)).cell? ⟨w3.heap.size, 1, none⟩ = some (.slice D3 M d3) := by rw [World.cell?_alloc_mark]; rfl
                      go_wp2_with (at_builtin; refine wpList_append_lies _ rfl (.tmp 63) (.tmp 65) 71 rfl w.heap.size 26 i0 _ 2 48 Try.underlying71 hi0 hz00 hz1 hz2 rfl (by omega) _ _ _ rfl ((HO3.out.alloc _).alloc _) ⟨w3.heap.size + 1, 0, none⟩ 1 1 [.slice A3 M c3, .slice D3 M d3] rfl rfl (by have hh := World.news_of_block (heap_alloc_new (w3.alloc (.cells #[.slice A3 M c3, .slice D3 M d3] 26)) (.cells #[.slice A3 M c3, .slice D3 M d3] 26)); simpa using hh) (by simp [Value.oneCell']) (by omega) (by simp only [maxLen]; omega) (by omega) (by simp; omega) (w3.heap.size + 2) (by simp) ?_; intro g cap w4 hown hgrow hat hlt)
                      have hu4 : Up w w4 := up_own ((hu3.alloc _).alloc _) (Nat.le_refl _) ((HO3.out.alloc _).alloc _) hgrow
                      have HRX := Lib.hid (SA.hit HOO.out hk20 hnm hown hB (by rw [HM.out]) (HT3.out.grow ((hb3.refl_alloc _).alloc _) HO3.out hgrow (fun r hr => by have := (HO.out.lt r hr).2; simp only [World.size_alloc]; omega)) (by simp; omega))
                      clear hown hgrow hat hlt HT3 HO3 HO hcell0 hcell1
                      go_wp2
                      exact ⟨⟨xN + 1, _, _, _, rfl, by rfl, by omega, by omega, HRX, hu4⟩, by simp only [intOf]; omega⟩
                    · have hBf : okq k R (iN, kN, mN, xN) = false := by simpa using hB
                      have hC := fun W U l1 h1 X l2 h2 (a1 : Sl W l1 h1 4 U k (intF R)) (a2 : Sl W l2 h2 1 X 4 (intF (qL (iN, kN, mN, xN)))) => sProofOfFour_any U X k 4 l1 h1 l2 h2 R (qL (iN, kN, mN, xN)) W a1 a2 hkk1 (by omega)
                      rw [show poB k 4 R (qL (iN, kN, mN, xN)) = false from hBf] at hC
                      go_wp2_with fail
                      (go_at_call 66; (with_reducible refine (hC _ _ _ _ _ _ _ (hs.up hu0) hSq).mono ?_); intro e w3 hh; obtain ⟨A3, c3, D3, d3, rfl, T3, hb3⟩ := hh.two)
                      clear hC T3
                      have hu3 : Up w w3 := hu0.trans hb3
                      have HO3 := own_up (w := w) (own_up (w := w) (own_up (w := w) HO.out (Up.alloc (Up.refl wr) (.cells #[.int .i64 (iN : Int), .int .i64 (kN : Int), .int .i64 (mN : Int), .int .i64 (xN : Int)] 3))) hb3) (Up.alloc (Up.refl w3) (.cells #[.slice A3 (poM k 4 R (qL (iN, kN, mN, xN))) c3, .slice D3 (poM k 4 R (qL (iN, kN, mN, xN))) d3] 26))
                      have HRX := Lib.hid (SA.miss hk20 HOO.out HO3 hBf)
                      clear HO3 HO HOO
                      generalize poM k 4 R (qL (iN, kN, mN, xN)) = M at *
                      go_wp2
                      exact ⟨⟨xN + 1, _, _, _, rfl, by rfl, by omega, by omega, HRX, hu3.alloc _⟩, by simp only [intOf]; omega⟩
                  · have hnm2 : ¬ (n5 : Int) < 5000 := by omega
                    have HRX := Lib.hid (SA.any hr.out hnm (R3q k iN kN (mN + 1) (k - (mN + 1)) ++ (R2q k iN (kN + 1) (k - (kN + 1)) ++ R1q k (iN + 1) (k - (iN + 1)))))
                    clear hr
                    go_wp2
                    exact ⟨⟨mN + 1, _, _, _, rfl, by rfl, by omega, by omega, HRX, hup⟩, by simp only [intOf]; omega⟩
                · have hkk : xN = k := by omega
                  have hrx := hr.out
                  rw [R4q_z hx1, List.nil_append] at hrx
                  subst hkk
                  have HRX := Lib.hid hrx
                  clear hr hrx
                  go_wp2
                  exact ⟨⟨mN + 1, _, _, _, rfl, by rfl, by omega, by omega, HRX, hup⟩, by simp only [intOf]; omega⟩
            · have hkk : mN = k := by omega
              have hrx := hrm.out
              rw [R3q_z hm1, List.nil_append] at hrx
              subst hkk
              have HRX := Lib.hid hrx
              clear hrm hrx
              go_wp2
              exact ⟨⟨kN + 1, _, _, _, rfl, by rfl, by omega, by omega, HRX, hupm⟩, by simp only [intOf]; omega⟩
        · have hkk : kN = k := by omega
          have hrx := hrk.out
          rw [R2q_z hk1, List.nil_append] at hrx
          subst hkk
          have HRX := Lib.hid hrx
          clear hrk hrx
          go_wp2
          exact ⟨⟨iN + 1, _, _, _, rfl, by rfl, by omega, HRX, hupk⟩, by simp only [intOf]; omega⟩
    · have hrx := hri.out
      rw [R1q_z hi1] at hrx
      have hi2 : ¬ (iN : Int) < (k : Int) := by omega
      clear hri
      go_wp2
      go_ret
      exact SAP.mk hk20 hrx hupi
end Go.Proofs.Ytlpbmdoggcclpaa
