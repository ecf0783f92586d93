/- n workers that make memory, and their starter: the invariant and the steps of the workers. No condition. -/
import Derived.Test.YtaealkfnhhmmcaaSg3
import Derived.Conc.WgGenN3
/- n workers that make memory, and their starter: what is asked of each. No condition. -/
namespace Go.Proofs.Ytaealkfnhhmmcaa
namespace Sim
open Go.Conc Go.ConcN
open Go.ConcR (KK wgBlock WgAt stA smA rd wr mk Payload DC0)
set_option linter.unusedVariables false
variable [Payload]
/-- No place. -/
def NoLoc : Nat → Go.Loc → Prop := fun _ _ => False
/-- What the starter suffers. -/
structure RS (ty : TypeId) (Wg : Nat) (K : Nat → Prop) (w w₁ : World) : Prop where
  live : WgLive ty Wg w → WgLive ty Wg w₁
  kn : Kn K w w₁
omit [Payload] in
theorem RS.refl (ty : TypeId) (Wg : Nat) (K : Nat → Prop) (w : World) : RS ty Wg K w w := ⟨id, .refl K w⟩
omit [Payload] in
theorem RS.trans {ty : TypeId} {Wg : Nat} {K : Nat → Prop} {a b c : World} (h : RS ty Wg K a b) (k : RS ty Wg K b c) : RS ty Wg K a c := ⟨k.live ∘ h.live, h.kn.trans k.kn⟩
section
variable (P : Program) (ty : TypeId) (Wg C n : Nat) (Res : Nat → Value → (Nat → Prop) → World → Prop)
/-- Worker number i is about to store what it has found. -/
def AtStore (i : Nat) (K : Nat → Prop) (g : Goroutine) (w : World) : Prop :=
  g.status = .running ∧ (PayAt C n w → WgLive ty Wg w → ∃ v g', stepG P false g w = .go g' (w.setCell ⟨C, i, none⟩ v) #[⟨.cell ⟨C, i, none⟩, true, false⟩] ∧ Res i v K w ∧
    Goes P false (RW ty Wg C n 0 i) DC0 (AtR0 P ty Wg C n 0 (i + 1) v) 200 g' (w.setCell ⟨C, i, none⟩ v))
/-! ### The starter, from its end backwards -/
section
variable (Q : (Nat → Prop) → Goroutine → World → Prop) (Anch : (Nat → Prop) → Goroutine → World → Prop) (K : Nat → Prop)
def XAcq (g : Goroutine) (w : World) : Prop := g.status = .running ∧ ∃ g', stepG P true g w = .go g' w #[mk (.acquire (stA Wg))] ∧ Q K g' w
def XKe (g : Goroutine) (w : World) : Prop := g.status = .running ∧ ∃ g', stepG P true g w = .go g' w #[mk .enable] ∧ ∃ m, (Goes P true (RS ty Wg K) DC0) (XAcq P Wg Q K) m g' w
def XW4 (g : Goroutine) (w : World) : Prop := g.status = .running ∧ (WgAt ty Wg w 0 0 → ∃ g', stepG P true g w = .go g' w #[rd (stA Wg)] ∧ ∃ m, (Goes P true (RS ty Wg K) DC0) (XKe P ty Wg Q K) m g' w)
def XW3 (g : Goroutine) (w : World) : Prop :=
  g.status = .running ∧ g.offers = none ∧ ((∃ st, WgAt ty Wg w st 0) → stepG P true g w = .go { g with status := .blocked } w #[]) ∧
    (WgAt ty Wg w 0 1 → ∃ g', stepG P true g w = .go g' (w.setCell (smA Wg) (.int .u32 0)) (semEvents (smA Wg)) ∧ ∃ m, (Goes P true (RS ty Wg K) DC0) (XW4 P ty Wg Q K) m g' (w.setCell (smA Wg) (.int .u32 0)))
/-- 'race.Write(&wg.sema)'. -/
def XWr (g : Goroutine) (w : World) : Prop := g.status = .running ∧ ∃ g', stepG P true g w = .go g' w #[mk (.write (smA Wg))] ∧ (Goes P true (RS ty Wg K) DC0) (XW3 P ty Wg Q K) 200 g' w
def XW2 (vs : Nat) (g : Goroutine) (w : World) : Prop :=
  g.status = .running ∧ ∀ v : Nat, v < 2147483648 → WgAt ty Wg w (v * KK) 0 →
    (v = vs → ∃ g', stepG P true g w = .go g' (w.setCell (stA Wg) (.int .u64 (v * KK + 1))) #[rd (stA Wg), wr (stA Wg)] ∧ ∃ m, (Goes P true (RS ty Wg K) DC0) (XWr P ty Wg Q K) m g' (w.setCell (stA Wg) (.int .u64 (v * KK + 1)))) ∧
    (v ≠ vs → ∃ g', stepG P true g w = .go g' w #[rd (stA Wg)] ∧ ∃ m, (Goes P true (RS ty Wg K) DC0) (Anch K) m g' w)
def XW1 (g : Goroutine) (w : World) : Prop :=
  g.status = .running ∧ ∀ v : Nat, v < 2147483648 → WgAt ty Wg w (v * KK) 0 → ∃ g', stepG P true g w = .go g' w #[rd (stA Wg)] ∧
    (v = 0 → ∃ m, (Goes P true (RS ty Wg K) DC0) (XKe P ty Wg Q K) m g' w) ∧ (v ≠ 0 → ∃ m, (Goes P true (RS ty Wg K) DC0) (XW2 P ty Wg Q Anch K v) m g' w)
def XKd (g : Goroutine) (w : World) : Prop := g.status = .running ∧ ∃ g', stepG P true g w = .go g' w #[mk .disable] ∧ ∃ m, (Goes P true (RS ty Wg K) DC0) (Anch K) m g' w
/-! ### while it starts them -/
variable (j Lf : Nat) (Next : Nat → (Nat → Prop) → Goroutine → World → Prop)
def SGo (K : Nat → Prop) (g : Goroutine) (w : World) : Prop :=
  g.status = .running ∧ ∃ g' child, stepG P true g w = .spawn g' child w #[] ∧ child.status = .running ∧
    (∃ Kc m, (∀ b, Kc b → K b ∧ b < w.heap.size) ∧ Co P false (fun b => b < w.heap.size) (AtStore P ty Wg C n Res j) m Kc child w) ∧ Next w.heap.size K g' w
/-- Back from Add. -/
def SBk (g : Goroutine) (w : World) : Prop := ∃ m, Co P true (fun b => b < Lf) (SGo P ty Wg C n Res j Next) m K g w
def SKe (g : Goroutine) (w : World) : Prop := g.status = .running ∧ ∃ g', stepG P true g w = .go g' w #[mk .enable] ∧ ∃ m, (Goes P true (RS ty Wg K) DC0) (SBk P ty Wg C n Res K j Lf Next) m g' w
/-- 'race.Read(&wg.sema)'. -/
def SRr (g : Goroutine) (w : World) : Prop := g.status = .running ∧ ∃ g', stepG P true g w = .go g' w #[mk (.read (smA Wg))] ∧ ∃ m, (Goes P true (RS ty Wg K) DC0) (SKe P ty Wg C n Res K j Lf Next) m g' w
def SA1 (g : Goroutine) (w : World) : Prop :=
  g.status = .running ∧ ∀ v : Nat, v < 2147483647 → WgAt ty Wg w (v * KK) 0 →
    ∃ g', stepG P true g w = .go g' (w.setCell (stA Wg) (.int .u64 ((v + 1) * KK))) #[rd (stA Wg), wr (stA Wg)] ∧
      (v = 0 → ∃ m, (Goes P true (RS ty Wg K) DC0) (SRr P ty Wg C n Res K j Lf Next) m g' (w.setCell (stA Wg) (.int .u64 ((v + 1) * KK)))) ∧
      (v ≠ 0 → ∃ m, (Goes P true (RS ty Wg K) DC0) (SKe P ty Wg C n Res K j Lf Next) m g' (w.setCell (stA Wg) (.int .u64 ((v + 1) * KK))))
def SKd (g : Goroutine) (w : World) : Prop := g.status = .running ∧ ∃ g', stepG P true g w = .go g' w #[mk .disable] ∧ ∃ m, (Goes P true (RS ty Wg K) DC0) (SA1 P ty Wg C n Res K j Lf Next) m g' w
end
/-- The starter's script: r workers are still to be started; Lf: the heap's size at the last start. -/
def Starts (Q Anch : (Nat → Prop) → Goroutine → World → Prop) : Nat → Nat → (Nat → Prop) → Goroutine → World → Prop
  | 0, Lf, K, g, w => ∃ m, Co P true (fun b => b < Lf) (fun K g w => WgLive ty Wg w → ∃ m, Goes P true (RS ty Wg K) DC0 (XKd P ty Wg Anch K) m g w) m K g w
  | r + 1, Lf, K, g, w => ∃ m, Co P true (fun b => b < Lf) (fun K g w => WgLive ty Wg w → ∃ m, Goes P true (RS ty Wg K) DC0 (SKd P ty Wg C n Res K (n - (r + 1)) Lf (Starts Q Anch r)) m g w) m K g w
end
end Sim
end Go.Proofs.Ytaealkfnhhmmcaa
/- The starter's calls of Add(1) beside workers that make memory. No condition. -/
namespace Go.Proofs.Ytaealkfnhhmmcaa
namespace Sim
open Go.Conc Go.ConcN Go.RowKit Go.Conc.Lib Go.ConcR.Gen Go.ConcN.Gen
open Go.ConcR (KK wgBlock WgAt stA smA rd wr mk Payload DC0)
set_option linter.unusedVariables false
variable [Payload] {L : WgLink}
omit [Payload] in
theorem rs_rely {ty : TypeId} {Wg : Nat} {K : Nat → Prop} {F : World → Prop} (hF2 : ∀ w w', Kn K w w' → F w → F w') {w w₁ : World} (h : F w ∧ WgLive ty Wg w) (r : RS ty Wg K w w₁) : F w₁ ∧ WgLive ty Wg w₁ := ⟨hF2 _ _ r.kn h.1, r.live h.2⟩
omit [Payload] in
theorem kn_wg {K : Nat → Prop} {Wg : Nat} (h : ¬ K Wg) (w : World) (o : Nat) (v : Value) : Kn K w (w.setCell ⟨Wg, o, none⟩ v) :=
  ⟨fun b hb => by rw [setCell_heap, if_neg (fun e => h (by rw [e]; exact hb))], by simp [World.setCell], rfl, rfl, rfl⟩
section
variable {Wg C n : Nat} {Res : Nat → Value → (Nat → Prop) → World → Prop} {j Lf : Nat} {K : Nat → Prop} {Next : Nat → (Nat → Prop) → Goroutine → World → Prop} {F : World → Prop}
  {b₀ : Frame} {a₀ : Act} {ops₀ : Array Oper} {i₀ : Nat} {rest₀ : List Nat} {k₀ : List Item} {cs : List Frame} {mT : Nat}
set_option maxRecDepth 100000 in
set_option maxHeartbeats 8000000 in
theorem addPosX {P : Program} (H : WgLib P L) (hF2 : ∀ w w', Kn K w w' → F w → F w') (hWK : ¬ K Wg)
    (hT : ∀ w, F w → Co P true (fun b => b < Lf) (SGo P L.tWg Wg C n Res j Next) mT K (G (b₀.at (a₀.put ((ops₀[i₀]?).bind (·.dst)) (.tuple #[])) (.inRegion ops₀ rest₀ :: k₀)) cs) w)
    (w : World) (hF : F w ∧ WgLive L.tWg Wg w) :
    Goes P true (RS L.tWg Wg K) DC0 (SKd P L.tWg Wg C n Res K j Lf Next) 12
      (G ((base L.add).at ⟨#[.pointer (some ⟨Wg, 0, none⟩), .int .i64 1, undef, undef, undef, undef, undef, undef, undef, undef, undef, undef, undef, undef, undef, undef, undef, undef, undef, undef, undef, undef, undef, undef, undef, undef, undef, undef, undef, undef, undef, undef, undef, undef, undef, undef, undef, undef, undef, undef, undef, undef, undef, undef, undef, undef, undef, undef, undef, undef, undef, undef, undef, undef, undef, undef, undef, undef, undef, undef, undef, undef, undef, undef, undef, undef, undef, undef, undef, undef, undef, undef, undef, undef, undef, undef, undef, undef, undef, undef, undef, undef, undef, undef, undef, undef, undef, undef, undef, undef, undef, undef, undef, undef, undef, undef, undef, undef, undef, undef, undef, undef, undef, undef, undef, undef, undef, undef, undef, undef, undef, undef, undef, undef, undef, undef, undef], []⟩ [.code (body_add L)]) (b₀.at a₀ (.inRegion ops₀ (i₀ :: rest₀) :: k₀) :: cs)) w := by
  lib_facts
  simp only [body_add, addFn, Option.getD_some]
  u_c stepG_seq (rs_rely hF2) hF
  u_cnd true (rs_rely hF2) hF
  u_c stepG_seq (rs_rely hF2) hF
  u_c stepG_seq (rs_rely hF2) hF
  u_reg (rs_rely hF2) hF
  u_op (rs_rely hF2) hF
  u_op (rs_rely hF2) hF
  u_c stepG_region_end (rs_rely hF2) hF
  u_cnd false (rs_rely hF2) hF
  u_c stepG_skip (rs_rely hF2) hF
  u_c stepG_seq (rs_rely hF2) hF
  u_reg (rs_rely hF2) hF
  refine Goes.stop (fun w₁ h₁ => ?_)
  replace hF := rs_rely hF2 hF h₁
  clear h₁
  refine ⟨rfl, _, stepG_mark0 .disable (by simp) rfl rfl (by k_ne) rfl H.f_disable (x_disable_n L) (x_disable_b L) (x_disable_x L) (x_disable_f L), 40, ?_⟩
  walk_nrm
  u_c stepG_region_end (rs_rely hF2) hF
  u_reg (rs_rely hF2) hF
  u_defer (rs_rely hF2) hF
  u_c stepG_region_end (rs_rely hF2) hF
  u_c stepG_seq (rs_rely hF2) hF
  u_reg (rs_rely hF2) hF
  u_op (rs_rely hF2) hF
  u_c stepG_region_end (rs_rely hF2) hF
  u_c stepG_seq (rs_rely hF2) hF
  u_c stepG_seq (rs_rely hF2) hF
  u_reg (rs_rely hF2) hF
  u_bub (rs_rely hF2) hF
  u_c stepG_region_end (rs_rely hF2) hF
  u_cnd false (rs_rely hF2) hF
  u_c stepG_skip (rs_rely hF2) hF
  u_c stepG_seq (rs_rely hF2) hF
  u_reg (rs_rely hF2) hF
  u_op (rs_rely hF2) hF
  u_op (rs_rely hF2) hF
  u_op (rs_rely hF2) hF
  u_op (rs_rely hF2) hF
  u_op (rs_rely hF2) hF
  u_op (rs_rely hF2) hF
  u_call H.f_uAdd (nm_uAdd L) uAddFn (rs_rely hF2) hF
  u_c stepG_seq (rs_rely hF2) hF
  u_reg (rs_rely hF2) hF
  u_op (rs_rely hF2) hF
  u_c stepG_region_end (rs_rely hF2) hF
  u_c stepG_seq (rs_rely hF2) hF
  u_reg (rs_rely hF2) hF
  u_op (rs_rely hF2) hF
  u_op (rs_rely hF2) hF
  u_op (rs_rely hF2) hF
  u_op (rs_rely hF2) hF
  refine Goes.stop (fun w₂ h₂ => ?_)
  replace hF := rs_rely hF2 hF h₂
  clear h₂
  refine ⟨rfl, fun v hv hw => ?_⟩
  rcases Nat.eq_zero_or_pos v with rfl | hvp
  · replace hw : WgAt L.tWg Wg w₂ 0 0 := by simpa using hw
    have z : (((0 : Nat) : Int) + 1) * KK = KK := by simp
    rw [z]
    have e0 : IntKind.u64.wrap (0 + 4294967296) = KK := by decide
    refine ⟨_, (stepG_add_atomic rfl rfl (by k_ne) rfl H.f_addU64 (x_addU64_n L) (x_addU64_b L) (x_addU64_x L) .u64 (x_addU64_f L) rfl rfl hw.cellSt (hw.thaw 0)).trans (by rw [e0]; rfl), fun _ => ⟨110, ?_⟩, fun h => absurd rfl h⟩
    replace hF : F (w₂.setCell (stA Wg) (.int .u64 KK)) ∧ WgLive L.tWg Wg (w₂.setCell (stA Wg) (.int .u64 KK)) := ⟨hF2 _ _ (kn_wg hWK w₂ 0 _) hF.1, ⟨_, _, hw.setSt _⟩⟩
    clear hw
    simp only [KK] at hF ⊢
    walk_nrm
    u_op (rs_rely hF2) hF
    u_c stepG_region_end (rs_rely hF2) hF
    u_c stepG_ret' (rs_rely hF2) hF
    u_leave1 H.f_uAdd (rs_rely hF2) hF
    u_op (rs_rely hF2) hF
    u_c stepG_region_end (rs_rely hF2) hF
    u_c stepG_seq (rs_rely hF2) hF
    u_c stepG_seq (rs_rely hF2) hF
    u_reg (rs_rely hF2) hF
    u_op (rs_rely hF2) hF
    u_op (rs_rely hF2) hF
    u_op (rs_rely hF2) hF
    u_op (rs_rely hF2) hF
    u_skip (rs_rely hF2) hF
    u_skip (rs_rely hF2) hF
    u_op (rs_rely hF2) hF
    u_c stepG_region_end (rs_rely hF2) hF
    u_cnd false (rs_rely hF2) hF
    u_c stepG_skip (rs_rely hF2) hF
    u_c stepG_seq (rs_rely hF2) hF
    u_reg (rs_rely hF2) hF
    u_op (rs_rely hF2) hF
    u_op (rs_rely hF2) hF
    u_op (rs_rely hF2) hF
    u_op (rs_rely hF2) hF
    u_c stepG_region_end (rs_rely hF2) hF
    u_c stepG_seq (rs_rely hF2) hF
    u_reg (rs_rely hF2) hF
    u_op (rs_rely hF2) hF
    u_op (rs_rely hF2) hF
    u_op (rs_rely hF2) hF
    u_op (rs_rely hF2) hF
    u_c stepG_region_end (rs_rely hF2) hF
    u_c stepG_seq (rs_rely hF2) hF
    u_c stepG_seq (rs_rely hF2) hF
    u_reg (rs_rely hF2) hF
    u_op (rs_rely hF2) hF
    u_op (rs_rely hF2) hF
    u_op (rs_rely hF2) hF
    u_op (rs_rely hF2) hF
    u_op (rs_rely hF2) hF
    u_op (rs_rely hF2) hF
    u_op (rs_rely hF2) hF
    u_op (rs_rely hF2) hF
    u_op (rs_rely hF2) hF
    u_op (rs_rely hF2) hF
    u_c stepG_region_end (rs_rely hF2) hF
    u_cnd true (rs_rely hF2) hF
    u_reg (rs_rely hF2) hF
    u_op (rs_rely hF2) hF
    u_op (rs_rely hF2) hF
    u_op (rs_rely hF2) hF
    u_conv H.underlying_tPU32 H.room_tU32 (WgLive.cell1 hF.2).choose_spec (rs_rely hF2) hF
    refine Goes.stop (fun w₃ h₃ => ?_)
    replace hF := rs_rely hF2 hF h₃
    clear h₃
    refine ⟨rfl, _, stepG_markAt .read (by simp) rfl rfl (by k_ne) rfl H.f_raceRead (x_raceRead_n L) (x_raceRead_b L) (x_raceRead_x L) (x_raceRead_f L) (ad := ⟨Wg, 1, none⟩) (by simp [Act.eval]), 110, ?_⟩
    walk_nrm
    u_c stepG_region_end (rs_rely hF2) hF
    u_c stepG_seq (rs_rely hF2) hF
    u_c stepG_seq (rs_rely hF2) hF
    u_reg (rs_rely hF2) hF
    u_op (rs_rely hF2) hF
    u_op (rs_rely hF2) hF
    u_c stepG_region_end (rs_rely hF2) hF
    u_cnd false (rs_rely hF2) hF
    u_c stepG_skip (rs_rely hF2) hF
    u_c stepG_seq (rs_rely hF2) hF
    u_c stepG_seq (rs_rely hF2) hF
    u_reg (rs_rely hF2) hF
    u_op (rs_rely hF2) hF
    u_op (rs_rely hF2) hF
    u_op (rs_rely hF2) hF
    u_skip (rs_rely hF2) hF
    u_skip (rs_rely hF2) hF
    u_op (rs_rely hF2) hF
    u_op (rs_rely hF2) hF
    u_skip (rs_rely hF2) hF
    u_skip (rs_rely hF2) hF
    u_skip (rs_rely hF2) hF
    u_skip (rs_rely hF2) hF
    u_op (rs_rely hF2) hF
    u_c stepG_region_end (rs_rely hF2) hF
    u_cnd false (rs_rely hF2) hF
    u_c stepG_skip (rs_rely hF2) hF
    u_c stepG_seq (rs_rely hF2) hF
    u_c stepG_seq (rs_rely hF2) hF
    u_reg (rs_rely hF2) hF
    u_op (rs_rely hF2) hF
    u_op (rs_rely hF2) hF
    u_op (rs_rely hF2) hF
    u_skip (rs_rely hF2) hF
    u_skip (rs_rely hF2) hF
    u_op (rs_rely hF2) hF
    u_c stepG_region_end (rs_rely hF2) hF
    u_cnd true (rs_rely hF2) hF
    u_c stepG_ret' (rs_rely hF2) hF
    refine Goes.stop (fun w₃ h₃ => ?_)
    replace hF := rs_rely hF2 hF h₃
    clear h₃
    refine ⟨rfl, _, stepG_unwind_entry (v := .tuple #[]) (evs := #[mk .enable]) rfl H.f_enable (x_enable_n L) (x_enable_b L) (x_enable_x L) (x_enable_f L) (by simp [Extern.Race.none_]) (by simp [mk]) (by simp [mk]), 1, ?_⟩
    u_leave0 H.f_add (rs_rely hF2) hF
    exact Goes.stop fun w₄ h₄ => ⟨mT, (hT _ hF.1).rely h₄.kn⟩
  · obtain ⟨V, hV⟩ : ∃ V : Int, V = (v : Int) + 1 := ⟨_, rfl⟩
    obtain ⟨S, hS⟩ : ∃ S : Int, S = V * KK := ⟨_, rfl⟩
    have eS : IntKind.u64.wrap ((v : Int) * KK + 4294967296) = S := by rw [IntKind.wrap_u64, hS, hV]; simp only [KK]; omega
    rw [← hV, ← hS]
    have a1 : S / 4294967296 = V := by rw [hS]; simp only [KK]; omega
    have b1 : bits .and .u64 S 2147483648 = 0 := by rw [hS, hV]; have := st_flag (v + 1) 0 (by omega) (by omega); simpa [KK] using this
    have b2 : bits .and .u64 S 2147483647 = 0 := by rw [hS, hV]; have := st_waiters (v + 1) 0 (by omega) (by omega); simpa [KK] using this
    have c1 : IntKind.i32.wrap V = V := by rw [IntKind.wrap_i32]; omega
    have hV1 : 1 < V := by omega
    have hV2 : V < 2147483648 := by omega
    have q1 : (V == 1) = false := by simp; omega
    have q2 : decide (V = 1) = false := decide_eq_false (by omega)
    have q3 : decide (V < 0) = false := decide_eq_false (by omega)
    have q4 : decide (0 < V) = true := decide_eq_true (by omega)
    have q5 : (V == 0) = false := by simp; omega
    have q6 : decide (V = 0) = false := decide_eq_false (by omega)
    refine ⟨_, (stepG_add_atomic rfl rfl (by k_ne) rfl H.f_addU64 (x_addU64_n L) (x_addU64_b L) (x_addU64_x L) .u64 (x_addU64_f L) rfl rfl hw.cellSt (hw.thaw 0)).trans (by rw [eS]; rfl), fun h => absurd h (by omega), fun _ => ⟨110, ?_⟩⟩
    replace hF : F (w₂.setCell (stA Wg) (.int .u64 S)) ∧ WgLive L.tWg Wg (w₂.setCell (stA Wg) (.int .u64 S)) := ⟨hF2 _ _ (kn_wg hWK w₂ 0 _) hF.1, ⟨_, _, hw.setSt _⟩⟩
    clear hw hS hV eS
    walk_nrm
    u_op (rs_rely hF2) hF
    u_c stepG_region_end (rs_rely hF2) hF
    u_c stepG_ret' (rs_rely hF2) hF
    u_leave1 H.f_uAdd (rs_rely hF2) hF
    u_op (rs_rely hF2) hF
    u_c stepG_region_end (rs_rely hF2) hF
    u_c stepG_seq (rs_rely hF2) hF
    u_c stepG_seq (rs_rely hF2) hF
    u_reg (rs_rely hF2) hF
    u_op (rs_rely hF2) hF
    u_op (rs_rely hF2) hF
    u_op (rs_rely hF2) hF
    u_op (rs_rely hF2) hF
    u_skip (rs_rely hF2) hF
    u_skip (rs_rely hF2) hF
    u_op (rs_rely hF2) hF
    u_c stepG_region_end (rs_rely hF2) hF
    u_cnd false (rs_rely hF2) hF
    u_c stepG_skip (rs_rely hF2) hF
    u_c stepG_seq (rs_rely hF2) hF
    u_reg (rs_rely hF2) hF
    u_op (rs_rely hF2) hF
    u_op (rs_rely hF2) hF
    u_op (rs_rely hF2) hF
    u_op (rs_rely hF2) hF
    u_c stepG_region_end (rs_rely hF2) hF
    u_c stepG_seq (rs_rely hF2) hF
    u_reg (rs_rely hF2) hF
    u_op (rs_rely hF2) hF
    u_op (rs_rely hF2) hF
    u_op (rs_rely hF2) hF
    u_op (rs_rely hF2) hF
    u_c stepG_region_end (rs_rely hF2) hF
    u_c stepG_seq (rs_rely hF2) hF
    u_c stepG_seq (rs_rely hF2) hF
    u_reg (rs_rely hF2) hF
    u_op (rs_rely hF2) hF
    u_op (rs_rely hF2) hF
    u_op (rs_rely hF2) hF
    u_op (rs_rely hF2) hF
    u_op (rs_rely hF2) hF
    u_op (rs_rely hF2) hF
    u_op (rs_rely hF2) hF
    u_op (rs_rely hF2) hF
    u_op (rs_rely hF2) hF
    u_op (rs_rely hF2) hF
    u_c stepG_region_end (rs_rely hF2) hF
    u_cnd false (rs_rely hF2) hF
    u_c stepG_skip (rs_rely hF2) hF
    u_c stepG_seq (rs_rely hF2) hF
    u_c stepG_seq (rs_rely hF2) hF
    u_reg (rs_rely hF2) hF
    u_op (rs_rely hF2) hF
    u_op (rs_rely hF2) hF
    u_c stepG_region_end (rs_rely hF2) hF
    u_cnd false (rs_rely hF2) hF
    u_c stepG_skip (rs_rely hF2) hF
    u_c stepG_seq (rs_rely hF2) hF
    u_c stepG_seq (rs_rely hF2) hF
    u_reg (rs_rely hF2) hF
    u_op (rs_rely hF2) hF
    u_op (rs_rely hF2) hF
    u_op (rs_rely hF2) hF
    u_skip (rs_rely hF2) hF
    u_skip (rs_rely hF2) hF
    u_op (rs_rely hF2) hF
    u_op (rs_rely hF2) hF
    u_skip (rs_rely hF2) hF
    u_skip (rs_rely hF2) hF
    u_skip (rs_rely hF2) hF
    u_skip (rs_rely hF2) hF
    u_op (rs_rely hF2) hF
    u_c stepG_region_end (rs_rely hF2) hF
    u_cnd false (rs_rely hF2) hF
    u_c stepG_skip (rs_rely hF2) hF
    u_c stepG_seq (rs_rely hF2) hF
    u_c stepG_seq (rs_rely hF2) hF
    u_reg (rs_rely hF2) hF
    u_op (rs_rely hF2) hF
    u_op (rs_rely hF2) hF
    u_op (rs_rely hF2) hF
    u_skip (rs_rely hF2) hF
    u_skip (rs_rely hF2) hF
    u_op (rs_rely hF2) hF
    u_c stepG_region_end (rs_rely hF2) hF
    u_cnd true (rs_rely hF2) hF
    u_c stepG_ret' (rs_rely hF2) hF
    refine Goes.stop (fun w₃ h₃ => ?_)
    replace hF := rs_rely hF2 hF h₃
    clear h₃
    refine ⟨rfl, _, stepG_unwind_entry (v := .tuple #[]) (evs := #[mk .enable]) rfl H.f_enable (x_enable_n L) (x_enable_b L) (x_enable_x L) (x_enable_f L) (by simp [Extern.Race.none_]) (by simp [mk]) (by simp [mk]), 1, ?_⟩
    u_leave0 H.f_add (rs_rely hF2) hF
    exact Goes.stop fun w₄ h₄ => ⟨mT, (hT _ hF.1).rely h₄.kn⟩
end
end Sim
end Go.Proofs.Ytaealkfnhhmmcaa
/- n workers that make memory: the trace, the blocks, and what holds at every moment. No condition. -/
namespace Go.Proofs.Ytaealkfnhhmmcaa
namespace Sim
open Go.Conc Go.ConcN
open Go.ConcR (KK wgBlock WgAt stA smA rd wr mk Payload DC0 g_of_ofEvents loc_of_ofEvent)
set_option linter.unusedVariables false
/-- What is kept of a worker beside the count: the heap's size at its start; the blocks that it knows; what it has found. -/
structure WX where
  low : Nat
  K : Nat → Prop
  v : Value
  stored : Bool
def OwnF (e C j : Nat) (E : Nat → WX) (k : Nat) (l : Go.Loc) : Prop := ∃ i, i < j ∧ k = e + 1 + i ∧ (l = .cell ⟨C, i, none⟩ ∨ ∃ b, blk l = some b ∧ (E i).K b ∧ (E i).low ≤ b)
def RdF (e j : Nat) (E : Nat → WX) (k : Nat) (l : Go.Loc) : Prop := ∃ i, i < j ∧ k = e + 1 + i ∧ ∃ b, blk l = some b ∧ (E i).K b ∧ b < (E i).low
/-! ### the trace -/
structure TR (Shun : Go.Loc → Prop) (e j : Nat) (Own Rd : Nat → Go.Loc → Prop) (B : Nat) (t : Trace) : Prop where
  ct : CT Shun Own Rd t (e + j)
  rl : ∀ (i : Nat) (op : MemOp) a, t[i]? = some op → op.act ≠ .mark (.release a)
  mem : ∀ (i : Nat) (op : MemOp) x, t[i]? = some op → op.act.touch? = some x → x.loc.isMemory = true
  seen : ∀ op ∈ t, op.act.low B
  atom : ∀ (i : Nat) (op : MemOp) x, t[i]? = some op → e < op.g → op.act.touch? = some x → x.kind = .atomic → Shun x.loc
  oldk : ∀ (i : Nat) (op : MemOp) x, t[i]? = some op → op.g ≤ e → op.act.touch? = some x → Knows t 0 i ∨ (Shun x.loc ∧ x.kind = .atomic)
  oldo : ∀ (i : Nat) (op : MemOp), t[i]? = some op → op.g ≤ e → op.g ≠ 0 → t.counts i → ∃ j, t.g? j = some 0 ∧ HappensBefore t i j
/-- What every operation of the phase is like. -/
structure OkA (B : Nat) (op : MemOp) : Prop where
  rl : ∀ a, op.act ≠ .mark (.release a)
  mem : ∀ x, op.act.touch? = some x → x.loc.isMemory = true
  low : op.act.low B
section
variable {Shun : Go.Loc → Prop} {e j : Nat} {Own Rd : Nat → Go.Loc → Prop} {B : Nat} {t u : Trace}
theorem TR.lift (h : TR Shun e j Own Rd B t) (hc : CT Shun Own Rd (t ++ u) (e + j)) (hu : ∀ op ∈ u, OkA B op) (ha : ∀ op ∈ u, e < op.g → ∀ x, op.act.touch? = some x → x.kind = .atomic → Shun x.loc)
    (ho : ∀ op ∈ u, op.g ≤ e → op.g ≠ 0 → op.act.touch? = none) : TR Shun e j Own Rd B (t ++ u) := by
  refine ⟨hc, fun i op a hi => ?_, fun i op x hi hx => ?_, seen_app h.seen fun op hop => (hu op hop).low, fun i op x hi hg hx hk => ?_, fun i op x hi hg hx => ?_, fun i op hi hg h0 hcn => ?_⟩
  · rcases getElem?_append_cases hi with ⟨_, hi'⟩ | ⟨_, hiu⟩
    · exact h.rl i op a hi'
    · exact (hu op hiu).rl a
  · rcases getElem?_append_cases hi with ⟨_, hi'⟩ | ⟨_, hiu⟩
    · exact h.mem i op x hi' hx
    · exact (hu op hiu).mem x hx
  · rcases getElem?_append_cases hi with ⟨_, hi'⟩ | ⟨_, hiu⟩
    · exact h.atom i op x hi' hg hx hk
    · exact ha op hiu hg x hx hk
  · rcases getElem?_append_cases hi with ⟨_, hi'⟩ | ⟨_, hiu⟩
    · exact (h.oldk i op x hi' hg hx).imp (·.app u) id
    · by_cases h0 : op.g = 0
      · have := knows_own hi
        rw [h0] at this
        exact .inl this
      · rw [ho op hiu hg h0] at hx; cases hx
  · rcases getElem?_append_cases hi with ⟨hlt, hi'⟩ | ⟨_, hiu⟩
    · obtain ⟨k, h1, h2⟩ := h.oldo i op hi' hg h0 ((counts_old hlt).1 hcn)
      obtain ⟨z, hz, _⟩ := Option.map_eq_some_iff.1 h1
      have hk := lt_size_of_getElem? hz
      exact ⟨k, by rw [g?_old hk]; exact h1, hb_app u h2⟩
    · obtain ⟨x, hx, _⟩ := hcn
      rw [show (Trace.act? (t ++ u) i) = some op.act by simp [Trace.act?, hi]] at hx
      rw [Option.bind_some, ho op hiu hg h0] at hx
      cases hx
theorem TR.app0 (A : Apart Shun Own Rd) (h : TR Shun e j Own Rd B t) (hu : ∀ op ∈ u, OkA B op) (hk : ∀ op ∈ u, Ok0 Shun Own Rd (e + j) op) : TR Shun e j Own Rd B (t ++ u) :=
  h.lift (h.ct.app0 A hk) hu (fun op hop hg => by rw [(hk op hop).1] at hg; omega) fun op hop _ h0 => absurd (hk op hop).1 h0
theorem TR.appW (A : Apart Shun Own Rd) (h : TR Shun e j Own Rd B t) {i : Nat} (hi : i < j) (hu : ∀ op ∈ u, OkA B op) (hk : ∀ op ∈ u, OkW Shun Own Rd (e + 1 + i) op) (ha : ∀ op ∈ u, ∀ x, op.act.touch? = some x → x.kind = .atomic → Shun x.loc) : TR Shun e j Own Rd B (t ++ u) :=
  h.lift (h.ct.appW A (by omega) (by omega) hk) hu (fun op hop _ => ha op hop) fun op hop hg => by rw [(hk op hop).1] at hg; omega
theorem TR.appE (A : Apart Shun Own Rd) (h : TR Shun e j Own Rd B t) {k : Nat} (k1 : 1 ≤ k) (ke : k ≤ e) (hg : ∀ op ∈ u, op.g = k) (hu : ∀ op ∈ u, OkA B op) (hn : ∀ op ∈ u, op.act.touch? = none) : TR Shun e j Own Rd B (t ++ u) :=
  h.lift (h.ct.appW A k1 (by omega) fun op hop => ⟨hg op hop, fun x hx => by rw [hn op hop] at hx; cases hx⟩) hu (fun op hop hgt => by rw [hg op hop] at hgt; omega) fun op hop _ _ => hn op hop
theorem TR.mono {B' : Nat} (h : TR Shun e j Own Rd B t) (hB : B ≤ B') : TR Shun e j Own Rd B' t := ⟨h.ct, h.rl, h.mem, fun op hop => MemAct.low_mono hB (h.seen op hop), h.atom, h.oldk, h.oldo⟩
theorem TR.ct' {Own' Rd' : Nat → Go.Loc → Prop} (h : TR Shun e j Own Rd B t) (hc : CT Shun Own' Rd' t (e + j)) : TR Shun e j Own' Rd' B t := ⟨hc, h.rl, h.mem, h.seen, h.atom, h.oldk, h.oldo⟩
theorem NoRelease.of (h : ∀ (i : Nat) (op : MemOp) a, t[i]? = some op → op.act ≠ .mark (.release a)) (a : Addr) : NoRelease a t := by
  intro i hi
  obtain ⟨op, ho, hoa⟩ := Option.map_eq_some_iff.1 hi
  exact h i op a ho hoa
/-- ALL IS KNOWN AND HANDED OVER, once the starter has said 'acquire'. -/
theorem TR.past (h : TR Shun e j Own Rd B t) {a : Addr} {q : Nat} (hd : Deaf t 0 = 0) (hq : t.act? q = some (.mark (.acquire a))) (hg : t.g? q = some 0) (hh : t.heard q)
    (hr : ∀ i, i < j → ∃ r, RelBy a t (e + 1 + i) r ∧ r < q) : Past Shun B t := by
  have hn := NoRelease.of h.rl a
  have key : ∀ i (op : MemOp), t[i]? = some op → e < op.g → (∃ x, op.act.touch? = some x ∧ x.kind = .atomic ∧ ¬ t.counts i) ∨ op.act.touch? = none ∨ HappensBefore t i q := by
    intro i op hi hge
    have hgs := h.ct.gs i op hi
    obtain ⟨r, hrel, hrq⟩ := hr (op.g - (e + 1)) (by omega)
    rw [show e + 1 + (op.g - (e + 1)) = op.g by omega] at hrel
    have edge : HappensBefore t r q := .single (.inr ⟨.marked hrq (.inr hrel.act) hq (fun k _ _ => hn k), hrel.heard, hh⟩)
    have hgi : t.g? i = some op.g := by simp [Trace.g?, hi]
    rcases Nat.lt_trichotomy i r with hlt | rfl | hgt
    · exact .inr (.inr (.trans (.single (.inl ⟨hlt, op.g, hgi, hrel.g⟩)) edge))
    · exact .inr (.inr edge)
    · have hc := hrel.after i hgt hgi
      cases hx : op.act.touch? with
      | none => exact .inr (.inl rfl)
      | some x =>
        refine .inl ⟨x, rfl, ?_, hc⟩
        refine Classical.byContradiction fun hk => hc ⟨x, ?_, h.mem i op x hi hx, .inl hk⟩
        rw [show t.act? i = some op.act by simp [Trace.act?, hi]]
        exact hx
  have hq2 : ∃ z, t[q]? = some z ∧ z.g = 0 := by
    obtain ⟨z, hz, hz2⟩ := Option.map_eq_some_iff.1 hg
    exact ⟨z, hz, hz2⟩
  refine ⟨h.ct.nr, fun i x hx hm => ?_, fun i g hgi h0 hc => ?_, hd, h.seen⟩
  · obtain ⟨op, hi, hox⟩ := touch_of hx
    rcases Nat.lt_or_ge e op.g with hge | hle
    · rcases key i op hi hge with ⟨y, hy, hk, _⟩ | hy | hb
      · rw [hox] at hy; cases hy
        exact .inr ⟨h.atom i op x hi hge hox hk, hk⟩
      · rw [hox] at hy; cases hy
      · obtain ⟨z, hz, hz0⟩ := hq2
        exact .inl ⟨q, z, hz, hz0, .inr hb⟩
    · exact h.oldk i op x hi hle hox
  · obtain ⟨op, hi, rfl⟩ := Option.map_eq_some_iff.1 hgi
    rcases Nat.lt_or_ge e op.g with hge | hle
    · rcases key i op hi hge with ⟨y, hy, hk, hnc⟩ | hy | hb
      · exact absurd hc hnc
      · obtain ⟨x, hx, _⟩ := hc
        rw [show t.act? i = some op.act by simp [Trace.act?, hi], Option.bind_some, hy] at hx
        cases hx
      · exact ⟨q, hg, hb⟩
    · exact h.oldo i op hi hle h0 hc
end
end Sim
end Go.Proofs.Ytaealkfnhhmmcaa
/- n workers that make memory: what holds of the machine at every moment, and how it is kept. No condition. -/
namespace Go.Proofs.Ytaealkfnhhmmcaa
namespace Sim
open Go.Conc Go.ConcN
open Go.ConcR (KK wgBlock WgAt stA smA rd wr mk Payload DC0 Bk g_of_ofEvents loc_of_ofEvent ofEvent_loc_mark)
set_option linter.unusedVariables false
/-! ### events -/
def OkE (B : Nat) (e : Event) : Prop := (∀ a, e.loc ≠ .mark (.release a)) ∧ (∀ x, (MemAct.ofEvent e).touch? = some x → x.loc.isMemory = true) ∧ (MemAct.ofEvent e).low B
theorem okA_of {B : Nat} {es : Array Event} (h : ∀ e ∈ es, OkE B e) (g : Nat) (fn : FuncId) (pos : String) : ∀ op ∈ MemOp.ofEvents g fn pos es, OkA B op := by
  intro op hop
  obtain ⟨e, he, rfl⟩ := Go.Conc.mem_ofEvents hop
  exact ⟨fun a h' => (h e he).1 a (loc_of_ofEvent h'), (h e he).2.1, (h e he).2.2⟩
theorem okE_cell {B : Nat} (a : Addr) (wr s : Bool) (h : a.block < B) : OkE B ⟨.cell a, wr, s⟩ :=
  ⟨fun a h => (by cases h), fun x hx => by simp only [ofEvent_cell0, MemAct.touch?, Option.some.injEq] at hx; subst hx; rfl, by rw [ofEvent_cell0]; exact h⟩
theorem okE_mute {B : Nat} {e : Event} (h : e.mute = true) : OkE B e := by
  refine ⟨fun a h' => ?_, fun x hx => ?_, low_mute h B⟩
  · obtain ⟨loc, wr, sy⟩ := e
    subst h'
    simp [Event.mute] at h
  · rw [touch_mute h] at hx; cases hx
theorem okE_bk {B Wg : Nat} {e : Event} (hW : Wg < B) (h : Bk Wg e) : OkE B e := by
  obtain ⟨loc, wr, sy⟩ := e
  rcases h with h | h | ⟨a, wr, h, ha⟩
  · subst h; exact okE_mute rfl
  · subst h; exact okE_mute rfl
  · cases h; exact okE_cell a wr true (by omega)
theorem okE_evK {B : Nat} {Lk K : Nat → Prop} (hB : ∀ b, K b → b < B) {e : Event} (h : EvK Lk K e) : OkE B e := by
  rcases h with ⟨a, wr, rfl, h1, _⟩ | ⟨r, rfl, h1⟩ | rfl
  · exact okE_cell a wr false (hB _ h1)
  · refine ⟨fun a h => (by cases h), fun x hx => ?_, hB _ h1⟩
    simp only [MemAct.ofEvent, MemAct.touch?, Option.some.injEq] at hx
    subst hx; rfl
  · exact ⟨fun a h => (by cases h), fun y hy => by simp [MemAct.ofEvent, MemAct.touch?] at hy, trivial⟩
theorem evK_still {Lk K : Nat → Prop} {e : Event} (h : EvK Lk K e) : e.loc ≠ .mark .disable ∧ e.loc ≠ .mark .enable := by
  rcases h with ⟨a, wr, rfl, h1, _⟩ | ⟨r, rfl, h1⟩ | rfl <;> exact ⟨by simp, by simp⟩
/-- A touch that such an event makes. -/
theorem evK_touch {Lk K : Nat → Prop} {e : Event} (h : EvK Lk K e) {x : Touch} (hx : (MemAct.ofEvent e).touch? = some x) : x.kind = .plain ∧ ∃ b, blk x.loc = some b ∧ K b ∧ (x.write = true → ¬ Lk b) := by
  rcases h with ⟨a, wr, rfl, h1, h2⟩ | ⟨r, rfl, h1⟩ | rfl
  · simp only [MemAct.ofEvent, MemAct.touch?, Option.some.injEq] at hx
    subst hx
    exact ⟨rfl, _, rfl, h1, h2⟩
  · simp only [MemAct.ofEvent, MemAct.touch?, Option.some.injEq] at hx
    subst hx
    exact ⟨rfl, _, rfl, h1, fun h => by cases h⟩
  · simp [MemAct.ofEvent, MemAct.touch?] at hx
/-! ### the blocks -/
structure Geo (C j : Nat) (SB : Nat → Prop) (K0 : Nat → Prop) (Lf : Nat) (E : Nat → WX) (w : World) : Prop where
  low : ∀ i, i < j → (E i).low ≤ Lf
  lf : Lf ≤ w.heap.size
  kb : ∀ i, i < j → ∀ b, (E i).K b → b < w.heap.size
  k0 : ∀ b, K0 b → b < w.heap.size
  sep : ∀ i, i < j → ∀ i', i' < j → i ≠ i' → ∀ b, (E i).K b → (E i).low ≤ b → ¬ (E i').K b
  sep0 : ∀ i, i < j → ∀ b, (E i).K b → (E i).low ≤ b → ¬ K0 b
  sh : ∀ i, i < j → ∀ b, (E i).K b → ¬ SB b
  sh0 : ∀ b, K0 b → ¬ SB b
  c : ∀ i, i < j → ¬ (E i).K C
  c0 : ¬ K0 C
  sb : ∀ b, SB b → b < w.heap.size
  cl : C < w.heap.size
section
variable {C j : Nat} {SB K0 : Nat → Prop} {Lf : Nat} {E : Nat → WX} {w w' : World}
/-- Nothing new is made. -/
theorem Geo.same (h : Geo C j SB K0 Lf E w) (hs : w'.heap.size = w.heap.size) : Geo C j SB K0 Lf E w' :=
  ⟨h.low, by rw [hs]; exact h.lf, by rw [hs]; exact h.kb, by rw [hs]; exact h.k0, h.sep, h.sep0, h.sh, h.sh0, h.c, h.c0, by rw [hs]; exact h.sb, by rw [hs]; exact h.cl⟩
/-- Worker i has made new blocks. -/
theorem Geo.growW (h : Geo C j SB K0 Lf E w) {i : Nat} (hs : w.heap.size ≤ w'.heap.size) (v : Value) (st : Bool) : Geo C j SB K0 Lf (upd E i ⟨(E i).low, grow (E i).K w w', v, st⟩) w' := by
  have hlow : ∀ a, (upd E i ⟨(E i).low, grow (E i).K w w', v, st⟩ a).low = (E a).low := fun a => by by_cases e : a = i <;> simp [upd, e]
  have hK : ∀ a b, (upd E i ⟨(E i).low, grow (E i).K w w', v, st⟩ a).K b → (E a).K b ∨ (a = i ∧ w.heap.size ≤ b ∧ b < w'.heap.size) := fun a b hb => by
    by_cases e : a = i
    · subst e; rw [upd_same] at hb; exact hb.imp id fun x => ⟨rfl, x⟩
    · rw [upd_ne E _ e] at hb; exact .inl hb
  refine ⟨fun a ha => by rw [hlow]; exact h.low a ha, Nat.le_trans h.lf hs, fun a ha b hb => ?_, fun b hb => Nat.lt_of_lt_of_le (h.k0 b hb) hs, fun a ha a' ha' hne b hb hl hb' => ?_, fun a ha b hb hl hb0 => ?_, fun a ha b hb hsb => ?_, h.sh0, fun a ha hb => ?_, h.c0, fun b hb => Nat.lt_of_lt_of_le (h.sb b hb) hs, Nat.lt_of_lt_of_le h.cl hs⟩
  · rcases hK a b hb with h1 | ⟨_, _, h3⟩
    · exact Nat.lt_of_lt_of_le (h.kb a ha b h1) hs
    · exact h3
  · rw [hlow] at hl
    rcases hK a b hb with h1 | ⟨e1, h2, h3⟩ <;> rcases hK a' b hb' with k1 | ⟨e2, k2, k3⟩
    · exact h.sep a ha a' ha' hne b h1 hl k1
    · have := h.kb a ha b h1; omega
    · have := h.kb a' ha' b k1; omega
    · exact hne (e1.trans e2.symm)
  · rw [hlow] at hl
    rcases hK a b hb with h1 | ⟨_, h2, _⟩
    · exact h.sep0 a ha b h1 hl hb0
    · have := h.k0 b hb0; omega
  · rcases hK a b hb with h1 | ⟨_, h2, _⟩
    · exact h.sh a ha b h1 hsb
    · have := h.sb b hsb; omega
  · rcases hK a C hb with h1 | ⟨_, h2, _⟩
    · exact h.c a ha h1
    · have := h.cl; omega
/-- A worker's datum that is no block of its is laid anew. -/
theorem Geo.setV (h : Geo C j SB K0 Lf E w) (i : Nat) (v : Value) (st : Bool) : Geo C j SB K0 Lf (upd E i ⟨(E i).low, (E i).K, v, st⟩) w := by
  have hlow : ∀ a, (upd E i ⟨(E i).low, (E i).K, v, st⟩ a).low = (E a).low := fun a => by by_cases e : a = i <;> simp [upd, e]
  have hK : ∀ a, (upd E i ⟨(E i).low, (E i).K, v, st⟩ a).K = (E a).K := fun a => by by_cases e : a = i <;> simp [upd, e]
  refine ⟨fun a ha => by rw [hlow]; exact h.low a ha, h.lf, fun a ha => by rw [hK]; exact h.kb a ha, h.k0, fun a ha a' ha' => by rw [hK, hK, hlow]; exact h.sep a ha a' ha', fun a ha => by rw [hK, hlow]; exact h.sep0 a ha, fun a ha => by rw [hK]; exact h.sh a ha, h.sh0, fun a ha => by rw [hK]; exact h.c a ha, h.c0, h.sb, h.cl⟩
/-- The starter has made new blocks. -/
theorem Geo.grow0 (h : Geo C j SB K0 Lf E w) (hs : w.heap.size ≤ w'.heap.size) : Geo C j SB (grow K0 w w') Lf E w' :=
  ⟨h.low, Nat.le_trans h.lf hs, fun a ha b hb => Nat.lt_of_lt_of_le (h.kb a ha b hb) hs, fun b hb => hb.elim (fun x => Nat.lt_of_lt_of_le (h.k0 b x) hs) fun x => x.2, h.sep,
    fun a ha b hb hl hb0 => hb0.elim (h.sep0 a ha b hb hl) fun x => by have := h.kb a ha b hb; omega, h.sh, fun b hb hsb => hb.elim (fun x => h.sh0 b x hsb) fun x => by have := h.sb b hsb; omega, h.c,
    fun hb => hb.elim h.c0 fun x => by have := h.cl; omega, fun b hb => Nat.lt_of_lt_of_le (h.sb b hb) hs, Nat.lt_of_lt_of_le h.cl hs⟩
/-- A worker is started. -/
theorem Geo.spawn (h : Geo C j SB K0 Lf E w) {Kc : Nat → Prop} (hc : ∀ b, Kc b → K0 b ∧ b < w.heap.size) (v : Value) : Geo C (j + 1) SB K0 w.heap.size (upd E j ⟨w.heap.size, Kc, v, false⟩) w := by
  have old : ∀ {a}, a < j → upd E j ⟨w.heap.size, Kc, v, false⟩ a = E a := fun ha => upd_ne E _ (by omega)
  refine ⟨fun a ha => ?_, Nat.le_refl _, fun a ha b hb => ?_, h.k0, fun a ha a' ha' hne b hb hl hb' => ?_, fun a ha b hb hl => ?_, fun a ha b hb => ?_, h.sh0, fun a ha hb => ?_, h.c0, h.sb, h.cl⟩
  · rcases Nat.lt_or_ge a j with hlt | hge
    · rw [old hlt]; exact Nat.le_trans (h.low a hlt) h.lf
    · obtain rfl : a = j := by omega
      rw [upd_same]; exact Nat.le_refl _
  · rcases Nat.lt_or_ge a j with hlt | hge
    · rw [old hlt] at hb; exact h.kb a hlt b hb
    · obtain rfl : a = j := by omega
      rw [upd_same] at hb; exact (hc b hb).2
  · rcases Nat.lt_or_ge a j with hlt | hge
    · rw [old hlt] at hb hl
      rcases Nat.lt_or_ge a' j with hlt' | hge'
      · rw [old hlt'] at hb'; exact h.sep a hlt a' hlt' hne b hb hl hb'
      · obtain rfl : a' = j := by omega
        rw [upd_same] at hb'; exact h.sep0 a hlt b hb hl (hc b hb').1
    · obtain rfl : a = j := by omega
      rw [upd_same] at hb hl
      have := (hc b hb).2
      simp only at hl
      omega
  · rcases Nat.lt_or_ge a j with hlt | hge
    · rw [old hlt] at hb hl; exact h.sep0 a hlt b hb hl
    · obtain rfl : a = j := by omega
      rw [upd_same] at hb hl
      have := (hc b hb).2
      simp only at hl
      omega
  · rcases Nat.lt_or_ge a j with hlt | hge
    · rw [old hlt] at hb; exact h.sh a hlt b hb
    · obtain rfl : a = j := by omega
      rw [upd_same] at hb; exact h.sh0 b (hc b hb).1
  · rcases Nat.lt_or_ge a j with hlt | hge
    · rw [old hlt] at hb; exact h.c a hlt hb
    · obtain rfl : a = j := by omega
      rw [upd_same] at hb; exact h.c0 (hc C hb).1
/-- The families lie apart. -/
theorem Geo.apart (h : Geo C j SB K0 Lf E w) {Shun : Go.Loc → Prop} {e : Nat} (hSB : ∀ l, Shun l → ∃ a : Addr, l = .cell a ∧ SB a.block) (hC : ¬ SB C) : Apart Shun (OwnF e C j E) (RdF e j E) := by
  refine ⟨fun k k' l ⟨i, hi, e1, h1⟩ ⟨i', hi', e2, h2⟩ => ?_, fun k k' l ⟨i, hi, e1, h1⟩ ⟨i', hi', e2, b', hb', k2, k3⟩ => ?_, fun k l ⟨i, hi, e1, h1⟩ hs => ?_, fun k l ⟨i, hi, e1, b, hb, k2, k3⟩ hs => ?_⟩
  · have : i = i' := by
      refine Classical.byContradiction fun hne => ?_
      rcases h1 with rfl | ⟨b, hb, hK, hl⟩
      · rcases h2 with h2 | ⟨b', hb', hK', hl'⟩
        · cases h2; exact hne rfl
        · cases hb'; exact h.c i' hi' hK'
      · rcases h2 with rfl | ⟨b', hb', hK', hl'⟩
        · cases hb; exact h.c i hi hK
        · rw [hb] at hb'; cases hb'
          exact h.sep i hi i' hi' hne _ hK hl hK'
    omega
  · rcases h1 with rfl | ⟨b, hb, hK, hl⟩
    · cases hb'; exact h.c i' hi' k2
    · rw [hb] at hb'; cases hb'
      by_cases hne : i = i'
      · subst hne; omega
      · exact h.sep i hi i' hi' hne _ hK hl k2
  · obtain ⟨a, rfl, ha⟩ := hSB l hs
    rcases h1 with h1 | ⟨b, hb, hK, hl⟩
    · cases h1; exact hC ha
    · cases hb; exact h.sh i hi _ hK ha
  · obtain ⟨a, rfl, ha⟩ := hSB l hs
    cases hb; exact h.sh i hi _ k2 ha
end
end Sim
end Go.Proofs.Ytaealkfnhhmmcaa
/- n workers that make memory: where each stands; a step of one and what all others keep. No condition. -/
namespace Go.Proofs.Ytaealkfnhhmmcaa
namespace Sim
open Go.Conc Go.ConcN
open Go.ConcR (KK wgBlock WgAt stA smA rd wr mk Payload DC0 Bk g_of_ofEvents loc_of_ofEvent ofEvent_loc_mark)
set_option linter.unusedVariables false
variable [Payload]
omit [Payload] in
theorem Co.status {P : Program} {main : Bool} {Lk : Nat → Prop} {Stop : (Nat → Prop) → Goroutine → World → Prop} (hr : ∀ K g w, Stop K g w → g.status = .running) {m : Nat} {K : Nat → Prop} {g : Goroutine} {w : World} (h : Co P main Lk Stop m K g w) : g.status = .running := by
  cases m with
  | zero => exact hr _ _ _ (h w (.refl K w))
  | succ m => exact h.elim (fun x => hr _ _ _ (x w (.refl K w))) fun x => x.1
omit [Payload] in
theorem Co.cases {P : Program} {main : Bool} {Lk : Nat → Prop} {Stop : (Nat → Prop) → Goroutine → World → Prop} {m : Nat} {K : Nat → Prop} {g : Goroutine} {w : World} (h : Co P main Lk Stop m K g w) :
    Stop K g w ∨ ∃ m', m = m' + 1 ∧ ∃ g' w' es, stepG P main g w = .go g' w' es ∧ Did Lk K w w' es ∧ Co P main Lk Stop m' (grow K w w') g' w' := by
  cases m with
  | zero => exact .inl (h w (.refl K w))
  | succ m => exact h.elim (fun x => .inl (x w (.refl K w))) fun x => .inr ⟨m, rfl, x.2 w (.refl K w)⟩
section
variable (P : Program) (ty : TypeId) (Wg C n : Nat) (Res : Nat → Value → (Nat → Prop) → World → Prop)
/-- Where worker number i stands: stage, fuel, deafness. -/
inductive WS (i : Nat) (x : WX) : Nat → Nat → Nat → Goroutine → World → Prop
  | co {m : Nat} {g : Goroutine} {w : World} : Co P false (fun b => b < x.low) (AtStore P ty Wg C n Res i) m x.K g w → x.stored = false → WS i x 7 (m + 201) 0 g w
  | r0 {m : Nat} {g : Goroutine} {w : World} : Goes P false (RW ty Wg C n 0 i) DC0 (AtR0 P ty Wg C n 0 (i + 1) x.v) m g w → x.stored = true → WS i x 7 m 0 g w
  | st {s m d : Nat} {g : Goroutine} {w : World} : WSit P ty Wg C n NoLoc NoLoc 0 (i + 1) x.v s m d g w → s ≤ 6 → x.stored = true → WS i x s m d g w
end
section
variable {P : Program} {ty : TypeId} {Wg C n : Nat} {Res : Nat → Value → (Nat → Prop) → World → Prop} {i : Nat} {x : WX} {s m d : Nat} {g : Goroutine} {w w₁ : World}
theorem WS.rely (h : WS P ty Wg C n Res i x s m d g w) (hk : Kn x.K w w₁) (hr : RW ty Wg C n 0 i w w₁) : WS P ty Wg C n Res i x s m d g w₁ := by
  cases h with
  | co h hs => exact .co (h.rely hk) hs
  | r0 h hs => exact .r0 (Goes.rely (fun _ _ _ h1 h2 => h1.trans h2) h hr) hs
  | st h h6 hs => exact .st (h.rely hr) h6 hs
theorem WS.status (h : WS P ty Wg C n Res i x s m d g w) : g.status = .running ∨ g.status = .finished := by
  cases h with
  | co h hs => exact .inl (h.status fun _ _ _ x => x.1)
  | r0 h hs => exact .inl (Goes.running (fun _ _ x => x.1) w (RW.refl w) h)
  | st h h6 hs => exact h.status
theorem WS.running_of (h : WS P ty Wg C n Res i x s m d g w) (hs : s ≠ 1) : g.status = .running := by
  cases h with
  | co h _ => exact h.status fun _ _ _ x => x.1
  | r0 h _ => exact Goes.running (fun _ _ x => x.1) w (RW.refl w) h
  | st h _ _ => exact h.running_of hs
theorem WS.woken (h : WS P ty Wg C n Res i x s m d g w) (a a' : Goroutine) (w' : World) : Go.Conc.woken P a a' w' g = g := by
  unfold Go.Conc.woken
  split
  · exact again_running _ h.status
  · rfl
end
section
variable (P : Program) (ty : TypeId) (Wg C n : Nat) (Res : Nat → Value → (Nat → Prop) → World → Prop) (Shun : Go.Loc → Prop) (SB : Nat → Prop) (e : Nat)
structure Com (j : Nat) (gs : Array Goroutine) (w : World) (t : Trace) (D : Nat → WD) (E : Nat → WX) (q : Nat → Nat) (K0 : Nat → Prop) (Lf d0 : Nat) : Prop where
  size : gs.size = e + 1 + j
  wk : ∀ i, i < j → ∃ g, gs[e + 1 + i]? = some g ∧ WS P ty Wg C n Res i (E i) (D i).stage (D i).fuel (D i).deaf g w
  el : ∀ x, 0 < x → x ≤ e → ∃ g, gs[x]? = some g ∧ QuitsD P (q x) (Deaf t x) g
  tr : TR Shun e j (OwnF e C j E) (RdF e j E) w.heap.size t
  deaf0 : Deaf t 0 = d0
  deafW : ∀ i, i < j → Deaf t (e + 1 + i) = (D i).deaf
  rel : ∀ i, i < j → (D i).stage ≤ 6 → ∃ r, RelBy (stA Wg) t (e + 1 + i) r
  has : ∀ i, i < j → (D i).stage ≤ 6 → Has C i (E i).v w
  res : ∀ i, i < j → (E i).stored = true → Res i (E i).v (E i).K w
  pay : PayAt C n w
  geo : Geo C j SB K0 Lf E w
end
section
variable {P : Program} {ty : TypeId} {Wg C n : Nat} {Res : Nat → Value → (Nat → Prop) → World → Prop} {Shun : Go.Loc → Prop} {SB : Nat → Prop} {e : Nat}
  {j : Nat} {gs : Array Goroutine} {w w' : World} {t : Trace} {D : Nat → WD} {E : Nat → WX} {q : Nat → Nat} {K0 : Nat → Prop} {Lf d0 : Nat}
omit [Payload] in
theorem kn_at (K : Nat → Prop) (w : World) (d : Nat) : Kn K w (w.at d) := ⟨fun _ _ => rfl, Nat.le_refl _, rfl, rfl, rfl⟩
theorem Com.at (hR : ∀ i v K w w', Kn K w w' → Res i v K w → Res i v K w') (h : Com P ty Wg C n Res Shun SB e j gs w t D E q K0 Lf d0) (d : Nat) : Com P ty Wg C n Res Shun SB e j gs (w.at d) t D E q K0 Lf d0 :=
  ⟨h.size, fun i hi => let ⟨g, hg, hs⟩ := h.wk i hi; ⟨g, hg, hs.rely (kn_at _ w d) (RW.at w d)⟩, h.el, h.tr, h.deaf0, h.deafW, h.rel, h.has, fun i hi hs => hR _ _ _ _ _ (kn_at _ w d) (h.res i hi hs), h.pay, h.geo.same rfl⟩
/-- A STEP OF WORKER NUMBER i. -/
theorem Com.stepW (hR : ∀ i v K w w', Kn K w w' → Res i v K w → Res i v K w') (h : Com P ty Wg C n Res Shun SB e j gs w t D E q K0 Lf d0) {i : Nat} (hi : i < j) {g g' : Goroutine} {fn : FuncId} {pos : String} {es : Array Event} {s' m' dd' : Nat} {x' : WX}
    (hk : ∀ i', i' < j → i' ≠ i → Kn (E i').K w w' ∧ RW ty Wg C n 0 i' w w')
    (hs' : WS P ty Wg C n Res i x' s' m' dd' g' w')
    (htr : TR Shun e j (OwnF e C j (upd E i x')) (RdF e j (upd E i x')) w'.heap.size (t ++ MemOp.ofEvents (e + 1 + i) fn pos es))
    (hdeaf : deafBehind (D i).deaf es = dd')
    (hrel : s' ≤ 6 → ∃ r, RelBy (stA Wg) (t ++ MemOp.ofEvents (e + 1 + i) fn pos es) (e + 1 + i) r)
    (hhas : s' ≤ 6 → Has C i x'.v w') (hres : x'.stored = true → Res i x'.v x'.K w') (hpay : PayAt C n w') (hgeo : Geo C j SB K0 Lf (upd E i x') w') :
    Com P ty Wg C n Res Shun SB e j ((gs.map (woken P g g' w')).setIfInBounds (e + 1 + i) g') w' (t ++ MemOp.ofEvents (e + 1 + i) fn pos es) (upd D i ⟨s', m', dd'⟩) (upd E i x') q K0 Lf d0 := by
  refine ⟨by simp [h.size], fun i' hi' => ?_, fun x hx hxe => ?_, htr, by rw [Deaf_other t (by omega) _ g_of_ofEvents, h.deaf0], fun i' hi' => ?_, fun i' hi' hst => ?_, fun i' hi' hst => ?_, fun i' hi' hst => ?_, hpay, hgeo⟩
  · by_cases e' : i' = i
    · subst e'
      exact ⟨g', get_map_set_same _ _ _ (by rw [h.size]; omega), by rw [upd_same, upd_same]; exact hs'⟩
    · obtain ⟨x, hx, hsx⟩ := h.wk i' hi'
      refine ⟨x, by rw [get_map_set _ _ _ _ (by omega), hx, Option.map_some, hsx.woken], ?_⟩
      rw [upd_ne D _ e', upd_ne E _ e']
      exact hsx.rely (hk i' hi' e').1 (hk i' hi' e').2
  · obtain ⟨y, hy, hq⟩ := h.el x hx hxe
    exact ⟨y, by rw [get_map_set _ _ _ _ (by omega), hy, Option.map_some, woken_quitsD hq], by rw [Deaf_other t (by omega) _ g_of_ofEvents]; exact hq⟩
  · by_cases e' : i' = i
    · subst e'; rw [Deaf_own, h.deafW i' hi', upd_same]; exact hdeaf
    · rw [Deaf_other t (by omega) _ g_of_ofEvents, h.deafW i' hi', upd_ne D _ e']
  · by_cases e' : i' = i
    · subst e'; rw [upd_same] at hst; exact hrel hst
    · rw [upd_ne D _ e'] at hst
      obtain ⟨r, hr⟩ := h.rel i' hi' hst
      exact ⟨r, hr.appOther g_of_ofEvents (by omega)⟩
  · by_cases e' : i' = i
    · subst e'; rw [upd_same] at hst ⊢; exact hhas hst
    · rw [upd_ne D _ e'] at hst
      rw [upd_ne E _ e']
      exact (hk i' hi' e').2.cell.trans (h.has i' hi' hst)
  · by_cases e' : i' = i
    · subst e'; rw [upd_same] at hst ⊢; exact hres hst
    · rw [upd_ne E _ e'] at hst ⊢
      exact hR _ _ _ _ _ (hk i' hi' e').1 (h.res i' hi' hst)
/-- A STEP OF THE STARTER's. -/
theorem Com.step0 (hR : ∀ i v K w w', Kn K w w' → Res i v K w → Res i v K w') (h : Com P ty Wg C n Res Shun SB e j gs w t D E q K0 Lf d0) {a a' : Goroutine} {fn : FuncId} {pos : String} {es : Array Event} {K0' : Nat → Prop}
    (hk : ∀ i, i < j → Kn (E i).K w w' ∧ RW ty Wg C n 0 i w w') (htr : TR Shun e j (OwnF e C j E) (RdF e j E) w'.heap.size (t ++ MemOp.ofEvents 0 fn pos es)) (hpay : PayAt C n w') (hgeo : Geo C j SB K0' Lf E w') :
    Com P ty Wg C n Res Shun SB e j ((gs.map (woken P a a' w')).setIfInBounds 0 a') w' (t ++ MemOp.ofEvents 0 fn pos es) D E q K0' Lf (deafBehind d0 es) := by
  refine ⟨by simp [h.size], fun i hi => ?_, fun x hx hxe => ?_, htr, by rw [Deaf_own, h.deaf0], fun i hi => by rw [Deaf_other t (by omega) _ g_of_ofEvents, h.deafW i hi], fun i hi hst => ?_, fun i hi hst => (hk i hi).2.cell.trans (h.has i hi hst), fun i hi hst => hR _ _ _ _ _ (hk i hi).1 (h.res i hi hst), hpay, hgeo⟩
  · obtain ⟨x, hx, hsx⟩ := h.wk i hi
    exact ⟨x, by rw [get_map_set _ _ _ _ (by omega), hx, Option.map_some, hsx.woken], hsx.rely (hk i hi).1 (hk i hi).2⟩
  · obtain ⟨y, hy, hq⟩ := h.el x hx hxe
    exact ⟨y, by rw [get_map_set _ _ _ _ (by omega), hy, Option.map_some, woken_quitsD hq], by rw [Deaf_other t (by omega) _ g_of_ofEvents]; exact hq⟩
  · obtain ⟨r, hr⟩ := h.rel i hi hst
    exact ⟨r, hr.appOther g_of_ofEvents (by omega)⟩
/-- A STEP OF AN ELDER's: it leaves. -/
theorem Com.stepE (hA : Apart Shun (OwnF e C j E) (RdF e j E)) (h : Com P ty Wg C n Res Shun SB e j gs w t D E q K0 Lf d0) {x k : Nat} (hx : 0 < x) (hxe : x ≤ e) {g g' : Goroutine} {fn : FuncId} {pos : String} {es : Array Event}
    (hm : ∀ e ∈ es, e.mute = true) (hq : QuitsD P k (deafBehind (Deaf t x) es) g') :
    Com P ty Wg C n Res Shun SB e j ((gs.map (woken P g g' w)).setIfInBounds x g') w (t ++ MemOp.ofEvents x fn pos es) D E (upd q x k) K0 Lf d0 := by
  have htr := h.tr.appE hA (k := x) hx hxe (u := MemOp.ofEvents x fn pos es) g_of_ofEvents (okA_of (fun e he => okE_mute (hm e he)) _ _ _) fun op hop => by
    obtain ⟨e, he, rfl⟩ := Go.Conc.mem_ofEvents hop
    exact touch_mute (hm e he)
  refine ⟨by simp [h.size], fun i hi => ?_, fun y hy hye => ?_, htr, by rw [Deaf_other t (by omega) _ g_of_ofEvents, h.deaf0], fun i hi => by rw [Deaf_other t (by omega) _ g_of_ofEvents, h.deafW i hi], fun i hi hst => ?_, h.has, h.res, h.pay, h.geo⟩
  · obtain ⟨x, hx, hsx⟩ := h.wk i hi
    exact ⟨x, by rw [get_map_set _ _ _ _ (by omega), hx, Option.map_some, hsx.woken], hsx⟩
  · by_cases e' : y = x
    · subst e'
      exact ⟨g', get_map_set_same _ _ _ (by rw [h.size]; omega), by rw [upd_same, Deaf_own]; exact hq⟩
    · obtain ⟨z, hz, hq⟩ := h.el y hy hye
      exact ⟨z, by rw [get_map_set _ _ _ _ (by omega), hz, Option.map_some, woken_quitsD hq], by rw [upd_ne q _ e', Deaf_other t (by omega) _ g_of_ofEvents]; exact hq⟩
  · obtain ⟨r, hr⟩ := h.rel i hi hst
    exact ⟨r, hr.appOther g_of_ofEvents (by omega)⟩
/-- THE go STATEMENT. -/
theorem Com.spawn (hSB : ∀ l, Shun l → ∃ a : Addr, l = .cell a ∧ SB a.block) (hC : ¬ SB C) (h : Com P ty Wg C n Res Shun SB e j gs w t D E q K0 Lf 0) {a' child : Goroutine} {x y : MemOp} {m : Nat} (hx : x.g = 0 ∧ x.act = .go (e + j + 1)) (hy : y.g = e + j + 1 ∧ y.act = .start)
    {Kc : Nat → Prop} (hKc : ∀ b, Kc b → K0 b ∧ b < w.heap.size) (hc : Co P false (fun b => b < w.heap.size) (AtStore P ty Wg C n Res j) m Kc child w) (v : Value) :
    Com P ty Wg C n Res Shun SB e (j + 1) ((gs.setIfInBounds 0 a').push child) w (t ++ #[x, y]) (upd D j ⟨7, m + 201, 0⟩) (upd E j ⟨w.heap.size, Kc, v, false⟩) q K0 w.heap.size 0 := by
  have hgeo := h.geo.spawn hKc v
  have hm : ∀ op ∈ #[x, y], op = x ∨ op = y := by intro op hop; simpa using hop
  have hst : ∀ op ∈ #[x, y], op.act ≠ .mark .disable ∧ op.act ≠ .mark .enable := by
    intro op hop
    rcases hm op hop with rfl | rfl
    · rw [hx.2]; exact ⟨by simp, by simp⟩
    · rw [hy.2]; exact ⟨by simp, by simp⟩
  have hgx : ∀ op ∈ #[x, y], op.g = 0 ∨ op.g = e + j + 1 := by
    intro op hop
    rcases hm op hop with rfl | rfl
    · exact .inl hx.1
    · exact .inr hy.1
  have hnt : ∀ op ∈ #[x, y], op.act.touch? = none := by
    intro op hop
    rcases hm op hop with rfl | rfl
    · rw [hx.2]; rfl
    · rw [hy.2]; rfl
  have hu : ∀ op ∈ #[x, y], OkA w.heap.size op := by
    intro op hop
    refine ⟨fun a ha => ?_, fun z hz => (by rw [hnt op hop] at hz; cases hz), ?_⟩
    · rcases hm op hop with rfl | rfl
      · rw [hx.2] at ha; cases ha
      · rw [hy.2] at ha; cases ha
    · rcases hm op hop with rfl | rfl
      · rw [hx.2]; trivial
      · rw [hy.2]; trivial
  have hget : ∀ k, k < gs.size → k ≠ 0 → ((gs.setIfInBounds 0 a').push child)[k]? = gs[k]? := fun k hk h0 => by
    rw [Array.getElem?_push_lt (by simp; exact hk), ← Array.getElem?_eq_getElem, Array.getElem?_setIfInBounds_ne (by omega)]
  have hsz := h.size
  have oldE : ∀ {a}, a < j → upd E j ⟨w.heap.size, Kc, v, false⟩ a = E a := fun ha => upd_ne E _ (by omega)
  have oldD : ∀ {a}, a < j → upd D j ⟨7, m + 201, 0⟩ a = D a := fun ha => upd_ne D _ (by omega)
  have hct : CT Shun (OwnF e C (j + 1) (upd E j ⟨w.heap.size, Kc, v, false⟩)) (RdF e (j + 1) (upd E j ⟨w.heap.size, Kc, v, false⟩)) (t ++ #[x, y]) (e + (j + 1)) := by
    refine CT.fork (hgeo.apart hSB hC) (ct_grow h.tr.ct (fun k k1 kj l hl => ?_) (fun k k1 kj l hl => ?_) (fun k k1 kj l hl => ?_) (fun k k1 kj l hl => ?_)) hx hy h.deaf0
    · obtain ⟨i, hi, he, hl⟩ := hl
      have hlt : i < j := by omega
      rw [oldE hlt] at hl
      exact .inl ⟨i, hlt, he, hl⟩
    · obtain ⟨i, hi, he, hl⟩ := hl
      exact ⟨i, by omega, he, by rw [oldE hi]; exact hl⟩
    · obtain ⟨i, hi, he, hl⟩ := hl
      have hlt : i < j := by omega
      rw [oldE hlt] at hl
      exact .inl ⟨i, hlt, he, hl⟩
    · obtain ⟨i, hi, he, hl⟩ := hl
      exact ⟨i, by omega, he, by rw [oldE hi]; exact hl⟩
  have htr : TR Shun e (j + 1) (OwnF e C (j + 1) (upd E j ⟨w.heap.size, Kc, v, false⟩)) (RdF e (j + 1) (upd E j ⟨w.heap.size, Kc, v, false⟩)) w.heap.size (t ++ #[x, y]) := by
    have h0 := h.tr
    refine ⟨hct, fun i op a hi => ?_, fun i op x hi hx => ?_, seen_app h0.seen fun op hop => (hu op hop).low, fun i op x hi hg hx hk => ?_, fun i op x hi hg hx => ?_, fun i op hi hg hne hcn => ?_⟩
    · rcases getElem?_append_cases hi with ⟨_, hi'⟩ | ⟨_, hiu⟩
      · exact h0.rl i op a hi'
      · exact (hu op hiu).rl a
    · rcases getElem?_append_cases hi with ⟨_, hi'⟩ | ⟨_, hiu⟩
      · exact h0.mem i op x hi' hx
      · exact (hu op hiu).mem x hx
    · rcases getElem?_append_cases hi with ⟨_, hi'⟩ | ⟨_, hiu⟩
      · exact h0.atom i op x hi' hg hx hk
      · rw [hnt op hiu] at hx; cases hx
    · rcases getElem?_append_cases hi with ⟨_, hi'⟩ | ⟨_, hiu⟩
      · exact (h0.oldk i op x hi' hg hx).imp (·.app _) id
      · rw [hnt op hiu] at hx; cases hx
    · rcases getElem?_append_cases hi with ⟨hlt, hi'⟩ | ⟨_, hiu⟩
      · obtain ⟨k, h1, h2⟩ := h0.oldo i op hi' hg hne ((counts_old hlt).1 hcn)
        obtain ⟨z, hz, _⟩ := Option.map_eq_some_iff.1 h1
        have hk := lt_size_of_getElem? hz
        exact ⟨k, by rw [g?_old hk]; exact h1, hb_app _ h2⟩
      · obtain ⟨x, hx, _⟩ := hcn
        rw [show (Trace.act? (t ++ _) i) = some op.act by simp [Trace.act?, hi]] at hx
        rw [Option.bind_some, hnt op hiu] at hx
        cases hx
  refine ⟨by simp [h.size]; omega, fun i hi => ?_, fun z hz hze => ?_, htr, by rw [Deaf_still t 0 _ hst, h.deaf0], fun i hi => ?_, fun i hi hs => ?_, fun i hi hs => ?_, fun i hi hs => ?_, h.pay, hgeo⟩
  · rcases Nat.lt_or_ge i j with hlt | hge
    · obtain ⟨g, hg, hsg⟩ := h.wk i hlt
      exact ⟨g, by rw [hget _ (by omega) (by omega)]; exact hg, by rw [oldD hlt, oldE hlt]; exact hsg⟩
    · obtain rfl : i = j := by omega
      refine ⟨child, ?_, by rw [upd_same, upd_same]; exact .co hc rfl⟩
      rw [show e + 1 + i = (gs.setIfInBounds 0 a').size by simp [hsz], Array.getElem?_push_size]
  · obtain ⟨g, hg, hq⟩ := h.el z hz hze
    exact ⟨g, by rw [hget _ (by omega) (by omega)]; exact hg, by rw [Deaf_still t _ _ hst]; exact hq⟩
  · rw [Deaf_still t _ _ hst]
    rcases Nat.lt_or_ge i j with hlt | hge
    · rw [h.deafW i hlt, oldD hlt]
    · obtain rfl : i = j := by omega
      rw [upd_same]
      exact Deaf_absent fun a op ha e' => by have := h.tr.ct.gs a op ha; omega
  · rcases Nat.lt_or_ge i j with hlt | hge
    · rw [oldD hlt] at hs
      obtain ⟨r, hr⟩ := h.rel i hlt hs
      refine ⟨r, hr.appNot fun op hop => ?_⟩
      rcases hgx op hop with hg | hg <;> omega
    · obtain rfl : i = j := by omega
      rw [upd_same] at hs
      simp at hs
  · rcases Nat.lt_or_ge i j with hlt | hge
    · rw [oldD hlt] at hs
      rw [oldE hlt]
      exact h.has i hlt hs
    · obtain rfl : i = j := by omega
      rw [upd_same] at hs
      simp at hs
  · rcases Nat.lt_or_ge i j with hlt | hge
    · rw [oldE hlt] at hs ⊢
      exact h.res i hlt hs
    · obtain rfl : i = j := by omega
      rw [upd_same] at hs
      cases hs
end
end Sim
end Go.Proofs.Ytaealkfnhhmmcaa
/- n workers that make memory and their starter: the invariant and its three master steps. No condition. -/
namespace Go.Proofs.Ytaealkfnhhmmcaa
namespace Sim
open Go.Conc Go.ConcN
open Go.ConcR (KK wgBlock WgAt stA smA rd wr mk Payload DC0 Bk g_of_ofEvents loc_of_ofEvent ofEvent_loc_mark again_blocked)
set_option linter.unusedVariables false
variable [Payload]
section
variable (P : Program) (ty : TypeId) (Wg C n : Nat) (Res : Nat → Value → (Nat → Prop) → World → Prop) (Q Anch : (Nat → Prop) → Goroutine → World → Prop)
/-- Where the starter stands: tag, how many are started, fuel, deafness, the heap's size at the last start, what it knows. -/
inductive CX : CTag → Nat → Nat → Nat → Nat → (Nat → Prop) → Goroutine → World → Prop
  | run0 {m Lf : Nat} {K : Nat → Prop} {g : Goroutine} {w : World} : Co P true (fun b => b < Lf) (fun K g w => WgLive ty Wg w → ∃ m, (Goes P true (RS ty Wg K) DC0) (XKd P ty Wg Anch K) m g w) m K g w → CX (.sp 0 8) n m 0 Lf K g w
  | run {r m Lf : Nat} {K : Nat → Prop} {g : Goroutine} {w : World} : r < n → Co P true (fun b => b < Lf) (fun K g w => WgLive ty Wg w → ∃ m, (Goes P true (RS ty Wg K) DC0) (SKd P ty Wg C n Res K (n - (r + 1)) Lf ((Starts P ty Wg C n Res Q Anch) r)) m g w) m K g w → CX (.sp (r + 1) 8) (n - (r + 1)) m 0 Lf K g w
  | skd {r m Lf : Nat} {K : Nat → Prop} {g : Goroutine} {w : World} : r < n → (Goes P true (RS ty Wg K) DC0) (SKd P ty Wg C n Res K (n - (r + 1)) Lf ((Starts P ty Wg C n Res Q Anch) r)) m g w → CX (.sp (r + 1) 7) (n - (r + 1)) m 0 Lf K g w
  | sa1 {r m Lf : Nat} {K : Nat → Prop} {g : Goroutine} {w : World} : r < n → (Goes P true (RS ty Wg K) DC0) (SA1 P ty Wg C n Res K (n - (r + 1)) Lf ((Starts P ty Wg C n Res Q Anch) r)) m g w → CX (.sp (r + 1) 6) (n - (r + 1)) m 1 Lf K g w
  | srr {r m Lf : Nat} {K : Nat → Prop} {g : Goroutine} {w : World} : r < n → (Goes P true (RS ty Wg K) DC0) (SRr P ty Wg C n Res K (n - (r + 1)) Lf ((Starts P ty Wg C n Res Q Anch) r)) m g w → CX (.sp (r + 1) 3) (n - (r + 1)) m 1 Lf K g w
  | ske {r m Lf : Nat} {K : Nat → Prop} {g : Goroutine} {w : World} : r < n → (Goes P true (RS ty Wg K) DC0) (SKe P ty Wg C n Res K (n - (r + 1)) Lf ((Starts P ty Wg C n Res Q Anch) r)) m g w → CX (.sp (r + 1) 2) (n - (r + 1)) m 1 Lf K g w
  | sbk {r m Lf : Nat} {K : Nat → Prop} {g : Goroutine} {w : World} : r < n → (Goes P true (RS ty Wg K) DC0) (SBk P ty Wg C n Res K (n - (r + 1)) Lf ((Starts P ty Wg C n Res Q Anch) r)) m g w → CX (.sp (r + 1) 1) (n - (r + 1)) m 0 Lf K g w
  | sgo {r m Lf : Nat} {K : Nat → Prop} {g : Goroutine} {w : World} : r < n → Co P true (fun b => b < Lf) (SGo P ty Wg C n Res (n - (r + 1)) ((Starts P ty Wg C n Res Q Anch) r)) m K g w → CX (.sp (r + 1) 0) (n - (r + 1)) m 0 Lf K g w
  | kd {m Lf : Nat} {K : Nat → Prop} {g : Goroutine} {w : World} : (Goes P true (RS ty Wg K) DC0) (XKd P ty Wg Anch K) m g w → CX .kd n m 0 Lf K g w
  | anch {m Lf : Nat} {K : Nat → Prop} {g : Goroutine} {w : World} : (Goes P true (RS ty Wg K) DC0) (Anch K) m g w → CX .anch n m 1 Lf K g w
  | w1 {m Lf : Nat} {K : Nat → Prop} {g : Goroutine} {w : World} : (Goes P true (RS ty Wg K) DC0) (XW1 P ty Wg Q Anch K) m g w → CX .w1 n m 1 Lf K g w
  | w2 {vs m Lf : Nat} {K : Nat → Prop} {g : Goroutine} {w : World} : (Goes P true (RS ty Wg K) DC0) (XW2 P ty Wg Q Anch K vs) m g w → CX (.w2 vs) n m 1 Lf K g w
  | wr {m Lf : Nat} {K : Nat → Prop} {g : Goroutine} {w : World} : (Goes P true (RS ty Wg K) DC0) (XWr P ty Wg Q K) m g w → CX .w3 n (m + 202) 1 Lf K g w
  | w3 {m Lf : Nat} {K : Nat → Prop} {g : Goroutine} {w : World} : (Goes P true (RS ty Wg K) DC0) (XW3 P ty Wg Q K) m g w → CX .w3 n (m + 1) 1 Lf K g w
  | blk {Lf : Nat} {K : Nat → Prop} {g : Goroutine} {w : World} : (∀ w₁, RS ty Wg K w w₁ → XW3 P ty Wg Q K g w₁) → CX .blk n 0 1 Lf K { g with status := .blocked } w
  | w4 {m Lf : Nat} {K : Nat → Prop} {g : Goroutine} {w : World} : (Goes P true (RS ty Wg K) DC0) (XW4 P ty Wg Q K) m g w → CX .w4 n m 1 Lf K g w
  | ke {m Lf : Nat} {K : Nat → Prop} {g : Goroutine} {w : World} : (Goes P true (RS ty Wg K) DC0) (XKe P ty Wg Q K) m g w → CX .ke n m 1 Lf K g w
  | acq {m Lf : Nat} {K : Nat → Prop} {g : Goroutine} {w : World} : (Goes P true (RS ty Wg K) DC0) (XAcq P Wg Q K) m g w → CX .acq n m 0 Lf K g w
end
section
variable {P : Program} {ty : TypeId} {Wg C n : Nat} {Res : Nat → Value → (Nat → Prop) → World → Prop} {Q Anch : (Nat → Prop) → Goroutine → World → Prop}
  {tag : CTag} {j f d Lf : Nat} {K : Nat → Prop} {a : Goroutine} {w w' : World}
omit [Payload] in
theorem rs_refl (w : World) : RS ty Wg K w w := .refl ty Wg K w
theorem CX.rely (h : CX P ty Wg C n Res Q Anch tag j f d Lf K a w) (hr : RS ty Wg K w w') : CX P ty Wg C n Res Q Anch tag j f d Lf K a w' := by
  have tr : ∀ x y z, RS ty Wg K x y → RS ty Wg K y z → RS ty Wg K x z := fun _ _ _ h1 h2 => h1.trans h2
  cases h with
  | run0 h => exact .run0 (h.rely hr.kn)
  | run hn h => exact .run hn (h.rely hr.kn)
  | skd hn h => exact .skd hn (Goes.rely tr h hr)
  | sa1 hn h => exact .sa1 hn (Goes.rely tr h hr)
  | srr hn h => exact .srr hn (Goes.rely tr h hr)
  | ske hn h => exact .ske hn (Goes.rely tr h hr)
  | sbk hn h => exact .sbk hn (Goes.rely tr h hr)
  | sgo hn h => exact .sgo hn (h.rely hr.kn)
  | kd h => exact .kd (Goes.rely tr h hr)
  | anch h => exact .anch (Goes.rely tr h hr)
  | w1 h => exact .w1 (Goes.rely tr h hr)
  | w2 h => exact .w2 (Goes.rely tr h hr)
  | wr h => exact .wr (Goes.rely tr h hr)
  | w3 h => exact .w3 (Goes.rely tr h hr)
  | blk h => exact .blk (fun w₂ h₂ => h w₂ (hr.trans h₂))
  | w4 h => exact .w4 (Goes.rely tr h hr)
  | ke h => exact .ke (Goes.rely tr h hr)
  | acq h => exact .acq (Goes.rely tr h hr)
omit [Payload] in
theorem Co.statusL {S : (Nat → Prop) → Goroutine → World → Prop} {Lk : Nat → Prop} (hS : ∀ K g w, S K g w → g.status = .running) (hl : WgLive ty Wg w) {m : Nat} (h : Co P true Lk (fun K g w => WgLive ty Wg w → ∃ m, Goes P true (RS ty Wg K) DC0 (S K) m g w) m K a w) : a.status = .running := by
  have key : (WgLive ty Wg w → ∃ m, Goes P true (RS ty Wg K) DC0 (S K) m a w) → a.status = .running := fun h => by
    obtain ⟨m, h⟩ := h hl
    exact Goes.running (fun g w x => hS K g w x) w (.refl ty Wg K w) h
  cases m with
  | zero => exact key (h w (.refl K w))
  | succ m => exact h.elim (fun x => key (x w (.refl K w))) fun x => x.1
theorem SBk.running {Next : Nat → (Nat → Prop) → Goroutine → World → Prop} {g : Goroutine} {w : World} (h : SBk P ty Wg C n Res K j Lf Next g w) : g.status = .running := by
  obtain ⟨m, h⟩ := h
  exact h.status fun _ _ _ x => x.1
/-- It is running, or it is blocked at the semaphore. -/
theorem CX.status (hAr : ∀ K g w, Anch K g w → g.status = .running) (hl : WgLive ty Wg w) (h : CX P ty Wg C n Res Q Anch tag j f d Lf K a w) : (a.status = .running ∧ tag ≠ .blk) ∨ (a.status = .blocked ∧ tag = .blk) := by
  cases h with
  | run0 h => exact .inl ⟨h.statusL (fun _ _ _ x => x.1) hl, by simp⟩
  | run _ h => exact .inl ⟨h.statusL (S := fun K => SKd P ty Wg C n Res K _ Lf _) (fun _ _ _ x => x.1) hl, by simp⟩
  | skd _ h => exact .inl ⟨Goes.running (fun _ _ x => x.1) w (rs_refl w) h, by simp⟩
  | sa1 _ h => exact .inl ⟨Goes.running (fun _ _ x => x.1) w (rs_refl w) h, by simp⟩
  | srr _ h => exact .inl ⟨Goes.running (fun _ _ x => x.1) w (rs_refl w) h, by simp⟩
  | ske _ h => exact .inl ⟨Goes.running (fun _ _ x => x.1) w (rs_refl w) h, by simp⟩
  | sbk _ h => exact .inl ⟨Goes.running (fun _ _ x => SBk.running x) w (rs_refl w) h, by simp⟩
  | sgo _ h => exact .inl ⟨h.status fun _ _ _ x => x.1, by simp⟩
  | kd h => exact .inl ⟨Goes.running (fun _ _ x => x.1) w (rs_refl w) h, by simp⟩
  | anch h => exact .inl ⟨Goes.running (hAr K) w (rs_refl w) h, by simp⟩
  | w1 h => exact .inl ⟨Goes.running (fun _ _ x => x.1) w (rs_refl w) h, by simp⟩
  | w2 h => exact .inl ⟨Goes.running (fun _ _ x => x.1) w (rs_refl w) h, by simp⟩
  | wr h => exact .inl ⟨Goes.running (fun _ _ x => x.1) w (rs_refl w) h, by simp⟩
  | w3 h => exact .inl ⟨Goes.running (fun _ _ x => x.1) w (rs_refl w) h, by simp⟩
  | blk h => exact .inr ⟨rfl, rfl⟩
  | w4 h => exact .inl ⟨Goes.running (fun _ _ x => x.1) w (rs_refl w) h, by simp⟩
  | ke h => exact .inl ⟨Goes.running (fun _ _ x => x.1) w (rs_refl w) h, by simp⟩
  | acq h => exact .inl ⟨Goes.running (fun _ _ x => x.1) w (rs_refl w) h, by simp⟩
/-- Under another's step. -/
theorem CX.wokenBy (hAr : ∀ K g w, Anch K g w → g.status = .running) (hl : WgLive ty Wg w) (h : CX P ty Wg C n Res Q Anch tag j f d Lf K a w) (hr : RS ty Wg K w w') (g g' : Goroutine) :
    ∃ tag' f', CX P ty Wg C n Res Q Anch tag' j f' d Lf K (woken P g g' w' a) w' ∧ f' ≤ f + 1 ∧ (tag' = tag ∨ (tag = .blk ∧ tag' = .w3)) ∧ (mayWake P g = true → g'.status = .running → tag' ≠ .blk) := by
  have h' := h.rely hr
  unfold Go.Conc.woken
  split
  · rcases h'.status hAr (hr.live hl) with ⟨hs, hne⟩ | ⟨_, rfl⟩
    · exact ⟨tag, f, by rw [again_running _ (.inl hs)]; exact h', by omega, .inl rfl, fun _ _ => hne⟩
    · cases h' with
      | blk hb =>
        rename_i g0
        have h3 := hb w' (rs_refl w')
        exact ⟨.w3, 0 + 1, by rw [again_blocked h3.1 h3.2.1]; exact .w3 (Goes.stop hb), by omega, .inr ⟨rfl, rfl⟩, fun _ _ => by simp⟩
  · rename_i hc
    exact ⟨tag, f, h', by omega, .inl rfl, fun h1 h2 => absurd (by simp [h1, h2]) hc⟩
theorem CX.bound (h : CX P ty Wg C n Res Q Anch tag j f d Lf K a w) : j + pend tag ≤ n := by
  cases h <;> simp only [pend] <;> (try simp) <;> omega
end
section
variable (P : Program) (ty : TypeId) (Wg C n : Nat) (Res : Nat → Value → (Nat → Prop) → World → Prop) (Q Anch : (Nat → Prop) → Goroutine → World → Prop) (Shun : Go.Loc → Prop) (SB : Nat → Prop) (e : Nat)
def Mu (j : Nat) (D : Nat → WD) (q : Nat → Nat) (tag : CTag) (f0 : Nat) : Nat × Nat := (phi n (Vc j D) tag + Ssum j D, f0 + 2 * (Fsum j D + sumTo (e + 1) q))
def Inv (μ : Nat × Nat) (m : Machine) (t : Trace) : Prop :=
  ∃ (gs : Array Goroutine) (w : World) (sl : Option (Nat × Nat)) (j : Nat) (D : Nat → WD) (E : Nat → WX) (q : Nat → Nat) (tag : CTag) (f0 d0 Lf : Nat) (K0 : Nat → Prop) (a : Goroutine) (st sm : Int),
    m = crowd gs w sl ∧ gs[0]? = some a ∧ CX P ty Wg C n Res Q Anch tag j f0 d0 Lf K0 a w ∧ Com P ty Wg C n Res Shun SB e j gs w t D E q K0 Lf d0 ∧ WgAt ty Wg w st sm ∧ Go.ConcN.Mode j D tag st sm ∧ μ = Mu n e j D q tag f0
end
section
variable {P : Program} {ty : TypeId} {Wg C n : Nat} {Res : Nat → Value → (Nat → Prop) → World → Prop} {Q Anch : (Nat → Prop) → Goroutine → World → Prop} {Shun : Go.Loc → Prop} {SB : Nat → Prop} {e : Nat}
  {gs : Array Goroutine} {w w' : World} {sl : Option (Nat × Nat)} {j : Nat} {D : Nat → WD} {E : Nat → WX} {q : Nat → Nat} {tag : CTag} {f0 d0 Lf : Nat} {K0 : Nat → Prop} {a : Goroutine} {t : Trace} {st sm : Int}
/-- Whatever step of worker number i. -/
theorem workerStep (hR : ∀ i v K w w', Kn K w w' → Res i v K w → Res i v K w') (hAr : ∀ K g w, Anch K g w → g.status = .running)
    (ha : gs[0]? = some a) (hcs : CX P ty Wg C n Res Q Anch tag j f0 d0 Lf K0 a w) (hcom : Com P ty Wg C n Res Shun SB e j gs w t D E q K0 Lf d0) (hl : WgLive ty Wg w)
    {i : Nat} (hi : i < j) {g g' : Goroutine} {es : Array Event} {s' m' dd' : Nat} {x' : WX} {st' sm' : Int} (hg : gs[e + 1 + i]? = some g) (hgo : stepG P false g w = .go g' w' es)
    (hrs : RS ty Wg K0 w w') (hk : ∀ i', i' < j → i' ≠ i → Kn (E i').K w w' ∧ RW ty Wg C n 0 i' w w')
    (hs' : WS P ty Wg C n Res i x' s' m' dd' g' w')
    (htr : TR Shun e j (OwnF e C j (upd E i x')) (RdF e j (upd E i x')) w'.heap.size (t ++ MemOp.ofEvents (e + 1 + i) g.frame.fn g.frame.place es))
    (hdeaf : deafBehind (D i).deaf es = dd')
    (hrel : s' ≤ 6 → ∃ r, RelBy (stA Wg) (t ++ MemOp.ofEvents (e + 1 + i) g.frame.fn g.frame.place es) (e + 1 + i) r)
    (hhas : s' ≤ 6 → Has C i x'.v w') (hres : x'.stored = true → Res i x'.v x'.K w') (hpay : PayAt C n w') (hgeo : Geo C j SB K0 Lf (upd E i x') w') (hwg : WgAt ty Wg w' st' sm')
    (hmode : ∀ tag', (tag' = tag ∨ (tag = .blk ∧ tag' = .w3)) → (mayWake P g = true → g'.status = .running → tag' ≠ .blk) → Go.ConcN.Mode j (upd D i ⟨s', m', dd'⟩) tag' st' sm')
    (hlt : (s' < (D i).stage ∧ cnt ⟨s', m', dd'⟩ ≤ cnt (D i)) ∨ (s' = (D i).stage ∧ m' < (D i).fuel)) :
    ∃ m₁ ops μ', runT P (crowd gs w sl) (e + 1 + i) = (.next m₁, ops) ∧ Lt2 μ' (Mu n e j D q tag f0) ∧ Inv P ty Wg C n Res Q Anch Shun SB e μ' m₁ (t ++ ops) := by
  obtain ⟨tag', f', hcs', hf', htag, hwk⟩ := hcs.wokenBy hAr hl hrs g g'
  have hrun := runT_crowd_go (P := P) (sl := sl) (i := e + 1 + i) hg (by rw [show (e + 1 + i == 0) = false by simp]; exact hgo)
  have e1 := sumTo_upd D (⟨s', m', dd'⟩ : WD) cnt hi
  have e2 := sumTo_upd D (⟨s', m', dd'⟩ : WD) WD.stage hi
  have e3 := sumTo_upd D (⟨s', m', dd'⟩ : WD) WD.fuel hi
  refine ⟨_, _, Mu n e j (upd D i ⟨s', m', dd'⟩) q tag' f', hrun, ?_,
    _, w', sl, j, upd D i ⟨s', m', dd'⟩, upd E i x', q, tag', f', d0, Lf, K0, woken P g g' w' a, st', sm', rfl, by rw [get_map_set _ _ _ _ (by omega), ha]; rfl, hcs', hcom.stepW hR hi hk hs' htr hdeaf hrel hhas hres hpay hgeo, hwg, hmode tag' htag hwk, rfl⟩
  simp only [Mu]
  rw [phi_retag n _ htag]
  simp only [Vc, Ssum, Fsum] at *
  rcases hlt with ⟨h1, h2⟩ | ⟨h1, h2⟩
  · refine Prod.Lex.left _ _ ?_
    have := phi_mono n (v' := sumTo j fun a => cnt (upd D i ⟨s', m', dd'⟩ a)) (v := sumTo j fun a => cnt (D a)) (by omega) tag
    omega
  · have ec : cnt (⟨s', m', dd'⟩ : WD) = cnt (D i) := by simp only [cnt, h1]
    have ev : (sumTo j fun a => cnt (upd D i ⟨s', m', dd'⟩ a)) = sumTo j fun a => cnt (D a) := by omega
    have es' : (sumTo j fun a => (upd D i ⟨s', m', dd'⟩ a).stage) = sumTo j fun a => (D a).stage := by omega
    rw [ev, es']
    refine Prod.Lex.right _ ?_
    omega
/-- Whatever step of the starter's that is neither a go statement nor the last. -/
theorem callerStep (hR : ∀ i v K w w', Kn K w w' → Res i v K w → Res i v K w')
    (ha : gs[0]? = some a) (hcom : Com P ty Wg C n Res Shun SB e j gs w t D E q K0 Lf d0)
    {a' : Goroutine} {es : Array Event} {tag' : CTag} {f' : Nat} {K0' : Nat → Prop} {st' sm' : Int} (hgo : stepG P true a w = .go a' w' es)
    (hk : ∀ i, i < j → Kn (E i).K w w' ∧ RW ty Wg C n 0 i w w') (htr : TR Shun e j (OwnF e C j E) (RdF e j E) w'.heap.size (t ++ MemOp.ofEvents 0 a.frame.fn a.frame.place es)) (hpay : PayAt C n w') (hgeo : Geo C j SB K0' Lf E w')
    (hcs' : CX P ty Wg C n Res Q Anch tag' j f' (deafBehind d0 es) Lf K0' a' w') (hwg : WgAt ty Wg w' st' sm') (hmode : Go.ConcN.Mode j D tag' st' sm')
    (hlt : phi n (Vc j D) tag' < phi n (Vc j D) tag ∨ (phi n (Vc j D) tag' = phi n (Vc j D) tag ∧ f' < f0)) :
    ∃ m₁ ops μ', runT P (crowd gs w sl) 0 = (.next m₁, ops) ∧ Lt2 μ' (Mu n e j D q tag f0) ∧ Inv P ty Wg C n Res Q Anch Shun SB e μ' m₁ (t ++ ops) := by
  have hrun := runT_crowd_go (P := P) (sl := sl) (i := 0) ha (by simpa using hgo)
  refine ⟨_, _, Mu n e j D q tag' f', hrun, ?_,
    _, w', sl, j, D, E, q, tag', f', deafBehind d0 es, Lf, K0', a', st', sm', rfl, get_map_set_same _ _ _ (by rw [hcom.size]; omega), hcs', hcom.step0 hR hk htr hpay hgeo, hwg, hmode, rfl⟩
  rcases hlt with h | ⟨h1, h2⟩
  · exact Prod.Lex.left _ _ (by omega)
  · simp only [Mu]; rw [h1]; exact Prod.Lex.right _ (by omega)
/-- An elder's step. -/
theorem elderStep (hAr : ∀ K g w, Anch K g w → g.status = .running) (hA : Apart Shun (OwnF e C j E) (RdF e j E))
    (ha : gs[0]? = some a) (hcs : CX P ty Wg C n Res Q Anch tag j f0 d0 Lf K0 a w) (hcom : Com P ty Wg C n Res Shun SB e j gs w t D E q K0 Lf d0) (hwg : WgAt ty Wg w st sm) (hmode : Go.ConcN.Mode j D tag st sm)
    {x : Nat} (hx : 0 < x) (hxe : x ≤ e) {g : Goroutine} (hg : gs[x]? = some g) (hrun : g.status = .running) :
    ∃ m₁ ops μ', runT P (crowd gs w sl) x = (.next m₁, ops) ∧ Lt2 μ' (Mu n e j D q tag f0) ∧ Inv P ty Wg C n Res Q Anch Shun SB e μ' m₁ (t ++ ops) := by
  obtain ⟨g₁, hg₁, hq⟩ := hcom.el x hx hxe
  obtain rfl : g = g₁ := by rw [hg] at hg₁; exact Option.some.inj hg₁
  cases hqx : q x with
  | zero => rw [hqx] at hq; rw [hq.1] at hrun; cases hrun
  | succ k =>
    rw [hqx] at hq
    rcases hq with ⟨hf, _⟩ | ⟨_, g', es, hm, hstp, hq'⟩
    · rw [hf] at hrun; cases hrun
    · obtain ⟨tag', f', hcs', hf', htag, hwk⟩ := hcs.wokenBy hAr ⟨_, _, hwg⟩ (rs_refl w) g g'
      have hr := runT_crowd_go (P := P) (sl := sl) (i := x) hg (by rw [show (x == 0) = false by simp; omega]; exact hstp w)
      have e1 : sumTo (e + 1) (upd q x k) + q x = sumTo (e + 1) q + k := sumTo_upd q k id (show x < e + 1 by omega)
      rw [hqx] at e1
      refine ⟨_, _, Mu n e j D (upd q x k) tag' f', hr, ?_,
        _, w, sl, j, D, E, upd q x k, tag', f', d0, Lf, K0, woken P g g' w a, st, sm, rfl, by rw [get_map_set _ _ _ _ (by omega), ha]; rfl, hcs', hcom.stepE hA hx hxe hm hq', hwg, hmode.retag htag, rfl⟩
      simp only [Mu]
      rw [phi_retag n _ htag]
      refine Prod.Lex.right _ ?_
      omega
end
end Sim
end Go.Proofs.Ytaealkfnhhmmcaa
/- n workers that make memory: each step of a worker's. No condition. -/
namespace Go.Proofs.Ytaealkfnhhmmcaa
namespace Sim
open Go.Conc Go.ConcN
open Go.ConcR (KK wgBlock WgAt stA smA rd wr mk Payload DC0 Bk g_of_ofEvents loc_of_ofEvent ofEvent_loc_mark bk_of_mute)
set_option linter.unusedVariables false
variable [Payload]
theorem asideCell_set (C n i : Nat) (w : World) (v : Value) : AsideCell C n i w (w.setCell ⟨C, i, none⟩ v) := by
  have h := aside_setCell w ⟨C, i, none⟩ v
  refine ⟨h.tape, h.os, h.output, h.size, h.block, fun ⟨cs, hc, hn⟩ => ⟨cs.setIfInBounds i v, ?_, by simpa using hn⟩, fun i' hi => ?_⟩
  · have hlt := (Array.getElem?_eq_some_iff.1 hc).1
    have he := (Array.getElem?_eq_some_iff.1 hc).2
    simp [World.setCell, Array.getElem?_modify, hc]
  · simp only [World.cell?, World.setCell, Array.getElem?_modify]
    cases hx : w.heap[C]? with
    | none => simp
    | some o =>
      cases o <;> simp [Ne.symm hi]
/-- What holds throughout the phase. -/
structure Hyp (P : Program) (ty : TypeId) (Wg C n : Nat) (Res : Nat → Value → (Nat → Prop) → World → Prop) (Q Anch : (Nat → Prop) → Goroutine → World → Prop) (Shun : Go.Loc → Prop) (SB : Nat → Prop) : Prop where
  hR : ∀ i v K w w', Kn K w w' → Res i v K w → Res i v K w'
  hAr : ∀ K g w, Anch K g w → g.status = .running
  hAn : ∀ K g w, Anch K g w → ∃ m, Goes P true (RS ty Wg K) DC0 (XW1 P ty Wg Q Anch K) m g w
  hSB : ∀ l, Shun l → ∃ a : Addr, l = .cell a ∧ SB a.block
  hWS : ∀ l, ShN Wg l → Shun l
  hW : SB Wg
  hC : ¬ SB C
  hn : n < 2147483648
section
variable {P : Program} {ty : TypeId} {Wg C n : Nat} {Res : Nat → Value → (Nat → Prop) → World → Prop} {Q Anch : (Nat → Prop) → Goroutine → World → Prop} {Shun : Go.Loc → Prop} {SB : Nat → Prop} {e : Nat}
  {gs : Array Goroutine} {w w' : World} {sl : Option (Nat × Nat)} {j : Nat} {D : Nat → WD} {E : Nat → WX} {q : Nat → Nat} {tag : CTag} {f0 d0 Lf : Nat} {K0 : Nat → Prop} {a : Goroutine} {t : Trace} {st sm : Int}
omit [Payload] in
theorem Hyp.hCW (H : Hyp P ty Wg C n Res Q Anch Shun SB) : C ≠ Wg := fun h => H.hC (h ▸ H.hW)
omit [Payload] in
theorem kn_aside {K : Nat → Prop} (h : Aside Wg w w') (hK : ¬ K Wg) : Kn K w w' := ⟨fun b hb => h.block b fun e => hK (e ▸ hb), by rw [h.size]; exact Nat.le_refl _, h.tape, h.os, h.output⟩
theorem kn_cell {K : Nat → Prop} {i : Nat} (h : AsideCell C n i w w') (hK : ¬ K C) : Kn K w w' := ⟨fun b hb => h.block b fun e => hK (e ▸ hb), by rw [h.size]; exact Nat.le_refl _, h.tape, h.os, h.output⟩
theorem rw_of_did {Lk K : Nat → Prop} {es : Array Event} (h : Did Lk K w w' es) (hW : ¬ K Wg) (hC : ¬ K C) (hWl : Wg < w.heap.size) (hCl : C < w.heap.size) (i : Nat) : RW ty Wg C n 0 i w w' :=
  ⟨fun b hb => by omega, fun ⟨st, sm, hl⟩ => ⟨st, sm, hl.of_block (h.far Wg hWl (.inr hW))⟩, fun ⟨cs, hc, hs⟩ => ⟨cs, (h.far C hCl (.inr hC)).trans hc, hs⟩, cell_of_block (h.far C hCl (.inr hC)) i⟩
/-- A step of worker i's that turns its own blocks alone and lists what it knows. -/
theorem coStep (H : Hyp P ty Wg C n Res Q Anch Shun SB)
    (ha : gs[0]? = some a) (hcs : CX P ty Wg C n Res Q Anch tag j f0 d0 Lf K0 a w) (hcom : Com P ty Wg C n Res Shun SB e j gs w t D E q K0 Lf d0) (hwg : WgAt ty Wg w st sm) (hmode : Go.ConcN.Mode j D tag st sm)
    {i : Nat} (hi : i < j) {g g' : Goroutine} (hg : gs[e + 1 + i]? = some g) {es : Array Event} {m : Nat} (hst : (D i).stage = 7) (hfu : m + 201 < (D i).fuel) (hde : (D i).deaf = 0) (hso : (E i).stored = false)
    (hgo : stepG P false g w = .go g' w' es) (hD : Did (fun b => b < (E i).low) (E i).K w w' es) (hco : Co P false (fun b => b < (E i).low) (AtStore P ty Wg C n Res i) m (grow (E i).K w w') g' w') :
    ∃ m₁ ops μ', runT P (crowd gs w sl) (e + 1 + i) = (.next m₁, ops) ∧ Lt2 μ' (Mu n e j D q tag f0) ∧ Inv P ty Wg C n Res Q Anch Shun SB e μ' m₁ (t ++ ops) := by
  have G := hcom.geo
  have hWl : Wg < w.heap.size := G.sb _ H.hW
  have hKW : ¬ (E i).K Wg := fun h => G.sh i hi _ h H.hW
  have hKC := G.c i hi
  obtain ⟨cs, hc1, hc2⟩ := hcom.pay
  have hG' := G.growW (i := i) hD.size (E i).v false
  have hfar : ∀ b, b < w.heap.size → (∀ _ : (E i).K b, b < (E i).low) → w'.heap[b]? = w.heap[b]? := fun b hb h => hD.far b hb (by
    by_cases hk : (E i).K b
    · exact .inl (h hk)
    · exact .inr hk)
  have hct : CT Shun (OwnF e C j (upd E i ⟨(E i).low, grow (E i).K w w', (E i).v, false⟩)) (RdF e j (upd E i ⟨(E i).low, grow (E i).K w w', (E i).v, false⟩)) t (e + j) := by
    have hlow : ∀ a, (upd E i ⟨(E i).low, grow (E i).K w w', (E i).v, false⟩ a).low = (E a).low := fun a => by by_cases e : a = i <;> simp [upd, e]
    have hK : ∀ a b, (upd E i ⟨(E i).low, grow (E i).K w w', (E i).v, false⟩ a).K b → (E a).K b ∨ w.heap.size ≤ b := fun a b hb => by
      by_cases e : a = i
      · subst e; rw [upd_same] at hb; exact hb.imp id fun x => x.1
      · rw [upd_ne E _ e] at hb; exact .inl hb
    have hK2 : ∀ a b, (E a).K b → (upd E i ⟨(E i).low, grow (E i).K w w', (E i).v, false⟩ a).K b := fun a b hb => by
      by_cases e : a = i
      · subst e; rw [upd_same]; exact .inl hb
      · rw [upd_ne E _ e]; exact hb
    refine ct_grow hcom.tr.ct (fun k k1 kj l hl => ?_) (fun k k1 kj l hl => ?_) (fun k k1 kj l hl => ?_) (fun k k1 kj l hl => ?_)
    · obtain ⟨a, ha, he, hl⟩ := hl
      rcases hl with hl | ⟨b, hb, hk, hlo⟩
      · exact .inl ⟨a, ha, he, .inl hl⟩
      · rw [hlow] at hlo
        rcases hK a b hk with h1 | h1
        · exact .inl ⟨a, ha, he, .inr ⟨b, hb, h1, hlo⟩⟩
        · exact .inr (fresh_of_low hcom.tr.seen hb h1)
    · obtain ⟨a, ha, he, hl⟩ := hl
      rcases hl with hl | ⟨b, hb, hk, hlo⟩
      · exact ⟨a, ha, he, .inl hl⟩
      · exact ⟨a, ha, he, .inr ⟨b, hb, hK2 a b hk, by rw [hlow]; exact hlo⟩⟩
    · obtain ⟨a, ha, he, b, hb, hk, hlo⟩ := hl
      rw [hlow] at hlo
      rcases hK a b hk with h1 | h1
      · exact .inl ⟨a, ha, he, b, hb, h1, hlo⟩
      · exact .inr (fresh_of_low hcom.tr.seen hb h1)
    · obtain ⟨a, ha, he, b, hb, hk, hlo⟩ := hl
      exact ⟨a, ha, he, b, hb, hK2 a b hk, by rw [hlow]; exact hlo⟩
  have htr := ((hcom.tr.mono hD.size).ct' hct).appW (hG'.apart H.hSB H.hC) hi (u := MemOp.ofEvents (e + 1 + i) g.frame.fn g.frame.place es)
    (okA_of (fun ev he => okE_evK (fun b hb => hG'.kb i hi b (by rw [upd_same]; exact hb)) (hD.evs ev he)) _ _ _)
    (fun op hop => by
      obtain ⟨ev, he, rfl⟩ := Go.Conc.mem_ofEvents hop
      refine ⟨rfl, fun x hx => ?_⟩
      obtain ⟨_, b, hb, hk, hw⟩ := evK_touch (hD.evs ev he) hx
      by_cases hlo : b < (E i).low
      · refine .inr (.inr ⟨⟨i, hi, rfl, b, hb, by rw [upd_same]; exact hk, by rw [upd_same]; exact hlo⟩, ?_⟩)
        cases hxw : x.write with
        | false => rfl
        | true => exact absurd hlo (hw hxw)
      · exact .inr (.inl ⟨i, hi, rfl, .inr ⟨b, hb, by rw [upd_same]; exact hk, by rw [upd_same]; show (E i).low ≤ b; omega⟩⟩))
    (fun op hop x hx hk => by
      obtain ⟨ev, he, rfl⟩ := Go.Conc.mem_ofEvents hop
      rw [(evK_touch (hD.evs ev he) hx).1] at hk; cases hk)
  refine workerStep H.hR H.hAr ha hcs hcom ⟨_, _, hwg⟩ hi hg hgo ⟨fun ⟨st, sm, hl⟩ => ⟨st, sm, hl.of_block (hD.far Wg hWl (.inr hKW))⟩, fun b hb => hfar b (G.k0 b hb) fun hk => ?_, hD.size, hD.env⟩
    (fun i' hi' hne => ⟨⟨fun b hb => hfar b (G.kb i' hi' b hb) fun hk => ?_, hD.size, hD.env⟩, rw_of_did hD hKW hKC hWl G.cl i'⟩)
    (x' := ⟨(E i).low, grow (E i).K w w', (E i).v, false⟩) (.co hco rfl) htr
    (by rw [hde]; exact deafBehind_idle (fun ev he => evK_still (hD.evs ev he)) 0) (fun h => by omega) (fun h => by omega) (fun h => by cases h)
    ⟨cs, (hD.far C G.cl (.inr hKC)).trans hc1, hc2⟩ hG' (hwg.of_block (hD.far Wg hWl (.inr hKW)))
    (fun _ ht _ => Mode.retag (by have := hmode.same (i := i) (m + 201) 0; rwa [hst] at this) ht) (.inr ⟨hst.symm, hfu⟩)
  · exact Nat.lt_of_not_le fun hlo => G.sep0 i hi b hk hlo hb
  · exact Nat.lt_of_not_le fun hlo => G.sep i hi i' hi' (Ne.symm hne) b hk hlo hb
omit [Payload] in
theorem ct_congr {Own Rd Own' Rd' : Nat → Go.Loc → Prop} (h : CT Shun Own Rd t j) (ho : ∀ k l, Own' k l ↔ Own k l) (hr : ∀ k l, Rd' k l ↔ Rd k l) : CT Shun Own' Rd' t j :=
  ct_grow h (fun k _ _ l hl => .inl ((ho k l).1 hl)) (fun k _ _ l hl => (ho k l).2 hl) (fun k _ _ l hl => .inl ((hr k l).1 hl)) fun k _ _ l hl => (hr k l).2 hl
omit [Payload] in
theorem own_set (E : Nat → WX) (i : Nat) (v : Value) (s : Bool) (k : Nat) (l : Go.Loc) : OwnF e C j (upd E i ⟨(E i).low, (E i).K, v, s⟩) k l ↔ OwnF e C j E k l := by
  have hlow : ∀ a, (upd E i ⟨(E i).low, (E i).K, v, s⟩ a).low = (E a).low := fun a => by by_cases e : a = i <;> simp [upd, e]
  have hK : ∀ a, (upd E i ⟨(E i).low, (E i).K, v, s⟩ a).K = (E a).K := fun a => by by_cases e : a = i <;> simp [upd, e]
  simp only [OwnF, hlow, hK]
omit [Payload] in
theorem rd_set (E : Nat → WX) (i : Nat) (v : Value) (s : Bool) (k : Nat) (l : Go.Loc) : RdF e j (upd E i ⟨(E i).low, (E i).K, v, s⟩) k l ↔ RdF e j E k l := by
  have hlow : ∀ a, (upd E i ⟨(E i).low, (E i).K, v, s⟩ a).low = (E a).low := fun a => by by_cases e : a = i <;> simp [upd, e]
  have hK : ∀ a, (upd E i ⟨(E i).low, (E i).K, v, s⟩ a).K = (E a).K := fun a => by by_cases e : a = i <;> simp [upd, e]
  simp only [RdF, hlow, hK]
omit [Payload] in
theorem upd_self {α : Type} (f : Nat → α) (i : Nat) : upd f i (f i) = f := funext fun a => by by_cases h : a = i <;> simp [upd, h]
omit [Payload] in
/-- The library's bookkeeping, whoever makes it. -/
theorem bk_ok (hWS : ∀ l, ShN Wg l → Shun l) {k : Nat} {Own Rd : Nat → Go.Loc → Prop} {es : Array Event} {fn : FuncId} {pos : String} (h : ∀ e ∈ es, Bk Wg e) :
    (∀ op ∈ MemOp.ofEvents k fn pos es, OkW Shun Own Rd k op) ∧ (∀ op ∈ MemOp.ofEvents k fn pos es, ∀ x, op.act.touch? = some x → x.kind = .atomic → Shun x.loc) := by
  have key : ∀ op ∈ MemOp.ofEvents k fn pos es, op.g = k ∧ ∀ x, op.act.touch? = some x → Shun x.loc ∧ x.kind ≠ .plain ∧ x.kind ≠ .said := fun op hop => by
    obtain ⟨e, he, rfl⟩ := Go.Conc.mem_ofEvents hop
    refine ⟨rfl, fun x hx => ?_⟩
    rcases h e he with h1 | h1 | ⟨a, wr, rfl, ha⟩
    · simp only [ofEvent_loc_mark h1] at hx; cases hx
    · simp only [ofEvent_loc_mark h1] at hx; cases hx
    · simp only [ofEvent_cell0, MemAct.touch?, Option.some.injEq] at hx
      subst hx
      exact ⟨hWS _ ⟨a, rfl, ha⟩, by simp, by simp⟩
  exact ⟨fun op hop => ⟨(key op hop).1, fun x hx => .inl ((key op hop).2 x hx)⟩, fun op hop x hx _ => ((key op hop).2 x hx).1⟩
end
end Sim
end Go.Proofs.Ytaealkfnhhmmcaa
/- n workers that make memory: each step of a worker's keeps the invariant. No condition. -/
namespace Go.Proofs.Ytaealkfnhhmmcaa
namespace Sim
open Go.Conc Go.ConcN
open Go.ConcR (KK wgBlock WgAt stA smA rd wr mk Payload DC0 Bk g_of_ofEvents loc_of_ofEvent ofEvent_loc_mark bk_of_mute)
set_option linter.unusedVariables false
variable [Payload]
section
variable {P : Program} {ty : TypeId} {Wg C n : Nat} {Res : Nat → Value → (Nat → Prop) → World → Prop} {Q Anch : (Nat → Prop) → Goroutine → World → Prop} {Shun : Go.Loc → Prop} {SB : Nat → Prop} {e : Nat}
  {gs : Array Goroutine} {w w' : World} {sl : Option (Nat × Nat)} {j : Nat} {D : Nat → WD} {E : Nat → WX} {q : Nat → Nat} {tag : CTag} {f0 d0 Lf : Nat} {K0 : Nat → Prop} {a : Goroutine} {t : Trace} {st sm : Int}
set_option maxHeartbeats 1600000 in
theorem stepWorker (H : Hyp P ty Wg C n Res Q Anch Shun SB)
    (ha : gs[0]? = some a) (hcs : CX P ty Wg C n Res Q Anch tag j f0 d0 Lf K0 a w) (hcom : Com P ty Wg C n Res Shun SB e j gs w t D E q K0 Lf d0) (hwg : WgAt ty Wg w st sm) (hmode : Go.ConcN.Mode j D tag st sm)
    {i : Nat} (hi : i < j) {g : Goroutine} (hg : gs[e + 1 + i]? = some g) (hrun : g.status = .running) :
    ∃ m₁ ops μ', runT P (crowd gs w sl) (e + 1 + i) = (.next m₁, ops) ∧ Lt2 μ' (Mu n e j D q tag f0) ∧ Inv P ty Wg C n Res Q Anch Shun SB e μ' m₁ (t ++ ops) := by
  obtain ⟨g₁, hg₁, hs⟩ := hcom.wk i hi
  obtain rfl : g = g₁ := by rw [hg] at hg₁; exact Option.some.inj hg₁
  generalize hst : (D i).stage = s at hs
  generalize hfu : (D i).fuel = m at hs
  generalize hde : (D i).deaf = dd at hs
  have hb := hcs.bound
  have hVj := Vc_le j D
  have hdk : Deaf t (e + 1 + i) = dd := by rw [hcom.deafW i hi, hde]
  have G := hcom.geo
  have hA := G.apart (e := e) H.hSB H.hC
  have hWl : Wg < w.heap.size := G.sb _ H.hW
  have hKW : ∀ i, i < j → ¬ (E i).K Wg := fun i hi h => G.sh i hi _ h H.hW
  have hK0W : ¬ K0 Wg := fun h => G.sh0 _ h H.hW
  obtain ⟨cs, hcs1, hcs2⟩ := hcom.pay
  have hx : (⟨(E i).low, (E i).K, (E i).v, (E i).stored⟩ : WX) = E i := rfl
  have hup : ∀ {M : Nat → WX}, M = E → CT Shun (OwnF e C j M) (RdF e j M) t (e + j) := fun h => h ▸ hcom.tr.ct
  -- a step of the library's bookkeeping: at most the group's block turns
  have bookG : (E i).stored = true → ∀ {g' : Goroutine} {w' : World} {es : Array Event} {s' m' dd' : Nat} {st' sm' : Int}, stepG P false g w = .go g' w' es → Aside Wg w w' → WgAt ty Wg w' st' sm' → (∀ e ∈ es, Bk Wg e) →
      (∀ jx e, es[jx]? = some e → (MemAct.ofEvent e).touch? = none ∨ 0 < deafBehind dd (es.extract 0 jx)) → WSit P ty Wg C n NoLoc NoLoc 0 (i + 1) (E i).v s' m' dd' g' w' → deafBehind dd es = dd' → s ≤ 6 →
      (∀ tag', (tag' = tag ∨ (tag = .blk ∧ tag' = .w3)) → (mayWake P g = true → g'.status = .running → tag' ≠ .blk) → Go.ConcN.Mode j (upd D i ⟨s', m', dd'⟩) tag' st' sm') → ((s' < s ∧ cnt ⟨s', m', dd'⟩ ≤ cnt (D i)) ∨ (s' = s ∧ m' < m)) →
      ∃ m₁ ops μ', runT P (crowd gs w sl) (e + 1 + i) = (.next m₁, ops) ∧ Lt2 μ' (Mu n e j D q tag f0) ∧ Inv P ty Wg C n Res Q Anch Shun SB e μ' m₁ (t ++ ops) := by
    intro hsto g' w' es s' m' dd' st' sm' hgo hAs hwg' hbk hd hs' hdd h6 hmode' hlt
    have hsz : w.heap.size ≤ w'.heap.size := by rw [hAs.size]; exact Nat.le_refl _
    have htr : TR Shun e j (OwnF e C j (upd E i (E i))) (RdF e j (upd E i (E i))) w'.heap.size (t ++ MemOp.ofEvents (e + 1 + i) g.frame.fn g.frame.place es) := by
      rw [upd_self]
      exact (hcom.tr.mono hsz).appW hA hi (okA_of (fun ev he => okE_bk (by rw [hAs.size]; exact hWl) (hbk ev he)) _ _ _) (bk_ok H.hWS hbk).1 (bk_ok (Own := NoLoc) (Rd := NoLoc) H.hWS hbk).2
    exact workerStep H.hR H.hAr ha hcs hcom ⟨_, _, hwg⟩ hi hg hgo ⟨fun _ => ⟨_, _, hwg'⟩, kn_aside hAs hK0W⟩ (fun i' hi' _ => ⟨kn_aside hAs (hKW i' hi'), RW.of_wg hAs ⟨_, _, hwg'⟩ H.hCW⟩) (x' := E i) (.st hs' (by omega) hsto) htr (by rw [hde]; exact hdd)
      (fun _ => let ⟨r, hr⟩ := hcom.rel i hi (by omega); ⟨r, hr.book hdk _ _ hbk hd⟩) (fun _ => (cell_of_block (hAs.block C H.hCW) i).trans (hcom.has i hi (by omega))) (fun h => H.hR _ _ _ _ _ (kn_aside hAs (hKW i hi)) (hcom.res i hi h))
      ⟨cs, (hAs.block C H.hCW).trans hcs1, hcs2⟩ (by rw [upd_self]; exact G.same hAs.size) hwg' hmode' (by rw [hst, hfu]; exact hlt)
  have book : (E i).stored = true → ∀ {g' : Goroutine} {w' : World} {es : Array Event} {s' m' dd' : Nat} {st' sm' : Int}, stepG P false g w = .go g' w' es → Aside Wg w w' → WgAt ty Wg w' st' sm' → (∀ e ∈ es, Bk Wg e) →
      (∀ jx e, es[jx]? = some e → (MemAct.ofEvent e).touch? = none ∨ 0 < deafBehind dd (es.extract 0 jx)) → WSit P ty Wg C n NoLoc NoLoc 0 (i + 1) (E i).v s' m' dd' g' w' → deafBehind dd es = dd' → s ≤ 6 →
      Go.ConcN.Mode j (upd D i ⟨s', m', dd'⟩) tag st' sm' → ((s' < s ∧ cnt ⟨s', m', dd'⟩ ≤ cnt (D i)) ∨ (s' = s ∧ m' < m)) →
      ∃ m₁ ops μ', runT P (crowd gs w sl) (e + 1 + i) = (.next m₁, ops) ∧ Lt2 μ' (Mu n e j D q tag f0) ∧ Inv P ty Wg C n Res Q Anch Shun SB e μ' m₁ (t ++ ops) :=
    fun hsto {_ _ _ _ _ _ _ _} hgo hAs hwg' hbk hd hs' hdd h6 hmode' hlt => bookG hsto hgo hAs hwg' hbk hd hs' hdd h6 (fun _ ht _ => hmode'.retag ht) hlt
  have idle : (E i).stored = true → ∀ {g' : Goroutine} {m' : Nat}, stepG P false g w = .go g' w #[] → WSit P ty Wg C n NoLoc NoLoc 0 (i + 1) (E i).v s m' dd g' w → m' < m → s ≤ 6 →
      ∃ m₁ ops μ', runT P (crowd gs w sl) (e + 1 + i) = (.next m₁, ops) ∧ Lt2 μ' (Mu n e j D q tag f0) ∧ Inv P ty Wg C n Res Q Anch Shun SB e μ' m₁ (t ++ ops) := by
    intro hsto g' m' hgo hs' hm h6
    exact book hsto hgo (.refl Wg w) hwg (by simp) (by simp) hs' rfl h6 (by have := hmode.same (i := i) m' dd; rwa [hst] at this) (.inr ⟨rfl, hm⟩)
  cases hs with
  | co h hso =>
    rename_i m0
    rcases h.cases with hstop | ⟨m', rfl, g', w', es, hgo, hD, hco⟩
    · obtain ⟨_, hx⟩ := hstop
      obtain ⟨v, g', hgo, hres, hgoes⟩ := hx hcom.pay ⟨_, _, hwg⟩
      have hac := asideCell_set C n i w v
      have hkn : ∀ K : Nat → Prop, ¬ K C → Kn K w (w.setCell ⟨C, i, none⟩ v) := fun K hK => kn_cell hac hK
      have hcti : CT Shun (OwnF e C j (upd E i ⟨(E i).low, (E i).K, v, true⟩)) (RdF e j (upd E i ⟨(E i).low, (E i).K, v, true⟩)) t (e + j) := ct_congr hcom.tr.ct (fun k l => own_set E i v true k l) (fun k l => rd_set E i v true k l)
      have hsz : (w.setCell ⟨C, i, none⟩ v).heap.size = w.heap.size := hac.size
      have hG' := (G.setV i v true).same hsz
      have htr := ((hcom.tr.mono (Nat.le_of_eq hsz.symm)).ct' hcti).appW (hG'.apart H.hSB H.hC) hi (u := MemOp.ofEvents (e + 1 + i) g.frame.fn g.frame.place #[⟨.cell ⟨C, i, none⟩, true, false⟩])
        (okA_of (fun ev he => by simp at he; subst he; exact okE_cell _ _ _ (by rw [hsz]; exact G.cl)) _ _ _)
        (fun op hop => by
          obtain ⟨ev, he, rfl⟩ := Go.Conc.mem_ofEvents hop
          simp at he; subst he
          refine ⟨rfl, fun x hx => ?_⟩
          simp only [ofEvent_cell0, MemAct.touch?, Option.some.injEq] at hx
          subst hx
          exact .inr (.inl ⟨i, hi, rfl, .inl rfl⟩))
        (fun op hop x hx hk => by
          obtain ⟨ev, he, rfl⟩ := Go.Conc.mem_ofEvents hop
          simp at he; subst he
          simp only [ofEvent_cell0, MemAct.touch?, Option.some.injEq] at hx
          subst hx
          cases hk)
      exact workerStep H.hR H.hAr ha hcs hcom ⟨_, _, hwg⟩ hi hg hgo ⟨fun ⟨st, sm, hl⟩ => ⟨st, sm, hl.of_block (hac.block Wg (Ne.symm H.hCW))⟩, hkn _ G.c0⟩ (fun i' hi' hne => ⟨hkn _ (G.c i' hi'), RW.of_cell hac hne H.hCW⟩)
        (x' := ⟨(E i).low, (E i).K, v, true⟩) (.r0 hgoes rfl) htr (by rw [hde]; rfl) (fun h => by omega) (fun h => by omega) (fun _ => H.hR _ _ _ _ _ (hkn _ (G.c i hi)) hres) (hac.pay hcom.pay) hG' (hwg.of_block (hac.block Wg (Ne.symm H.hCW)))
        (fun _ ht _ => Mode.retag (by have := hmode.same (i := i) 200 0; rwa [hst] at this) ht) (.inr ⟨hst.symm, by omega⟩)
    · exact coStep H ha hcs hcom hwg hmode hi hg hst (by omega) hde hso hgo hD hco
  | r0 h hsto =>
    rcases Goes.cases h with hstop | ⟨m', rfl, hstep⟩
    · obtain ⟨_, hhas, g', hgo, m₂, hk⟩ := hstop w (RW.refl w)
      have htr : TR Shun e j (OwnF e C j (upd E i (E i))) (RdF e j (upd E i (E i))) w.heap.size (t ++ MemOp.ofEvents (e + 1 + i) g.frame.fn g.frame.place #[mk (.releaseMerge (stA Wg))]) := by
        rw [upd_self]
        refine hcom.tr.appW hA hi (okA_of (fun ev he => by simp at he; subst he; exact ⟨fun a h => (by cases h), fun x hx => (by simp [mk, MemAct.ofEvent, MemAct.touch?] at hx), hWl⟩) _ _ _) (fun op hop => ?_) (fun op hop x hx hk => ?_)
        · obtain ⟨ev, he, rfl⟩ := Go.Conc.mem_ofEvents hop
          simp at he; subst he
          exact ⟨rfl, fun x hx => by simp [mk, MemAct.ofEvent, MemAct.touch?] at hx⟩
        · obtain ⟨ev, he, rfl⟩ := Go.Conc.mem_ofEvents hop
          simp at he; subst he
          simp [mk, MemAct.ofEvent, MemAct.touch?] at hx
      exact workerStep H.hR H.hAr ha hcs hcom ⟨_, _, hwg⟩ hi hg hgo (rs_refl w) (fun _ _ _ => ⟨.refl _ w, RW.refl w⟩) (x' := E i) (.st (.k1 hk) (by omega) hsto) htr (by rw [hde]; rfl)
        (fun _ => ⟨t.size, RelBy.new hdk _ _⟩) (fun _ => by simpa using hhas) (hcom.res i hi) hcom.pay (by rw [upd_self]; exact G) hwg (fun _ ht _ => (hmode.counted hi (by omega) (.inl rfl) _ _).retag ht) (.inl ⟨by omega, by simp [cnt, hst]⟩)
    · obtain ⟨g', w', es, hgo, ⟨e1, e2⟩, hg'⟩ := hstep w (RW.refl w)
      rw [e1, e2] at hgo
      rw [e1] at hg'
      have htr : TR Shun e j (OwnF e C j (upd E i (E i))) (RdF e j (upd E i (E i))) w.heap.size (t ++ MemOp.ofEvents (e + 1 + i) g.frame.fn g.frame.place #[]) := by
        rw [upd_self]
        exact hcom.tr.appW hA hi (okA_of (fun ev he => by simp at he) _ _ _) (bk_ok H.hWS (fun ev he => by simp at he)).1 (bk_ok (Own := NoLoc) (Rd := NoLoc) H.hWS (fun ev he => by simp at he)).2
      exact workerStep H.hR H.hAr ha hcs hcom ⟨_, _, hwg⟩ hi hg hgo (rs_refl w) (fun _ _ _ => ⟨.refl _ w, RW.refl w⟩) (x' := E i) (.r0 hg' hsto) htr (by rw [hde]; rfl)
        (fun h => by omega) (fun h => by omega) (hcom.res i hi) hcom.pay (by rw [upd_self]; exact G) hwg (fun _ ht _ => Mode.retag (by have := hmode.same (i := i) m' 0; rwa [hst] at this) ht) (.inr ⟨hst.symm, by omega⟩)
  | st hs hs6 hsto =>
  cases hs with
  | r0 h => omega
  | k1 h =>
    rcases Goes.cases h with hstop | ⟨m', rfl, hstep⟩
    · obtain ⟨_, g', hgo, m₂, hk⟩ := hstop w (RW.refl w)
      exact book hsto hgo (.refl Wg w) hwg (by intro e he; simp at he; subst he; exact .inl rfl) (by intro jx e he; exact .inl (by have := Array.mem_of_getElem? he; simp at this; subst this; rfl)) (.d1 hk) rfl (by omega)
        (hmode.counted hi (by omega) (.inr rfl) _ _) (.inl ⟨by omega, by simp [cnt, hst]⟩)
    · obtain ⟨g', w', es, hgo, ⟨rfl, rfl⟩, hg'⟩ := hstep w (RW.refl w)
      exact idle hsto hgo (.k1 hg') (by omega) (by omega)
  | d1 h =>
    rcases Goes.cases h with hstop | ⟨m', rfl, hstep⟩
    · obtain ⟨_, hall⟩ := hstop w (RW.refl w)
      have hc1 : cnt (D i) = 1 := by simp [cnt, hst]
      have hV1 : 1 ≤ Vc j D := by have := le_sumTo (f := fun x => cnt (D x)) hi; simp only [Vc]; omega
      have bk2 : ∀ e ∈ #[rd (stA Wg), wr (stA Wg)], Bk Wg e := by intro e he; simp at he; rcases he with rfl | rfl <;> exact bk_cell _ _ rfl
      have df2 : ∀ jx e, (#[rd (stA Wg), wr (stA Wg)] : Array Event)[jx]? = some e → (MemAct.ofEvent e).touch? = none ∨ 0 < deafBehind 1 ((#[rd (stA Wg), wr (stA Wg)] : Array Event).extract 0 jx) := by
        intro jx e he
        match jx, he with
        | 0, _ => exact .inr (by simp [deafBehind])
        | 1, _ => exact .inr (by simp [deafBehind, rd])
        | jx + 2, he => simp at he
      have hq0 : ∀ q, cnt (⟨1, q, 1⟩ : WD) = 0 := fun _ => rfl
      have opq : ∀ q, OpenSt j D → OpenSt j (upd D i ⟨1, q, 1⟩) := fun q h a ha => by
        by_cases e : a = i
        · subst e; rw [upd_same]; simp
        · rw [upd_ne D _ e]; exact h a ha
      cases hmode with
      | opn h1 h2 h3 =>
        obtain ⟨v, hv⟩ : ∃ v, Vc j D + pend tag = v + 1 := ⟨Vc j D + pend tag - 1, by omega⟩
        have hn := H.hn
        rw [hv] at hwg
        have hw1 : WgAt ty Wg w (((v : Nat) + 1) * KK + ((0 : Nat) : Int)) 0 := by simpa using hwg
        obtain ⟨g', hgo, _, hq⟩ := hall v 0 (by omega) (by omega) hw1
        obtain ⟨q, hq⟩ := hq (by omega)
        have hv' : Vc j (upd D i ⟨1, q, 1⟩) + pend tag = v := by have := Vc_upd D (⟨1, q, 1⟩ : WD) hi; have := hq0 q; omega
        refine book hsto hgo (aside_setCell w (stA Wg) _) (hwg.setSt _) bk2 df2 (.quit hq) rfl (by omega) ?_ (.inl ⟨by omega, by simp [cnt]⟩)
        have e : ((v : Nat) : Int) * KK + ((0 : Nat) : Int) = ((Vc j (upd D i ⟨1, q, 1⟩) + pend tag : Nat) : Int) * KK := by rw [hv']; simp
        rw [e]
        exact .opn h1 (opq q h2) (fun vs ev => by have := h3 vs ev; omega)
      | reg h1 h2 h3 =>
        obtain ⟨v, hv⟩ : ∃ v, Vc j D = v + 1 := ⟨Vc j D - 1, by omega⟩
        have hn := H.hn
        rw [hv] at hwg
        have hp : pend tag = 0 := by cases tag <;> first | rfl | exact h1.elim
        have hw1 : WgAt ty Wg w (((v : Nat) + 1) * KK + ((1 : Nat) : Int)) 0 := by simpa using hwg
        obtain ⟨g', hgo, hl, hq⟩ := hall v 1 (by omega) (by omega) hw1
        by_cases hv0 : v = 0
        · subst hv0
          obtain ⟨m₂, hk⟩ := hl ⟨rfl, rfl⟩
          refine book hsto hgo (aside_setCell w (stA Wg) _) (hwg.setSt _) bk2 df2 (.d2 hk) rfl (by omega) ?_ (.inl ⟨by omega, by simp [cnt]⟩)
          have hoth : ∀ a, a < j → a ≠ i → (D a).stage = 1 := fun a ha e => by
            have c0 := others_uncounted hi hv hc1 a ha e
            have := h2 a ha
            simp only [cnt] at c0
            split at c0 <;> omega
          have := Mode.last (j := j) (D := upd D i ⟨4, m₂, 1⟩) (tag := tag) i h1 hi (by rw [upd_same]; simp) (fun a ha e => by rw [upd_ne D _ e]; exact hoth a ha e)
          rw [upd_same] at this
          simpa using this
        · obtain ⟨q, hq⟩ := hq (by omega)
          have hv' : Vc j (upd D i ⟨1, q, 1⟩) = v := by have := Vc_upd D (⟨1, q, 1⟩ : WD) hi; have := hq0 q; omega
          refine book hsto hgo (aside_setCell w (stA Wg) _) (hwg.setSt _) bk2 df2 (.quit hq) rfl (by omega) ?_ (.inl ⟨by omega, by simp [cnt]⟩)
          have e : ((v : Nat) : Int) * KK + ((1 : Nat) : Int) = ((Vc j (upd D i ⟨1, q, 1⟩) : Nat) : Int) * KK + 1 := by rw [hv']; simp
          rw [e]
          exact .reg h1 (opq q h2) (by omega)
      | last L _ h2 h3 h4 =>
        by_cases e : i = L
        · subst e; omega
        · have := h4 i hi e; omega
      | sema h2 => have := h2 i hi; omega
      | fin _ h2 => have := h2 i hi; omega
    · obtain ⟨g', w', es, hgo, ⟨rfl, rfl⟩, hg'⟩ := hstep w (RW.refl w)
      exact idle hsto hgo (.d1 hg') (by omega) (by omega)
  | d2 h =>
    rcases Goes.cases h with hstop | ⟨m', rfl, hstep⟩
    · obtain ⟨_, hx⟩ := hstop w (RW.refl w)
      obtain ⟨hW3, hoth, rfl, rfl⟩ := hmode.isLast hi (by omega)
      simp only [hst] at hwg
      obtain ⟨g', hgo, m₂, hk⟩ := hx (by simpa using hwg)
      refine book hsto hgo (.refl Wg w) hwg (by intro e he; simp at he; subst he; exact bk_cell _ _ rfl) (by intro jx e he; match jx, he with | 0, _ => exact .inr (by simp [deafBehind]) | jx + 1, he => simp at he) (.d3 hk) rfl (by omega) ?_ (.inl ⟨by omega, by simp [cnt]⟩)
      have := Mode.last (j := j) (D := upd D i ⟨3, m₂, 1⟩) (tag := tag) i hW3 hi (by rw [upd_same]; simp) (fun a ha e => by rw [upd_ne D _ e]; exact hoth a ha e)
      rw [upd_same] at this
      simpa using this
    · obtain ⟨g', w', es, hgo, ⟨rfl, rfl⟩, hg'⟩ := hstep w (RW.refl w)
      exact idle hsto hgo (.d2 hg') (by omega) (by omega)
  | d3 h =>
    rcases Goes.cases h with hstop | ⟨m', rfl, hstep⟩
    · obtain ⟨_, hx⟩ := hstop w (RW.refl w)
      obtain ⟨hW3, hoth, rfl, rfl⟩ := hmode.isLast hi (by omega)
      simp only [hst] at hwg
      obtain ⟨g', hgo, m₂, hk⟩ := hx (by simpa using hwg)
      refine book hsto hgo (aside_setCell w (stA Wg) _) (hwg.setSt 0) (by intro e he; simp at he; subst he; exact bk_cell _ _ rfl) (by intro jx e he; match jx, he with | 0, _ => exact .inr (by simp [deafBehind]) | jx + 1, he => simp at he) (.d4 hk) rfl (by omega) ?_ (.inl ⟨by omega, by simp [cnt]⟩)
      have := Mode.last (j := j) (D := upd D i ⟨2, m₂, 1⟩) (tag := tag) i hW3 hi (by rw [upd_same]; simp) (fun a ha e => by rw [upd_ne D _ e]; exact hoth a ha e)
      rw [upd_same] at this
      simpa using this
    · obtain ⟨g', w', es, hgo, ⟨rfl, rfl⟩, hg'⟩ := hstep w (RW.refl w)
      exact idle hsto hgo (.d3 hg') (by omega) (by omega)
  | d4 h =>
    rcases Goes.cases h with hstop | ⟨m', rfl, hstep⟩
    · obtain ⟨_, hmw, hx⟩ := hstop w (RW.refl w)
      obtain ⟨hW3, hoth, rfl, rfl⟩ := hmode.isLast hi (by omega)
      simp only [hst] at hwg
      obtain ⟨g', hgo, q, hq⟩ := hx (by simpa using hwg)
      have hrun' : g'.status = .running := by
        cases q with
        | zero => exact absurd hq.2 (by decide)
        | succ q => exact hq.elim (fun x => absurd x.2 (by decide)) (fun x => x.1)
      refine bookG hsto hgo (aside_setCell w (smA Wg) _) (hwg.setSm 1) (es := semEvents (smA Wg)) ?_ ?_ (.quit hq) (by simp [deafBehind, semEvents]) (by omega) ?_ (.inl ⟨by omega, by simp [cnt]⟩)
      · intro e he
        simp [semEvents] at he
        rcases he with rfl | rfl | rfl | rfl
        · exact .inl rfl
        · exact bk_cell _ _ rfl
        · exact bk_cell _ _ rfl
        · exact .inr (.inl rfl)
      · intro jx e he
        match jx, he with
        | 0, he => simp [semEvents] at he; subst he; exact .inl rfl
        | 1, _ => exact .inr (by simp [deafBehind, semEvents])
        | 2, _ => exact .inr (by simp [deafBehind, semEvents])
        | 3, he => simp [semEvents] at he; subst he; exact .inl rfl
        | jx + 4, he => simp [semEvents] at he
      · intro tag' ht hw
        have hnb := hw hmw hrun'
        have e3 : tag' = .w3 := by
          rcases ht with rfl | ⟨_, rfl⟩
          · cases tag' <;> first | rfl | exact hW3.elim | exact absurd rfl hnb
          · rfl
        subst e3
        simp only [if_true]
        exact .sema fun a ha => by
          by_cases e : a = i
          · subst e; rw [upd_same]
          · rw [upd_ne D _ e]; exact hoth a ha e
    · obtain ⟨g', w', es, hgo, ⟨rfl, rfl⟩, hg'⟩ := hstep w (RW.refl w)
      exact idle hsto hgo (.d4 hg') (by omega) (by omega)
  | quit h =>
    cases m with
    | zero => rw [h.1] at hrun; cases hrun
    | succ q =>
      rcases h with ⟨hf, _⟩ | ⟨_, g', es, hmute, hstep, hq⟩
      · rw [hf] at hrun; cases hrun
      · have hbk : ∀ e ∈ es, Bk Wg e := fun e he => bk_of_mute (hmute e he)
        have hno : ∀ jx e, es[jx]? = some e → (MemAct.ofEvent e).touch? = none ∨ 0 < deafBehind dd (es.extract 0 jx) := fun jx e he => .inl (touch_mute (hmute e (Array.mem_of_getElem? he)))
        exact book hsto (hstep w) (.refl Wg w) hwg hbk hno (.quit hq) rfl (by omega) (by have := hmode.same (i := i) q (deafBehind dd es); rwa [hst] at this) (.inr ⟨rfl, by omega⟩)
end
end Sim
end Go.Proofs.Ytaealkfnhhmmcaa
