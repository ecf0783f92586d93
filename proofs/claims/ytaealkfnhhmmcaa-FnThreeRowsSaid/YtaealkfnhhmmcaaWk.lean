/- A worker of CornersOf, in company, up to its store. No condition. -/
import Derived.Test.YtaealkfnhhmmcaaSg5
import Derived.Test.YtaealkfnhhmmcaaOk
import Derived.Test.YtaealkfnhhmmcaaWg
import Derived.RowKit
import Derived.Conc.CompanyMem
namespace Go.Proofs.Ytaealkfnhhmmcaa
open Sim Go.Conc Go.ConcN Go.RowKit Go.Conc.Lib Go.ConcR.Gen Go.ConcN.Gen
open Go.ConcR (KK wgBlock WgAt stA smA rd wr mk Payload DC0)
set_option linter.unusedVariables false
def b22 : Frame := baseD 31
noncomputable def bot : Frame := { (default : Frame) with fn := Try.prog.funcs.size, defers := [], mode := .panicking [goexitEntry] }
noncomputable def body22 : Code := Try.f31.body.getD .skip
noncomputable def ops22 : Array Oper := match body22 with | .seq _ (.region _ ops _) => ops | _ => #[]
/-- The call that a go statement holds. -/
def call22 (Wg Br Bi F : Nat) : Deferred := { target := .fn (.func 31) #[.pointer (some ⟨Wg, 0, none⟩), .pointer (some ⟨Br, 0, none⟩), .pointer (some ⟨Bi, 0, none⟩), .pointer (some ⟨F, 0, none⟩)], args := #[] }
theorem born22 (Wg Br Bi F : Nat) (w : World) : stepG Try.prog false (born Try.prog (call22 Wg Br Bi F)) w =
    .go (G (b22.at ⟨#[.pointer (some ⟨Wg, 0, none⟩), .pointer (some ⟨Br, 0, none⟩), .pointer (some ⟨Bi, 0, none⟩), .pointer (some ⟨F, 0, none⟩), undef, undef, undef, undef, undef, undef], []⟩ [.code body22]) [bot]) w #[] := by
  simp [born, call22, stepG, unwind, callDeferred, invoke, callFunc, Try.func31, Try.f31, seen, GStep.after, G, Frame.enter, Frame.at, b22, baseD, bot, body22]
theorem quits22 (T : Array Value) : QuitsD Try.prog 2 0 (G { b22.at ⟨T, []⟩ [] with mode := .returning } [bot]) := by
  refine QuitsD.ctl (g' := G bot []) rfl (fun w => ?_) ?_
  · simp [G, stepG, unwind, doReturn, results, Frame.at, b22, baseD, bot, Try.func31, Try.f31, seen, GStep.after, goexitEntry]
  refine QuitsD.ctl (g' := { G bot [] with status := .finished }) rfl (fun w => ?_) ⟨rfl, rfl⟩
  simp [G, stepG, unwind, bot, goexitEntry, Frame.catches]
  rfl
theorem loud22 : (Try.prog.funcs[b22.fn]?).any (·.norace) = false := by kernel_rfl
/-- What each operation of the region that has come up has left. -/
structure Kw (K : Nat → Prop) (w w₁ : World) : Prop where
  keep : ∀ b, K b → w₁.heap[b]? = w.heap[b]?
  size : w.heap.size ≤ w₁.heap.size
theorem Kw.trans {K : Nat → Prop} {a b c : World} (h : Kw K a b) (k : Kn K b c) : Kw K a c := ⟨fun x hx => (k.keep x hx).trans (h.keep x hx), Nat.le_trans h.size k.size⟩
theorem wr_keepw {Lk : Nat → Prop} {G : Nat} {ρ : BR} {wv wc w₁ : World} {K : Nat → Prop} (h : WR G Lk ρ wv wc) (hK : ∀ b c, ρ b c → K c) (hr : Kw K wc w₁) : WR G Lk ρ wv w₁ :=
  ⟨h.fn, h.inj, fun b c hb => by rw [hr.keep c (hK b c hb)]; exact h.obj b c hb, fun c hc => Nat.lt_of_lt_of_le (h.lk c hc) hr.size, h.gl, h.gv, Nat.le_trans h.gc hr.size⟩
structure At22 (Wg C Br Bi F A j : Nat) (rv : Value) (Res : Nat → Value → (Nat → Prop) → World → Prop) (n : Nat) (w0 : World) (ds : List Deferred) (f : Nat) (listed : Array Bool) (a : Act) (K : Nat → Prop) (w : World) : Prop where
  ex : ∃ (l0 l1 l2 l3 l4 l5 : Bool) (x4 x5 x6 x7 x8 x9 : Value), listed = #[l0, l1, l2, l3, l4, l5, false] ∧ f + (l0.toNat + l1.toNat + l2.toNat + l3.toNat + l4.toNat + l5.toNat) = 7 ∧
    a = ⟨#[.pointer (some ⟨Wg, 0, none⟩), .pointer (some ⟨Br, 0, none⟩), .pointer (some ⟨Bi, 0, none⟩), .pointer (some ⟨F, 0, none⟩), x4, x5, x6, x7, x8, x9], ds⟩ ∧
    (l0 = true → x4 = .slice (some ⟨C, 0, none⟩) n n) ∧ (l1 = true → x5 = .int .i64 j) ∧ (l2 = true → x6 = rv) ∧ (l3 = true → x7 = .int .i64 j) ∧ (l4 = true → Res j x8 K w) ∧ (l5 = true → x9 = .pointer (some ⟨C, j, none⟩)) ∧ (l4 = true → l2 = true ∧ l3 = true) ∧ (l5 = true → l0 = true ∧ l1 = true)
  sub : ∀ b, (b = Br ∨ b = Bi ∨ b = F ∨ b = A) → K b
  kn : Kw (fun b => b = Br ∨ b = Bi ∨ b = F ∨ b = A) w0 w
theorem ready22 : ∀ l0 l1 l2 l3 l4 l5 : Bool, (Region.ready .any ops22 #[l0, l1, l2, l3, l4, l5, false]).isEmpty = false := by
  intro l0 l1 l2 l3 l4 l5
  cases l0 <;> cases l1 <;> cases l2 <;> cases l3 <;> cases l4 <;> cases l5 <;> kernel_rfl
section
variable {Wg C Br Bi F A j n f c : Nat} {rv : Value} {Res : Nat → Value → (Nat → Prop) → World → Prop} {w0 : World} {ds : List Deferred} {listed : Array Bool} {a : Act} {K : Nat → Prop} {w : World} {rest : List Nat} {Lk : Nat → Prop} {Stop : (Nat → Prop) → Goroutine → World → Prop}
theorem kn_cells {KW : Nat → Prop} {w0 w : World} (h : Kw KW w0 w) {b o : Nat} {v : Value} (hb : KW b) (hc : w0.cell? ⟨b, o, none⟩ = some v) : w.cell? ⟨b, o, none⟩ = some v := (cell_of_block (h.keep b hb) o).trans hc
theorem load22 (hI : At22 Wg C Br Bi F A j rv Res n w0 ds (f + 1) listed a K w) (cF : w0.cell? ⟨F, 0, none⟩ = some (.slice (some ⟨C, 0, none⟩) n n)) (cI : w0.cell? ⟨Bi, 0, none⟩ = some (.int .i64 j)) (cB : w0.cell? ⟨Br, 0, none⟩ = some rv) (hKn : ∀ i v K w w', Kn K w w' → Res i v K w → Res i v K w')
    (hc : 1 ≤ c) {i : Nat} (hi : i = 0 ∨ i = 1 ∨ i = 2 ∨ i = 3) (hl : listed.getD i true = false)
    (hcont : ∀ a' K' w', At22 Wg C Br Bi F A j rv Res n w0 ds f (listed.setIfInBounds i true) a' K' w' → Co Try.prog false Lk Stop (f * c) K' (G (b22.at a' (.inRegion ops22 rest :: [])) [bot]) w') : Co Try.prog false Lk Stop (f * c + c) K (G (b22.at a (.inRegion ops22 (i :: rest) :: [])) [bot]) w := by
  obtain ⟨l0, l1, l2, l3, l4, l5, x4, x5, x6, x7, x8, x9, rfl, hcnt, rfl, h0, h1, h2, h3, h4, h5, h6, h7⟩ := hI.ex
  have hF := hI.sub
  have hkn := hI.kn
  rcases hi with rfl | rfl | rfl | rfl
  · obtain rfl : l0 = false := by simpa using hl
    simp only [ops22, body22, Try.f31, Option.getD_some]
    refine (Co.value (v := .slice (some ⟨C, 0, none⟩) n n) rfl rfl (by decide) rfl (fun w₁ hr => ?_) ?_).more (show f * c + 1 ≤ _ by omega)
    · have hcc := kn_cells (hkn.trans (hr.sub fun b hb => hF b hb)) (by simp) cF
      exact ⟨run_eq_of fun K hK => by go_simp; exact hK, fun e he => by simp [go_sem, *] at he; subst he; exact .inl ⟨_, _, rfl, hF _ (by simp), by simp⟩⟩
    · exact hcont _ K w ⟨⟨true, l1, l2, l3, l4, l5, _, x5, x6, x7, x8, x9, rfl, by simp at hcnt ⊢; omega, rfl, fun _ => rfl, h1, h2, h3, h4, h5, h6, fun h => ⟨rfl, (h7 h).2⟩⟩, hF, hkn⟩
  · obtain rfl : l1 = false := by simpa using hl
    simp only [ops22, body22, Try.f31, Option.getD_some]
    refine (Co.value (v := .int .i64 j) rfl rfl (by decide) rfl (fun w₁ hr => ?_) ?_).more (show f * c + 1 ≤ _ by omega)
    · have hcc := kn_cells (hkn.trans (hr.sub fun b hb => hF b hb)) (by simp) cI
      exact ⟨run_eq_of fun K hK => by go_simp; exact hK, fun e he => by simp [go_sem, *] at he; subst he; exact .inl ⟨_, _, rfl, hF _ (by simp), by simp⟩⟩
    · exact hcont _ K w ⟨⟨l0, true, l2, l3, l4, l5, x4, _, x6, x7, x8, x9, rfl, by simp at hcnt ⊢; omega, rfl, h0, fun _ => rfl, h2, h3, h4, h5, h6, fun h => ⟨(h7 h).1, rfl⟩⟩, hF, hkn⟩
  · obtain rfl : l2 = false := by simpa using hl
    simp only [ops22, body22, Try.f31, Option.getD_some]
    refine (Co.value (v := rv) rfl rfl (by decide) rfl (fun w₁ hr => ?_) ?_).more (show f * c + 1 ≤ _ by omega)
    · have hcc := kn_cells (hkn.trans (hr.sub fun b hb => hF b hb)) (by simp) cB
      exact ⟨run_eq_of fun K hK => by go_simp; exact hK, fun e he => by simp [go_sem, *] at he; subst he; exact .inl ⟨_, _, rfl, hF _ (by simp), by simp⟩⟩
    · exact hcont _ K w ⟨⟨l0, l1, true, l3, l4, l5, x4, x5, _, x7, x8, x9, rfl, by simp at hcnt ⊢; omega, rfl, h0, h1, fun _ => rfl, h3, h4, h5, fun h => ⟨rfl, (h6 h).2⟩, h7⟩, hF, hkn⟩
  · obtain rfl : l3 = false := by simpa using hl
    simp only [ops22, body22, Try.f31, Option.getD_some]
    refine (Co.value (v := .int .i64 j) rfl rfl (by decide) rfl (fun w₁ hr => ?_) ?_).more (show f * c + 1 ≤ _ by omega)
    · have hcc := kn_cells (hkn.trans (hr.sub fun b hb => hF b hb)) (by simp) cI
      exact ⟨run_eq_of fun K hK => by go_simp; exact hK, fun e he => by simp [go_sem, *] at he; subst he; exact .inl ⟨_, _, rfl, hF _ (by simp), by simp⟩⟩
    · exact hcont _ K w ⟨⟨l0, l1, l2, true, l4, l5, x4, x5, x6, _, x8, x9, rfl, by simp at hcnt ⊢; omega, rfl, h0, h1, h2, fun _ => rfl, h4, h5, fun h => ⟨(h6 h).1, rfl⟩, h7⟩, hF, hkn⟩
theorem index22 (hI : At22 Wg C Br Bi F A j rv Res n w0 ds (f + 1) listed a K w) (hj : j < n) (hc : 1 ≤ c) (hl : listed.getD 5 true = false) (hd0 : listed.getD 0 false = true) (hd1 : listed.getD 1 false = true)
    (hcont : ∀ a' K' w', At22 Wg C Br Bi F A j rv Res n w0 ds f (listed.setIfInBounds 5 true) a' K' w' → Co Try.prog false Lk Stop (f * c) K' (G (b22.at a' (.inRegion ops22 rest :: [])) [bot]) w') : Co Try.prog false Lk Stop (f * c + c) K (G (b22.at a (.inRegion ops22 (5 :: rest) :: [])) [bot]) w := by
  obtain ⟨l0, l1, l2, l3, l4, l5, x4, x5, x6, x7, x8, x9, rfl, hcnt, rfl, h0, h1, h2, h3, h4, h5, h6, h7⟩ := hI.ex
  obtain rfl : l5 = false := by simpa using hl
  obtain rfl : l0 = true := by simpa using hd0
  obtain rfl : l1 = true := by simpa using hd1
  obtain rfl := h0 rfl
  obtain rfl := h1 rfl
  have hlt : (j : Int) < (n : Int) := by omega
  have hj0 : (0 : Int) ≤ (j : Int) := by omega
  simp only [ops22, body22, Try.f31, Option.getD_some]
  refine (Co.value (v := .pointer (some ⟨C, j, none⟩)) rfl rfl (by decide) rfl (fun w₁ hr => ?_) ?_).more (show f * c + 1 ≤ _ by omega)
  · exact ⟨run_eq_of fun K hK => by go_simp; exact hK, fun e he => by simp [go_sem, *] at he⟩
  · exact hcont _ K w ⟨⟨true, true, l2, l3, l4, true, _, _, x6, x7, x8, _, rfl, by simp at hcnt ⊢; omega, rfl, h0, h1, h2, h3, h4, fun _ => rfl, h6, fun _ => ⟨rfl, rfl⟩⟩, hI.sub, hI.kn⟩
set_option maxHeartbeats 2000000 in
theorem call22s {wv : World} {low nc : Nat} {Rh : Value → Array Obj → Prop} {ρ0 : BR} (hI : At22 Wg C Br Bi F A j rv Res n w0 ds (f + 1) listed a K w) (hwr : WR Try.prog.globals.size (fun b => b < low) ρ0 wv w0) (hρA : ∀ b c, ρ0 b c → c = A) (hargs : AR ρ0 #[rv, .int .i64 j] #[rv, .int .i64 j])
    (hn : LN Try.prog okF (GdR Try.prog Rh) nc (G (Frame.enter Try.prog 33 #[rv, .int .i64 j] .normal) [c0 Try.prog]) wv) (hlow : ∀ b, (b = Br ∨ b = Bi ∨ b = F ∨ b = A) → b < low)
    (hRes : ∀ K' ρ v v' wv' wc', Rh v wv'.heap → VR ρ v v' → WR Try.prog.globals.size (fun b => b < low) ρ wv' wc' → (∀ x y, ρ x y → K' y) → Res j v' K' wc')
    (hc : nc + 2 ≤ c) (hl : listed.getD 4 true = false) (hd2 : listed.getD 2 false = true) (hd3 : listed.getD 3 false = true)
    (hcont : ∀ a' K' w', At22 Wg C Br Bi F A j rv Res n w0 ds f (listed.setIfInBounds 4 true) a' K' w' → Co Try.prog false (fun b => b < low) Stop (f * c) K' (G (b22.at a' (.inRegion ops22 rest :: [])) [bot]) w') : Co Try.prog false (fun b => b < low) Stop (f * c + c) K (G (b22.at a (.inRegion ops22 (4 :: rest) :: [])) [bot]) w := by
  obtain ⟨l0, l1, l2, l3, l4, l5, x4, x5, x6, x7, x8, x9, rfl, hcnt, rfl, h0, h1, h2, h3, h4, h5, h6, h7⟩ := hI.ex
  obtain rfl : l4 = false := by simpa using hl
  obtain rfl : l2 = true := by simpa using hd2
  obtain rfl : l3 = true := by simpa using hd3
  obtain rfl := h2 rfl
  obtain rfl := h3 rfl
  have hw : WR Try.prog.globals.size (fun b => b < low) ρ0 wv w := wr_keepw hwr (K := fun b => b = Br ∨ b = Bi ∨ b = F ∨ b = A) (fun b c h => .inr (.inr (.inr (hρA b c h)))) hI.kn
  have key : Co Try.prog false (fun b => b < low) Stop (f * c + 1 + nc) K (G (Frame.enter Try.prog 33 #[x6, .int .i64 j] .normal) (b22.at ⟨#[.pointer (some ⟨Wg, 0, none⟩), .pointer (some ⟨Br, 0, none⟩), .pointer (some ⟨Bi, 0, none⟩), .pointer (some ⟨F, 0, none⟩), x4, x5, x6, .int .i64 j, x8, x9], ds⟩ (.inRegion ops22 (4 :: rest) :: []) :: [bot])) w := by
    refine co_call ok_set rfl hargs hw (fun b c h => hI.sub _ (.inr (.inr (.inr (hρA b c h))))) hn fun K' ρ v v' wv' wc' hR hv hw' hK1 hK2 hK3 hsz hkeep => ?_
    rw [show ∀ u, (b22.at ⟨#[.pointer (some ⟨Wg, 0, none⟩), .pointer (some ⟨Br, 0, none⟩), .pointer (some ⟨Bi, 0, none⟩), .pointer (some ⟨F, 0, none⟩), x4, x5, x6, .int .i64 j, x8, x9], ds⟩ (.inRegion ops22 (4 :: rest) :: [])).finish u = b22.at ⟨#[.pointer (some ⟨Wg, 0, none⟩), .pointer (some ⟨Br, 0, none⟩), .pointer (some ⟨Bi, 0, none⟩), .pointer (some ⟨F, 0, none⟩), x4, x5, x6, .int .i64 j, u, x9], ds⟩ (.inRegion ops22 rest :: []) from fun u => by rw [Frame.finish_at]; rfl]
    refine hcont _ K' wc' ⟨⟨l0, l1, true, true, true, l5, x4, x5, x6, _, v', x9, rfl, by simp at hcnt ⊢; omega, rfl, h0, h1, h2, h3, fun _ => hRes K' ρ v v' wv' wc' hR hv hw' hK2, h5, fun _ => ⟨rfl, rfl⟩, h7⟩, fun b hb => hK1 b (hI.sub b hb), ⟨fun b hb => (hkeep b (hlow b hb) (hI.sub b hb)).trans (hI.kn.keep b hb), Nat.le_trans hI.kn.size hsz⟩⟩
  simp only [ops22, body22, Try.f31, Option.getD_some] at key ⊢
  refine (co_enter rfl rfl (by decide) rfl Try.func33 (by kernel_rfl) rfl ?_ key).more (by omega)
  simp [Act.eval]
theorem events_store_sl (P : Program) (w : World) (es : Array Event) (a : Addr) (m : Go.Mode) (b : Option Addr) (l c : Nat) : (store a (.slice b l c) m).events P w es = storedEv P w es a (.slice b l c) m := events_store P w es a _ m rfl
theorem stepG_storeL {b : Frame} {a : Act} {k : List Item} {cs : List Frame} {w : World} {ops : Array Oper} {i : Nat} {rest : List Nat} {o : Oper} {x y : Operand} (ho : ops[i]? = some o) (hw : Region.wanted o (yielded ops a.tmps) = true) (hk : b.kind ≠ .early) (hop : o.op = .store 45 x y)
    {ad : Addr} {A : Option Addr} {l c : Nat} {u : Value} (hx : a.eval x = .pointer (some ad)) (hy : a.eval y = .slice A l c) (hc : w.cell? ad = some u) (hz : w.frozen? ad = false) (hq : (Try.prog.funcs[b.fn]?).any (·.norace) = false) :
    stepG Try.prog false (G (b.at a (.inRegion ops (i :: rest) :: k)) cs) w = .go (G (b.at (a.put o.dst undef) (.inRegion ops rest :: k)) cs) (w.setCell ad (.slice A l c)) #[⟨.cell ad, true, false⟩] := by
  have hr : (execOp a.eval o).run Try.prog w = .ok .skip (w.setCell ad (.slice A l c)) := by
    unfold execOp
    simp only [hop, hx, hy]
    simp [go_sem, stored, hc, hz]
  have he : (execOp a.eval o).events Try.prog w #[] = #[⟨.cell ad, true, false⟩] := by
    unfold execOp
    simp only [hop, hx, hy]
    simp [go_sem, events_store_sl, storedEv, hc, hz]
  rw [stepG_none ho hw hk hr]
  unfold listed
  rw [he, seen_eq hq (by simp)]
set_option maxRecDepth 100000 in
theorem store22 (hI : At22 Wg C Br Bi F A j rv Res n w0 [dcall 32 #[.pointer (some ⟨Wg, 0, none⟩)]] 1 listed a K w) (hj : j < n) (hCW : C ≠ Wg) (hRs : ∀ i v K w, Res i v K w → ∃ A l c, v = .slice A l c) (hKn : ∀ i v K w w', Kn K w w' → Res i v K w → Res i v K w') {m : Nat} :
    Co Try.prog false Lk (AtStore Try.prog link.tWg Wg C n Res j) m K (G (b22.at a (.inRegion ops22 (6 :: []) :: [])) [bot]) w := by
  obtain ⟨l0, l1, l2, l3, l4, l5, x4, x5, x6, x7, x8, x9, rfl, hcnt, rfl, h0, h1, h2, h3, h4, h5, h6, h7⟩ := hI.ex
  have hall : l4 = true ∧ l5 = true := by cases l0 <;> cases l1 <;> cases l2 <;> cases l3 <;> cases l4 <;> cases l5 <;> simp_all
  obtain ⟨rfl, rfl⟩ := hall
  have hres := h4 rfl
  obtain rfl := h5 rfl
  obtain ⟨A', l', c', rfl⟩ := hRs _ _ _ _ hres
  refine Co.stop fun w₁ hr => ⟨rfl, fun hp hl => ?_⟩
  obtain ⟨cs, hc1, hc2⟩ := hp
  have hcell : w₁.cell? ⟨C, j, none⟩ = some (cs[j]'(by omega)) := by simp [World.cell?, hc1, hc2, hj]
  have hfz : w₁.frozen? ⟨C, j, none⟩ = false := by simp [World.frozen?, hc1]
  have hlt := (Array.getElem?_eq_some_iff.1 hc1).1
  simp only [ops22, body22, Try.f31, Option.getD_some]
  refine ⟨_, _, stepG_storeL rfl rfl (by decide) rfl rfl rfl hcell hfz loud22, hKn _ _ _ _ _ hr hres, ?_⟩
  have hhas : Has C j (.slice A' l' c') (w₁.setCell ⟨C, j, none⟩ (.slice A' l' c')) := by
    simp [Has, World.cell?, World.setCell, Array.getElem?_modify, hc1, hc2, hj]
  have hK := And.intro (let ⟨st, sm, h⟩ := hl; (⟨st, sm, h.of_block ((aside_setCell w₁ ⟨C, j, none⟩ (.slice A' l' c')).block Wg (by simpa using hCW.symm))⟩ : WgLive link.tWg Wg (w₁.setCell ⟨C, j, none⟩ (.slice A' l' c')))) hhas
  clear hcell hfz hlt hhas hl hres hr h4
  refine Goes.mono (n := 26) ?_ (by omega)
  u_c stepG_region_end kn_rely hK
  u_c stepG_end kn_rely hK
  u_in kn_rely hK
  rw [stepG_unwind_enter rfl Try.func32 (nm_done link) rfl]
  simp only [goes_go]
  refine ⟨by u_nil, ?_⟩
  have hA := @doneX _ link Try.prog wgLib Wg C n j (.slice A' l' c')
  walk_nrmf Try.f32
  simp only [body_done, doneFn, Option.getD_some] at hA
  exact hA rfl (quits22 _) _ hK
end
theorem follows22 : Try.prog.follows .mixedOrders = true := by kernel_rfl
theorem size22 : ops22.size = 7 := by kernel_rfl
theorem after22 : (∀ o, ops22[4]? = some o → (∃ e ∈ o.after, e.on = 2 ∧ Region.binds .any e = true) ∧ ∃ e ∈ o.after, e.on = 3 ∧ Region.binds .any e = true) ∧ (∀ o, ops22[5]? = some o → (∃ e ∈ o.after, e.on = 0 ∧ Region.binds .any e = true) ∧ ∃ e ∈ o.after, e.on = 1 ∧ Region.binds .any e = true) ∧
    ∀ o, ops22[6]? = some o → (∃ e ∈ o.after, e.on = 5 ∧ Region.binds .any e = true) ∧ ∃ e ∈ o.after, e.on = 4 ∧ Region.binds .any e = true := by
  simp only [ops22, body22, Try.f31, Option.getD_some]
  refine ⟨fun o ho => ?_, fun o ho => ?_, fun o ho => ?_⟩ <;> simp only [List.getElem?_toArray, List.getElem?_cons_succ, List.getElem?_cons_zero, Option.some.injEq] at ho <;> subst ho
  · exact ⟨⟨⟨2, .data⟩, by simp, rfl, rfl⟩, ⟨⟨3, .data⟩, by simp, rfl, rfl⟩⟩
  · exact ⟨⟨⟨0, .data⟩, by simp, rfl, rfl⟩, ⟨⟨1, .data⟩, by simp, rfl, rfl⟩⟩
  · exact ⟨⟨⟨5, .data⟩, by simp, rfl, rfl⟩, ⟨⟨4, .data⟩, by simp, rfl, rfl⟩⟩
section
variable {Wg C Br Bi F A j n nc low : Nat} {rv : Value} {Res : Nat → Value → (Nat → Prop) → World → Prop} {w0 wv : World} {Rh : Value → Array Obj → Prop} {ρ0 : BR}
set_option maxRecDepth 100000 in
theorem worker22 (hj : j < n) (hCW : C ≠ Wg) (cF : w0.cell? ⟨F, 0, none⟩ = some (.slice (some ⟨C, 0, none⟩) n n)) (cI : w0.cell? ⟨Bi, 0, none⟩ = some (.int .i64 j)) (cB : w0.cell? ⟨Br, 0, none⟩ = some rv)
    (hRs : ∀ i v K w, Res i v K w → ∃ A l c, v = .slice A l c) (hKn : ∀ i v K w w', Kn K w w' → Res i v K w → Res i v K w')
    (hwr : WR Try.prog.globals.size (fun b => b < low) ρ0 wv w0) (hρA : ∀ b c, ρ0 b c → c = A) (hargs : AR ρ0 #[rv, .int .i64 j] #[rv, .int .i64 j])
    (hn : LN Try.prog okF (GdR Try.prog Rh) nc (G (Frame.enter Try.prog 33 #[rv, .int .i64 j] .normal) [c0 Try.prog]) wv) (hlow : ∀ b, (b = Br ∨ b = Bi ∨ b = F ∨ b = A) → b < low)
    (hRes : ∀ K' ρ v v' wv' wc', Rh v wv'.heap → VR ρ v v' → WR Try.prog.globals.size (fun b => b < low) ρ wv' wc' → (∀ x y, ρ x y → K' y) → Res j v' K' wc') :
    ∃ m, Co Try.prog false (fun b => b < low) (AtStore Try.prog link.tWg Wg C n Res j) m (fun b => b = Br ∨ b = Bi ∨ b = F ∨ b = A) (born Try.prog (call22 Wg Br Bi F)) w0 := by
  refine ⟨7 * (nc + 2) + 1 + 10 + 1, Co.ctl rfl (fun w₁ => born22 Wg Br Bi F w₁) (co_quiet (m := 7 * (nc + 2) + 1) (n := 10) ?_)⟩
  have hF := Kn.refl (fun b => b = Br ∨ b = Bi ∨ b = F ∨ b = A) w0
  simp only [body22, Try.f31, Option.getD_some]
  u_c stepG_seq Kn.trans hF
  u_reg Kn.trans hF
  u_defer Kn.trans hF
  u_c stepG_region_end Kn.trans hF
  refine Goes.stop fun w₁ h₁ => co_region_draw fun w₂ h₂ t => ?_
  have hk := (hF.trans h₁).trans h₂
  simp only [Region.schedule, follows22, Bool.true_or, if_true]
  refine co_lin (c := nc + 2) (b := b22) (k := []) (cs := [bot]) (ops := ops22) (md := .any) (At22 Wg C Br Bi F A j rv Res n w0 [dcall 32 #[.pointer (some ⟨Wg, 0, none⟩)]]) (fun listed a K w h => ?_) (fun f listed a K w h => ?_) (fun f listed a K w i rest hI hi hrest hcont => ?_) 7 t #[false, false, false, false, false, false, false] _ _ _ ⟨⟨false, false, false, false, false, false, _, _, _, _, _, _, rfl, rfl, rfl, by simp, by simp, by simp, by simp, by simp, by simp, by simp, by simp⟩, fun b hb => hb, ⟨hk.keep, hk.size⟩⟩
  · obtain ⟨l0, l1, l2, l3, l4, l5, _, _, _, _, _, _, _, hcnt, _⟩ := h.ex
    cases l0 <;> cases l1 <;> cases l2 <;> cases l3 <;> cases l4 <;> cases l5 <;> simp at hcnt
  · obtain ⟨l0, l1, l2, l3, l4, l5, _, _, _, _, _, _, rfl, _⟩ := h.ex
    intro h0
    have := ready22 l0 l1 l2 l3 l4 l5
    rw [h0] at this
    cases this
  · obtain ⟨hl, o, ho, hall⟩ := mem_ready.1 hi
    have hi7 : i < 7 := by have := (Array.getElem?_eq_some_iff.1 ho).1; rw [size22] at this; exact this
    rcases Nat.lt_or_ge i 4 with hlt | hge
    · exact load22 hI cF cI cB hKn (by omega) (by omega) hl hcont
    obtain ⟨a4, a5, a6⟩ := after22
    have h456 : i = 4 ∨ i = 5 ∨ i = 6 := by omega
    rcases h456 with rfl | rfl | rfl
    · obtain ⟨⟨e1, h1, e1', b1⟩, ⟨e2, h2, e2', b2⟩⟩ := a4 o ho
      exact call22s hI hwr hρA hargs hn hlow hRes (Nat.le_refl _) hl (e1' ▸ hall e1 h1 b1) (e2' ▸ hall e2 h2 b2) hcont
    · obtain ⟨⟨e1, h1, e1', b1⟩, ⟨e2, h2, e2', b2⟩⟩ := a5 o ho
      exact index22 hI hj (by omega) hl (e1' ▸ hall e1 h1 b1) (e2' ▸ hall e2 h2 b2) hcont
    · obtain ⟨⟨e1, h1, e1', b1⟩, ⟨e2, h2, e2', b2⟩⟩ := a6 o ho
      have hl5 := hall e1 h1 b1
      have hl4 := hall e2 h2 b2
      rw [e1'] at hl5
      rw [e2'] at hl4
      have hf0 : f = 0 := by
        obtain ⟨l0, l1, l2, l3, l4, l5, _, _, _, _, _, _, rfl, hcnt, _, _, _, _, _, _, _, h6, h7⟩ := hI.ex
        obtain rfl : l4 = true := by simpa using hl4
        obtain rfl : l5 = true := by simpa using hl5
        obtain ⟨rfl, rfl⟩ := h6 rfl
        obtain ⟨rfl, rfl⟩ := h7 rfl
        simp at hcnt
        omega
      subst hf0
      rw [hrest rfl]
      exact store22 hI hj hCW hRs hKn
end
end Go.Proofs.Ytaealkfnhhmmcaa
