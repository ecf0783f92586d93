/- append of one slice onto a row of the call's own, nil sources let in. No condition. -/
import Derived.Test.YtaealkfnhhmmcaaSl
import Derived.Maps.AppendAt
namespace Go.Proofs.Ytaealkfnhhmmcaa
open Go.RowKit
theorem flat_app (sz : Nat) (f g : Nat → Nat → Value) (k m : Nat) : flat sz f k ++ flat sz g m = flat sz (fun i j => if i < k then f i j else g (i - k) j) (k + m) := by
  induction m with
  | zero =>
    simp only [flat, List.append_nil, Nat.add_zero]
    exact flat_congr fun i j hi _ => by simp [hi]
  | succ m ih =>
    rw [flat, ← List.append_assoc, ih, Nat.add_succ, flat]
    congr 1
    refine List.map_congr_left fun j _ => ?_
    show g m j = if k + m < k then f (k + m) j else g (k + m - k) j
    rw [if_neg (by omega), Nat.add_sub_cancel_left]
section
variable {P : Program} (w : World)
theorem run_app_nil (base : Nat) (t ty e : TypeId) (i : TypeInfo) (size : Nat) (ht : P.underlying t = some (.slice e)) (hi : P.info? e = some i)
    (v : Value) (n : Nat) (xs : List Value) (hown : w.ownsRow base e size v n xs) (c : Nat) : (Builtin.append_ #[t, t] ty #[v, .slice none 0 c]).run P w = .ok v w := by
  rcases hown.2 with ⟨rfl, rfl⟩ | ⟨g, cap, cur, rfl, _, _, hnc, _⟩
  · simp [Builtin.append_, run_underlying ht, sizeOf, typeInfo, hi, Builtin.lenOf, Builtin.firstCells]
  · simp [Builtin.append_, run_underlying ht, sizeOf, typeInfo, hi, Builtin.lenOf, Builtin.firstCells, hnc, storeCells]
theorem run_app (base : Nat) (t ty e : TypeId) (i : TypeInfo) (z : Value) (size bytes : Nat) (ht : P.underlying t = some (.slice e)) (hi : P.info? e = some i) (hz : i.zero = some z)
    (hsize : i.size = size) (hby : i.bytes = bytes) (hzs : z.cells.size = size) (hsz : 0 < size)
    (v : Value) (n : Nat) (xs : List Value) (hown : w.ownsRow base e size v n xs)
    (lo hi' : Nat) (src : Value) (m : Nat) (f : Nat → Nat → Value) (hsrc : Sl w lo hi' size src m f) (h1 : ∀ i j, (f i j).oneCell' = true)
    (h63 : n + m ≤ maxLen) (hbytes : (n + m) * bytes ≤ 140737488355328) (hbase : base ≤ w.heap.size) :
    ∃ v' w', (Builtin.append_ #[t, t] ty #[v, src]).run P w = .ok v' w' ∧ w'.ownsRow base e size v' (n + m) (xs ++ flat size f m) ∧ w.grownBy w' v.ownBlock ∧ (v'.ownBlock = v.ownBlock ∨ v'.ownBlock = some w.heap.size) := by
  obtain ⟨_, A, c, rfl, hmc, hx⟩ := hsrc
  clear hmc
  have hone : ∀ u ∈ flat size f m, u.oneCell' = true := by
    clear hx h63 hbytes
    induction m with
    | zero => intro u hu; simp [flat] at hu
    | succ m ih =>
      intro u hu
      rw [flat, List.mem_append] at hu
      rcases hu with hu | hu
      · exact ih u hu
      · obtain ⟨j, _, rfl⟩ := List.mem_map.1 hu
        exact h1 m j
  rcases A with _ | ad
  · have hm : m = 0 := by
      rcases Nat.eq_zero_or_pos m with h0 | h0
      · exact h0
      · obtain ⟨_, _, h, _⟩ := hx h0
        cases h
    subst hm
    exact ⟨v, w, run_app_nil w base t ty e i size ht hi v n xs hown c, by simpa [flat] using hown, World.grownBy.refl w _, .inl rfl⟩
  · have hcells : ∀ j u, (flat size f m)[j]? = some u → w.cell? (ad.add j) = some u := by
      intro j u hu
      rcases Nat.eq_zero_or_pos m with h0 | h0
      · subst h0; simp [flat] at hu
      · obtain ⟨b, o, h, _, _, hc⟩ := hx h0
        injection h with h
        subst h
        have hj : j < m * size := by
          have := (List.getElem?_eq_some_iff.1 hu).1
          rwa [flat_length] at this
        have e1 : j / size * size + j % size = j := by rw [Nat.mul_comm]; exact Nat.div_add_mod j size
        have e2 : j / size < m := Nat.div_lt_of_lt_mul (by rw [Nat.mul_comm]; exact hj)
        have e3 : j % size < size := Nat.mod_lt _ hsz
        have h4 := flat_get size f m _ _ e2 e3
        rw [e1, hu] at h4
        have h5 := hc _ _ e2 e3
        rw [e1] at h5
        rw [Go.WideShapes.add_plain, h5, h4]
    obtain ⟨v', w', hrun, h2, h3, _, h5⟩ := run_append_own_at (P := P) w base t ty e i z size bytes ht hi hz hsize hby hzs hsz v n xs hown ad m c (flat size f m) (flat_length _ _ _) hcells hone h63 hbytes hbase
    exact ⟨v', w', hrun, h2, h3, h5⟩
theorem wpList_app {ops : Array Oper} {rest : List Oper} {o : Oper} {a : Act} {Q : Exit → Act → World → Prop} (hgd : o.guard = none) (s x : Operand) (t : TypeId)
    (ho : o.op = .call { callee := .builtin .append, args := #[s, x], argTypes := #[t, t] })
    (base : Nat) (e : TypeId) (i : TypeInfo) (z : Value) (size bytes : Nat) (ht : P.underlying t = some (.slice e)) (hi : P.info? e = some i) (hz : i.zero = some z)
    (hsize : i.size = size) (hby : i.bytes = bytes) (hzs : z.cells.size = size) (hsz : 0 < size)
    (v : Value) (n : Nat) (xs : List Value) (hs : a.eval s = v) (hown : w.ownsRow base e size v n xs)
    (lo hi' : Nat) (src : Value) (m : Nat) (f : Nat → Nat → Value) (hx : a.eval x = src) (hsrc : Sl w lo hi' size src m f) (h1 : ∀ i j, (f i j).oneCell' = true)
    (h63 : n + m ≤ maxLen) (hbytes : (n + m) * bytes ≤ 140737488355328) (hbase : base ≤ w.heap.size)
    (h : ∀ v' w', w'.ownsRow base e size v' (n + m) (xs ++ flat size f m) → w.grownBy w' v.ownBlock → (v'.ownBlock = v.ownBlock ∨ v'.ownBlock = some w.heap.size) → wpList P ops Q rest (a.put o.dst v') w') :
    wpList P ops Q (o :: rest) a w := by
  refine wpList_plain hgd fun K hK => ?_
  obtain ⟨v', w', hr, h2, h3, h5⟩ := run_app (P := P) w base t o.type e i z size bytes ht hi hz hsize hby hzs hsz v n xs hown lo hi' src m f hsrc h1 h63 hbytes hbase
  unfold Oper.wp execOp
  simp only [ho, resolve, invoke, builtin, Sem.run_bind, Sem.run_pure, Result.andThen_ok, List.map_toArray, List.map_cons, List.map_nil, hs, hx, hr]
  exact hK _ _ (h v' w' h2 h3 h5)
end
end Go.Proofs.Ytaealkfnhhmmcaa
