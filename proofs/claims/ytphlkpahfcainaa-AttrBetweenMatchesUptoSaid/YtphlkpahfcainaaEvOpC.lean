/- Operations, part C: loads, addresses. -/
import Derived.Test.YtphlkpahfcainaaEvOpB
namespace Go.Ev
set_option linter.unusedVariables false
set_option linter.unusedSimpArgs false

section
variable {P : Program} {T : TypeId → Option TI} {env : Env} {X : Ctx} {σ : St} {a : Act} {w : World} {g : Gh} {A : Type} {r : A} {k : St → Option A} {K : Act → World → Prop} {Q : Exit → Act → World → Prop}
  {d : Option Tmp} {ty : TypeId} {pos : String} {aft : Array Edge} {gd : Option (Nat × Bool)}

theorem TOk.sizeOf (hT : TOk P T) {t : TypeId} {ti : TI} (h : T t = some ti) (w : World) : (Go.sizeOf t).run P w = .ok ti.ty.sz w := by
  obtain ⟨i, z, hi, h1, _⟩ := hT.info t ti h
  simp [Go.sizeOf, typeInfo, hi, h1]

theorem TOk.isAgg (hT : TOk P T) {t : TypeId} {ti : TI} (h : T t = some ti) (w : World) : (Go.isAgg t).run P w = .ok ti.agg w := by
  cases ha : ti.agg with
  | true =>
    obtain ⟨fs, h1, _⟩ := hT.agg t ti h ha
    simp [Go.isAgg, run_underlying h1]
  | false =>
    have := hT.sca t ti h ha
    revert this
    cases ti.ty with
    | int k => intro hx; simp [Go.isAgg, run_underlying hx]
    | bool => intro hx; simp [Go.isAgg, run_underlying hx]
    | str => intro hx; simp [Go.isAgg, run_underlying hx]
    | list e => intro hx; simp [Go.isAgg, run_underlying hx.1]
    | pair a b => intro hx; exact hx.elim

theorem TOk.sz1 (hT : TOk P T) {t : TypeId} {ti : TI} (h : T t = some ti) (ha : ti.agg = false) : ti.ty.sz = 1 := by
  have := hT.sca t ti h ha
  revert this
  cases ti.ty <;> intro hx <;> first | rfl | exact hx.elim

/-- A variable of a type whose cells are these. -/
def mkV (agg : Bool) (cs : List Value) : Value := if agg then .agg cs.toArray else cs.getD 0 undef

theorem run_loadVar (hT : TOk P T) {t : TypeId} {ti : TI} (h : T t = some ti) (w : World) (b o : Nat) (cs : List Value) (hl : cs.length = ti.ty.sz) (hc : ∀ j u, cs[j]? = some u → w.cell? ⟨b, o + j, none⟩ = some u) :
    (loadVar t ⟨b, o, none⟩).run P w = .ok (mkV ti.agg cs) w := by
  have hl2 : (loadCells ⟨b, o, none⟩ cs.length).run P w = .ok cs.toArray w := run_loadCells_list (P := P) w ⟨b, o, none⟩ cs (fun j v hv => by rw [addr_add]; exact hc j v hv)
  cases ha : ti.agg with
  | true => simp [loadVar, Sem.run_bind, hT.isAgg h, ha, hT.sizeOf h, ← hl, hl2, mkV]
  | false =>
    have h1 := hT.sz1 h ha
    obtain ⟨u, rfl⟩ := List.length_eq_one_iff.1 (hl.trans h1)
    have hu := hc 0 u rfl
    simp only [Nat.add_zero] at hu
    simp [loadVar, Sem.run_bind, hT.isAgg h, ha, mkV]
    simp [load, Sem.run, hu]

/-- What is loaded comes out. -/
theorem resV {o : Oper} (h : Rel X σ a w g) (hN : X.N ≤ σ.length) (ho : OpIn X.N o) {ag : Bool} {cs : List Value} (hrun : ∀ w', ExtW w w' → (execOp a.eval o).run P w' = .ok (.value (mkV ag cs)) w') {ls : List Leaf} (hlen : cs.length = ls.length) (h1 : ag = false → cs.length = 1)
    (hlf : ∀ i, LR σ w g (lget ls i) (cs.getD i undef)) (hown : ∀ i, (lget ls i).isOwn = false) (hk : k (Ev.wr σ o.dst (.cs ag ls)) = some r) (hK : Nx X σ.length k r K) : Oper.wpE P o a w K := by
  refine resSw h hN ho hrun (s := .cs ag ls) hlen ?_ rfl hlf hown hk hK
  cases ag with
  | true => exact ⟨hlen.symm, rfl⟩
  | false =>
    obtain ⟨u, hu⟩ := List.length_eq_one_iff.1 (h1 rfl)
    subst hu
    exact ⟨hlen.symm, rfl⟩

/-- The same, and no memory is looked at. -/
theorem resVp {o : Oper} (h : Rel X σ a w g) (hN : X.N ≤ σ.length) (ho : OpIn X.N o) {ag : Bool} {cs : List Value} (hrun : ∀ w', (execOp a.eval o).run P w' = .ok (.value (mkV ag cs)) w') {ls : List Leaf} (hlen : cs.length = ls.length) (h1 : ag = false → cs.length = 1)
    (hlf : ∀ i, LR σ w g (lget ls i) (cs.getD i undef)) (hown : ∀ i, (lget ls i).isOwn = false) (hk : k (Ev.wr σ o.dst (.cs ag ls)) = some r) (hK : Nx X σ.length k r K) : Oper.wpS P o a w K := by
  refine resS h hN ho hrun (s := .cs ag ls) hlen ?_ rfl hlf hown hk hK
  cases ag with
  | true => exact ⟨hlen.symm, rfl⟩
  | false =>
    obtain ⟨u, hu⟩ := List.length_eq_one_iff.1 (h1 rfl)
    subst hu
    exact ⟨hlen.symm, rfl⟩

theorem lget_ltake : ∀ (n : Nat) (ls : List Leaf) (i : Nat), lget (ltake n ls) i = if i < n then lget ls i else .und
  | 0, ls, i => by simp [ltake, lget]
  | n + 1, [], i => by simp [ltake, lget]
  | n + 1, l :: ls, 0 => by simp [ltake, lget]
  | n + 1, l :: ls, i + 1 => by simp [ltake, lget, lget_ltake n ls i]
theorem lget_ldrop : ∀ (n : Nat) (ls : List Leaf) (i : Nat), lget (ldrop n ls) i = lget ls (n + i)
  | 0, ls, i => by simp [ldrop]
  | n + 1, [], i => by simp [ldrop, lget]
  | n + 1, l :: ls, i => by rw [ldrop, lget_ldrop n ls i, show n + 1 + i = (n + i) + 1 from by omega]; rfl
theorem length_ltake : ∀ (n : Nat) (ls : List Leaf), (ltake n ls).length = min n ls.length
  | 0, ls => by simp [ltake]
  | n + 1, [] => by simp [ltake]
  | n + 1, l :: ls => by simp [ltake, length_ltake n ls]
theorem length_ldrop : ∀ (n : Nat) (ls : List Leaf), (ldrop n ls).length = ls.length - n
  | 0, ls => by simp [ldrop]
  | n + 1, [] => by simp [ldrop]
  | n + 1, l :: ls => by simp [ldrop, length_ldrop n ls]

/-- Element `i` of an owned row: its cells. -/
theorem own_elem {S : Nat → Prop} {te : TypeId} {e : Ty} {xs : List e.den} {gb n cap : Nat} (h : ownR w S te e xs (.slice (some ⟨gb, 0, none⟩) n cap)) {i : Nat} (hi : i < xs.length) :
    ∃ c, rel w S e (xs.getD i e.zero) c ∧ ∀ j u, c[j]? = some u → w.cell? ⟨gb, i * e.sz + j, none⟩ = some u := by
  rcases ownR_form h with ⟨hv, _⟩ | ⟨g', cap', cur, hv, hg, h1, h2, h3, hr⟩
  · cases hv
  · simp only [Value.slice.injEq, Option.some.injEq, Addr.mk.injEq, and_true] at hv
    obtain ⟨rfl, _, _⟩ := hv
    obtain ⟨c, hc, hcell⟩ := rows_get hr i (xs.getD i e.zero) (by simp [List.getD_eq_getElem?_getD, hi])
    refine ⟨c, hc, fun j u hu => ?_⟩
    have := hcell j u hu
    rw [List.getElem?_take] at this
    split at this
    · rw [cell_of_row w gb _ cur te (0, 0) hg]; simpa using this
    · cases this

theorem box_cell (h : Rel X σ a w g) {b : Nat} (hb : isBox σ b) (hbl : b < σ.length) {i : Nat} (hi : i < (gs σ b).leaves.length) : w.cell? ⟨g.blk b, i, none⟩ = some (g.c ⟨b, i⟩) := by
  have := h.sh b hbl
  have hb' : (gs σ b).shp.isBox = true := hb
  rw [leaves_len] at hi
  revert this hb' hi
  cases (gs σ b).shp with
  | cs ag n => intro _ _ hx; cases hx
  | tup ks n => intro _ _ hx; cases hx
  | box n =>
    rintro hi hsr _
    obtain ⟨_, te, h2⟩ := hsr
    rw [cell_of_row w _ i _ te (0, 0) h2]
    simp only [Shp.len] at hi
    simp [cellsL, hi]

theorem isBox_lt {b : Nat} (hb : isBox σ b) : b < σ.length := by
  apply Nat.lt_of_not_le
  intro hn
  unfold isBox at hb
  rw [gs_of_le hn] at hb
  cases hb

theorem ltake_len {n : Nat} {ls : List Leaf} (h : n ≤ ls.length) : (ltake n ls).length = n := by rw [length_ltake]; omega

theorem op_load {t : TypeId} {x : Operand} (hT : TOk P T) (h : Rel X σ a w g) (hN : X.N ≤ σ.length) (ho : OpIn X.N ⟨d, .load t x, ty, pos, aft, gd⟩) (hk : opK T env ⟨d, .load t x, ty, pos, aft, gd⟩ σ k = some r) (hK : Nx X σ.length k r K) :
    Oper.wpE P ⟨d, .load t x, ty, pos, aft, gd⟩ a w K := by
  have hx := rd1_ok h hN x (ho.ops x (by simp [Op.operands]))
  simp only [opK] at hk
  cases hti : T t with
  | none => rw [hti] at hk; cases hk
  | some ti =>
  rw [hti] at hk
  simp only at hk
  have run : ∀ (b o : Nat) (cs : List Value), a.eval x = .pointer (some ⟨b, o, none⟩) → cs.length = ti.ty.sz → b < w.heap.size → (∀ j u, cs[j]? = some u → w.cell? ⟨b, o + j, none⟩ = some u) →
      ∀ w', ExtW w w' → (execOp a.eval ⟨d, .load t x, ty, pos, aft, gd⟩).run P w' = .ok (.value (mkV ti.agg cs)) w' := by
    intro b o cs hv hl hbl hc w' he
    simp [execOp, Instr.loadAt, hv, Instr.sureAddr, run_loadVar hT hti w' b o cs hl (fun j u hu => by rw [← hc j u hu]; exact World.cell?_of_block (he b hbl))]
  have sz1 : ∀ cs : List Value, cs.length = ti.ty.sz → ti.agg = false → cs.length = 1 := fun cs hl ha => hl.trans (hT.sz1 hti ha)
  generalize rd1 σ x = l at hx hk
  cases l with
  | ptr b o =>
    simp only at hk
    split at hk
    · rename_i hlen
      obtain ⟨hv, hb⟩ := hx
      have hl1 : (ltake ti.ty.sz (ldrop o (gs σ b).leaves)).length = ti.ty.sz := ltake_len (by rw [length_ldrop]; omega)
      refine resV h hN ho (cs := (List.range ti.ty.sz).map fun i => g.c ⟨b, o + i⟩) (run _ _ _ hv (by simp) (h.fr (.inl b) _ (by simp [ob, show (gs σ b).shp.isBox = true from hb])).2.1 ?_) (by simp [hl1]) (sz1 _ (by simp)) (fun i => ?_) (fun i => view_own _ _ _ _) hk hK
      · intro j u hu
        simp only [List.getElem?_map, Option.map_eq_some_iff] at hu
        obtain ⟨i, hi, rfl⟩ := hu
        obtain ⟨hi2, rfl⟩ := List.getElem?_eq_some_iff.1 hi
        simp only [List.getElem_range, List.length_range] at hi2 ⊢
        exact box_cell h hb (isBox_lt hb) (by omega)
      · rw [lget_view, lget_ltake]
        by_cases hi : i < ti.ty.sz
        · rw [if_pos hi, lget_ldrop]
          have := LR_view h b (o + i)
          simpa [List.getD_eq_getElem?_getD, hi] using this
        · rw [if_neg hi]; trivial
    · cases hk
  | ept p e i o =>
    simp only at hk
    obtain ⟨⟨te, xs, h1, h2, h3⟩, gb, n, cap, h4, h5⟩ := hx
    have hr : rowOf σ e (.al p) = some xs := by simp [rowOf, h1]
    rw [hr] at hk
    simp only at hk
    split at hk
    · rename_i hlen
      have hown := h.lf p
      rw [h1, h4] at hown
      obtain ⟨c, hc, hcell⟩ := own_elem hown (i := i.toNat) (by omega)
      have hcl := rel_len hc
      have hat : xs.getD i.toNat e.zero = at_ xs i := rfl
      rw [hat] at hc
      refine resV h hN ho (cs := (c.drop o).take ti.ty.sz) (run _ _ _ h5 (by simp; omega) (h.fr (.inr p) gb (by simp [ob, h1, Leaf.isOwn, h4, Value.ownBlock])).2.1 ?_) ?_ (sz1 _ (by simp; omega)) (fun j => ?_) (fun j => ?_) hk hK
      · intro j u hu
        rw [List.getElem?_take] at hu
        split at hu
        · rw [List.getElem?_drop] at hu
          rw [Nat.add_assoc]
          exact hcell _ u hu
        · cases hu
      · rw [ltake_len (by rw [length_ldrop, length_explode]; omega)]
        simp; omega
      · rw [lget_ltake]
        split
        · rename_i hj
          rw [lget_ldrop]
          have := LR_explode σ hc (o + j)
          simpa [List.getD_eq_getElem?_getD, List.getElem?_take, hj] using this
        · trivial
      · rw [lget_ltake]
        split
        · rw [lget_ldrop]; exact explode_own _ _ _
        · rfl
    · cases hk
  | vpt t' y =>
    simp only at hk
    split at hk
    · rename_i he
      subst he
      obtain ⟨b, o, cs, h1, h2, h3, h4⟩ := hx
      exact resV h hN ho (cs := cs) (run _ _ _ h1 (rel_len h3) (h.sb b h2).1 h4) (by rw [length_explode, rel_len h3]) (sz1 _ (rel_len h3)) (fun i => LR_explode σ h3 i) (fun i => explode_own _ _ _) hk hK
    · cases hk
  | _ => cases hk

end
end Go.Ev
