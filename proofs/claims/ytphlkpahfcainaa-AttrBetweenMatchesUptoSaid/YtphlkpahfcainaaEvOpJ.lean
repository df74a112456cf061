/- Operations, part J: structs are built. -/
import Derived.Test.YtphlkpahfcainaaEvOpI
namespace Go.Ev
set_option linter.unusedVariables false
set_option linter.unusedSimpArgs false

/-- Cells put in place of others. -/
def putC (cs : List Value) (o : Nat) (us : List Value) : List Value := cs.take o ++ us ++ cs.drop (o + us.length)

theorem length_putC {cs us : List Value} {o : Nat} (h : o + us.length ≤ cs.length) : (putC cs o us).length = cs.length := by simp [putC]; omega

theorem getD_putC {cs us : List Value} {o : Nat} (h : o + us.length ≤ cs.length) (i : Nat) : (putC cs o us).getD i undef = if o ≤ i ∧ i < o + us.length then us.getD (i - o) undef else cs.getD i undef := by
  simp only [putC, List.getD_eq_getElem?_getD]
  by_cases h1 : o ≤ i ∧ i < o + us.length
  · rw [if_pos h1, List.append_assoc, List.getElem?_append_right (by simp; omega), List.getElem?_append_left (by simp; omega)]
    congr 2
    simp; omega
  · rw [if_neg h1]
    by_cases h2 : i < o
    · rw [List.append_assoc, List.getElem?_append_left (by simp; omega), List.getElem?_take, if_pos h2]
    · rw [List.getElem?_append_right (by simp; omega), List.getElem?_drop]
      congr 2
      simp; omega

theorem fold_put : ∀ (us : List Value) (cs : List Value) (o j : Nat), o + j + us.length ≤ cs.length →
    (us.zipIdx j).foldl (fun (acc : Array Value) (x : Value × Nat) => acc.setIfInBounds (o + x.2) x.1) cs.toArray = (putC cs (o + j) us).toArray
  | [], cs, o, j, _ => by simp [putC]
  | u :: us, cs, o, j, h => by
    simp only [List.zipIdx_cons, List.foldl_cons, List.setIfInBounds_toArray]
    simp only [List.length_cons] at h
    rw [fold_put us (cs.set (o + j) u) o (j + 1) (by simp; omega)]
    congr 1
    simp only [putC, List.length_cons]
    rw [List.take_set, List.drop_set_of_lt (by omega)]
    have e1 : List.take (o + (j + 1)) cs = List.take (o + j) cs ++ [cs[o + j]'(by omega)] := by
      rw [show o + (j + 1) = (o + j) + 1 from by omega, List.take_succ_eq_append_getElem (by omega)]
    rw [e1, List.set_append, if_neg (by simp; omega)]
    have e2 : (o + j) - (List.take (o + j) cs).length = 0 := by simp; omega
    rw [e2]
    simp only [List.set_cons_zero, List.append_assoc, List.singleton_append, List.cons_append, List.nil_append]
    rw [show o + (j + 1) + us.length = o + j + (us.length + 1) from by omega]

section
variable {P : Program} {T : TypeId → Option TI} {env : Env} {X : Ctx} {σ : St} {a : Act} {w : World} {g : Gh} {A : Type} {r : A} {k : St → Option A} {K : Act → World → Prop} {Q : Exit → Act → World → Prop}
  {d : Option Tmp} {ty : TypeId} {pos : String} {aft : Array Edge} {gd : Option (Nat × Bool)}

/-- One part is filled in. -/
theorem fill_cons {place : Nat → Option (Nat × Nat)} {cs us : List Value} {i o : Nat} {v : Value} {rest : List (Nat × Value)} (hp : place i = some (o, us.length)) (hv : v.cells.toList = us) (h : o + us.length ≤ cs.length) :
    Instr.fill place cs.toArray ((i, v) :: rest) = Instr.fill place (putC cs o us).toArray rest := by
  have hs : v.cells.size = us.length := by rw [← hv]; simp
  simp only [Instr.fill, hp, hs]
  rw [if_neg (by simp; omega)]
  congr 1
  have := fold_put us cs o 0 (by simpa using h)
  simp only [Nat.add_zero] at this
  rw [← this, ← hv, ← Array.foldl_toList, Array.toList_zipIdx]

theorem getD_cells {cs us : List Value} {ls ms : List Leaf} {o : Nat} (h1 : cs.length = ls.length) (h2 : us.length = ms.length) (h3 : o + ms.length ≤ ls.length) (hl : ∀ i, LR σ w g (lget ls i) (cs.getD i undef)) (hm : ∀ i, LR σ w g (lget ms i) (us.getD i undef)) (i : Nat) :
    LR σ w g (lget (setAt ls o ms) i) ((putC cs o us).getD i undef) := by
  rw [lget_setAt ms ls o i h3, getD_putC (by omega), h2]
  split
  · exact hm _
  · exact hl _

theorem fillS_ok (hT : TOk P T) (h : Rel X σ a w g) (hN : X.N ≤ σ.length) {fs : List (Nat × TypeId)} {place : Nat → Option (Nat × Nat)} (hp : ∀ (i o : Nat) (ft : TypeId) fi, fs[i]? = some (o, ft) → T ft = some fi → place i = some (o, fi.ty.sz)) :
    ∀ (ps : List (Nat × Operand)) (ls ls' : List Leaf) (cs : List Value), (∀ q ∈ ps, ∀ t, q.2 = .tmp t → t < X.N) → fillS T fs σ ps ls = some ls' → cs.length = ls.length → (∀ i, LR σ w g (lget ls i) (cs.getD i undef)) → (∀ i, (lget ls i).isOwn = false) →
      ∃ cs' : List Value, Instr.fill place cs.toArray (ps.map fun q => (q.1, a.eval q.2)) = some cs'.toArray ∧ cs'.length = ls'.length ∧ ls'.length = ls.length ∧ (∀ i, LR σ w g (lget ls' i) (cs'.getD i undef)) ∧ ∀ i, (lget ls' i).isOwn = false
  | [], ls, ls', cs, _, hf, hl, hc, ho => by
    simp only [fillS, Option.some.injEq] at hf
    subst hf
    exact ⟨cs, rfl, hl, rfl, hc, ho⟩
  | (i, x) :: ps, ls, ls', cs, hin, hf, hl, hc, ho => by
    simp only [fillS] at hf
    split at hf
    rotate_left
    · cases hf
    rename_i o ft hfs
    split at hf
    rotate_left
    · cases hf
    rename_i fi hfi
    split at hf
    rotate_left
    · cases hf
    rename_i hcond
    obtain ⟨c1, c2, c3, c4⟩ := hcond
    have hq := rd_ok h hN x (hin (i, x) (by simp))
    obtain ⟨us, u1, u2, u3, _⟩ := h.cells hq c3
    have hput := fill_cons (place := place) (cs := cs) (us := us) (i := i) (o := o) (v := a.eval x) (rest := ps.map fun q => (q.1, a.eval q.2)) (by rw [hp i o ft fi hfs hfi, u2, c2]) u1 (by omega)
    obtain ⟨cs', e1, e2, e3, e4, e5⟩ := fillS_ok hT h hN hp ps (setAt ls o (rd σ x).2) ls' (putC cs o us) (fun q hq => hin q (by simp [hq])) hf (by rw [length_putC (by omega)]; simpa using hl)
      (getD_cells hl u2 (by omega) hc u3) (fun j => by
        rw [lget_setAt _ ls o j (by omega)]
        split
        · exact hq.2.2 _
        · exact ho j)
    refine ⟨cs', ?_, e2, by simpa using e3, e4, e5⟩
    simp only [List.map_cons]
    rw [hput]; exact e1

theorem op_build {t : TypeId} {parts : Array (Nat × Operand)} (hT : TOk P T) (h : Rel X σ a w g) (hN : X.N ≤ σ.length) (ho : OpIn X.N ⟨d, .build t parts, ty, pos, aft, gd⟩) (hk : opK T env ⟨d, .build t parts, ty, pos, aft, gd⟩ σ k = some r) (hK : Nx X σ.length k r K) :
    Oper.wpS P ⟨d, .build t parts, ty, pos, aft, gd⟩ a w K := by
  simp only [opK] at hk
  cases hti : T t with
  | none => rw [hti] at hk; cases hk
  | some ti =>
  rw [hti] at hk
  simp only at hk
  split at hk
  · cases hk
  rename_i hag
  have hag : ti.agg = true := by simpa using hag
  split at hk
  rotate_left
  · cases hk
  rename_i ls hls
  obtain ⟨fs, h1, h2, h3⟩ := hT.agg t ti hti hag
  obtain ⟨places, hpl⟩ := hT.pls t ti hti hag fs h1
  obtain ⟨i, z, hi, q1, q2, q3, q4, q5⟩ := hT.info t ti hti
  have hplace : ∀ (i o : Nat) (ft : TypeId) fi, ti.fs[i]? = some (o, ft) → T ft = some fi → places.toArray[i]? = some (o, fi.ty.sz) := by
    intro i o ft fi hf hfi
    obtain ⟨f, f1, f2, f3⟩ := h2 i o ft hf
    obtain ⟨inf, z', hi', s1, _⟩ := hT.info ft fi hfi
    have := mapM_some_get hpl i f (by simpa using f1)
    rw [f3, hi'] at this
    simp at this
    simp [← this, f2, s1]
  obtain ⟨cs', e1, e2, e3, e4, e5⟩ := fillS_ok hT h hN (place := (places.toArray[·]?)) hplace parts.toList (zeroL ti.ty) ls (zcells ti.ty) (fun q hq t ht => ho.ops q.2 (by
      simp only [Op.operands]
      have : q.2 ∈ (parts.toList.map (·.2)) := List.mem_map_of_mem hq
      simpa using this) t ht) hls (by rw [length_zcells, length_zeroL]) (fun i => (zeroL_get σ w g ti.ty i).1) (fun i => (zeroL_get σ w g ti.ty i).2)
  have hbuilt : P.built t (parts.map fun (i, x) => (i, a.eval x)).toList = some cs'.toArray := by
    unfold Program.built
    rw [hi, h1]
    simp only [q3, hpl]
    have e0 : z.cells = (zcells ti.ty).toArray := by rw [← q4]
    rw [e0]
    have em : (parts.map fun (i, x) => (i, a.eval x)).toList = parts.toList.map fun q => (q.1, a.eval q.2) := by simp
    rw [em, e1]
  have hrun : ∀ w', (execOp a.eval ⟨d, .build t parts, ty, pos, aft, gd⟩).run P w' = .ok (.value (.agg cs'.toArray)) w' := by
    intro w'
    have := run_build (P := P) w' t _ cs'.toArray hbuilt
    simp only [execOp, Sem.run_bind, this, Result.andThen_ok, Sem.run_pure]
  exact resT h hN ho hrun (q := (true, ls)) ⟨fun hf => by simp at hf, fun _ => ⟨cs', rfl, e2, e4⟩, e5⟩ hk hK

theorem op_field {t : TypeId} {x : Operand} {i : Nat} (hT : TOk P T) (h : Rel X σ a w g) (hN : X.N ≤ σ.length) (ho : OpIn X.N ⟨d, .field t x i, ty, pos, aft, gd⟩) (hk : opK T env ⟨d, .field t x i, ty, pos, aft, gd⟩ σ k = some r) (hK : Nx X σ.length k r K) :
    Oper.wpS P ⟨d, .field t x i, ty, pos, aft, gd⟩ a w K := by
  simp only [opK] at hk
  cases hf : field? T t i with
  | none => rw [hf] at hk; cases hk
  | some ff =>
  obtain ⟨f, fi⟩ := ff
  rw [hf] at hk
  simp only at hk
  obtain ⟨fs, fd, ti, h1, h2, h3, h4, _⟩ := field?_ok hT hf
  cases x with
  | tmp s =>
    have hs : s < X.N := ho.ops (.tmp s) (by simp [Op.operands]) s rfl
    simp only at hk
    have hsh := h.sh s (Nat.lt_of_lt_of_le hs hN)
    have hview := fun j => LR_view h s j
    cases hg : gs σ s with
    | cs ag ls =>
      rw [hg] at hk hsh
      simp only [hg] at hview
      cases ag with
      | false => cases hk
      | true =>
        simp only at hk
        split at hk
        rotate_left
        · cases hk
        rename_i hlen
        have hv : a.tmps.getD s undef = .agg (cellsL g s ls.length).toArray := hsh
        refine resVp h hN ho (ag := fi.agg) (cs := (List.range fi.ty.sz).map fun j => g.c ⟨s, f + j⟩) ?_ (by simp [length_ltake, length_ldrop, leaves_len, Slot.leaves] at *; omega) (fun ha => by simp [hT.sz1 h4 ha]) (fun j => ?_) (fun j => view_own _ _ _ _) hk hK
        · intro w'
          have hagr := hT.isAgg h4 w'
          have hszr := hT.sizeOf h4 w'
          have hpart : (part fd.type (cellsL g s ls.length).toArray f).run P w' = .ok (mkV fi.agg ((List.range fi.ty.sz).map fun j => g.c ⟨s, f + j⟩)) w' := by
            cases ha : fi.agg with
            | true =>
              simp only [part, Sem.run_bind, hagr, ha, Result.andThen_ok, if_true, hszr, Sem.run_pure, mkV]
              congr 2
              apply Array.ext'
              apply List.ext_getElem?
              intro j
              simp only [List.extract_toArray, List.extract_eq_take_drop, List.getElem?_take, List.getElem?_drop, List.getElem?_map, cellsL]
              by_cases hj : j < fi.ty.sz
              · rw [if_pos (by omega)]
                have : f + j < ls.length := by omega
                simp [hj, this]
              · rw [if_neg (by omega)]
                simp [hj]
            | false =>
              have s1 := hT.sz1 h4 ha
              have : f < ls.length := by omega
              simp [part, Sem.run_bind, hagr, ha, mkV, s1, cellsL, this]
          simp [execOp, Act.eval, hv, Instr.field, run_underlying h1, h2, asAgg, h3, hpart]
        · rw [lget_view, lget_ltake]
          by_cases hj : j < fi.ty.sz
          · rw [if_pos hj, lget_ldrop]
            have := hview (f + j)
            simp only [Slot.leaves] at this
            simpa [List.getD_eq_getElem?_getD, hj] using this
          · rw [if_neg hj]; trivial
    | _ => rw [hg] at hk; cases hk
  | _ => cases hk

end
end Go.Ev
