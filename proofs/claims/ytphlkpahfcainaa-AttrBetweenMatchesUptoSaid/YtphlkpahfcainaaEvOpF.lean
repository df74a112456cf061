/- Operations, part F: addresses, fields, indexes, lengths, numbers. -/
import Derived.Test.YtphlkpahfcainaaEvOpE
import Derived.Laws.Slices
namespace Go.Ev
set_option linter.unusedVariables false
set_option linter.unusedSimpArgs false

section
variable {P : Program} {T : TypeId → Option TI} {env : Env} {X : Ctx} {σ : St} {a : Act} {w : World} {g : Gh} {A : Type} {r : A} {k : St → Option A} {K : Act → World → Prop} {Q : Exit → Act → World → Prop}
  {d : Option Tmp} {ty : TypeId} {pos : String} {aft : Array Edge} {gd : Option (Nat × Bool)}

theorem op_nilCheck {x : Operand} (h : Rel X σ a w g) (hN : X.N ≤ σ.length) (ho : OpIn X.N ⟨d, .nilCheck x, ty, pos, aft, gd⟩) (hk : opK T env ⟨d, .nilCheck x, ty, pos, aft, gd⟩ σ k = some r) (hK : Nx X σ.length k r K) :
    Oper.wpS P ⟨d, .nilCheck x, ty, pos, aft, gd⟩ a w K := by
  have hx := rd1_ok h hN x (ho.ops x (by simp [Op.operands]))
  simp only [opK] at hk
  generalize rd1 σ x = l at hx hk
  have run : ∀ ad, a.eval x = .pointer (some ad) → ∀ w', (execOp a.eval ⟨d, .nilCheck x, ty, pos, aft, gd⟩).run P w' = .ok (.value (a.eval x)) w' := by
    intro ad hv w'; simp [execOp, hv]
  cases l with
  | ptr b o => exact resL h hN ho (run _ hx.1) hx rfl hk hK
  | ept p e i o =>
    obtain ⟨h1, gb, n, cap, h2, h3⟩ := hx
    exact resL (l := .ept p e i o) h hN ho (run _ h3) ⟨h1, gb, n, cap, h2, h3⟩ rfl hk hK
  | vpt t y =>
    obtain ⟨b, o, cs, h1, h2⟩ := hx
    exact resL (l := .vpt t y) h hN ho (run _ h1) ⟨b, o, cs, h1, h2⟩ rfl hk hK
  | _ => cases hk

theorem subTy_leaf {S : Nat → Prop} {want : Ty} {l : Leaf} {t : Ty} {x : t.den} {o : Nat} {cs : List Value} (h : (if h : t = want then (if o = 0 then some (.vpt want (h ▸ x)) else none) else none) = some l) (hr : rel w S t x cs) :
    ∃ y, l = .vpt want y ∧ rel w S want y ((cs.drop o).take want.sz) := by
  split at h
  · rename_i e
    subst e
    split at h
    · rename_i e0
      subst e0
      injection h with h
      subst h
      refine ⟨x, rfl, ?_⟩
      rw [List.drop_zero, List.take_of_length_le (by rw [rel_len hr]; exact Nat.le_refl _)]
      exact hr
    · cases h
  · cases h

theorem subTy_ok {S : Nat → Prop} {want : Ty} {l : Leaf} : ∀ {t : Ty} {x : t.den} {o : Nat} {cs : List Value}, subTy t x o want = some l → rel w S t x cs → ∃ y, l = .vpt want y ∧ rel w S want y ((cs.drop o).take want.sz)
  | .int k, x, o, cs, h, hr => by unfold subTy at h; exact subTy_leaf h hr
  | .bool, x, o, cs, h, hr => by unfold subTy at h; exact subTy_leaf h hr
  | .str, x, o, cs, h, hr => by unfold subTy at h; exact subTy_leaf h hr
  | .list e, x, o, cs, h, hr => by unfold subTy at h; exact subTy_leaf h hr
  | .pair p q, x, o, cs, h, hr => by
    unfold subTy at h
    split at h
    · rename_i e
      exact subTy_leaf (t := .pair p q) (by rw [dif_pos e]; exact h) hr
    · have hr' := hr
      simp only [rel] at hr'
      obtain ⟨c1, c2, e, h1, h2⟩ := hr'
      have hc1 := rel_len h1
      split at h
      · obtain ⟨y, h3, h4⟩ := subTy_ok h h1
        refine ⟨y, h3, ?_⟩
        have hw := rel_len h4
        simp at hw
        subst e
        rw [List.drop_append_of_le_length (by omega), List.take_append_of_le_length (by simp; omega)]
        exact h4
      · obtain ⟨y, h3, h4⟩ := subTy_ok h h2
        refine ⟨y, h3, ?_⟩
        subst e
        rw [List.drop_append, List.drop_eq_nil_of_le (by omega), hc1]
        simpa using h4

theorem field?_ok (hT : TOk P T) {t : TypeId} {i f : Nat} {fi : TI} (hf : field? T t i = some (f, fi)) : ∃ (fs : Array Field) (fd : Field) (ti : TI), P.underlying t = some (.struct fs) ∧ fs[i]? = some fd ∧ fd.offset = f ∧ T fd.type = some fi ∧ T t = some ti := by
  unfold field? at hf
  split at hf
  · rename_i ti hti
    split at hf
    · rename_i o ft hfs
      split at hf
      · rename_i fi' hfi
        injection hf with hf
        injection hf with h1 h2
        subst h1 h2
        cases ha : ti.agg with
        | true =>
          obtain ⟨fs, h3, h4, _⟩ := hT.agg t ti hti ha
          obtain ⟨fd, h5, h6, h7⟩ := h4 i o ft hfs
          exact ⟨fs, fd, ti, h3, h5, h6, by rw [h7]; exact hfi, hti⟩
        | false => exact absurd hfs (hT.nof t ti hti ha i o ft)
      · cases hf
    · cases hf
  · cases hf

theorem sz_pos : ∀ t : Ty, 0 < t.sz
  | .int _ => Nat.one_pos
  | .bool => Nat.one_pos
  | .str => Nat.one_pos
  | .list _ => Nat.one_pos
  | .pair a b => by have := sz_pos a; simp [Ty.sz]; omega

theorem run_fieldAt (hT : TOk P T) {t : TypeId} {i f : Nat} {fi : TI} (hf : field? T t i = some (f, fi)) (w : World) (b o : Nat) : (Instr.fieldAt t (.pointer (some ⟨b, o, none⟩)) i).run P w = .ok (.pointer (some ⟨b, o + f, none⟩)) w := by
  obtain ⟨fs, fd, ti, h1, h2, h3, h4, _⟩ := field?_ok hT hf
  have hz := hT.sizeOf h4 w
  have hp := sz_pos fi.ty
  have hne : fi.ty.sz ≠ 0 := by omega
  simp [Instr.fieldAt, run_underlying h1, h2, Instr.sureAddr, fieldPlace, Sem.run_bind, hz, hne, h3, addr_add]

theorem op_fieldAddr {t : TypeId} {x : Operand} {i : Nat} (hT : TOk P T) (h : Rel X σ a w g) (hN : X.N ≤ σ.length) (ho : OpIn X.N ⟨d, .fieldAddr t x i, ty, pos, aft, gd⟩) (hk : opK T env ⟨d, .fieldAddr t x i, ty, pos, aft, gd⟩ σ k = some r) (hK : Nx X σ.length k r K) :
    Oper.wpS P ⟨d, .fieldAddr t x i, ty, pos, aft, gd⟩ a w K := by
  have hx := rd1_ok h hN x (ho.ops x (by simp [Op.operands]))
  simp only [opK] at hk
  cases hf : field? T t i with
  | none => rw [hf] at hk; cases hk
  | some ff =>
  obtain ⟨f, fi⟩ := ff
  rw [hf] at hk
  simp only at hk
  generalize rd1 σ x = l at hx hk
  have run : ∀ b o, a.eval x = .pointer (some ⟨b, o, none⟩) → ∀ w', (execOp a.eval ⟨d, .fieldAddr t x i, ty, pos, aft, gd⟩).run P w' = .ok (.value (.pointer (some ⟨b, o + f, none⟩))) w' := by
    intro b o hv w'
    simp [execOp, hv, run_fieldAt hT hf w' b o]
  cases l with
  | ptr b o => exact resL (l := .ptr b (o + f)) h hN ho (run _ _ hx.1) ⟨rfl, hx.2⟩ rfl hk hK
  | ept p e j o =>
    obtain ⟨h1, gb, n, cap, h2, h3⟩ := hx
    exact resL (l := .ept p e j (o + f)) h hN ho (run _ _ h3) ⟨h1, gb, n, cap, h2, by rw [Nat.add_assoc]⟩ rfl hk hK
  | vpt t' y =>
    simp only at hk
    split at hk
    · rename_i l hl
      obtain ⟨b, o, cs, h1, h2, h3, h4⟩ := hx
      obtain ⟨y', rfl, h6⟩ := subTy_ok hl h3
      refine resL (l := .vpt fi.ty y') h hN ho (run _ _ h1) ⟨b, o + f, _, rfl, h2, h6, fun j u hu => ?_⟩ rfl hk hK
      rw [List.getElem?_take] at hu
      split at hu
      · rw [List.getElem?_drop] at hu
        rw [Nat.add_assoc]
        exact h4 _ u hu
      · cases hu
    · cases hk
  | _ => cases hk


theorem toNat_lt' {i : Int} {n : Nat} (h0 : 0 ≤ i) (h1 : i < n) : i.toNat < n := by omega

theorem asIntOf_run (k : IntKind) (n : Int) (w : World) : (asIntOf (.int k n)).run P w = .ok (k, n) w := rfl

theorem op_indexAddr {t : TypeId} {x ix : Operand} (hT : TOk P T) (h : Rel X σ a w g) (hN : X.N ≤ σ.length) (ho : OpIn X.N ⟨d, .indexAddr t x ix, ty, pos, aft, gd⟩) (hk : opK T env ⟨d, .indexAddr t x ix, ty, pos, aft, gd⟩ σ k = some r) (hK : Nx X σ.length k r K) :
    Oper.wpS P ⟨d, .indexAddr t x ix, ty, pos, aft, gd⟩ a w K := by
  have hx := rd1_ok h hN x (ho.ops x (by simp [Op.operands]))
  have hi := rd1_ok h hN ix (ho.ops ix (by simp [Op.operands]))
  simp only [opK] at hk
  cases hti : T t with
  | none => rw [hti] at hk; cases hk
  | some ti =>
  rw [hti] at hk
  simp only at hk
  split at hk
  · cases hk
  rename_i hag
  have hag : ti.agg = false := by simpa using hag
  have hsc := hT.sca t ti hti hag
  split at hk
  rotate_left
  · cases hk
  rename_i et hty
  rw [hty] at hsc
  cases hei : T ti.el with
  | none => rw [hei] at hk; cases hk
  | some ei =>
  rw [hei] at hk
  simp only at hk
  split at hk
  rotate_left
  · cases hk
  rename_i kk i hil
  rw [hil] at hi
  have hiv := LR_int hi
  have hee : ei.ty = et := hsc.2 ei hei
  have run : ∀ (b o n cap : Nat), a.eval x = .slice (some ⟨b, o, none⟩) n cap → (0 : Int) ≤ i → (i : Int) < (n : Int) →
      ∀ w', (execOp a.eval ⟨d, .indexAddr t x ix, ty, pos, aft, gd⟩).run P w' = .ok (.value (.pointer (some ⟨b, o + Int.toNat i * et.sz, none⟩))) w' := by
    intro b o n cap hv h0 h1 w'
    simp [execOp, Instr.indexAt, hv, hiv, asIntOf, run_underlying hsc.1, h0, h1, hT.sizeOf hei, addr_add, hee]
  generalize rd1 σ x = l at hx hk
  cases l with
  | val t' xs =>
    cases t' with
    | list e =>
      simp only at hk
      split at hk
      rotate_left
      · cases hk
      rename_i he
      subst he
      split at hk
      · rename_i hb
        have hlt := toNat_lt' hb.1 hb.2
        simp only [LR, rel] at hx
        obtain ⟨A, cap, h1, h2, h3⟩ := hx
        injection h1 with h1 _
        have hne : xs ≠ [] := by
          intro e; rw [e] at hlt; exact Nat.not_lt_zero _ hlt
        obtain ⟨b, o, rfl, hS, hcell⟩ := h3.resolve_left hne
        obtain ⟨c, hc, hcell⟩ := hcell (Int.toNat i) (at_ xs i) (by
          simp [at_, List.getD_eq_getElem?_getD, hlt])
        refine resL (l := .vpt e (at_ xs i)) h hN ho (run _ _ _ _ h1 hb.1 hb.2) ⟨b, o + Int.toNat i * e.sz, c, rfl, hS, hc, fun j u hu => ?_⟩ rfl hk hK
        rw [Nat.add_assoc]; exact hcell j u hu
      · cases hk
    | _ => cases hk
  | al p =>
    simp only at hk
    split at hk
    rotate_left
    · cases hk
    rename_i te e xs hp
    split at hk
    rotate_left
    · cases hk
    rename_i he
    subst he
    split at hk
    · rename_i hb
      have hlt := toNat_lt' hb.1 hb.2
      have hown := h.lf p
      rw [hp, ← hx.1] at hown
      rcases ownR_form hown with ⟨_, hz⟩ | ⟨gb, cap, cur, hz, _⟩
      · rw [hz] at hlt; exact absurd hlt (Nat.not_lt_zero _)
      · refine resL (l := .ept p e i 0) h hN ho (run _ _ _ _ hz hb.1 hb.2) ⟨⟨te, xs, hp, hb.1, hb.2⟩, gb, xs.length, cap, by rw [← hx.1]; exact hz, by simp⟩ rfl hk hK
    · cases hk
  | _ => cases hk

end
end Go.Ev
