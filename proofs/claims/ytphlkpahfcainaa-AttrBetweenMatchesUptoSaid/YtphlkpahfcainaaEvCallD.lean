/- Calls, part D: the call. -/
import Derived.Test.YtphlkpahfcainaaEvCallC
namespace Go.Ev
set_option linter.unusedVariables false
set_option linter.unusedSimpArgs false

theorem tk_of {m : List (Nat × Nat)} {j t : Nat} (h : m.lookup j = some t) : tk m j = t := by simp [tk, h]

theorem outR_len : ∀ (rs : List (Bool × List LK)) (x : BL (rs.map (·.2))), ((outR rs x).1.map (·.2)).sum = (outR rs x).2.length
  | [], _ => rfl
  | (a, ks) :: rs, x => by
    have := outR_len rs x.2
    simp only [outR, List.map_cons, List.sum_cons, List.length_append]
    rw [this]

theorem outSlot_box (rs : List (Bool × List LK)) (x : BL (rs.map (·.2))) : (outSlot rs x).shp.isBox = false := by
  unfold outSlot
  split <;> rfl
theorem outSlot_leaves (rs : List (Bool × List LK)) (x : BL (rs.map (·.2))) : (outSlot rs x).leaves = (outR rs x).2 := by
  unfold outSlot
  split
  · rename_i h; rw [h]; rfl
  · rename_i h; rw [h]; rfl

theorem plain_explode : ∀ (t : Ty) (x : t.den), LK.plain (.fr t) = true → ∀ i, ∀ (w w' : World) (S S' : Nat → Prop) v, LO w S (lget (explode t x) i) v → LO w' S' (lget (explode t x) i) v
  | .int k, x, _, i, w, w', S, S', v, h => by cases i <;> exact h
  | .bool, x, _, i, w, w', S, S', v, h => by cases i <;> exact h
  | .str, x, _, i, w, w', S, S', v, h => by cases i <;> exact h
  | .list e, x, hp, i, w, w', S, S', v, h => by simp [LK.plain, Ty.plain] at hp
  | .pair a b, x, hp, i, w, w', S, S', v, h => by
    simp only [LK.plain, Ty.plain, Bool.and_eq_true] at hp
    simp only [explode] at h ⊢
    rw [lget_append] at h ⊢
    split at h
    · rename_i hi; rw [if_pos hi]; exact plain_explode a x.1 hp.1 i w w' S S' v h
    · rename_i hi; rw [if_neg hi]; exact plain_explode b x.2 hp.2 _ w w' S S' v h

theorem plain_outL : ∀ (ks : List LK) (x : HL ks), ks.all LK.plain = true → ∀ i, (∀ (w w' : World) (S S' : Nat → Prop) v, LO w S (lget (outL ks x) i) v → LO w' S' (lget (outL ks x) i) v) ∧ (lget (outL ks x) i).isOwn = false
  | [], x, _, i => ⟨fun _ _ _ _ _ h => h, rfl⟩
  | .fr t :: ks, x, hp, i => by
    simp only [List.all_cons, Bool.and_eq_true] at hp
    have ih := plain_outL ks x.2 hp.2
    simp only [outL]
    rw [lget_append]
    split
    · exact ⟨fun w w' S S' v h => plain_explode t x.1 hp.1 i w w' S S' v h, explode_own _ _ _⟩
    · exact ih _
  | .ow te e :: ks, x, hp, i => by simp [LK.plain, Ty.plain] at hp

theorem plain_outR : ∀ (rs : List (Bool × List LK)) (x : BL (rs.map (·.2))), rs.all (fun r => r.2.all LK.plain) = true → ∀ i, (∀ (w w' : World) (S S' : Nat → Prop) v, LO w S (lget (outR rs x).2 i) v → LO w' S' (lget (outR rs x).2 i) v) ∧ (lget (outR rs x).2 i).isOwn = false
  | [], x, _, i => ⟨fun _ _ _ _ _ h => h, rfl⟩
  | (a, ks) :: rs, x, hp, i => by
    simp only [List.all_cons, Bool.and_eq_true] at hp
    have ih := plain_outR rs x.2 hp.2
    simp only [outR]
    rw [lget_append]
    split
    · exact plain_outL ks x.1 hp.1 i
    · exact ih _

/-- What the functions' table tells is right. -/
def EnvOk (P : Program) (env : Env) : Prop := ∀ q ∈ env, Sound P q.1 q.2

theorem findF_ok {P : Program} {f : FuncId} {as : List Arg} {F : Fun} : ∀ {env : Env}, EnvOk P env → findF f as env = some F → Sound P f F
  | [], _, h => by cases h
  | (q, G) :: env, he, h => by
    simp only [findF] at h
    split at h
    · rename_i hc
      injection h with h
      subst h
      have := he (q, G) (by simp)
      rw [hc.1] at this
      exact this
    · exact findF_ok (fun q hq => he q (by simp [hq])) h

section
variable {P : Program} {T : TypeId → Option TI} {env : Env} {X : Ctx} {σ : St} {a : Act} {w : World} {g : Gh} {A : Type} {r : A} {k : St → Option A} {K : Act → World → Prop} {Q : Exit → Act → World → Prop}
  {d : Option Tmp} {ty : TypeId} {pos : String} {aft : Array Edge} {gd : Option (Nat × Bool)}

/-- What is handed over, out of the state. -/
theorem hand_ok {σ1 σ2 : St} {g1 : Gh} {bs : List (List LK)} {ls : List Leaf} {ys : BL bs} {cs : List Value} {m : List (Nat × Nat)} (h : Rel X σ a w g) (t1 : Tk X a w σ σ1 g g1 ls cs) (hm : MOk σ m) (h1 : ∀ ks ∈ bs, ∀ k ∈ ks, LK.one k = true)
    (ht : takeBoxes m bs 0 σ1 = some (σ2, ys)) :
    ∃ g2, Fz X a w σ σ2 g g2 ∧ Hand w g2.S ls cs bs.length (boxLs bs ys) (fun j => cellsL g (tk m j) (boxLs bs ys j).length) (fun j => g.blk (tk m j)) ∧
      (∀ j, j < bs.length → m.lookup j = some (tk m j) ∧ ∀ q, (gl σ2 ⟨tk m j, q⟩).isOwn = false) ∧
      (∀ o b, ob σ2 g2 o = some b → (∀ j, j < bs.length → o ≠ .inl (tk m j)) → ¬ ∃ o', pob ls cs bs.length (boxLs bs ys) (fun j => cellsL g (tk m j) (boxLs bs ys j).length) (fun j => g.blk (tk m j)) o' = some b) ∧
      (∀ o' b, pob ls cs bs.length (boxLs bs ys) (fun j => cellsL g (tk m j) (boxLs bs ys j).length) (fun j => g.blk (tk m j)) o' = some b → (∃ o, ob σ g o = some b) ∧ ((∃ o, ob σ2 g2 o = some b) → ∃ j, j < bs.length ∧ b = g.blk (tk m j))) := by
  obtain ⟨g2, f2, a2, b2, c2⟩ := takeBoxes_ok bs 0 h1 t1.fz.rel ht
  simp only [Nat.zero_add] at a2 b2 c2
  have f := t1.fz.trans f2
  have hbox : ∀ j, j < bs.length → isBox σ (tk m j) := fun j hj => hm.box j _ (lookup_mem (a2 j hj).1)
  have hleaf : ∀ j q b, own1 (boxLs bs ys j) (cellsL g (tk m j) (boxLs bs ys j).length) q = some b → (lget (boxLs bs ys j) q).isOwn = true ∧ (g1.c ⟨tk m j, q⟩).ownBlock = some b := fun j q b hb => by
    rw [t1.fz.c]; exact own1_cells hb
  -- each block handed over was owned
  have was : ∀ o' b, pob ls cs bs.length (boxLs bs ys) (fun j => cellsL g (tk m j) (boxLs bs ys j).length) (fun j => g.blk (tk m j)) o' = some b →
      (∃ o, ob σ g o = some b) ∧ ((∃ o, ob σ2 g2 o = some b) → ∃ j, j < bs.length ∧ b = g.blk (tk m j)) ∧ ¬ g2.S b := by
    intro o' b hb
    cases o' with
    | arg j =>
      obtain ⟨⟨p, hp⟩, p2, p3⟩ := t1.own j b hb
      refine ⟨⟨_, hp⟩, fun ⟨o, ho⟩ => absurd (f2.ob ho) (p2 o), fun hs => ?_⟩
      rcases f2.new b hs with hs | ⟨p, hs⟩
      · exact p3 hs
      · exact p2 _ hs
    | box j =>
      simp only [pob] at hb
      split at hb
      · rename_i hj
        injection hb with hb
        subst hb
        refine ⟨⟨_, box_blk (hbox j hj)⟩, fun _ => ⟨j, hj, rfl⟩, ?_⟩
        have : ob σ2 g2 (.inl (tk m j)) = some (g.blk (tk m j)) := by
          rw [← f.blk]; exact box_blk (f.box _ (hbox j hj))
        exact (f.rel.fr _ _ this).1
      · cases hb
    | leaf j q =>
      simp only [pob] at hb
      split at hb
      · rename_i hj
        obtain ⟨l1, l2⟩ := hleaf j q b hb
        obtain ⟨⟨p, hp⟩, p2, p3⟩ := b2 j q b hj l1 l2
        exact ⟨⟨_, t1.fz.ob hp⟩, fun ⟨o, ho⟩ => absurd ho (p2 o), p3⟩
      · cases hb
  refine ⟨g2, f, ⟨t1.len, fun j => ?_, fun j hj => ?_, fun o1 o2 b e1 e2 => ?_, fun o b hb => ?_, fun b hb => (f.rel.sb b hb).1⟩, fun j hj => ⟨(a2 j hj).1, (a2 j hj).2.2.2⟩, fun o b hb hne => ?_, fun o' b hb => ⟨(was o' b hb).1, (was o' b hb).2.1⟩⟩
  · exact LO_mono f2.S (fun _ _ => rfl) (fun _ _ _ => rfl) (t1.rel j)
  · obtain ⟨q1, q2, q3, q4⟩ := a2 j hj
    have hsh := h.sh (tk m j) (isBox_lt (hbox j hj))
    have hlen : (boxLs bs ys j).length = (gs σ (tk m j)).leaves.length := by rw [q2, leaves_len, t1.fz.shp, ← leaves_len]
    refine ⟨?_, by simp, fun q => ?_⟩
    · have hb := hbox j hj
      rw [hlen]
      unfold isBox at hb
      rw [leaves_len]
      revert hsh hb
      cases (gs σ (tk m j)).shp with
      | cs ag n => intro _ hb; cases hb
      | tup ks n => intro _ hb; cases hb
      | box n => intro hsh _; exact hsh.2
    · by_cases hq : q < (boxLs bs ys j).length
      · rw [cellsL_getD _ _ _ _ hq]
        have := q3 q
        rw [t1.fz.c] at this
        exact this
      · rw [lget_of_le (by omega)]; trivial
  · -- told apart
    have cross : ∀ j b, own1 ls cs j = some b → (∀ i q, i < bs.length → own1 (boxLs bs ys i) (cellsL g (tk m i) (boxLs bs ys i).length) q ≠ some b) ∧ ∀ i, i < bs.length → g.blk (tk m i) ≠ b := by
      intro j b hb
      obtain ⟨⟨p, hp⟩, p2, p3⟩ := t1.own j b hb
      refine ⟨fun i q hi e => ?_, fun i hi e => ?_⟩
      · obtain ⟨l1, l2⟩ := hleaf i q b e
        obtain ⟨⟨p, hp⟩, _⟩ := b2 i q b hi l1 l2
        exact p2 _ hp
      · have := box_blk (g := g) (hbox i hi)
        rw [e] at this
        have := h.inj _ _ _ this hp
        cases this
    have cross2 : ∀ i q b, i < bs.length → own1 (boxLs bs ys i) (cellsL g (tk m i) (boxLs bs ys i).length) q = some b → ∀ i', i' < bs.length → g.blk (tk m i') ≠ b := by
      intro i q b hi e i' hi' e2
      obtain ⟨l1, l2⟩ := hleaf i q b e
      obtain ⟨⟨p, hp⟩, _⟩ := b2 i q b hi l1 l2
      have := box_blk (g := g) (hbox i' hi')
      rw [e2] at this
      have := h.inj _ _ _ this (t1.fz.ob hp)
      cases this
    cases o1 with
    | arg j1 =>
      have e1 : own1 ls cs j1 = some b := e1
      obtain ⟨x1, x2⟩ := cross j1 b e1
      cases o2 with
      | arg j2 => rw [t1.inj j1 j2 b e1 e2]
      | box i =>
        simp only [pob] at e2
        split at e2
        · rename_i hi; injection e2 with e2; exact absurd e2 (x2 i hi)
        · cases e2
      | leaf i q =>
        simp only [pob] at e2
        split at e2
        · rename_i hi; exact absurd e2 (x1 i q hi)
        · cases e2
    | box i1 =>
      simp only [pob] at e1
      split at e1
      rotate_left
      · cases e1
      rename_i hi1
      injection e1 with e1
      cases o2 with
      | arg j2 =>
        have e2 : own1 ls cs j2 = some b := e2
        exact absurd e1 ((cross j2 b e2).2 i1 hi1)
      | box i2 =>
        simp only [pob] at e2
        split at e2
        rotate_left
        · cases e2
        rename_i hi2
        injection e2 with e2
        have b1 := box_blk (g := g) (hbox i1 hi1)
        have b2 := box_blk (g := g) (hbox i2 hi2)
        rw [e1] at b1
        rw [e2] at b2
        have := h.inj _ _ _ b1 b2
        injection this with this
        have l1 := lookup_mem (a2 i1 hi1).1
        have l2 := lookup_mem (a2 i2 hi2).1
        rw [this] at l1
        rw [hm.inj _ _ _ l1 l2]
      | leaf i q =>
        simp only [pob] at e2
        split at e2
        · rename_i hi; exact absurd e1 (cross2 i q b hi e2 i1 hi1)
        · cases e2
    | leaf i1 q1 =>
      simp only [pob] at e1
      split at e1
      rotate_left
      · cases e1
      rename_i hi1
      cases o2 with
      | arg j2 =>
        have e2 : own1 ls cs j2 = some b := e2
        exact absurd e1 ((cross j2 b e2).1 i1 q1 hi1)
      | box i2 =>
        simp only [pob] at e2
        split at e2
        · rename_i hi; injection e2 with e2; exact absurd e2 (cross2 i1 q1 b hi1 e1 i2 hi)
        · cases e2
      | leaf i2 q2 =>
        simp only [pob] at e2
        split at e2
        rotate_left
        · cases e2
        rename_i hi2
        obtain ⟨l1, l2⟩ := hleaf i1 q1 b e1
        obtain ⟨k1, k2⟩ := hleaf i2 q2 b e2
        obtain ⟨r1, r2⟩ := c2 i1 q1 i2 q2 b hi1 hi2 l1 l2 k1 k2
        rw [r1, r2]
  · obtain ⟨⟨o', ho'⟩, _, p3⟩ := was o b hb
    exact ⟨p3, (h.fr _ _ ho').2.1⟩
  · rintro ⟨o', ho'⟩
    obtain ⟨_, p2, _⟩ := was o' b ho'
    obtain ⟨j, hj, rfl⟩ := p2 ⟨o, hb⟩
    have : ob σ2 g2 (.inl (tk m j)) = some (g.blk (tk m j)) := by
      rw [← f.blk]; exact box_blk (f.box _ (hbox j hj))
    exact hne j hj (f.rel.inj _ _ _ hb this)

end
end Go.Ev
