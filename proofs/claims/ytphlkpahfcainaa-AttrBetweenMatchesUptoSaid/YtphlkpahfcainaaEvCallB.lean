/- Calls, part B: arguments and boxes are gathered. -/
import Derived.Test.YtphlkpahfcainaaEvCallA
namespace Go.Ev
set_option linter.unusedVariables false
set_option linter.unusedSimpArgs false

/-- An argument that was read some steps ago. -/
def ArgW (σ : St) (w : World) (g : Gh) (r : Arg) (v : Value) : Prop :=
  (r.1 = false → ∃ l, r.2 = [l] ∧ LRw σ w g l v) ∧
  (r.1 = true → ∃ cs : List Value, v = .agg cs.toArray ∧ cs.length = r.2.length ∧ ∀ i, LRw σ w g (lget r.2 i) (cs.getD i undef))

theorem ArgW_of {σ : St} {w : World} {g : Gh} {r : Arg} {v : Value} (h : ArgR σ w g r v) : ArgW σ w g r v :=
  ⟨fun hf => by obtain ⟨l, h1, h2⟩ := h.1 hf; exact ⟨l, h1, LRw_of h2⟩, fun hf => by obtain ⟨cs, h1, h2, h3⟩ := h.2.1 hf; exact ⟨cs, h1, h2, fun i => LRw_of (h3 i)⟩⟩

inductive ArgsW (σ : St) (w : World) (g : Gh) : List Arg → List Value → Prop
  | nil : ArgsW σ w g [] []
  | cons {r v rs vs} : ArgW σ w g r v → ArgsW σ w g rs vs → ArgsW σ w g (r :: rs) (v :: vs)

section
variable {X : Ctx} {a : Act} {w : World}

theorem ArgsW_fz {σ σ' : St} {g g' : Gh} (f : Fz X a w σ σ' g g') {as : List Arg} {vs : List Value} (h : ArgsW σ w g as vs) : ArgsW σ' w g' as vs := by
  induction h with
  | nil => exact .nil
  | cons h1 _ ih =>
    refine .cons ⟨fun hf => ?_, fun hf => ?_⟩ ih
    · obtain ⟨l, e1, e2⟩ := h1.1 hf
      exact ⟨l, e1, LRw_mono f.S f.c f.blk f.box e2⟩
    · obtain ⟨cs, e1, e2, e3⟩ := h1.2 hf
      exact ⟨cs, e1, e2, fun i => LRw_mono f.S f.c f.blk f.box (e3 i)⟩

/-- Boxes are told apart. -/
structure MOk (σ : St) (m : List (Nat × Nat)) : Prop where
  box : ∀ b t, (b, t) ∈ m → isBox σ t
  inj : ∀ b1 b2 t, (b1, t) ∈ m → (b2, t) ∈ m → b1 = b2
def Ext (m m' : List (Nat × Nat)) : Prop := ∀ b t, m.lookup b = some t → m'.lookup b = some t
theorem Ext.refl (m : List (Nat × Nat)) : Ext m m := fun _ _ h => h
theorem Ext.trans {m m' m'' : List (Nat × Nat)} (h : Ext m m') (k : Ext m' m'') : Ext m m'' := fun b t e => k b t (h b t e)

theorem lookup_mem {m : List (Nat × Nat)} {b t : Nat} (h : m.lookup b = some t) : (b, t) ∈ m := by
  induction m with
  | nil => cases h
  | cons q m ih =>
    obtain ⟨b', t'⟩ := q
    simp only [List.lookup] at h
    split at h
    · rename_i e
      simp at e
      injection h with h
      subst e h
      simp
    · exact List.mem_cons_of_mem _ (ih h)

theorem lookup_append (m : List (Nat × Nat)) (b t b' : Nat) : (m ++ [(b, t)]).lookup b' = match m.lookup b' with | some u => some u | none => if b' = b then some t else none := by
  induction m with
  | nil =>
    by_cases h : b' = b
    · subst h; simp [List.lookup]
    · have : (b' == b) = false := by simpa using h
      simp [List.lookup, this, h]
  | cons q m ih =>
    obtain ⟨b1, t1⟩ := q
    simp only [List.cons_append, List.lookup]
    split
    · rfl
    · exact ih

theorem bset_ok {σ : St} {b t : Nat} {m m' : List (Nat × Nat)} (h : bset b t m = some m') (hm : MOk σ m) (ht : isBox σ t) : MOk σ m' ∧ Ext m m' ∧ m'.lookup b = some t := by
  unfold bset at h
  split at h
  · rename_i t' hl
    split at h
    · rename_i e
      subst e
      injection h with h
      subst h
      exact ⟨hm, .refl _, hl⟩
    · cases h
  · rename_i hl
    split at h
    · cases h
    · rename_i hany
      injection h with h
      subst h
      have hno : ∀ b', (b', t) ∉ m := fun b' hmem => hany (List.any_eq_true.2 ⟨_, hmem, by simp⟩)
      refine ⟨⟨fun b' t' hmem => ?_, fun b1 b2 t' h1 h2 => ?_⟩, fun b' t' e => ?_, ?_⟩
      · rcases List.mem_append.1 hmem with hmem | hmem
        · exact hm.box _ _ hmem
        · simp at hmem; rw [hmem.2]; exact ht
      · rcases List.mem_append.1 h1 with h1 | h1 <;> rcases List.mem_append.1 h2 with h2 | h2
        · exact hm.inj _ _ _ h1 h2
        · simp at h2; rw [h2.2] at h1; exact absurd h1 (hno _)
        · simp at h1; rw [h1.2] at h2; exact absurd h2 (hno _)
        · simp at h1 h2; rw [h1.1, h2.1]
      · rw [lookup_append, e]
      · rw [lookup_append, hl]; simp

theorem bsetAll_ok {σ : St} : ∀ {bs ts : List Nat} {m m' : List (Nat × Nat)}, bsetAll bs ts m = some m' → MOk σ m → (∀ t ∈ ts, isBox σ t) → MOk σ m' ∧ Ext m m' ∧ bs.map (fun b => m'.lookup b) = ts.map some
  | [], [], m, m', h, hm, _ => by
    simp only [bsetAll, Option.some.injEq] at h
    subst h
    exact ⟨hm, .refl _, rfl⟩
  | [], t :: ts, m, m', h, _, _ => by simp [bsetAll] at h
  | b :: bs, [], m, m', h, _, _ => by simp [bsetAll] at h
  | b :: bs, t :: ts, m, m', h, hm, ht => by
    simp only [bsetAll] at h
    split at h
    rotate_left
    · cases h
    rename_i m1 h1
    obtain ⟨a1, a2, a3⟩ := bset_ok h1 hm (ht t (by simp))
    obtain ⟨b1, b2, b3⟩ := bsetAll_ok h a1 (fun t' ht' => ht t' (by simp [ht']))
    exact ⟨b1, a2.trans b2, by simp [b3, b2 _ _ a3]⟩

theorem MOk.fz {σ σ' : St} {g g' : Gh} (f : Fz X a w σ σ' g g') {m : List (Nat × Nat)} (h : MOk σ m) : MOk σ' m := ⟨fun b t hm => f.box _ (h.box b t hm), h.inj⟩
theorem MOk.fz' {σ σ' : St} {g g' : Gh} (f : Fz X a w σ σ' g g') {m : List (Nat × Nat)} (h : MOk σ' m) : MOk σ m := ⟨fun b t hm => by have := h.box b t hm; unfold isBox at *; rw [f.shp] at this; exact this, h.inj⟩

/-- A plain argument. -/
theorem argV {σ : St} {g : Gh} (h : Rel X σ a w g) {ag : Bool} {ls : List Leaf} {v : Value} (hq : ArgW σ w g (ag, ls) v) {t : Ty} {x : t.den} (hx : implode t (freezeL ls σ).2 = some x) (h1 : ag = false → t.sz = 1) (h2 : ls.length = t.sz) :
    ∃ g' c, Fz X a w σ (freezeL ls σ).1 g g' ∧ rel w g'.S t x c ∧ c.length = t.sz ∧ (ag = true ∧ v = .agg c.toArray ∨ ag = false ∧ c = [v]) := by
  have key : ∃ c : List Value, c.length = ls.length ∧ (ag = true ∧ v = .agg c.toArray ∨ ag = false ∧ c = [v]) ∧ ∀ i, LRw σ w g (lget ls i) (c.getD i undef) := by
    cases ag with
    | false =>
      obtain ⟨l, e1, e2⟩ := hq.1 rfl
      simp only at e1
      subst e1
      exact ⟨[v], rfl, .inr ⟨rfl, rfl⟩, fun i => by
        cases i with
        | zero => exact e2
        | succ i => trivial⟩
    | true =>
      obtain ⟨cs, e1, e2, e3⟩ := hq.2 rfl
      exact ⟨cs, e2, .inl ⟨rfl, e1⟩, e3⟩
  obtain ⟨c, c1, c2, c3⟩ := key
  obtain ⟨g1, f1, z1, z2⟩ := freezeL_ok ls (fun i => c.getD i undef) h c3
  exact ⟨g1, c, f1, implode_ok hx (by omega) (fun i _ => z1 i), by omega, c2⟩

theorem gather_ok : ∀ (ps : List PK) (as : List Arg) (vs : List Value) {σ σ' : St} {g : Gh} {m m' : List (Nat × Nat)} {xs : HL (ps.flatMap PK.lk)}, ps.all PK.ok = true → Rel X σ a w g → ArgsW σ w g as vs → MOk σ m → gather false ps as σ m = some (σ', xs, m') →
    ∃ g' cs, Tk X a w σ σ' g g' (outL (ps.flatMap PK.lk) xs) cs ∧ MOk σ m' ∧ Ext m m' ∧ ∀ bk : Nat → Nat, (∀ b t, m'.lookup b = some t → bk b = g.blk t) → ArgShape bk ps vs cs
  | [], [], vs, σ, σ', g, m, m', xs, hp, h, ha, hm, hg => by
    simp only [gather, Option.some.injEq, Prod.mk.injEq] at hg
    obtain ⟨rfl, rfl, rfl⟩ := hg
    cases ha
    exact ⟨g, [], .nil h, hm, .refl _, fun bk _ => ⟨rfl, rfl⟩⟩
  | .v ag t :: ps, (ag', ls) :: as, vs, σ, σ', g, m, m', xs, hp, h, ha, hm, hg => by
    cases ha with
    | @cons _ v _ vs h1 h2 =>
    simp only [List.all_cons, Bool.and_eq_true] at hp
    simp only [gather] at hg
    split at hg
    rotate_left
    · cases hg
    rename_i hc
    obtain ⟨rfl, hl⟩ := hc
    split at hg
    rotate_left
    · cases hg
    rename_i x hx
    split at hg
    rotate_left
    · cases hg
    rename_i σ2 xs2 m2 hg2
    simp only [Option.some.injEq, Prod.mk.injEq] at hg
    obtain ⟨rfl, rfl, rfl⟩ := hg
    obtain ⟨g1, c, f1, r1, l1, s1⟩ := argV h h1 hx (fun e => by subst e; simpa [PK.ok] using hp.1) hl
    obtain ⟨g2, cs, t2, m2', e2, s2⟩ := gather_ok ps as vs hp.2 f1.rel (ArgsW_fz f1 h2) (hm.fz f1) hg2
    refine ⟨g2, c ++ cs, (Tk.val f1 r1).append t2, m2'.fz' f1, e2, fun bk hbk => ?_⟩
    exact ⟨v, vs, c, cs, rfl, rfl, l1, s1, s2 bk (fun b t e => by rw [f1.blk]; exact hbk b t e)⟩
  | .o te e :: ps, (ag', ls) :: as, vs, σ, σ', g, m, m', xs, hp, h, ha, hm, hg => by
    cases ha with
    | @cons _ v _ vs h1 h2 =>
    simp only [List.all_cons, Bool.and_eq_true] at hp
    simp only [gather] at hg
    split at hg
    rotate_left
    · cases hg
    rename_i hag
    subst hag
    split at hg
    rotate_left
    · cases hg
    rename_i σ1 x hx
    split at hg
    rotate_left
    · cases hg
    rename_i σ2 xs2 m2 hg2
    simp only [Option.some.injEq, Prod.mk.injEq] at hg
    obtain ⟨rfl, rfl, rfl⟩ := hg
    obtain ⟨l, e1, e2⟩ := h1.1 rfl
    simp only at e1
    subst e1
    have t1 := takeOwn_ok h hx e2
    obtain ⟨g2, cs, t2, m2', e2, s2⟩ := gather_ok ps as vs hp.2 t1.fz.rel (ArgsW_fz t1.fz h2) (hm.fz t1.fz) hg2
    refine ⟨g2, v :: cs, t1.append t2, m2'.fz' t1.fz, e2, fun bk hbk => ?_⟩
    exact ⟨v, vs, cs, rfl, rfl, s2 bk hbk⟩
  | .p b :: ps, (ag', ls) :: as, vs, σ, σ', g, m, m', xs, hp, h, ha, hm, hg => by
    cases ha with
    | @cons _ v _ vs h1 h2 =>
    simp only [List.all_cons, Bool.and_eq_true] at hp
    simp only [gather] at hg
    split at hg
    rotate_left
    · cases hg
    rename_i hag
    subst hag
    obtain ⟨l, e1, e2⟩ := h1.1 rfl
    simp only at e1
    subst e1
    simp only [lget] at hg
    split at hg
    rotate_left
    · cases hg
    rename_i t
    split at hg
    rotate_left
    · cases hg
    rename_i m1 hm1
    obtain ⟨hv, hb⟩ := e2
    obtain ⟨a1, a2, a3⟩ := bset_ok hm1 hm hb
    obtain ⟨g2, cs, t2, m2', e2, s2⟩ := gather_ok ps as vs hp.2 h h2 a1 hg
    refine ⟨g2, cs, t2, m2', a2.trans e2, fun bk hbk => ⟨vs, ?_, s2 bk hbk⟩⟩
    rw [hv, hbk b t (e2 _ _ a3)]
  | .f q bs :: ps, (ag', ls) :: as, vs, σ, σ', g, m, m', xs, hp, h, ha, hm, hg => by
    cases ha with
    | @cons _ v _ vs h1 h2 =>
    simp only [List.all_cons, Bool.and_eq_true] at hp
    simp only [gather] at hg
    split at hg
    rotate_left
    · cases hg
    rename_i hag
    subst hag
    obtain ⟨l, e1, e2⟩ := h1.1 rfl
    simp only at e1
    subst e1
    simp only [lget] at hg
    split at hg
    rotate_left
    · cases hg
    rename_i q' ts
    split at hg
    rotate_left
    · cases hg
    rename_i hq
    subst hq
    split at hg
    rotate_left
    · cases hg
    rename_i m1 hm1
    obtain ⟨hv, hb⟩ := e2
    obtain ⟨a1, a2, a3⟩ := bsetAll_ok hm1 hm hb
    obtain ⟨g2, cs, t2, m2', e2, s2⟩ := gather_ok ps as vs hp.2 h h2 a1 hg
    refine ⟨g2, cs, t2, m2', a2.trans e2, fun bk hbk => ⟨vs, ?_, s2 bk hbk⟩⟩
    rw [hv]
    congr 3
    have key : ∀ (bs ts : List Nat), bs.map (fun b => m1.lookup b) = ts.map some → (ts.map fun b => Value.pointer (some ⟨g.blk b, 0, none⟩)) = bs.map fun b => Value.pointer (some ⟨bk b, 0, none⟩) := by
      intro bs
      induction bs with
      | nil => intro ts ht; cases ts with
        | nil => rfl
        | cons => cases ht
      | cons b bs ih => intro ts ht; cases ts with
        | nil => cases ht
        | cons t ts =>
          simp only [List.map_cons, List.cons.injEq] at ht ⊢
          exact ⟨by rw [hbk b t (e2 _ _ ht.1)], ih ts ht.2⟩
    exact key bs ts a3
  | [], _ :: _, vs, σ, σ', g, m, m', xs, hp, h, ha, hm, hg => by simp [gather] at hg
  | .v _ _ :: ps, [], vs, σ, σ', g, m, m', xs, hp, h, ha, hm, hg => by simp [gather] at hg
  | .o _ _ :: ps, [], vs, σ, σ', g, m, m', xs, hp, h, ha, hm, hg => by simp [gather] at hg
  | .p _ :: ps, [], vs, σ, σ', g, m, m', xs, hp, h, ha, hm, hg => by simp [gather] at hg
  | .f _ _ :: ps, [], vs, σ, σ', g, m, m', xs, hp, h, ha, hm, hg => by simp [gather] at hg

/-- Arguments that are lent: the state stays as it is. -/
theorem gather_lend : ∀ (ps : List PK) (as : List Arg) (vs : List Value) {σ σ' : St} {g : Gh} {m m' : List (Nat × Nat)} {xs : HL (ps.flatMap PK.lk)}, ps.all PK.ok = true → ps.all (fun p => match p with | .v .. => true | _ => false) = true → Rel X σ a w g → ArgsW σ w g as vs → gather true ps as σ m = some (σ', xs, m') →
    σ' = σ ∧ ∃ (S : Nat → Prop) (cs : List Value), (∀ b, S b → b < w.heap.size) ∧ cs.length = (outL (ps.flatMap PK.lk) xs).length ∧ (∀ j, LO w S (lget (outL (ps.flatMap PK.lk) xs) j) (cs.getD j undef)) ∧ (∀ j, (lget (outL (ps.flatMap PK.lk) xs) j).isOwn = false) ∧ ∀ bk : Nat → Nat, ArgShape bk ps vs cs
  | [], [], vs, σ, σ', g, m, m', xs, hp, hv, h, ha, hg => by
    simp only [gather, Option.some.injEq, Prod.mk.injEq] at hg
    obtain ⟨rfl, rfl, rfl⟩ := hg
    cases ha
    exact ⟨rfl, fun _ => False, [], fun _ h => h.elim, rfl, fun j => trivial, fun j => rfl, fun bk => ⟨rfl, rfl⟩⟩
  | .v ag t :: ps, (ag', ls) :: as, vs, σ, σ', g, m, m', xs, hp, hv, h, ha, hg => by
    cases ha with
    | @cons _ v _ vs h1 h2 =>
    simp only [List.all_cons, Bool.and_eq_true] at hp hv
    simp only [gather] at hg
    split at hg
    rotate_left
    · cases hg
    rename_i hc
    obtain ⟨rfl, hl⟩ := hc
    split at hg
    rotate_left
    · cases hg
    rename_i x hx
    split at hg
    rotate_left
    · cases hg
    rename_i σ2 xs2 m2 hg2
    simp only [Option.some.injEq, Prod.mk.injEq] at hg
    obtain ⟨rfl, rfl, rfl⟩ := hg
    obtain ⟨g1, c, f1, r1, l1, s1⟩ := argV h h1 hx (fun e => by subst e; simpa [PK.ok] using hp.1) hl
    obtain ⟨e0, S, cs, c1, c2, c3, c4, c5⟩ := gather_lend ps as vs hp.2 hv.2 h h2 hg2
    refine ⟨e0, fun b => g1.S b ∨ S b, c ++ cs, fun b hb => hb.elim (fun hb => (f1.rel.sb b hb).1) (c1 b), ?_, fun j => ?_, fun j => ?_, fun bk => ⟨v, vs, c, cs, rfl, rfl, l1, s1, c5 bk⟩⟩
    · show _ = (explode t x ++ outL (ps.flatMap PK.lk) xs2).length
      rw [List.length_append, List.length_append, c2, length_explode, l1]
    · show LO w _ (lget (explode t x ++ outL (ps.flatMap PK.lk) xs2) j) _
      rw [lget_append, getD_append, length_explode, l1]
      split
      · exact LO_mono (fun b hb => .inl hb) (fun _ _ => rfl) (fun _ _ _ => rfl) (LO_explode r1 j)
      · exact LO_mono (fun b hb => .inr hb) (fun _ _ => rfl) (fun _ _ _ => rfl) (c3 _)
    · show (lget (explode t x ++ outL (ps.flatMap PK.lk) xs2) j).isOwn = false
      rw [lget_append]
      split
      · exact explode_own _ _ _
      · exact c4 _
  | .o _ _ :: ps, as, vs, σ, σ', g, m, m', xs, hp, hv, h, ha, hg => by simp at hv
  | .p _ :: ps, as, vs, σ, σ', g, m, m', xs, hp, hv, h, ha, hg => by simp at hv
  | .f _ _ :: ps, as, vs, σ, σ', g, m, m', xs, hp, hv, h, ha, hg => by simp at hv
  | [], _ :: _, vs, σ, σ', g, m, m', xs, hp, hv, h, ha, hg => by simp [gather] at hg
  | .v _ _ :: ps, [], vs, σ, σ', g, m, m', xs, hp, hv, h, ha, hg => by simp [gather] at hg

/-! ### Boxes -/

/-- A box's leaves are taken. -/
theorem takeBox_ok (t : Nat) : ∀ (ks : List LK) (i : Nat) {σ σ' : St} {g : Gh} {xs : HL ks}, (∀ k ∈ ks, LK.one k = true) → Rel X σ a w g → takeBox t ks i σ = some (σ', xs) →
    ∃ g', Tk X a w σ σ' g g' (outL ks xs) ((List.range ks.length).map fun j => g.c ⟨t, i + j⟩) ∧ ∀ j, (j < i → (gl σ ⟨t, j⟩).isOwn = false) → j < i + ks.length → (gl σ' ⟨t, j⟩).isOwn = false
  | [], i, σ, σ', g, xs, h1, h, ht => by
    simp only [takeBox, Option.some.injEq, Prod.mk.injEq] at ht
    obtain ⟨rfl, _⟩ := ht
    exact ⟨g, .nil h, fun j hj hi => hj (by simpa using hi)⟩
  | k :: ks, i, σ, σ', g, xs, h1, h, ht => by
    have key : ∃ σ1 g1 l1 xs2, Tk X a w σ σ1 g g1 l1 [g.c ⟨t, i⟩] ∧ outL (k :: ks) xs = l1 ++ outL ks xs2 ∧ takeBox t ks (i + 1) σ1 = some (σ', xs2) ∧ (gl σ1 ⟨t, i⟩).isOwn = false := by
      have hview := LR_view h t i
      have hlv : lget (view t i (ltake 1 (ldrop i (gs σ t).leaves))) 0 = match lget (gs σ t).leaves i with | .own .. => .al ⟨t, i⟩ | l => l := by
        rw [lget_view, lget_ltake, lget_ldrop]
        simp only [Nat.add_zero, Nat.lt_add_one, if_true, Nat.zero_lt_one]
        cases lget (gs σ t).leaves i <;> rfl
      cases k with
      | fr k =>
        simp only [takeBox] at ht
        split at ht
        rotate_left
        · cases ht
        rename_i x hx
        split at ht
        rotate_left
        · cases ht
        rename_i σ2 xs2 hx2
        simp only [Option.some.injEq, Prod.mk.injEq] at ht
        obtain ⟨rfl, rfl⟩ := ht
        have hk : k.sz = 1 := by simpa [LK.one] using h1 (.fr k) (by simp)
        have hl : (ltake 1 (view t i (ltake 1 (ldrop i (gs σ t).leaves)))).length ≤ 1 := by rw [length_ltake]; omega
        have hlw : ∀ j, LRw σ w g (lget (ltake 1 (view t i (ltake 1 (ldrop i (gs σ t).leaves)))) j) ([g.c ⟨t, i⟩].getD j undef) := fun j => by
          cases j with
          | zero =>
            rw [lget_ltake, if_pos (by omega), hlv]
            exact LRw_of hview
          | succ j => rw [lget_of_le (by omega)]; trivial
        obtain ⟨g1, f1, z1, _⟩ := freezeL_ok _ (fun j => [g.c ⟨t, i⟩].getD j undef) h hlw
        have hr : rel w g1.S k x [g.c ⟨t, i⟩] := as_ok hx (z1 0)
        refine ⟨_, g1, explode k x, xs2, Tk.val f1 hr, rfl, hx2, ?_⟩
        cases ho : (gl (freezeL (ltake 1 (view t i (ltake 1 (ldrop i (gs σ t).leaves)))) σ).1 ⟨t, i⟩).isOwn with
        | false => rfl
        | true =>
          exfalso
          obtain ⟨te, e, ys, hy⟩ := isOwn_iff.1 ho
          have hy0 := f1.own _ _ _ _ hy
          have hg0 : lget (gs σ t).leaves i = .own te e ys := hy0
          have hv0 : ltake 1 (view t i (ltake 1 (ldrop i (gs σ t).leaves))) = [.al ⟨t, i⟩] := by
            have hi : i < (gs σ t).leaves.length := by
              apply Nat.lt_of_not_le; intro hn; rw [lget_of_le hn] at hg0; cases hg0
            have hlen : (ltake 1 (view t i (ltake 1 (ldrop i (gs σ t).leaves)))).length = 1 := by
              rw [length_ltake, length_view, length_ltake, length_ldrop]; omega
            obtain ⟨l, hl⟩ := List.length_eq_one_iff.1 hlen
            have : lget (ltake 1 (view t i (ltake 1 (ldrop i (gs σ t).leaves)))) 0 = .al ⟨t, i⟩ := by
              rw [lget_ltake, if_pos (by omega), hlv, hg0]
            rw [hl] at this ⊢
            simp only [lget] at this
            rw [this]
          rw [hv0] at hy
          simp only [freezeL] at hy
          rw [frz_gl hy0] at hy
          simp at hy
      | ow te e =>
        simp only [takeBox] at ht
        split at ht
        rotate_left
        · cases ht
        rename_i σ1 x hx
        split at ht
        rotate_left
        · cases ht
        rename_i σ2 xs2 hx2
        simp only [Option.some.injEq, Prod.mk.injEq] at ht
        obtain ⟨rfl, rfl⟩ := ht
        rw [hlv] at hx
        have t1 := takeOwn_ok h hx (LRw_of hview)
        refine ⟨σ1, g, [.own te e x], xs2, t1, rfl, hx2, ?_⟩
        cases ho : (gl σ1 ⟨t, i⟩).isOwn with
        | false => rfl
        | true =>
          exfalso
          obtain ⟨te', e', ys, hy⟩ := isOwn_iff.1 ho
          have hy0 := t1.fz.own _ _ _ _ hy
          have hg0 : lget (gs σ t).leaves i = .own te' e' ys := hy0
          rw [hg0] at hx
          simp only [takeOwn] at hx
          rw [hy0] at hx
          simp only at hx
          split at hx
          rotate_left
          · cases hx
          split at hx
          rotate_left
          · cases hx
          simp only [Option.some.injEq, Prod.mk.injEq] at hx
          obtain ⟨rfl, _⟩ := hx
          rw [gl_sl _ _ (vp_mapL rfl (vp_of_ne (by rw [hy0]; simp)))] at hy
          simp at hy
    obtain ⟨σ1, g1, l1, xs2, t1, e1, hx2, o1⟩ := key
    obtain ⟨g2, t2, o2⟩ := takeBox_ok t ks (i + 1) (fun k hk => h1 k (by simp [hk])) t1.fz.rel hx2
    refine ⟨g2, ?_, fun j hj hi => o2 j (fun hj2 => ?_) (by simp at hi; omega)⟩
    · rw [e1]
      have := t1.append t2
      have e3 : ([g.c ⟨t, i⟩] ++ (List.range ks.length).map fun j => g1.c ⟨t, i + 1 + j⟩) = (List.range (k :: ks).length).map fun j => g.c ⟨t, i + j⟩ := by
        rw [t1.fz.c, List.length_cons, List.range_succ_eq_map]
        simp [Function.comp_def, Nat.add_assoc, Nat.add_comm, Nat.add_left_comm]
      rw [e3] at this
      exact this
    · by_cases e : j = i
      · subst e; exact o1
      · cases ho : (gl σ1 ⟨t, j⟩).isOwn with
        | false => rfl
        | true =>
          obtain ⟨te', e', ys, hy⟩ := isOwn_iff.1 ho
          have := hj (by omega)
          rw [t1.fz.own _ _ _ _ hy] at this
          cases this

end
end Go.Ev
