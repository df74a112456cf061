/- Calls are sound. -/
import Derived.Test.YtpmeeopafdgbpaaDoorEvMc
namespace Go.Ev
set_option linter.unusedVariables false
set_option linter.unusedSimpArgs false
/-- What a leaf tells that is handed over. -/
def LO (w : World) (S : Nat → Prop) : Leaf → Value → Prop
  | .val t x, v => rel w S t x [v]
  | .own te e xs, v => ownR w S te e xs v
  | .und, _ => True
  | _, _ => False
theorem LO_LR {σ : St} {w : World} {g : Gh} {l : Leaf} {v : Value} (h : LO w g.S l v) : LR σ w g l v := by
  cases l with
  | val t x => exact h
  | own te e xs => exact h
  | und => trivial
  | _ => exact h.elim
theorem LO_mono {w w' : World} {S S' : Nat → Prop} (hS : ∀ b, S b → S' b) (hw : ∀ b, S b → w'.heap[b]? = w.heap[b]?) {l : Leaf} {v : Value} (ho : l.isOwn = true → ∀ b, v.ownBlock = some b → w'.heap[b]? = w.heap[b]?) (h : LO w S l v) : LO w' S' l v := by
  cases l with
  | val t x => exact rel_mono hS hw h
  | own te e xs => exact ownR_mono hS hw (ho rfl) h
  | und => trivial
  | _ => exact h.elim
theorem LO_explode {w : World} {S : Nat → Prop} : ∀ {t : Ty} {x : t.den} {cs : List Value}, rel w S t x cs → ∀ i, LO w S (lget (explode t x) i) (cs.getD i undef)
  | .int k, x, cs, h, i => by
    simp only [rel] at h; subst h
    cases i <;> first | rfl | trivial
  | .bool, x, cs, h, i => by
    simp only [rel] at h; subst h
    cases i <;> first | rfl | trivial
  | .str, x, cs, h, i => by
    simp only [rel] at h; subst h
    cases i <;> first | rfl | trivial
  | .list e, x, cs, h, i => by
    have hl := rel_len h
    obtain ⟨v, rfl⟩ := List.length_eq_one_iff.1 (show cs.length = 1 from hl)
    cases i with
    | zero => exact h
    | succ i => trivial
  | .pair a b, x, cs, h, i => by
    simp only [rel] at h
    obtain ⟨c1, c2, rfl, h1, h2⟩ := h
    simp only [explode]
    rw [lget_append, getD_append, length_explode, rel_len h1]
    split
    · exact LO_explode h1 i
    · exact LO_explode h2 _
/-- The block that leaf `j` owns. -/
def own1 (ls : List Leaf) (cs : List Value) (j : Nat) : Option Nat := if (lget ls j).isOwn then (cs.getD j undef).ownBlock else none
theorem own1_lt {ls : List Leaf} {cs : List Value} {j b : Nat} (h : own1 ls cs j = some b) : j < ls.length := by
  apply Nat.lt_of_not_le
  intro hn
  simp only [own1, lget_of_le hn] at h
  cases h
theorem own1_append {l1 l2 : List Leaf} {c1 c2 : List Value} (hl : c1.length = l1.length) (j : Nat) : own1 (l1 ++ l2) (c1 ++ c2) j = if j < l1.length then own1 l1 c1 j else own1 l2 c2 (j - l1.length) := by
  simp only [own1, lget_append, getD_append, hl]
  split <;> rfl
theorem own1_explode (t : Ty) (x : t.den) (cs : List Value) (j : Nat) : own1 (explode t x) cs j = none := by
  simp only [own1, explode_own]; rfl
section
variable {X : Ctx} {a : Act} {w : World}
/-- Leaves are taken out of a state. -/
structure Tk (X : Ctx) (a : Act) (w : World) (σ σ' : St) (g g' : Gh) (ls : List Leaf) (cs : List Value) : Prop where
  fz : Fz X a w σ σ' g g'
  len : cs.length = ls.length
  rel : ∀ j, LO w g'.S (lget ls j) (cs.getD j undef)
  own : ∀ j b, own1 ls cs j = some b → (∃ p, ob σ g (.inr p) = some b) ∧ (∀ o, ob σ' g' o ≠ some b) ∧ ¬ g'.S b
  inj : ∀ j1 j2 b, own1 ls cs j1 = some b → own1 ls cs j2 = some b → j1 = j2
theorem Tk.nil {σ : St} {g : Gh} (h : Rel X σ a w g) : Tk X a w σ σ g g [] [] :=
  ⟨.refl h, rfl, fun j => trivial, fun j b h => by simp [own1, lget, Leaf.isOwn] at h, fun j1 j2 b h => by simp [own1, lget, Leaf.isOwn] at h⟩
theorem Tk.append {σ σ1 σ2 : St} {g g1 g2 : Gh} {l1 l2 : List Leaf} {c1 c2 : List Value} (h : Tk X a w σ σ1 g g1 l1 c1) (k : Tk X a w σ1 σ2 g1 g2 l2 c2) : Tk X a w σ σ2 g g2 (l1 ++ l2) (c1 ++ c2) := by
  have keep : ∀ j b, own1 l1 c1 j = some b → (∀ o, ob σ2 g2 o ≠ some b) ∧ ¬ g2.S b := fun j b hb => by
    obtain ⟨_, h2, h3⟩ := h.own j b hb
    refine ⟨fun o ho => h2 o (k.fz.ob ho), fun hs => ?_⟩
    rcases k.fz.new b hs with hs | ⟨p, hs⟩
    · exact h3 hs
    · exact h2 _ hs
  refine ⟨h.fz.trans k.fz, by simp [h.len, k.len], fun j => ?_, fun j b hb => ?_, fun j1 j2 b h1 h2 => ?_⟩
  · rw [lget_append, getD_append, h.len]
    split
    · exact LO_mono k.fz.S (fun _ _ => rfl) (fun _ _ _ => rfl) (h.rel j)
    · exact k.rel _
  · rw [own1_append h.len] at hb
    split at hb
    · exact ⟨(h.own j b hb).1, keep j b hb⟩
    · obtain ⟨⟨p, hp⟩, h2, h3⟩ := k.own _ b hb
      exact ⟨⟨p, h.fz.ob hp⟩, h2, h3⟩
  · rw [own1_append h.len] at h1 h2
    split at h1 <;> split at h2
    · exact h.inj _ _ b h1 h2
    · obtain ⟨⟨p, hp⟩, _⟩ := k.own _ b h2
      exact absurd hp ((h.own _ b h1).2.1 _)
    · obtain ⟨⟨p, hp⟩, _⟩ := k.own _ b h1
      exact absurd hp ((h.own _ b h2).2.1 _)
    · have := k.inj _ _ b h1 h2
      omega
/-- A plain value is taken. -/
theorem Tk.val {σ σ' : St} {g g' : Gh} (f : Fz X a w σ σ' g g') {t : Ty} {x : t.den} {cs : List Value} (h : Ev.rel w g'.S t x cs) : Tk X a w σ σ' g g' (explode t x) cs :=
  ⟨f, by rw [rel_len h, length_explode], LO_explode h, fun j b hb => by (rw [own1_explode] at hb; cases hb), fun j1 j2 b hb => by (rw [own1_explode] at hb; cases hb)⟩
/-- A place's row is let go. -/
theorem Fz.drop {σ : St} {g : Gh} (h : Rel X σ a w g) {p : Pl} (hv : Vp σ p) : Fz X a w σ (sl (mapL (killP p) σ) p .und) g g := by
  refine ⟨h.drop hv, fun _ h => h, rfl, rfl, fun t => by rw [shp_sl, shp_mapL _ rfl], by simp, fun q te e xs hq => ?_, fun q hq => ?_, fun b hb => .inl hb⟩
  · rw [gl_sl q _ (vp_mapL rfl hv), gl_mapL _ rfl] at hq
    split at hq
    · cases hq
    · revert hq
      cases gl σ q with
      | own => exact id
      | al r => simp only [killP]; split <;> (intro hx; cases hx)
      | ept r => simp only [killP]; split <;> (intro hx; cases hx)
      | _ => intro hx; cases hx
  · rw [gl_sl q _ (vp_mapL rfl hv), gl_mapL _ rfl] at hq
    split at hq
    · cases hq
    · rw [isOwn_killP] at hq; exact hq
theorem takeOwn_gone {σ σ1 : St} {te : TypeId} {e : Ty} {p : Pl} {x : List e.den} (h : takeOwn σ te e (.al p) = some (σ1, x)) : (gl σ1 p).isOwn = false := by
  simp only [takeOwn] at h
  split at h
  rotate_left
  · cases h
  rename_i te' e' xs' hg
  split at h
  rotate_left
  · cases h
  split at h
  rotate_left
  · cases h
  simp only [Option.some.injEq, Prod.mk.injEq] at h
  obtain ⟨rfl, _⟩ := h
  rw [gl_sl _ _ (vp_mapL rfl (vp_of_ne (by rw [hg]; simp))), if_pos rfl]
  rfl
/-- An owned row is taken. -/
theorem takeOwn_ok {σ σ' : St} {g : Gh} {te : TypeId} {e : Ty} {l : Leaf} {xs : List e.den} {v : Value} (h : Rel X σ a w g) (ht : takeOwn σ te e l = some (σ', xs)) (hl : LRw σ w g l v) : Tk X a w σ σ' g g [.own te e xs] [v] := by
  cases l with
  | al p =>
    simp only [takeOwn] at ht
    split at ht
    rotate_left
    · cases ht
    rename_i te' e' xs' hg
    split at ht
    rotate_left
    · cases ht
    rename_i h1
    subst h1
    split at ht
    rotate_left
    · cases ht
    rename_i h2
    subst h2
    simp only [Option.some.injEq, Prod.mk.injEq] at ht
    obtain ⟨rfl, rfl⟩ := ht
    have hv := vp_of_ne (σ := σ) (p := p) (by rw [hg]; simp)
    have hpo : (gl σ p).isOwn = true := by rw [hg]; rfl
    have hp := h.lf p
    rw [hg] at hp
    have hvc : v = g.c p := hl
    have one : ∀ j b, own1 [Leaf.own te' e' xs'] [v] j = some b → j = 0 ∧ v.ownBlock = some b := fun j b hb => by
      have := own1_lt hb
      have hj : j = 0 := by simp at this; omega
      subst hj
      exact ⟨rfl, by simpa [own1, lget, Leaf.isOwn] using hb⟩
    refine ⟨Fz.drop h hv, rfl, fun j => ?_, fun j b hb => ?_, fun j1 j2 b h1 h2 => by rw [(one _ _ h1).1, (one _ _ h2).1]⟩
    · cases j with
      | zero =>
        show ownR _ _ _ _ _ _
        simp only [List.getD_cons_zero]
        rw [hvc]; exact hp
      | succ j => trivial
    · obtain ⟨_, hb⟩ := one _ _ hb
      rw [hvc] at hb
      have hbo := ownBlock_blk (g := g) hpo hb
      refine ⟨⟨p, hbo⟩, fun o ho => ?_, (h.fr _ _ hbo).1⟩
      have ho2 := (Fz.drop h hv).ob ho
      have := h.inj _ _ _ ho2 hbo
      subst this
      simp only [ob] at ho
      rw [gl_sl _ _ (vp_mapL rfl hv)] at ho
      simp [Leaf.isOwn] at ho
  | nils =>
    simp only [takeOwn, Option.some.injEq, Prod.mk.injEq] at ht
    obtain ⟨rfl, rfl⟩ := ht
    have hv : v = .slice none 0 0 := hl
    subst hv
    have none1 : ∀ j b, own1 [Leaf.own te e []] [Value.slice none 0 0] j ≠ some b := fun j b hb => by
      have := own1_lt hb
      have hj : j = 0 := by simp at this; omega
      subst hj
      simp [own1, lget, Leaf.isOwn, Value.ownBlock] at hb
    refine ⟨.refl h, rfl, fun j => ?_, fun j b hb => absurd hb (none1 j b), fun j1 j2 b h1 _ => absurd h1 (none1 j1 b)⟩
    cases j with
    | zero => exact ownR_nil _ _ _ _
    | succ j => trivial
  | _ => simp [takeOwn] at ht
end
def boxLs : (bs : List (List LK)) → BL bs → Nat → List Leaf
  | [], _, _ => []
  | b :: bs, x, 0 => outL b x.1
  | b :: bs, x, i + 1 => boxLs bs x.2 i
inductive Ow where
  | arg (j : Nat)
  | box (i : Nat)
  | leaf (i j : Nat)
/-- The blocks that are handed over: of rows, of boxes, of rows in boxes. -/
def pob (ls : List Leaf) (cs : List Value) (n : Nat) (bl : Nat → List Leaf) (bc : Nat → List Value) (bk : Nat → Nat) : Ow → Option Nat
  | .arg j => own1 ls cs j
  | .box i => if i < n then some (bk i) else none
  | .leaf i j => if i < n then own1 (bl i) (bc i) j else none
/-- Boxes hold these leaves. -/
structure BoxR (w : World) (S : Nat → Prop) (bk : Nat → Nat) (i : Nat) (ls : List Leaf) (cs : List Value) : Prop where
  heap : ∃ te, w.heap[bk i]? = some (.cells cs.toArray te (0, 0))
  len : cs.length = ls.length
  rel : ∀ j, LO w S (lget ls j) (cs.getD j undef)
/-- What is handed over. -/
structure Hand (w : World) (S : Nat → Prop) (ls : List Leaf) (cs : List Value) (n : Nat) (bl : Nat → List Leaf) (bc : Nat → List Value) (bk : Nat → Nat) : Prop where
  len : cs.length = ls.length
  rel : ∀ j, LO w S (lget ls j) (cs.getD j undef)
  box : ∀ i, i < n → BoxR w S bk i (bl i) (bc i)
  inj : ∀ o1 o2 b, pob ls cs n bl bc bk o1 = some b → pob ls cs n bl bc bk o2 = some b → o1 = o2
  fr : ∀ o b, pob ls cs n bl bc bk o = some b → ¬ S b ∧ b < w.heap.size
  sb : ∀ b, S b → b < w.heap.size
  lay : Lay w S
/-- Values of parameters, with their cells. -/
def ArgShape (bk : Nat → Nat) : List PK → List Value → List Value → Prop
  | [], vs, cs => vs = [] ∧ cs = []
  | .v a t :: ps, vs, cs => ∃ v vs' c cs', vs = v :: vs' ∧ cs = c ++ cs' ∧ c.length = t.sz ∧ (a = true ∧ v = .agg c.toArray ∨ a = false ∧ c = [v]) ∧ ArgShape bk ps vs' cs'
  | .o te e :: ps, vs, cs => ∃ v vs' cs', vs = v :: vs' ∧ cs = v :: cs' ∧ ArgShape bk ps vs' cs'
  | .w te e :: ps, vs, cs => ∃ v vs' cs', vs = v :: vs' ∧ cs = v :: cs' ∧ ArgShape bk ps vs' cs'
  | .p b :: ps, vs, cs => ∃ vs', vs = .pointer (some ⟨bk b, 0, none⟩) :: vs' ∧ ArgShape bk ps vs' cs
  | .f g bs :: ps, vs, cs => ∃ vs', vs = .func (.func g) #[] (bs.map fun b => .pointer (some ⟨bk b, 0, none⟩)).toArray :: vs' ∧ ArgShape bk ps vs' cs
/-- The values of the rows that are written in place; the rows. -/
def wvs : List PK → List Value → List Value
  | .w _ _ :: ps, v :: vs => v :: wvs ps vs
  | _ :: ps, _ :: vs => wvs ps vs
  | _, _ => []
def wLs : (ps : List PK) → BL (ps.flatMap PK.wk) → List Leaf
  | [], _ => []
  | .w te e :: ps, y => .own te e y.1.1 :: wLs ps y.2
  | .v _ _ :: ps, y => wLs ps y
  | .o _ _ :: ps, y => wLs ps y
  | .p _ :: ps, y => wLs ps y
  | .f _ _ :: ps, y => wLs ps y
/-- What a call leaves. -/
structure Back (s : Sig) (w w' : World) (S : Nat → Prop) (M : Nat → Prop) (bk : Nat → Nat) (wv : List Value) (v : Value) (out : s.Out) : Prop where
  ex : ∃ (S' : Nat → Prop) (cs : List Value) (bc : Nat → List Value),
    Hand w' S' (wLs s.ps (splitB s.bs out.2).2 ++ (outSlot s.rs out.1).leaves) (wv ++ cs) s.bs.length (boxLs s.bs (splitB s.bs out.2).1) bc bk ∧ wv.length = (wLs s.ps (splitB s.bs out.2).2).length ∧ VR w' 0 cs v (outSlot s.rs out.1).shp ∧
    (∀ b, S b → S' b) ∧ (∀ b, S' b → S b ∨ M b ∨ w.heap.size ≤ b) ∧ (∀ o b, pob (wLs s.ps (splitB s.bs out.2).2 ++ (outSlot s.rs out.1).leaves) (wv ++ cs) s.bs.length (boxLs s.bs (splitB s.bs out.2).1) bc bk o = some b → M b ∨ w.heap.size ≤ b)
  os : w'.os = w.os
  tape : w'.tape = w.tape
  drawn : w.drawn ≤ w'.drawn
  output : w'.output = w.output
  grow : w.heap.size ≤ w'.heap.size
  frame : ∀ b, b < w.heap.size → ¬ M b → w'.heap[b]? = w.heap[b]?
def LK.one : LK → Bool
  | .fr t => t.sz == 1
  | _ => true
/-- A parameter's kind is well told. -/
def PK.ok : PK → Bool
  | .v false t => t.sz == 1
  | _ => true
/-- A function does what is told of it. -/
structure Sound (P : Program) (f : FuncId) (F : Fun) : Prop where
  ps : F.s.ps.all PK.ok = true
  one : ∀ ks ∈ F.s.bs, ∀ k ∈ ks, LK.one k = true
  fn : ∃ fn, P.funcs[f]? = some fn ∧ fn.body.isNone = false ∧ (fn.name == "runtime.NumGoroutine") = false
  call : ∀ (x : HL F.s.ins) (y : BL F.s.bs) (out : F.s.Out), F.F x y = some out → ∀ (w : World) (S : Nat → Prop) (vs cs : List Value) (bc : Nat → List Value) (bk : Nat → Nat),
    Hand w S (outL F.s.ins x) cs F.s.bs.length (boxLs F.s.bs y) bc bk → ArgShape bk F.s.ps vs cs →
    Calls P f vs.toArray w fun e w' => ∃ v, e = .returned v ∧ Back F.s w w' S (fun b => ∃ o, pob (outL F.s.ins x) cs F.s.bs.length (boxLs F.s.bs y) bc bk o = some b) bk (wvs F.s.ps vs) v out
end Go.Ev
namespace Go.Ev
set_option linter.unusedVariables false
set_option linter.unusedSimpArgs false
/-- An argument that was read some steps ago. -/
def ArgW (σ : St) (w : World) (g : Gh) (r : Arg) (v : Value) : Prop :=
  (r.1 = false → ∃ l, r.2 = [l] ∧ LRw σ w g l v) ∧
  (r.1 = true → ∃ cs : List Value, v = .agg cs.toArray ∧ cs.length = r.2.length ∧ ∀ i, LRw σ w g (lget r.2 i) (cs.getD i undef))
theorem ArgW_of {σ : St} {w : World} {g : Gh} {r : Arg} {v : Value} (h : ArgR σ w g r v) : ArgW σ w g r v :=
  ⟨fun hf => by obtain ⟨l, h1, h2⟩ := h.1 hf; exact ⟨l, h1, LRw_of h2⟩, fun hf => by obtain ⟨cs, h1, h2, h3⟩ := h.2.1 hf; exact ⟨cs, h1, h2, fun i => LRw_of (h3 i)⟩⟩
inductive ArgsW (σ : St) (w : World) (g : Gh) : List Arg → List Value → Prop
  | nil : ArgsW σ w g [] []
  | cons {r v rs vs} : ArgW σ w g r v → ArgsW σ w g rs vs → ArgsW σ w g (r :: rs) (v :: vs)
section
variable {X : Ctx} {a : Act} {w : World}
theorem ArgsW_fz {σ σ' : St} {g g' : Gh} (f : Fz X a w σ σ' g g') {as : List Arg} {vs : List Value} (h : ArgsW σ w g as vs) : ArgsW σ' w g' as vs := by
  induction h with
  | nil => exact .nil
  | cons h1 _ ih =>
    refine .cons ⟨fun hf => ?_, fun hf => ?_⟩ ih
    · obtain ⟨l, e1, e2⟩ := h1.1 hf
      exact ⟨l, e1, LRw_mono f.S f.c f.blk f.box e2⟩
    · obtain ⟨cs, e1, e2, e3⟩ := h1.2 hf
      exact ⟨cs, e1, e2, fun i => LRw_mono f.S f.c f.blk f.box (e3 i)⟩
/-- Boxes are told apart. -/
structure MOk (σ : St) (m : List (Nat × Nat)) : Prop where
  box : ∀ b t, (b, t) ∈ m → isBox σ t
  inj : ∀ b1 b2 t, (b1, t) ∈ m → (b2, t) ∈ m → b1 = b2
def Ext (m m' : List (Nat × Nat)) : Prop := ∀ b t, m.lookup b = some t → m'.lookup b = some t
theorem Ext.refl (m : List (Nat × Nat)) : Ext m m := fun _ _ h => h
theorem Ext.trans {m m' m'' : List (Nat × Nat)} (h : Ext m m') (k : Ext m' m'') : Ext m m'' := fun b t e => k b t (h b t e)
theorem lookup_mem {m : List (Nat × Nat)} {b t : Nat} (h : m.lookup b = some t) : (b, t) ∈ m := by
  induction m with
  | nil => cases h
  | cons q m ih =>
    obtain ⟨b', t'⟩ := q
    simp only [List.lookup] at h
    split at h
    · rename_i e
      simp at e
      injection h with h
      subst e h
      simp
    · exact List.mem_cons_of_mem _ (ih h)
theorem lookup_append (m : List (Nat × Nat)) (b t b' : Nat) : (m ++ [(b, t)]).lookup b' = match m.lookup b' with | some u => some u | none => if b' = b then some t else none := by
  induction m with
  | nil =>
    by_cases h : b' = b
    · subst h; simp [List.lookup]
    · have : (b' == b) = false := by simpa using h
      simp [List.lookup, this, h]
  | cons q m ih =>
    obtain ⟨b1, t1⟩ := q
    simp only [List.cons_append, List.lookup]
    split
    · rfl
    · exact ih
theorem bset_ok {σ : St} {b t : Nat} {m m' : List (Nat × Nat)} (h : bset b t m = some m') (hm : MOk σ m) (ht : isBox σ t) : MOk σ m' ∧ Ext m m' ∧ m'.lookup b = some t := by
  unfold bset at h
  split at h
  · rename_i t' hl
    split at h
    · rename_i e
      subst e
      injection h with h
      subst h
      exact ⟨hm, .refl _, hl⟩
    · cases h
  · rename_i hl
    split at h
    · cases h
    · rename_i hany
      injection h with h
      subst h
      have hno : ∀ b', (b', t) ∉ m := fun b' hmem => hany (List.any_eq_true.2 ⟨_, hmem, by simp⟩)
      refine ⟨⟨fun b' t' hmem => ?_, fun b1 b2 t' h1 h2 => ?_⟩, fun b' t' e => ?_, ?_⟩
      · rcases List.mem_append.1 hmem with hmem | hmem
        · exact hm.box _ _ hmem
        · simp at hmem; rw [hmem.2]; exact ht
      · rcases List.mem_append.1 h1 with h1 | h1 <;> rcases List.mem_append.1 h2 with h2 | h2
        · exact hm.inj _ _ _ h1 h2
        · simp at h2; rw [h2.2] at h1; exact absurd h1 (hno _)
        · simp at h1; rw [h1.2] at h2; exact absurd h2 (hno _)
        · simp at h1 h2; rw [h1.1, h2.1]
      · rw [lookup_append, e]
      · rw [lookup_append, hl]; simp
theorem bsetAll_ok {σ : St} : ∀ {bs ts : List Nat} {m m' : List (Nat × Nat)}, bsetAll bs ts m = some m' → MOk σ m → (∀ t ∈ ts, isBox σ t) → MOk σ m' ∧ Ext m m' ∧ bs.map (fun b => m'.lookup b) = ts.map some
  | [], [], m, m', h, hm, _ => by
    simp only [bsetAll, Option.some.injEq] at h
    subst h
    exact ⟨hm, .refl _, rfl⟩
  | [], t :: ts, m, m', h, _, _ => by simp [bsetAll] at h
  | b :: bs, [], m, m', h, _, _ => by simp [bsetAll] at h
  | b :: bs, t :: ts, m, m', h, hm, ht => by
    simp only [bsetAll] at h
    split at h
    rotate_left
    · cases h
    rename_i m1 h1
    obtain ⟨a1, a2, a3⟩ := bset_ok h1 hm (ht t (by simp))
    obtain ⟨b1, b2, b3⟩ := bsetAll_ok h a1 (fun t' ht' => ht t' (by simp [ht']))
    exact ⟨b1, a2.trans b2, by simp [b3, b2 _ _ a3]⟩
theorem MOk.fz {σ σ' : St} {g g' : Gh} (f : Fz X a w σ σ' g g') {m : List (Nat × Nat)} (h : MOk σ m) : MOk σ' m := ⟨fun b t hm => f.box _ (h.box b t hm), h.inj⟩
theorem MOk.fz' {σ σ' : St} {g g' : Gh} (f : Fz X a w σ σ' g g') {m : List (Nat × Nat)} (h : MOk σ' m) : MOk σ m := ⟨fun b t hm => by have := h.box b t hm; unfold isBox at *; rw [f.shp] at this; exact this, h.inj⟩
/-- A plain argument. -/
theorem argV {σ : St} {g : Gh} (h : Rel X σ a w g) {ag : Bool} {ls : List Leaf} {v : Value} (hq : ArgW σ w g (ag, ls) v) {t : Ty} {x : t.den} (hx : implode t (freezeL ls σ).2 = some x) (h1 : ag = false → t.sz = 1) (h2 : ls.length = t.sz) :
    ∃ g' c, Fz X a w σ (freezeL ls σ).1 g g' ∧ rel w g'.S t x c ∧ c.length = t.sz ∧ (ag = true ∧ v = .agg c.toArray ∨ ag = false ∧ c = [v]) := by
  have key : ∃ c : List Value, c.length = ls.length ∧ (ag = true ∧ v = .agg c.toArray ∨ ag = false ∧ c = [v]) ∧ ∀ i, LRw σ w g (lget ls i) (c.getD i undef) := by
    cases ag with
    | false =>
      obtain ⟨l, e1, e2⟩ := hq.1 rfl
      simp only at e1
      subst e1
      exact ⟨[v], rfl, .inr ⟨rfl, rfl⟩, fun i => by
        cases i with
        | zero => exact e2
        | succ i => trivial⟩
    | true =>
      obtain ⟨cs, e1, e2, e3⟩ := hq.2 rfl
      exact ⟨cs, e2, .inl ⟨rfl, e1⟩, e3⟩
  obtain ⟨c, c1, c2, c3⟩ := key
  obtain ⟨g1, f1, z1, z2⟩ := freezeL_ok ls (fun i => c.getD i undef) h c3
  exact ⟨g1, c, f1, implode_ok hx (by omega) (fun i _ => z1 i), by omega, c2⟩
/-- Where rows come from, and their values. -/
def WOk (σ : St) (g : Gh) : List (Option Pl) → List Value → Prop
  | [], [] => True
  | q :: qs, v :: vs => (∀ p, q = some p → Vp σ p ∧ v = g.c p) ∧ WOk σ g qs vs
  | _, _ => False
theorem vp_of_shp {σ σ' : St} (hl : σ'.length = σ.length) (hs : ∀ t, (gs σ' t).shp = (gs σ t).shp) {p : Pl} (h : Vp σ' p) : Vp σ p := ⟨by rw [← hl]; exact h.1, by rw [leaves_len, ← hs, ← leaves_len]; exact h.2⟩
theorem WOk.fz' {σ σ' : St} {g g' : Gh} (f : Fz X a w σ σ' g g') : ∀ {qs : List (Option Pl)} {vs : List Value}, WOk σ' g' qs vs → WOk σ g qs vs
  | [], [], h => h
  | q :: qs, v :: vs, h => ⟨fun p hp => ⟨vp_of_shp f.len f.shp (h.1 p hp).1, by rw [← f.c]; exact (h.1 p hp).2⟩, WOk.fz' f h.2⟩
  | [], _ :: _, h => h.elim
  | _ :: _, [], h => h.elim
theorem takeOwn_vp {σ σ' : St} {te : TypeId} {e : Ty} {p : Pl} {x : List e.den} (h : takeOwn σ te e (.al p) = some (σ', x)) : Vp σ p := by
  refine vp_of_ne (fun hg => ?_)
  simp only [takeOwn, hg] at h
  cases h
theorem gather_ok : ∀ (ps : List PK) (as : List Arg) (vs : List Value) {σ σ' : St} {g : Gh} {m m' : List (Nat × Nat)} {xs : HL (ps.flatMap PK.lk)}, ps.all PK.ok = true → Rel X σ a w g → ArgsW σ w g as vs → MOk σ m → gather false ps as σ m = some (σ', xs, m') →
    ∃ g' cs, Tk X a w σ σ' g g' (outL (ps.flatMap PK.lk) xs) cs ∧ MOk σ m' ∧ Ext m m' ∧ (∀ bk : Nat → Nat, (∀ b t, m'.lookup b = some t → bk b = g.blk t) → ArgShape bk ps vs cs) ∧ WOk σ g (wpl ps as) (wvs ps vs)
  | [], [], vs, σ, σ', g, m, m', xs, hp, h, ha, hm, hg => by
    simp only [gather, Option.some.injEq, Prod.mk.injEq] at hg
    obtain ⟨rfl, rfl, rfl⟩ := hg
    cases ha
    exact ⟨g, [], .nil h, hm, .refl _, fun bk _ => ⟨rfl, rfl⟩, trivial⟩
  | .v ag t :: ps, (ag', ls) :: as, vs, σ, σ', g, m, m', xs, hp, h, ha, hm, hg => by
    cases ha with
    | @cons _ v _ vs h1 h2 =>
    simp only [List.all_cons, Bool.and_eq_true] at hp
    simp only [gather] at hg
    split at hg
    rotate_left
    · cases hg
    rename_i hc
    obtain ⟨rfl, hl⟩ := hc
    split at hg
    rotate_left
    · cases hg
    rename_i x hx
    split at hg
    rotate_left
    · cases hg
    rename_i σ2 xs2 m2 hg2
    simp only [Option.some.injEq, Prod.mk.injEq] at hg
    obtain ⟨rfl, rfl, rfl⟩ := hg
    obtain ⟨g1, c, f1, r1, l1, s1⟩ := argV h h1 hx (fun e => by subst e; simpa [PK.ok] using hp.1) hl
    obtain ⟨g2, cs, t2, m2', e2, s2, wo⟩ := gather_ok ps as vs hp.2 f1.rel (ArgsW_fz f1 h2) (hm.fz f1) hg2
    refine ⟨g2, c ++ cs, (Tk.val f1 r1).append t2, m2'.fz' f1, e2, fun bk hbk => ?_, wo.fz' f1⟩
    exact ⟨v, vs, c, cs, rfl, rfl, l1, s1, s2 bk (fun b t e => by rw [f1.blk]; exact hbk b t e)⟩
  | .o te e :: ps, (ag', ls) :: as, vs, σ, σ', g, m, m', xs, hp, h, ha, hm, hg => by
    cases ha with
    | @cons _ v _ vs h1 h2 =>
    simp only [List.all_cons, Bool.and_eq_true] at hp
    simp only [gather] at hg
    split at hg
    rotate_left
    · cases hg
    rename_i hag
    subst hag
    split at hg
    rotate_left
    · cases hg
    rename_i σ1 x hx
    split at hg
    rotate_left
    · cases hg
    rename_i σ2 xs2 m2 hg2
    simp only [Option.some.injEq, Prod.mk.injEq] at hg
    obtain ⟨rfl, rfl, rfl⟩ := hg
    obtain ⟨l, e1, e2⟩ := h1.1 rfl
    simp only at e1
    subst e1
    have t1 := takeOwn_ok h hx e2
    obtain ⟨g2, cs, t2, m2', e2, s2, wo⟩ := gather_ok ps as vs hp.2 t1.fz.rel (ArgsW_fz t1.fz h2) (hm.fz t1.fz) hg2
    refine ⟨g2, v :: cs, t1.append t2, m2'.fz' t1.fz, e2, fun bk hbk => ?_, wo.fz' t1.fz⟩
    exact ⟨v, vs, cs, rfl, rfl, s2 bk hbk⟩
  | .w te e :: ps, (ag', ls) :: as, vs, σ, σ', g, m, m', xs, hp, h, ha, hm, hg => by
    cases ha with
    | @cons _ v _ vs h1 h2 =>
    simp only [List.all_cons, Bool.and_eq_true] at hp
    simp only [gather] at hg
    split at hg
    rotate_left
    · cases hg
    rename_i hag
    subst hag
    split at hg
    rotate_left
    · cases hg
    rename_i σ1 x hx
    split at hg
    rotate_left
    · cases hg
    rename_i σ2 xs2 m2 hg2
    simp only [Option.some.injEq, Prod.mk.injEq] at hg
    obtain ⟨rfl, rfl, rfl⟩ := hg
    obtain ⟨l, e1, e2⟩ := h1.1 rfl
    simp only at e1
    subst e1
    have t1 := takeOwn_ok h hx e2
    obtain ⟨g2, cs, t2, m2', e3, s2, wo⟩ := gather_ok ps as vs hp.2 t1.fz.rel (ArgsW_fz t1.fz h2) (hm.fz t1.fz) hg2
    refine ⟨g2, v :: cs, t1.append t2, m2'.fz' t1.fz, e3, fun bk hbk => ?_, ⟨fun p hp => ?_, wo.fz' t1.fz⟩⟩
    rotate_left
    · cases l with
      | al q =>
        simp only [lget, Option.some.injEq] at hp
        subst hp
        exact ⟨takeOwn_vp hx, e2⟩
      | _ => simp [lget] at hp
    exact ⟨v, vs, cs, rfl, rfl, s2 bk hbk⟩
  | .p b :: ps, (ag', ls) :: as, vs, σ, σ', g, m, m', xs, hp, h, ha, hm, hg => by
    cases ha with
    | @cons _ v _ vs h1 h2 =>
    simp only [List.all_cons, Bool.and_eq_true] at hp
    simp only [gather] at hg
    split at hg
    rotate_left
    · cases hg
    rename_i hag
    subst hag
    obtain ⟨l, e1, e2⟩ := h1.1 rfl
    simp only at e1
    subst e1
    simp only [lget] at hg
    split at hg
    rotate_left
    · cases hg
    rename_i t
    split at hg
    rotate_left
    · cases hg
    rename_i m1 hm1
    obtain ⟨hv, hb⟩ := e2
    obtain ⟨a1, a2, a3⟩ := bset_ok hm1 hm hb
    obtain ⟨g2, cs, t2, m2', e2, s2, wo⟩ := gather_ok ps as vs hp.2 h h2 a1 hg
    refine ⟨g2, cs, t2, m2', a2.trans e2, fun bk hbk => ⟨vs, ?_, s2 bk hbk⟩, wo⟩
    rw [hv, hbk b t (e2 _ _ a3)]
  | .f q bs :: ps, (ag', ls) :: as, vs, σ, σ', g, m, m', xs, hp, h, ha, hm, hg => by
    cases ha with
    | @cons _ v _ vs h1 h2 =>
    simp only [List.all_cons, Bool.and_eq_true] at hp
    simp only [gather] at hg
    split at hg
    rotate_left
    · cases hg
    rename_i hag
    subst hag
    obtain ⟨l, e1, e2⟩ := h1.1 rfl
    simp only at e1
    subst e1
    simp only [lget] at hg
    split at hg
    rotate_left
    · cases hg
    rename_i q' ts
    split at hg
    rotate_left
    · cases hg
    rename_i hq
    subst hq
    split at hg
    rotate_left
    · cases hg
    rename_i m1 hm1
    obtain ⟨hv, hb⟩ := e2
    obtain ⟨a1, a2, a3⟩ := bsetAll_ok hm1 hm hb
    obtain ⟨g2, cs, t2, m2', e2, s2, wo⟩ := gather_ok ps as vs hp.2 h h2 a1 hg
    refine ⟨g2, cs, t2, m2', a2.trans e2, fun bk hbk => ⟨vs, ?_, s2 bk hbk⟩, wo⟩
    rw [hv]
    congr 3
    have key : ∀ (bs ts : List Nat), bs.map (fun b => m1.lookup b) = ts.map some → (ts.map fun b => Value.pointer (some ⟨g.blk b, 0, none⟩)) = bs.map fun b => Value.pointer (some ⟨bk b, 0, none⟩) := by
      intro bs
      induction bs with
      | nil => intro ts ht; cases ts with
        | nil => rfl
        | cons => cases ht
      | cons b bs ih => intro ts ht; cases ts with
        | nil => cases ht
        | cons t ts =>
          simp only [List.map_cons, List.cons.injEq] at ht ⊢
          exact ⟨by rw [hbk b t (e2 _ _ ht.1)], ih ts ht.2⟩
    exact key bs ts a3
  | [], _ :: _, vs, σ, σ', g, m, m', xs, hp, h, ha, hm, hg => by simp [gather] at hg
  | .v _ _ :: ps, [], vs, σ, σ', g, m, m', xs, hp, h, ha, hm, hg => by simp [gather] at hg
  | .o _ _ :: ps, [], vs, σ, σ', g, m, m', xs, hp, h, ha, hm, hg => by simp [gather] at hg
  | .w _ _ :: ps, [], vs, σ, σ', g, m, m', xs, hp, h, ha, hm, hg => by simp [gather] at hg
  | .p _ :: ps, [], vs, σ, σ', g, m, m', xs, hp, h, ha, hm, hg => by simp [gather] at hg
  | .f _ _ :: ps, [], vs, σ, σ', g, m, m', xs, hp, h, ha, hm, hg => by simp [gather] at hg
/-- Arguments that are lent: the state stays as it is. -/
theorem gather_lend : ∀ (ps : List PK) (as : List Arg) (vs : List Value) {σ σ' : St} {g : Gh} {m m' : List (Nat × Nat)} {xs : HL (ps.flatMap PK.lk)}, ps.all PK.ok = true → ps.all (fun p => match p with | .v .. => true | _ => false) = true → Rel X σ a w g → ArgsW σ w g as vs → gather true ps as σ m = some (σ', xs, m') →
    σ' = σ ∧ ∃ (S : Nat → Prop) (cs : List Value), (∀ b, S b → b < w.heap.size) ∧ cs.length = (outL (ps.flatMap PK.lk) xs).length ∧ (∀ j, LO w S (lget (outL (ps.flatMap PK.lk) xs) j) (cs.getD j undef)) ∧ (∀ j, (lget (outL (ps.flatMap PK.lk) xs) j).isOwn = false) ∧ ∀ bk : Nat → Nat, ArgShape bk ps vs cs
  | [], [], vs, σ, σ', g, m, m', xs, hp, hv, h, ha, hg => by
    simp only [gather, Option.some.injEq, Prod.mk.injEq] at hg
    obtain ⟨rfl, rfl, rfl⟩ := hg
    cases ha
    exact ⟨rfl, fun _ => False, [], fun _ h => h.elim, rfl, fun j => trivial, fun j => rfl, fun bk => ⟨rfl, rfl⟩⟩
  | .v ag t :: ps, (ag', ls) :: as, vs, σ, σ', g, m, m', xs, hp, hv, h, ha, hg => by
    cases ha with
    | @cons _ v _ vs h1 h2 =>
    simp only [List.all_cons, Bool.and_eq_true] at hp hv
    simp only [gather] at hg
    split at hg
    rotate_left
    · cases hg
    rename_i hc
    obtain ⟨rfl, hl⟩ := hc
    split at hg
    rotate_left
    · cases hg
    rename_i x hx
    split at hg
    rotate_left
    · cases hg
    rename_i σ2 xs2 m2 hg2
    simp only [Option.some.injEq, Prod.mk.injEq] at hg
    obtain ⟨rfl, rfl, rfl⟩ := hg
    obtain ⟨g1, c, f1, r1, l1, s1⟩ := argV h h1 hx (fun e => by subst e; simpa [PK.ok] using hp.1) hl
    obtain ⟨e0, S, cs, c1, c2, c3, c4, c5⟩ := gather_lend ps as vs hp.2 hv.2 h h2 hg2
    refine ⟨e0, fun b => g1.S b ∨ S b, c ++ cs, fun b hb => hb.elim (fun hb => (f1.rel.sb b hb).1) (c1 b), ?_, fun j => ?_, fun j => ?_, fun bk => ⟨v, vs, c, cs, rfl, rfl, l1, s1, c5 bk⟩⟩
    · show _ = (explode t x ++ outL (ps.flatMap PK.lk) xs2).length
      rw [List.length_append, List.length_append, c2, length_explode, l1]
    · show LO w _ (lget (explode t x ++ outL (ps.flatMap PK.lk) xs2) j) _
      rw [lget_append, getD_append, length_explode, l1]
      split
      · exact LO_mono (fun b hb => .inl hb) (fun _ _ => rfl) (fun _ _ _ => rfl) (LO_explode r1 j)
      · exact LO_mono (fun b hb => .inr hb) (fun _ _ => rfl) (fun _ _ _ => rfl) (c3 _)
    · show (lget (explode t x ++ outL (ps.flatMap PK.lk) xs2) j).isOwn = false
      rw [lget_append]
      split
      · exact explode_own _ _ _
      · exact c4 _
  | .o _ _ :: ps, as, vs, σ, σ', g, m, m', xs, hp, hv, h, ha, hg => by simp at hv
  | .w _ _ :: ps, as, vs, σ, σ', g, m, m', xs, hp, hv, h, ha, hg => by simp at hv
  | .p _ :: ps, as, vs, σ, σ', g, m, m', xs, hp, hv, h, ha, hg => by simp at hv
  | .f _ _ :: ps, as, vs, σ, σ', g, m, m', xs, hp, hv, h, ha, hg => by simp at hv
  | [], _ :: _, vs, σ, σ', g, m, m', xs, hp, hv, h, ha, hg => by simp [gather] at hg
  | .v _ _ :: ps, [], vs, σ, σ', g, m, m', xs, hp, hv, h, ha, hg => by simp [gather] at hg
/-- A box's leaves are taken. -/
theorem takeBox_ok (t : Nat) : ∀ (ks : List LK) (i : Nat) {σ σ' : St} {g : Gh} {xs : HL ks}, (∀ k ∈ ks, LK.one k = true) → Rel X σ a w g → takeBox t ks i σ = some (σ', xs) →
    ∃ g', Tk X a w σ σ' g g' (outL ks xs) ((List.range ks.length).map fun j => g.c ⟨t, i + j⟩) ∧ ∀ j, (j < i → (gl σ ⟨t, j⟩).isOwn = false) → j < i + ks.length → (gl σ' ⟨t, j⟩).isOwn = false
  | [], i, σ, σ', g, xs, h1, h, ht => by
    simp only [takeBox, Option.some.injEq, Prod.mk.injEq] at ht
    obtain ⟨rfl, _⟩ := ht
    exact ⟨g, .nil h, fun j hj hi => hj (by simpa using hi)⟩
  | k :: ks, i, σ, σ', g, xs, h1, h, ht => by
    have key : ∃ σ1 g1 l1 xs2, Tk X a w σ σ1 g g1 l1 [g.c ⟨t, i⟩] ∧ outL (k :: ks) xs = l1 ++ outL ks xs2 ∧ takeBox t ks (i + 1) σ1 = some (σ', xs2) ∧ (gl σ1 ⟨t, i⟩).isOwn = false := by
      have hview := LR_view h t i
      have hlv : lget (view t i (ltake 1 (ldrop i (gs σ t).leaves))) 0 = match lget (gs σ t).leaves i with | .own .. => .al ⟨t, i⟩ | .hol .. => .al ⟨t, i⟩ | l => l := by
        rw [lget_view, lget_ltake, lget_ldrop]
        simp only [Nat.add_zero, Nat.lt_add_one, if_true, Nat.zero_lt_one]
        cases lget (gs σ t).leaves i <;> rfl
      have hal : (gl σ ⟨t, i⟩).isOwn = true → (match lget (gs σ t).leaves i with | .own .. => .al ⟨t, i⟩ | .hol .. => .al ⟨t, i⟩ | l => l) = Leaf.al ⟨t, i⟩ := fun hg => by
        have hg : (lget (gs σ t).leaves i).isOwn = true := hg
        cases hx : lget (gs σ t).leaves i <;> rw [hx] at hg <;> first | rfl | cases hg
      cases k with
      | fr k =>
        simp only [takeBox] at ht
        split at ht
        rotate_left
        · cases ht
        rename_i x hx
        split at ht
        rotate_left
        · cases ht
        rename_i σ2 xs2 hx2
        simp only [Option.some.injEq, Prod.mk.injEq] at ht
        obtain ⟨rfl, rfl⟩ := ht
        have hk : k.sz = 1 := by simpa [LK.one] using h1 (.fr k) (by simp)
        have hl : (ltake 1 (view t i (ltake 1 (ldrop i (gs σ t).leaves)))).length ≤ 1 := by rw [length_ltake]; omega
        have hlw : ∀ j, LRw σ w g (lget (ltake 1 (view t i (ltake 1 (ldrop i (gs σ t).leaves)))) j) ([g.c ⟨t, i⟩].getD j undef) := fun j => by
          cases j with
          | zero =>
            rw [lget_ltake, if_pos (by omega), hlv]
            exact LRw_of hview
          | succ j => rw [lget_of_le (by omega)]; trivial
        obtain ⟨g1, f1, z1, _⟩ := freezeL_ok _ (fun j => [g.c ⟨t, i⟩].getD j undef) h hlw
        have hr : rel w g1.S k x [g.c ⟨t, i⟩] := as_ok hx (z1 0)
        refine ⟨_, g1, explode k x, xs2, Tk.val f1 hr, rfl, hx2, ?_⟩
        cases ho : (gl (freezeL (ltake 1 (view t i (ltake 1 (ldrop i (gs σ t).leaves)))) σ).1 ⟨t, i⟩).isOwn with
        | false => rfl
        | true =>
          exfalso
          have ho0 := f1.owns _ ho
          have hv0 : ltake 1 (view t i (ltake 1 (ldrop i (gs σ t).leaves))) = [.al ⟨t, i⟩] := by
            have hi : i < (gs σ t).leaves.length := by
              apply Nat.lt_of_not_le; intro hn
              have ho1 : (lget (gs σ t).leaves i).isOwn = true := ho0
              rw [lget_of_le hn] at ho1; cases ho1
            have hlen : (ltake 1 (view t i (ltake 1 (ldrop i (gs σ t).leaves)))).length = 1 := by
              rw [length_ltake, length_view, length_ltake, length_ldrop]; omega
            obtain ⟨l, hl⟩ := List.length_eq_one_iff.1 hlen
            have : lget (ltake 1 (view t i (ltake 1 (ldrop i (gs σ t).leaves)))) 0 = .al ⟨t, i⟩ := by
              rw [lget_ltake, if_pos (by omega), hlv, hal ho0]
            rw [hl] at this ⊢
            simp only [lget] at this
            rw [this]
          rw [hv0] at ho hx
          simp only [freezeL] at ho hx
          cases hy0 : gl σ ⟨t, i⟩ with
          | own te e ys =>
            rw [frz_gl hy0, if_pos rfl] at ho
            cases ho
          | hol te e ys i' q =>
            rw [frz_id (fun _ _ _ h => by rw [hy0] at h; cases h), hy0] at hx
            simp [lget, Leaf.as] at hx
          | _ => rw [hy0] at ho0; cases ho0
      | ow te e =>
        simp only [takeBox] at ht
        split at ht
        rotate_left
        · cases ht
        rename_i σ1 x hx
        split at ht
        rotate_left
        · cases ht
        rename_i σ2 xs2 hx2
        simp only [Option.some.injEq, Prod.mk.injEq] at ht
        obtain ⟨rfl, rfl⟩ := ht
        rw [hlv] at hx
        have t1 := takeOwn_ok h hx (LRw_of hview)
        refine ⟨σ1, g, [.own te e x], xs2, t1, rfl, hx2, ?_⟩
        cases ho : (gl σ1 ⟨t, i⟩).isOwn with
        | false => rfl
        | true =>
          exfalso
          rw [hal (t1.fz.owns _ ho)] at hx
          rw [takeOwn_gone hx] at ho
          cases ho
      | oo te e =>
        simp only [takeBox] at ht
        split at ht
        · rename_i σ1 x hx
          split at ht
          rotate_left
          · cases ht
          rename_i σ2 xs2 hx2
          simp only [Option.some.injEq, Prod.mk.injEq] at ht
          obtain ⟨rfl, rfl⟩ := ht
          rw [hlv] at hx
          have t1 := takeOwn_ok h hx (LRw_of hview)
          refine ⟨σ1, g, [.own te e x], xs2, t1, rfl, hx2, ?_⟩
          cases ho : (gl σ1 ⟨t, i⟩).isOwn with
          | false => rfl
          | true =>
            exfalso
            rw [hal (t1.fz.owns _ ho)] at hx
            rw [takeOwn_gone hx] at ho
            cases ho
        · rename_i hx
          split at ht
          · cases ht
          rename_i hno
          split at ht
          rotate_left
          · cases ht
          rename_i σ2 xs2 hx2
          simp only [Option.some.injEq, Prod.mk.injEq] at ht
          obtain ⟨rfl, rfl⟩ := ht
          exact ⟨σ, g, [.und], xs2, ⟨.refl h, rfl, fun j => by cases j <;> trivial, fun j b hb => by cases j <;> simp [own1, lget, Leaf.isOwn] at hb, fun j1 j2 b hb => by cases j1 <;> simp [own1, lget, Leaf.isOwn] at hb⟩, rfl, hx2, hno⟩
    obtain ⟨σ1, g1, l1, xs2, t1, e1, hx2, o1⟩ := key
    obtain ⟨g2, t2, o2⟩ := takeBox_ok t ks (i + 1) (fun k hk => h1 k (by simp [hk])) t1.fz.rel hx2
    refine ⟨g2, ?_, fun j hj hi => o2 j (fun hj2 => ?_) (by simp at hi; omega)⟩
    · rw [e1]
      have := t1.append t2
      have e3 : ([g.c ⟨t, i⟩] ++ (List.range ks.length).map fun j => g1.c ⟨t, i + 1 + j⟩) = (List.range (k :: ks).length).map fun j => g.c ⟨t, i + j⟩ := by
        rw [t1.fz.c, List.length_cons, List.range_succ_eq_map]
        simp [Function.comp_def, Nat.add_assoc, Nat.add_comm, Nat.add_left_comm]
      rw [e3] at this
      exact this
    · by_cases e : j = i
      · subst e; exact o1
      · cases ho : (gl σ1 ⟨t, j⟩).isOwn with
        | false => rfl
        | true =>
          have := hj (by omega)
          rw [t1.fz.owns _ ho] at this
          cases this
end
end Go.Ev
namespace Go.Ev
set_option linter.unusedVariables false
set_option linter.unusedSimpArgs false
section
variable {X : Ctx} {a : Act} {w : World}
/-- The slot of box `j`. -/
def tk (m : List (Nat × Nat)) (j : Nat) : Nat := (m.lookup j).getD 0
theorem own1_cells {ls : List Leaf} {g : Gh} {t q b : Nat} (h : own1 ls (cellsL g t ls.length) q = some b) : (lget ls q).isOwn = true ∧ (g.c ⟨t, q⟩).ownBlock = some b := by
  have hq := own1_lt h
  simp only [own1, cellsL_getD _ _ _ _ hq] at h
  split at h
  · rename_i h1; exact ⟨h1, h⟩
  · cases h
theorem cells_range (g : Gh) (t n : Nat) : ((List.range n).map fun j => g.c ⟨t, 0 + j⟩) = cellsL g t n := by simp [cellsL]
theorem lget_lt_own {ls : List Leaf} {j : Nat} (h : (lget ls j).isOwn = true) : j < ls.length := by
  apply Nat.lt_of_not_le
  intro hn
  rw [lget_of_le hn] at h
  cases h
theorem outL_len1 : ∀ {ks : List LK} (xs : HL ks), (∀ k ∈ ks, LK.one k = true) → (outL ks xs).length = ks.length
  | [], _, _ => rfl
  | .fr t :: ks, x, h => by
    have := outL_len1 (ks := ks) x.2 (fun k hk => h k (by simp [hk]))
    have h1 : t.sz = 1 := by simpa [LK.one] using h (.fr t) (by simp)
    show (explode t x.1 ++ outL ks x.2).length = _
    rw [List.length_append, length_explode, this, h1, List.length_cons]; omega
  | .ow te e :: ks, x, h => by
    have := outL_len1 (ks := ks) x.2 (fun k hk => h k (by simp [hk]))
    show (Leaf.own te e x.1 :: outL ks x.2).length = _
    rw [List.length_cons, this, List.length_cons]
  | .oo te e :: ks, x, h => by
    have := outL_len1 (ks := ks) x.2 (fun k hk => h k (by simp [hk]))
    rw [outL, List.length_cons, this, List.length_cons]
/-- All boxes are taken. -/
theorem takeBoxes_ne {m : List (Nat × Nat)} : ∀ (bs : List (List LK)) (i : Nat) {σ σ' : St} {ys : BL bs}, takeBoxes m bs i σ = some (σ', ys) → ∀ ks ∈ bs, ks ≠ []
  | [], i, σ, σ', ys, ht => fun ks h => by simp at h
  | b :: bs, i, σ, σ', ys, ht => by
    simp only [takeBoxes] at ht
    split at ht
    rotate_left
    · cases ht
    split at ht
    rotate_left
    · cases ht
    rename_i hlen
    split at ht
    rotate_left
    · cases ht
    split at ht
    rotate_left
    · cases ht
    rename_i hx2
    intro ks hk
    rcases List.mem_cons.1 hk with rfl | hk
    · intro e; rw [e] at hlen; simp at hlen
    · exact takeBoxes_ne bs (i + 1) hx2 ks hk
theorem boxLs_pos : ∀ (bs : List (List LK)) (ys : BL bs), (∀ ks ∈ bs, ∀ k ∈ ks, LK.one k = true) → (∀ ks ∈ bs, ks ≠ []) → ∀ j, j < bs.length → 1 ≤ (boxLs bs ys j).length
  | [], ys, h1, h2, j, hj => by simp at hj
  | ks :: bs, ys, h1, h2, 0, hj => by
    have e : boxLs (ks :: bs) ys 0 = outL ks ys.1 := rfl
    have := outL_len1 ys.1 (h1 ks (by simp))
    have h3 := h2 ks (by simp)
    rw [e, this]
    cases ks with
    | nil => exact absurd rfl h3
    | cons k ks => simp
  | ks :: bs, ys, h1, h2, j + 1, hj => boxLs_pos bs ys.2 (fun ks hk => h1 ks (by simp [hk])) (fun ks hk => h2 ks (by simp [hk])) j (by simpa using hj)
theorem takeBoxes_ok {m : List (Nat × Nat)} : ∀ (bs : List (List LK)) (i : Nat) {σ σ' : St} {g : Gh} {ys : BL bs}, (∀ ks ∈ bs, ∀ k ∈ ks, LK.one k = true) → Rel X σ a w g → takeBoxes m bs i σ = some (σ', ys) →
    ∃ g', Fz X a w σ σ' g g' ∧
      (∀ j, j < bs.length → m.lookup (i + j) = some (tk m (i + j)) ∧ (boxLs bs ys j).length = (gs σ (tk m (i + j))).leaves.length ∧ (∀ q, LO w g'.S (lget (boxLs bs ys j) q) (g.c ⟨tk m (i + j), q⟩)) ∧ ∀ q, (gl σ' ⟨tk m (i + j), q⟩).isOwn = false) ∧
      (∀ j q b, j < bs.length → (lget (boxLs bs ys j) q).isOwn = true → (g.c ⟨tk m (i + j), q⟩).ownBlock = some b → (∃ p, ob σ g (.inr p) = some b) ∧ (∀ o, ob σ' g' o ≠ some b) ∧ ¬ g'.S b) ∧
      (∀ j1 q1 j2 q2 b, j1 < bs.length → j2 < bs.length → (lget (boxLs bs ys j1) q1).isOwn = true → (g.c ⟨tk m (i + j1), q1⟩).ownBlock = some b → (lget (boxLs bs ys j2) q2).isOwn = true → (g.c ⟨tk m (i + j2), q2⟩).ownBlock = some b → j1 = j2 ∧ q1 = q2)
  | [], i, σ, σ', g, ys, h1, h, ht => by
    simp only [takeBoxes, Option.some.injEq, Prod.mk.injEq] at ht
    obtain ⟨rfl, _⟩ := ht
    exact ⟨g, .refl h, fun j hj => by simp at hj, fun j q b hj => by simp at hj, fun j1 q1 j2 q2 b hj => by simp at hj⟩
  | ks :: bs, i, σ, σ', g, ys, h1, h, ht => by
    simp only [takeBoxes] at ht
    split at ht
    rotate_left
    · cases ht
    rename_i t hlk
    split at ht
    rotate_left
    · cases ht
    rename_i hlen0
    have hlen := hlen0.1
    split at ht
    rotate_left
    · cases ht
    rename_i σ1 x hx
    split at ht
    rotate_left
    · cases ht
    rename_i σ2 ys2 hx2
    simp only [Option.some.injEq, Prod.mk.injEq] at ht
    obtain ⟨rfl, rfl⟩ := ht
    have htk : tk m i = t := by simp [tk, hlk]
    obtain ⟨g1, t1, o1⟩ := takeBox_ok t ks 0 (h1 ks (by simp)) h hx
    rw [cells_range] at t1
    have hl1 := outL_len1 x (h1 ks (by simp))
    obtain ⟨g2, f2, a2, b2, c2⟩ := takeBoxes_ok bs (i + 1) (fun ks hk => h1 ks (by simp [hk])) t1.fz.rel hx2
    rw [← hl1] at t1
    have own0 : ∀ q b, (lget (outL ks x) q).isOwn = true → (g.c ⟨t, q⟩).ownBlock = some b → own1 (outL ks x) (cellsL g t (outL ks x).length) q = some b := fun q b ho hb => by
      simp only [own1, ho, if_true, cellsL_getD _ _ _ _ (lget_lt_own ho)]; exact hb
    have hsh : ∀ j, i + (j + 1) = i + 1 + j := fun j => by omega
    refine ⟨g2, t1.fz.trans f2, fun j hj => ?_, fun j q b hj ho hb => ?_, fun j1 q1 j2 q2 b hj1 hj2 ho1 hb1 ho2 hb2 => ?_⟩
    · cases j with
      | zero =>
        simp only [Nat.add_zero, htk]
        refine ⟨hlk, ?_, fun q => ?_, fun q => ?_⟩
        · show (outL ks x).length = _
          rw [hl1, hlen]
        · show LO w g2.S (lget (outL ks x) q) _
          by_cases hq : q < (outL ks x).length
          · have := t1.rel q
            rw [cellsL_getD _ _ _ _ hq] at this
            exact LO_mono f2.S (fun _ _ => rfl) (fun _ _ _ => rfl) this
          · rw [lget_of_le (by omega)]; trivial
        · cases ho : (gl σ2 ⟨t, q⟩).isOwn with
          | false => rfl
          | true =>
            exfalso
            have hy := f2.owns _ ho
            by_cases hq : q < 0 + ks.length
            · have := o1 q (fun h => by omega) hq
              rw [hy] at this; cases this
            · have hy0 := t1.fz.owns _ hy
              have : q < (gs σ t).leaves.length := lget_lt_own hy0
              omega
      | succ j =>
        rw [hsh j]
        obtain ⟨e1, e2, e3, e4⟩ := a2 j (by simpa using hj)
        refine ⟨e1, ?_, fun q => ?_, e4⟩
        · show (boxLs bs ys2 j).length = _
          rw [e2, leaves_len, t1.fz.shp, ← leaves_len]
        · have := e3 q
          rw [t1.fz.c] at this
          exact this
    · cases j with
      | zero =>
        simp only [Nat.add_zero, htk] at hb
        obtain ⟨p1, p2, p3⟩ := t1.own q b (own0 q b ho hb)
        refine ⟨p1, fun o ho => p2 o (f2.ob ho), fun hs => ?_⟩
        rcases f2.new b hs with hs | ⟨p, hs⟩
        · exact p3 hs
        · exact p2 _ hs
      | succ j =>
        rw [hsh j] at hb
        obtain ⟨⟨p, hp⟩, p2, p3⟩ := b2 j q b (by simpa using hj) ho (by rw [t1.fz.c]; exact hb)
        exact ⟨⟨p, t1.fz.ob hp⟩, p2, p3⟩
    · cases j1 with
      | zero =>
        simp only [Nat.add_zero, htk] at hb1
        cases j2 with
        | zero =>
          simp only [Nat.add_zero, htk] at hb2
          exact ⟨rfl, t1.inj q1 q2 b (own0 q1 b ho1 hb1) (own0 q2 b ho2 hb2)⟩
        | succ j2 =>
          rw [hsh j2] at hb2
          obtain ⟨⟨p, hp⟩, _⟩ := b2 j2 q2 b (by simpa using hj2) ho2 (by rw [t1.fz.c]; exact hb2)
          exact absurd hp ((t1.own q1 b (own0 q1 b ho1 hb1)).2.1 _)
      | succ j1 =>
        rw [hsh j1] at hb1
        cases j2 with
        | zero =>
          simp only [Nat.add_zero, htk] at hb2
          obtain ⟨⟨p, hp⟩, _⟩ := b2 j1 q1 b (by simpa using hj1) ho1 (by rw [t1.fz.c]; exact hb1)
          exact absurd hp ((t1.own q2 b (own0 q2 b ho2 hb2)).2.1 _)
        | succ j2 =>
          rw [hsh j2] at hb2
          obtain ⟨e1, e2⟩ := c2 j1 q1 j2 q2 b (by simpa using hj1) (by simpa using hj2) ho1 (by rw [t1.fz.c]; exact hb1) ho2 (by rw [t1.fz.c]; exact hb2)
          exact ⟨by rw [e1], e2⟩
/-- Boxes come back with other leaves, in another world. -/
theorem Rel.call {σ σ' : St} {g g' : Gh} {w' : World} (h : Rel X σ a w g) {B : Nat → Prop} (hB : ∀ t, B t → isBox σ t) (hno : ∀ p : Pl, B p.t → (gl σ p).isOwn = false) (hlen : σ'.length = σ.length)
    (hgs : ∀ t, ¬ B t → gs σ' t = gs σ t) (hgB : ∀ t, B t → ∃ ls, gs σ' t = .box ls) (hblk : g'.blk = g.blk) (hvc : g'.vc = g.vc) (hc : ∀ p : Pl, ¬ B p.t → g'.c p = g.c p) (hS : ∀ b, g.S b → g'.S b)
    (hos : w'.os = w.os) (htape : w'.tape = w.tape) (hdr : w.drawn ≤ w'.drawn) (hout : w'.output = w.output) (hsz : w.heap.size ≤ w'.heap.size)
    (hkeep : ∀ b, (g.S b ∨ ∃ o, ob σ g o = some b ∧ ∀ t, B t → o ≠ .inl t) → w'.heap[b]? = w.heap[b]?)
    (hfrm : ∀ b, b < X.w0.heap.size → ¬ X.M b → w'.heap[b]? = w.heap[b]?)
    (hbx : ∀ t, B t → (∃ te, w'.heap[g.blk t]? = some (.cells (cellsL g' t (gs σ' t).leaves.length).toArray te (0, 0))) ∧ ∀ i, LO w' g'.S (lget (gs σ' t).leaves i) (g'.c ⟨t, i⟩))
    (hown : ∀ (p : Pl) b, B p.t → (gl σ' p).isOwn = true → (g'.c p).ownBlock = some b → ¬ g'.S b ∧ b < w'.heap.size ∧ (X.w0.heap.size ≤ b ∨ X.M b) ∧ ∀ o, ob σ g o ≠ some b)
    (hinj : ∀ (p q : Pl) b, B p.t → B q.t → (gl σ' p).isOwn = true → (g'.c p).ownBlock = some b → (gl σ' q).isOwn = true → (g'.c q).ownBlock = some b → p = q)
    (hsb : ∀ b, g'.S b → b < w'.heap.size ∧ (X.S0 b ∨ X.M b ∨ X.w0.heap.size ≤ b))
    (hdis : ∀ o b, ob σ g o = some b → ¬ g'.S b) : Rel X σ' a w' g' := by
  have hbox : ∀ t, isBox σ' t ↔ isBox σ t := fun t => by
    by_cases hb : B t
    · obtain ⟨ls, e⟩ := hgB t hb
      refine ⟨fun _ => hB t hb, fun _ => by unfold isBox; rw [e]; rfl⟩
    · unfold isBox; rw [hgs t hb]
  have hgl : ∀ p : Pl, ¬ B p.t → gl σ' p = gl σ p := fun p hp => by unfold gl; rw [hgs _ hp]
  have hnB : ∀ p : Pl, (gl σ p).isOwn = true → ¬ B p.t := fun p hp hb => by rw [hno p hb] at hp; cases hp
  have hob : ∀ o b, ob σ' g' o = some b → (ob σ g o = some b ∧ ∀ p, o = .inr p → ¬ B p.t) ∨ ∃ p, o = .inr p ∧ B p.t ∧ (gl σ' p).isOwn = true ∧ (g'.c p).ownBlock = some b := by
    intro o b hb
    cases o with
    | inl t =>
      refine .inl ⟨?_, fun p e => by cases e⟩
      simp only [ob, hblk] at hb ⊢
      have := hbox t
      unfold isBox at this
      by_cases h1 : (gs σ t).shp.isBox = true
      · rw [if_pos h1]; rw [if_pos (this.2 h1)] at hb; exact hb
      · rw [if_neg (fun h2 => h1 (this.1 h2))] at hb; cases hb
    | inr p =>
      by_cases hp : B p.t
      · simp only [ob] at hb
        split at hb
        · rename_i ho; exact .inr ⟨p, rfl, hp, ho, hb⟩
        · cases hb
      · refine .inl ⟨?_, fun q e => by cases e; exact hp⟩
        simpa [ob, hgl p hp, hc p hp] using hb
  have hSw : ∀ b, g.S b → w'.heap[b]? = w.heap[b]? := fun b hb => hkeep b (.inl hb)
  have hLR : ∀ l v, (l.isOwn = true → ∀ b, v.ownBlock = some b → w'.heap[b]? = w.heap[b]?) → LR σ w g l v → LR σ' w' g' l v := by
    intro l v hlo hl
    cases l with
    | val t x => exact rel_mono hS hSw hl
    | own te e xs => exact ownR_mono hS hSw (hlo rfl) hl
    | al q =>
      have hq := hnB q hl.2
      exact ⟨by rw [hc q hq]; exact hl.1, by rw [hgl q hq]; exact hl.2⟩
    | nils => exact hl
    | ptr b o => exact ⟨by rw [hblk]; exact hl.1, (hbox b).2 hl.2⟩
    | ept q e' i o =>
      obtain ⟨⟨n, h1, h2⟩, h3⟩ := hl
      have hq := hnB q (rowTy_own h1)
      exact ⟨⟨n, by rw [hgl q hq]; exact h1, h2⟩, by rw [hc q hq]; exact h3⟩
    | hol te e xs i q =>
      refine LR_hol (σ := σ) (g := g) hS hSw (hlo rfl) (fun r hr => ?_) hl
      obtain ⟨n, hn⟩ := hl.2 r hr
      have hq := hnB r (rowTy_own hn)
      exact ⟨hc r hq, fun n hn => ⟨n, by rw [hgl r hq]; exact hn⟩⟩
    | vpt t x =>
      obtain ⟨b, o, cs, h1, h2, h3, h4⟩ := hl
      exact ⟨b, o, cs, h1, hS b h2, rel_mono hS hSw h3, fun j u hu => by rw [← h4 j u hu]; exact World.cell?_of_block (hSw b h2)⟩
    | clo f bs => exact ⟨by rw [hblk]; exact hl.1, fun b hb => (hbox b).2 (hl.2 b hb)⟩
    | cst u => exact hl
    | no => exact hl
    | und => trivial
  refine { h with
    sh := fun t ht => ?_
    lf := fun p => ?_
    inj := fun o1 o2 b h1 h2 => ?_
    fr := fun o b hb => ?_
    sb := hsb
    s0 := fun b hb => hS b (h.s0 b hb)
    bx := fun t ht => by rw [hblk]; exact h.bx t ht
    vcx := hvc.trans h.vcx
    os := hos.trans h.os
    tape := htape.trans h.tape
    drawn := Nat.le_trans h.drawn hdr
    output := hout.trans h.output
    grow := Nat.le_trans h.grow hsz
    frame := fun b h1 h2 => (hfrm b h1 h2).trans (h.frame b h1 h2) }
  · have ht' : t < σ.length := by omega
    have hsh := h.sh t ht'
    by_cases hb : B t
    · obtain ⟨ls, e⟩ := hgB t hb
      obtain ⟨⟨te, h1⟩, _⟩ := hbx t hb
      rw [e] at h1 ⊢
      refine ⟨fun hN => ?_, te, by rw [hblk]; exact h1⟩
      have hx := hB t hb
      unfold isBox at hx
      revert hx hsh
      cases (gs σ t).shp with
      | cs ag n => intro _ hx; cases hx
      | tup ks n => intro _ hx; cases hx
      | box n => intro hsh _; rw [hblk]; exact hsh.1 hN
      | itr s i n => intro hsh _; rw [hblk]; exact hsh.2.1 hN
      | vb n => intro _ hx; cases hx
    · rw [hgs t hb]
      have hcl : ∀ n, cellsL g' t n = cellsL g t n := fun n => by
        simp only [cellsL]
        exact List.map_congr_left (fun i _ => hc ⟨t, i⟩ hb)
      have hbk : (gs σ t).shp.isBox = true → w'.heap[g.blk t]? = w.heap[g.blk t]? := fun hx => hkeep _ (.inr ⟨.inl t, by simp [ob, hx], fun t' h' e => by cases e; exact hb h'⟩)
      revert hsh hbk
      cases (gs σ t).shp with
      | cs ag n =>
        intro hsh _
        cases ag with
        | false => exact ⟨hsh.1, by rw [hc ⟨t, 0⟩ hb]; exact hsh.2⟩
        | true => show _ = _; rw [hcl]; exact hsh
      | box n => intro hsh hbk; exact ⟨by rw [hblk]; exact hsh.1, by rw [hblk, hcl, hbk rfl]; exact hsh.2⟩
      | itr s i n => intro hsh hbk; exact ⟨hsh.1, by rw [hblk]; exact hsh.2.1, by rw [hblk, hbk rfl]; exact hsh.2.2⟩
      | vb n => intro hsh _; exact ⟨hsh.1, by rw [hc ⟨t, 0⟩ hb, hvc]; exact hsh.2⟩
      | tup ks n =>
        intro hsh _
        obtain ⟨vs, h1, h2⟩ := hsh
        exact ⟨vs, h1, by rw [hcl]; exact h2⟩
  · by_cases hb : B p.t
    · exact LO_LR ((hbx p.t hb).2 p.i)
    · rw [hgl p hb, hc p hb]
      exact hLR _ _ (fun ho b hbo => hkeep b (.inr ⟨.inr p, by simp [ob, ho, hbo], fun t _ e => by cases e⟩)) (h.lf p)
  · rcases hob _ _ h1 with ⟨a1, c1⟩ | ⟨p1, e1, b1, c1, d1⟩ <;> rcases hob _ _ h2 with ⟨a2, c2⟩ | ⟨p2, e2, b2, c2, d2⟩
    · exact h.inj _ _ b a1 a2
    · exact absurd a1 ((hown p2 b b2 c2 d2).2.2.2 _)
    · exact absurd a2 ((hown p1 b b1 c1 d1).2.2.2 _)
    · rw [e1, e2, hinj p1 p2 b b1 b2 c1 d1 c2 d2]
  · rcases hob _ _ hb with ⟨a1, c1⟩ | ⟨p1, e1, b1, c1, d1⟩
    · obtain ⟨f1, f2, f3⟩ := h.fr o b a1
      exact ⟨hdis o b a1, by omega, f3⟩
    · obtain ⟨f1, f2, f3, _⟩ := hown p1 b b1 c1 d1
      exact ⟨f1, f2, f3⟩
end
/-- What boxes hold afterwards. -/
theorem putBoxes_gs {m : List (Nat × Nat)} (hinj : ∀ b1 b2 t, m.lookup b1 = some t → m.lookup b2 = some t → b1 = b2) : ∀ (bs : List (List LK)) (i : Nat) (x : BL bs) (σ : St), (∀ j, j < bs.length → ∃ t, m.lookup (i + j) = some t ∧ t < σ.length) →
    (∀ j t, j < bs.length → m.lookup (i + j) = some t → gs (putBoxes m bs i x σ) t = .box (boxLs bs x j)) ∧ (∀ t, (∀ j, j < bs.length → m.lookup (i + j) ≠ some t) → gs (putBoxes m bs i x σ) t = gs σ t) ∧ (putBoxes m bs i x σ).length = σ.length
  | [], i, x, σ, h => ⟨fun j t hj => by simp at hj, fun t _ => rfl, rfl⟩
  | ks :: bs, i, x, σ, h => by
    obtain ⟨t0, h0, hl0⟩ := h 0 (by simp)
    rw [Nat.add_zero] at h0
    have e1 : putBoxes m (ks :: bs) i x σ = putBoxes m bs (i + 1) x.2 (ss σ t0 (.box (outL ks x.1))) := by simp [putBoxes, h0]
    obtain ⟨r1, r2, r3⟩ := putBoxes_gs hinj bs (i + 1) x.2 (ss σ t0 (.box (outL ks x.1))) (fun j hj => by
      obtain ⟨t, h1, h2⟩ := h (j + 1) (by simpa using hj)
      exact ⟨t, by rw [show i + 1 + j = i + (j + 1) from by omega]; exact h1, by simpa using h2⟩)
    rw [e1]
    refine ⟨fun j t hj hlk => ?_, fun t hno => ?_, by rw [r3]; simp⟩
    · cases j with
      | zero =>
        rw [Nat.add_zero, h0] at hlk
        injection hlk with hlk
        subst hlk
        rw [r2 t0 (fun j hj hlk => by have := hinj _ _ _ h0 hlk; omega), gs_ss, if_pos ⟨rfl, hl0⟩]
        rfl
      | succ j =>
        exact r1 j t (by simpa using hj) (by rw [show i + 1 + j = i + (j + 1) from by omega]; exact hlk)
    · rw [r2 t (fun j hj hlk => hno (j + 1) (by simpa using hj) (by rw [show i + (j + 1) = i + 1 + j from by omega]; exact hlk)), gs_ss, if_neg]
      rintro ⟨e, _⟩
      subst e
      exact hno 0 (by simp) (by rw [Nat.add_zero]; exact h0)
end Go.Ev
namespace Go.Ev
set_option linter.unusedVariables false
set_option linter.unusedSimpArgs false
theorem tk_of {m : List (Nat × Nat)} {j t : Nat} (h : m.lookup j = some t) : tk m j = t := by simp [tk, h]
theorem outSlot_box (rs : List (Bool × List LK)) (x : BL (rs.map (·.2))) : (outSlot rs x).shp.isBox = false := by
  unfold outSlot
  split <;> rfl
theorem outSlot_leaves (rs : List (Bool × List LK)) (x : BL (rs.map (·.2))) : (outSlot rs x).leaves = (outR rs x).2 := by
  unfold outSlot
  split
  · rename_i h; rw [h]; rfl
  · rename_i h; rw [h]; rfl
theorem plain_explode : ∀ (t : Ty) (x : t.den), LK.plain (.fr t) = true → ∀ i, ∀ (w w' : World) (S S' : Nat → Prop) v, LO w S (lget (explode t x) i) v → LO w' S' (lget (explode t x) i) v
  | .int k, x, _, i, w, w', S, S', v, h => by cases i <;> exact h
  | .bool, x, _, i, w, w', S, S', v, h => by cases i <;> exact h
  | .str, x, _, i, w, w', S, S', v, h => by cases i <;> exact h
  | .list e, x, hp, i, w, w', S, S', v, h => by simp [LK.plain, Ty.plain] at hp
  | .pair a b, x, hp, i, w, w', S, S', v, h => by
    simp only [LK.plain, Ty.plain, Bool.and_eq_true] at hp
    simp only [explode] at h ⊢
    rw [lget_append] at h ⊢
    split at h
    · rename_i hi; rw [if_pos hi]; exact plain_explode a x.1 hp.1 i w w' S S' v h
    · rename_i hi; rw [if_neg hi]; exact plain_explode b x.2 hp.2 _ w w' S S' v h
theorem plain_outL : ∀ (ks : List LK) (x : HL ks), ks.all LK.plain = true → ∀ i, (∀ (w w' : World) (S S' : Nat → Prop) v, LO w S (lget (outL ks x) i) v → LO w' S' (lget (outL ks x) i) v) ∧ (lget (outL ks x) i).isOwn = false
  | [], x, _, i => ⟨fun _ _ _ _ _ h => h, rfl⟩
  | .fr t :: ks, x, hp, i => by
    simp only [List.all_cons, Bool.and_eq_true] at hp
    have ih := plain_outL ks x.2 hp.2
    simp only [outL]
    rw [lget_append]
    split
    · exact ⟨fun w w' S S' v h => plain_explode t x.1 hp.1 i w w' S S' v h, explode_own _ _ _⟩
    · exact ih _
  | .ow te e :: ks, x, hp, i => by simp [LK.plain, Ty.plain] at hp
  | .oo te e :: ks, x, hp, i => by simp [LK.plain, Ty.plain] at hp
theorem plain_outR : ∀ (rs : List (Bool × List LK)) (x : BL (rs.map (·.2))), rs.all (fun r => r.2.all LK.plain) = true → ∀ i, (∀ (w w' : World) (S S' : Nat → Prop) v, LO w S (lget (outR rs x).2 i) v → LO w' S' (lget (outR rs x).2 i) v) ∧ (lget (outR rs x).2 i).isOwn = false
  | [], x, _, i => ⟨fun _ _ _ _ _ h => h, rfl⟩
  | (a, ks) :: rs, x, hp, i => by
    simp only [List.all_cons, Bool.and_eq_true] at hp
    have ih := plain_outR rs x.2 hp.2
    simp only [outR]
    rw [lget_append]
    split
    · exact plain_outL ks x.1 hp.1 i
    · exact ih _
/-- What the functions' table tells is right. -/
def EnvOk (P : Program) (env : Env) : Prop := ∀ q ∈ env, Sound P q.1 q.2
theorem findF_ok {P : Program} {f : FuncId} {as : List Arg} {F : Fun} : ∀ {env : Env}, EnvOk P env → findF f as env = some F → Sound P f F
  | [], _, h => by cases h
  | (q, G) :: env, he, h => by
    simp only [findF] at h
    split at h
    · rename_i hc
      injection h with h
      subst h
      have := he (q, G) (by simp)
      rw [hc.1] at this
      exact this
    · exact findF_ok (fun q hq => he q (by simp [hq])) h
section
variable {P : Program} {T : TypeId → Option TI} {env : Env} {X : Ctx} {σ : St} {a : Act} {w : World} {g : Gh} {A : Type} {r : A} {k : St → Option A} {K : Act → World → Prop} {Q : Exit → Act → World → Prop}
  {d : Option Tmp} {ty : TypeId} {pos : String} {aft : Array Edge} {gd : Option (Nat × Bool)}
/-- What is handed over, out of the state. -/
theorem hand_ok {σ1 σ2 : St} {g1 : Gh} {bs : List (List LK)} {ls : List Leaf} {ys : BL bs} {cs : List Value} {m : List (Nat × Nat)} (h : Rel X σ a w g) (t1 : Tk X a w σ σ1 g g1 ls cs) (hm : MOk σ m) (h1 : ∀ ks ∈ bs, ∀ k ∈ ks, LK.one k = true)
    (ht : takeBoxes m bs 0 σ1 = some (σ2, ys)) :
    ∃ g2, Fz X a w σ σ2 g g2 ∧ Hand w g2.S ls cs bs.length (boxLs bs ys) (fun j => cellsL g (tk m j) (boxLs bs ys j).length) (fun j => g.blk (tk m j)) ∧
      (∀ j, j < bs.length → m.lookup j = some (tk m j) ∧ ∀ q, (gl σ2 ⟨tk m j, q⟩).isOwn = false) ∧
      (∀ o b, ob σ2 g2 o = some b → (∀ j, j < bs.length → o ≠ .inl (tk m j)) → ¬ ∃ o', pob ls cs bs.length (boxLs bs ys) (fun j => cellsL g (tk m j) (boxLs bs ys j).length) (fun j => g.blk (tk m j)) o' = some b) ∧
      (∀ o' b, pob ls cs bs.length (boxLs bs ys) (fun j => cellsL g (tk m j) (boxLs bs ys j).length) (fun j => g.blk (tk m j)) o' = some b → (∃ o, ob σ g o = some b) ∧ ((∃ o, ob σ2 g2 o = some b) → ∃ j, j < bs.length ∧ b = g.blk (tk m j))) := by
  obtain ⟨g2, f2, a2, b2, c2⟩ := takeBoxes_ok bs 0 h1 t1.fz.rel ht
  simp only [Nat.zero_add] at a2 b2 c2
  have f := t1.fz.trans f2
  have hbox : ∀ j, j < bs.length → isBox σ (tk m j) := fun j hj => hm.box j _ (lookup_mem (a2 j hj).1)
  have hleaf : ∀ j q b, own1 (boxLs bs ys j) (cellsL g (tk m j) (boxLs bs ys j).length) q = some b → (lget (boxLs bs ys j) q).isOwn = true ∧ (g1.c ⟨tk m j, q⟩).ownBlock = some b := fun j q b hb => by
    rw [t1.fz.c]; exact own1_cells hb
  -- each block handed over was owned
  have was : ∀ o' b, pob ls cs bs.length (boxLs bs ys) (fun j => cellsL g (tk m j) (boxLs bs ys j).length) (fun j => g.blk (tk m j)) o' = some b →
      (∃ o, ob σ g o = some b) ∧ ((∃ o, ob σ2 g2 o = some b) → ∃ j, j < bs.length ∧ b = g.blk (tk m j)) ∧ ¬ g2.S b := by
    intro o' b hb
    cases o' with
    | arg j =>
      obtain ⟨⟨p, hp⟩, p2, p3⟩ := t1.own j b hb
      refine ⟨⟨_, hp⟩, fun ⟨o, ho⟩ => absurd (f2.ob ho) (p2 o), fun hs => ?_⟩
      rcases f2.new b hs with hs | ⟨p, hs⟩
      · exact p3 hs
      · exact p2 _ hs
    | box j =>
      simp only [pob] at hb
      split at hb
      · rename_i hj
        injection hb with hb
        subst hb
        refine ⟨⟨_, box_blk (hbox j hj)⟩, fun _ => ⟨j, hj, rfl⟩, ?_⟩
        have : ob σ2 g2 (.inl (tk m j)) = some (g.blk (tk m j)) := by
          rw [← f.blk]; exact box_blk (f.box _ (hbox j hj))
        exact (f.rel.fr _ _ this).1
      · cases hb
    | leaf j q =>
      simp only [pob] at hb
      split at hb
      · rename_i hj
        obtain ⟨l1, l2⟩ := hleaf j q b hb
        obtain ⟨⟨p, hp⟩, p2, p3⟩ := b2 j q b hj l1 l2
        exact ⟨⟨_, t1.fz.ob hp⟩, fun ⟨o, ho⟩ => absurd ho (p2 o), p3⟩
      · cases hb
  refine ⟨g2, f, ⟨t1.len, fun j => ?_, fun j hj => ?_, fun o1 o2 b e1 e2 => ?_, fun o b hb => ?_, fun b hb => (f.rel.sb b hb).1, f.rel.lay⟩, fun j hj => ⟨(a2 j hj).1, (a2 j hj).2.2.2⟩, fun o b hb hne => ?_, fun o' b hb => ⟨(was o' b hb).1, (was o' b hb).2.1⟩⟩
  · exact LO_mono f2.S (fun _ _ => rfl) (fun _ _ _ => rfl) (t1.rel j)
  · obtain ⟨q1, q2, q3, q4⟩ := a2 j hj
    have hsh := h.sh (tk m j) (isBox_lt (hbox j hj))
    have hlen : (boxLs bs ys j).length = (gs σ (tk m j)).leaves.length := by rw [q2, leaves_len, t1.fz.shp, ← leaves_len]
    refine ⟨?_, by simp, fun q => ?_⟩
    · have hb := hbox j hj
      have hpos := boxLs_pos bs ys h1 (takeBoxes_ne bs 0 ht) j hj
      rw [hlen] at hpos ⊢
      unfold isBox at hb
      rw [leaves_len] at hpos ⊢
      revert hsh hb hpos
      cases (gs σ (tk m j)).shp with
      | cs ag n => intro _ hb; cases hb
      | tup ks n => intro _ hb; cases hb
      | box n => intro hsh _ _; exact hsh.2
      | itr s i n => intro hsh _ hp; have := hsh.1; simp only [Shp.len] at hp; omega
      | vb n => intro _ hb; cases hb
    · by_cases hq : q < (boxLs bs ys j).length
      · rw [cellsL_getD _ _ _ _ hq]
        have := q3 q
        rw [t1.fz.c] at this
        exact this
      · rw [lget_of_le (by omega)]; trivial
  · -- told apart
    have cross : ∀ j b, own1 ls cs j = some b → (∀ i q, i < bs.length → own1 (boxLs bs ys i) (cellsL g (tk m i) (boxLs bs ys i).length) q ≠ some b) ∧ ∀ i, i < bs.length → g.blk (tk m i) ≠ b := by
      intro j b hb
      obtain ⟨⟨p, hp⟩, p2, p3⟩ := t1.own j b hb
      refine ⟨fun i q hi e => ?_, fun i hi e => ?_⟩
      · obtain ⟨l1, l2⟩ := hleaf i q b e
        obtain ⟨⟨p, hp⟩, _⟩ := b2 i q b hi l1 l2
        exact p2 _ hp
      · have := box_blk (g := g) (hbox i hi)
        rw [e] at this
        have := h.inj _ _ _ this hp
        cases this
    have cross2 : ∀ i q b, i < bs.length → own1 (boxLs bs ys i) (cellsL g (tk m i) (boxLs bs ys i).length) q = some b → ∀ i', i' < bs.length → g.blk (tk m i') ≠ b := by
      intro i q b hi e i' hi' e2
      obtain ⟨l1, l2⟩ := hleaf i q b e
      obtain ⟨⟨p, hp⟩, _⟩ := b2 i q b hi l1 l2
      have := box_blk (g := g) (hbox i' hi')
      rw [e2] at this
      have := h.inj _ _ _ this (t1.fz.ob hp)
      cases this
    cases o1 with
    | arg j1 =>
      have e1 : own1 ls cs j1 = some b := e1
      obtain ⟨x1, x2⟩ := cross j1 b e1
      cases o2 with
      | arg j2 => rw [t1.inj j1 j2 b e1 e2]
      | box i =>
        simp only [pob] at e2
        split at e2
        · rename_i hi; injection e2 with e2; exact absurd e2 (x2 i hi)
        · cases e2
      | leaf i q =>
        simp only [pob] at e2
        split at e2
        · rename_i hi; exact absurd e2 (x1 i q hi)
        · cases e2
    | box i1 =>
      simp only [pob] at e1
      split at e1
      rotate_left
      · cases e1
      rename_i hi1
      injection e1 with e1
      cases o2 with
      | arg j2 =>
        have e2 : own1 ls cs j2 = some b := e2
        exact absurd e1 ((cross j2 b e2).2 i1 hi1)
      | box i2 =>
        simp only [pob] at e2
        split at e2
        rotate_left
        · cases e2
        rename_i hi2
        injection e2 with e2
        have b1 := box_blk (g := g) (hbox i1 hi1)
        have b2 := box_blk (g := g) (hbox i2 hi2)
        rw [e1] at b1
        rw [e2] at b2
        have := h.inj _ _ _ b1 b2
        injection this with this
        have l1 := lookup_mem (a2 i1 hi1).1
        have l2 := lookup_mem (a2 i2 hi2).1
        rw [this] at l1
        rw [hm.inj _ _ _ l1 l2]
      | leaf i q =>
        simp only [pob] at e2
        split at e2
        · rename_i hi; exact absurd e1 (cross2 i q b hi e2 i1 hi1)
        · cases e2
    | leaf i1 q1 =>
      simp only [pob] at e1
      split at e1
      rotate_left
      · cases e1
      rename_i hi1
      cases o2 with
      | arg j2 =>
        have e2 : own1 ls cs j2 = some b := e2
        exact absurd e1 ((cross j2 b e2).1 i1 q1 hi1)
      | box i2 =>
        simp only [pob] at e2
        split at e2
        · rename_i hi; injection e2 with e2; exact absurd e2 (cross2 i1 q1 b hi1 e1 i2 hi)
        · cases e2
      | leaf i2 q2 =>
        simp only [pob] at e2
        split at e2
        rotate_left
        · cases e2
        rename_i hi2
        obtain ⟨l1, l2⟩ := hleaf i1 q1 b e1
        obtain ⟨k1, k2⟩ := hleaf i2 q2 b e2
        obtain ⟨r1, r2⟩ := c2 i1 q1 i2 q2 b hi1 hi2 l1 l2 k1 k2
        rw [r1, r2]
  · obtain ⟨⟨o', ho'⟩, _, p3⟩ := was o b hb
    exact ⟨p3, (h.fr _ _ ho').2.1⟩
  · rintro ⟨o', ho'⟩
    obtain ⟨_, p2, _⟩ := was o' b ho'
    obtain ⟨j, hj, rfl⟩ := p2 ⟨o, hb⟩
    have : ob σ2 g2 (.inl (tk m j)) = some (g.blk (tk m j)) := by
      rw [← f.blk]; exact box_blk (f.box _ (hbox j hj))
    exact hne j hj (f.rel.inj _ _ _ hb this)
end
end Go.Ev
namespace Go.Ev
set_option linter.unusedVariables false
set_option linter.unusedSimpArgs false
section
variable {P : Program} {T : TypeId → Option TI} {env : Env} {X : Ctx} {σ : St} {a : Act} {w : World} {g : Gh} {A : Type} {r : A} {k : St → Option A} {K : Act → World → Prop} {Q : Exit → Act → World → Prop}
  {d : Option Tmp} {ty : TypeId} {pos : String} {aft : Array Edge} {gd : Option (Nat × Bool)}
/-- A result is written. -/
theorem put_back {w : World} {g : Gh} (h : Rel X σ a w g) (hN : X.N ≤ σ.length) (hd : ∀ t, d = some t → t < X.N) {s : Slot} {cs : List Value} {v : Value} (hs : s.shp.isBox = false) (hlen : cs.length = s.leaves.length) (hv : VR w 0 cs v s.shp)
    (hl : ∀ j, LO w g.S (lget s.leaves j) (cs.getD j undef)) (hinj : ∀ j1 j2 b, own1 s.leaves cs j1 = some b → own1 s.leaves cs j2 = some b → j1 = j2)
    (hfr : ∀ j b, own1 s.leaves cs j = some b → ¬ g.S b ∧ b < w.heap.size ∧ (X.w0.heap.size ≤ b ∨ X.M b) ∧ ∀ o', ob σ g o' ≠ some b)
    (hk : k (Ev.wr σ d s) = some r) (hK : Nx X σ.length k r K) : K (a.put d v) w := by
  cases d with
  | none => exact hK σ a w g h rfl hk
  | some d =>
    refine hK _ _ _ _ (h.wr (hd d rfl) hN (s := s) (cs := cs) (nb := 0) hlen hv (fun i => LO_LR (hl i)) (fun o1 o2 b e1 e2 => ?_) (fun o b e => ?_)) (by simp) hk
    · cases o1 with
      | none => simp [nob, hs] at e1
      | some i =>
        cases o2 with
        | none => simp [nob, hs] at e2
        | some j => rw [hinj i j b e1 e2]
    · cases o with
      | none => simp [nob, hs] at e
      | some i => exact hfr i b e
/-- Leaves that were handed back, and are not yet put anywhere. -/
structure Pend (X : Ctx) (a : Act) (w : World) (σ : St) (g : Gh) (ls : List Leaf) (cs : List Value) : Prop where
  rel : Rel X σ a w g
  len : cs.length = ls.length
  lo : ∀ j, LO w g.S (lget ls j) (cs.getD j undef)
  own : ∀ j b, own1 ls cs j = some b → ¬ g.S b ∧ b < w.heap.size ∧ (X.w0.heap.size ≤ b ∨ X.M b) ∧ ∀ o', ob σ g o' ≠ some b
  inj : ∀ j1 j2 b, own1 ls cs j1 = some b → own1 ls cs j2 = some b → j1 = j2
theorem Pend.tail {σ : St} {g : Gh} {l : Leaf} {ls : List Leaf} {v : Value} {cs : List Value} (h : Pend X a w σ g (l :: ls) (v :: cs)) : Pend X a w σ g ls cs :=
  ⟨h.rel, by simpa using h.len, fun j => h.lo (j + 1), fun j b hb => h.own (j + 1) b hb, fun j1 j2 b h1 h2 => by have := h.inj (j1 + 1) (j2 + 1) b h1 h2; omega⟩
/-- A row comes to its place. -/
theorem Pend.give {σ : St} {g : Gh} {te : TypeId} {e : Ty} {xs : List e.den} {ls : List Leaf} {v : Value} {cs : List Value} (h : Pend X a w σ g (.own te e xs :: ls) (v :: cs)) {p : Pl} (hp : Vp σ p) (hg : gl σ p = .und) (hv : v = g.c p) :
    Pend X a w (sl σ p (.own te e xs)) g ls cs := by
  have hgl : ∀ q, gl (sl σ p (.own te e xs)) q = if p = q then .own te e xs else gl σ q := fun q => gl_sl q _ hp
  have hbox : ∀ b, isBox (sl σ p (.own te e xs)) b ↔ isBox σ b := fun b => by unfold isBox; rw [shp_sl]
  have h0 : ∀ b, (g.c p).ownBlock = some b → own1 (.own te e xs :: ls) (v :: cs) 0 = some b := fun b hb => by rw [← hv] at hb; simpa [own1, lget, Leaf.isOwn] using hb
  have hob : ∀ o b, ob (sl σ p (.own te e xs)) g o = some b → ob σ g o = some b ∨ (o = .inr p ∧ (g.c p).ownBlock = some b) := by
    intro o b hb
    cases o with
    | inl t => exact .inl (by simpa [ob, shp_sl] using hb)
    | inr q =>
      simp only [ob, hgl q] at hb
      by_cases e1 : p = q
      · subst e1
        rw [if_pos rfl] at hb
        exact .inr ⟨rfl, by simpa [Leaf.isOwn] using hb⟩
      · rw [if_neg e1] at hb
        exact .inl hb
  have hLR : ∀ l u, LR σ w g l u → LR (sl σ p (.own te e xs)) w g l u := by
    intro l u hl
    cases l with
    | al q =>
      refine ⟨hl.1, ?_⟩
      rw [hgl q]
      split
      · rfl
      · exact hl.2
    | ptr b o => exact ⟨hl.1, (hbox b).2 hl.2⟩
    | ept q e' i o =>
      obtain ⟨⟨n, h1, h2⟩, h3⟩ := hl
      have hq : p ≠ q := fun e1 => by rw [← e1, hg] at h1; cases h1
      exact ⟨⟨n, by rw [hgl q, if_neg hq]; exact h1, h2⟩, h3⟩
    | hol te' e' ys i q =>
      refine LR_hol (σ := σ) (g := g) (fun _ h => h) (fun _ _ => rfl) (fun _ _ => rfl) (fun r hr => ?_) hl
      obtain ⟨n, hn⟩ := hl.2 r hr
      have hq : p ≠ r := fun e1 => by rw [← e1, hg] at hn; cases hn
      exact ⟨rfl, fun n hn => ⟨n, by rw [hgl r, if_neg hq]; exact hn⟩⟩
    | clo f bs => exact ⟨hl.1, fun b hb => (hbox b).2 (hl.2 b hb)⟩
    | val t x => exact hl
    | own te e xs => exact hl
    | nils => exact hl
    | vpt t x => exact hl
    | cst u => exact hl
    | no => exact hl
    | und => trivial
  have hr := h.rel
  have hlo : LR σ w g (.own te e xs) (g.c p) := by
    have := h.lo 0
    rw [← hv]
    exact LO_LR this
  refine ⟨{ hr with
    sh := fun t ht => ?_
    lf := fun q => ?_
    inj := fun o1 o2 b h1 h2 => ?_
    fr := fun o b hb => ?_ }, (h.tail).len, (h.tail).lo, fun j b hb => ?_, (h.tail).inj⟩
  · rw [shp_sl]; exact hr.sh t (by simpa using ht)
  · rw [hgl q]
    split
    · rename_i e1; subst e1; exact hLR _ _ hlo
    · exact hLR _ _ (hr.lf q)
  · rcases hob _ _ h1 with a1 | ⟨e1, a1⟩ <;> rcases hob _ _ h2 with a2 | ⟨e2, a2⟩
    · exact hr.inj _ _ b a1 a2
    · exact absurd a1 ((h.own 0 b (h0 b a2)).2.2.2 _)
    · exact absurd a2 ((h.own 0 b (h0 b a1)).2.2.2 _)
    · rw [e1, e2]
  · rcases hob _ _ hb with a1 | ⟨e1, a1⟩
    · exact hr.fr o b a1
    · obtain ⟨f1, f2, f3, _⟩ := h.own 0 b (h0 b a1)
      exact ⟨f1, f2, f3⟩
  · obtain ⟨f1, f2, f3, f4⟩ := h.own (j + 1) b hb
    refine ⟨f1, f2, f3, fun o' ho' => ?_⟩
    rcases hob _ _ ho' with a1 | ⟨_, a1⟩
    · exact f4 _ a1
    · have := h.inj 0 (j + 1) b (h0 b a1) hb
      omega
theorem call_rel {σ2 : St} {g2 : Gh} {bs : List (List LK)} {yb : BL bs} {LS : List Leaf} {CS : List Value} {bc : Nat → List Value} {m : List (Nat × Nat)} {S' M : Nat → Prop} {w' : World} (h2 : Rel X σ2 a w g2)
    (hminj : ∀ b1 b2 t, m.lookup b1 = some t → m.lookup b2 = some t → b1 = b2)
    (hbx : ∀ j, j < bs.length → m.lookup j = some (tk m j) ∧ isBox σ2 (tk m j) ∧ ∀ q, (gl σ2 ⟨tk m j, q⟩).isOwn = false)
    (hne : ∀ o b, ob σ2 g2 o = some b → (∀ j, j < bs.length → o ≠ .inl (tk m j)) → ¬ M b)
    (hMS : ∀ b, M b → ¬ g2.S b) (hM1 : ∀ b, M b → b < w.heap.size ∧ (X.w0.heap.size ≤ b ∨ X.M b))
    (hM2 : ∀ b, M b → (∃ o, ob σ2 g2 o = some b) → ∃ j, j < bs.length ∧ b = g2.blk (tk m j))
    (hh : Hand w' S' LS CS bs.length (boxLs bs yb) bc (fun j => g2.blk (tk m j)))
    (hS : ∀ b, g2.S b → S' b) (hS' : ∀ b, S' b → g2.S b ∨ M b ∨ w.heap.size ≤ b) (hpo : ∀ o b, pob LS CS bs.length (boxLs bs yb) bc (fun j => g2.blk (tk m j)) o = some b → M b ∨ w.heap.size ≤ b)
    (hos : w'.os = w.os) (htape : w'.tape = w.tape) (hdr : w.drawn ≤ w'.drawn) (hout : w'.output = w.output) (hgrow : w.heap.size ≤ w'.heap.size) (hframe : ∀ b, b < w.heap.size → ¬ M b → w'.heap[b]? = w.heap[b]?) :
    ∃ g3, Pend X a w' (putBoxes m bs 0 yb σ2) g3 LS CS ∧ (∀ p : Pl, (∀ j, j < bs.length → tk m j ≠ p.t) → g3.c p = g2.c p ∧ gs (putBoxes m bs 0 yb σ2) p.t = gs σ2 p.t) ∧ (putBoxes m bs 0 yb σ2).length = σ2.length := by
  have hlt : ∀ j, j < bs.length → tk m j < σ2.length := fun j hj => isBox_lt (hbx j hj).2.1
  obtain ⟨p1, p2, p3⟩ := putBoxes_gs hminj bs 0 yb σ2 (fun j hj => ⟨tk m j, by rw [Nat.zero_add]; exact (hbx j hj).1, hlt j hj⟩)
  simp only [Nat.zero_add] at p1 p2
  have hB0 : ∀ t, (∃ j, j < bs.length ∧ tk m j = t) → ∃ j, j < bs.length ∧ tk m j = t := fun t h => h
  -- the number of a slot's box
  obtain ⟨jo, hjo⟩ : ∃ jo : Nat → Nat, ∀ j, j < bs.length → jo (tk m j) = j := by
    refine ⟨fun t => Classical.epsilon fun j => j < bs.length ∧ tk m j = t, fun j hj => ?_⟩
    have he := Classical.epsilon_spec (p := fun i => i < bs.length ∧ tk m i = tk m j) ⟨j, hj, rfl⟩
    have l1 := (hbx _ he.1).1
    have l2 := (hbx j hj).1
    rw [he.2] at l1
    exact hminj _ _ _ l1 l2
  have hdec : ∀ t, (∃ j, j < bs.length ∧ tk m j = t) ∨ ¬ ∃ j, j < bs.length ∧ tk m j = t := fun t => Classical.em _
  obtain ⟨c3, hc3⟩ : ∃ c3 : Pl → Value, (∀ j q, j < bs.length → c3 ⟨tk m j, q⟩ = (bc j).getD q undef) ∧ ∀ p : Pl, (¬ ∃ j, j < bs.length ∧ tk m j = p.t) → c3 p = g2.c p := by
    classical
    refine ⟨fun p => if ∃ j, j < bs.length ∧ tk m j = p.t then (bc (jo p.t)).getD p.i undef else g2.c p, fun j q hj => ?_, fun p hp => ?_⟩
    · simp only
      rw [if_pos ⟨j, hj, rfl⟩, hjo j hj]
    · simp only [if_neg hp]
  have hgsj : ∀ j, j < bs.length → gs (putBoxes m bs 0 yb σ2) (tk m j) = .box (boxLs bs yb j) := fun j hj => p1 j _ hj (hbx j hj).1
  have hgs0 : ∀ t, (¬ ∃ j, j < bs.length ∧ tk m j = t) → gs (putBoxes m bs 0 yb σ2) t = gs σ2 t := fun t ht => p2 t (fun j hj e => ht ⟨j, hj, tk_of e⟩)
  have hgl : ∀ j q, j < bs.length → gl (putBoxes m bs 0 yb σ2) ⟨tk m j, q⟩ = lget (boxLs bs yb j) q := fun j q hj => by
    show lget (gs _ (tk m j)).leaves q = _
    rw [hgsj j hj]; rfl
  have hpobb : ∀ j, j < bs.length → pob LS CS bs.length (boxLs bs yb) bc (fun j => g2.blk (tk m j)) (.box j) = some (g2.blk (tk m j)) := fun j hj => by simp [pob, hj]
  have hpobl : ∀ j q b, j < bs.length → (gl (putBoxes m bs 0 yb σ2) ⟨tk m j, q⟩).isOwn = true → (c3 ⟨tk m j, q⟩).ownBlock = some b → pob LS CS bs.length (boxLs bs yb) bc (fun j => g2.blk (tk m j)) (.leaf j q) = some b := fun j q b hj ho hb => by
    rw [hgl j q hj] at ho
    rw [hc3.1 j q hj] at hb
    simp only [pob, hj, own1, ho, hb, if_true]
  -- what is new is nobody's
  have hnew : ∀ o b, pob LS CS bs.length (boxLs bs yb) bc (fun j => g2.blk (tk m j)) o = some b → (∀ j, j < bs.length → o ≠ .box j) → ∀ o', ob σ2 g2 o' ≠ some b := by
    intro o b hb hnb o' ho'
    by_cases hbo : ∃ j, j < bs.length ∧ o' = .inl (tk m j)
    · obtain ⟨j, hj, rfl⟩ := hbo
      have : g2.blk (tk m j) = b := by
        have := box_blk (g := g2) (hbx j hj).2.1
        rw [this] at ho'
        injection ho'
      have hp := hpobb j hj
      rw [this] at hp
      exact hnb j hj (hh.inj _ _ _ hb hp)
    · have hnm := hne o' b ho' (fun j hj e => hbo ⟨j, hj, e⟩)
      rcases hpo o b hb with hm | hf
      · exact hnm hm
      · exact Nat.not_lt.2 hf (h2.fr _ _ ho').2.1
  have hob' : ∀ o b, pob LS CS bs.length (boxLs bs yb) bc (fun j => g2.blk (tk m j)) o = some b → ¬ S' b ∧ b < w'.heap.size ∧ (X.w0.heap.size ≤ b ∨ X.M b) := by
    intro o b hb
    obtain ⟨f1, f2⟩ := hh.fr o b hb
    refine ⟨f1, f2, ?_⟩
    rcases hpo o b hb with hm | hf
    · exact (hM1 b hm).2
    · exact .inl (Nat.le_trans h2.grow hf)
  have h3 : Rel X (putBoxes m bs 0 yb σ2) a w' ⟨S', c3, g2.blk, g2.vc⟩ := by
    refine h2.call (B := fun t => ∃ j, j < bs.length ∧ tk m j = t) (fun t ⟨j, hj, e⟩ => by subst e; exact (hbx j hj).2.1) (fun p ⟨j, hj, e⟩ => by obtain ⟨pt, pi⟩ := p; subst e; exact (hbx j hj).2.2 pi) p3 hgs0 (fun t ⟨j, hj, e⟩ => by subst e; exact ⟨_, hgsj j hj⟩) rfl rfl hc3.2 hS hos htape hdr hout hgrow
      (fun b hb => ?_) (fun b h1 hnM => hframe b (Nat.lt_of_lt_of_le h1 h2.grow) (fun hm => ?_)) (fun t ⟨j, hj, e⟩ => ?_) (fun p b ⟨j, hj, e⟩ ho hb => ?_) (fun p q b ⟨j, hj, e⟩ ⟨i, hi, e'⟩ ho hb ho' hb' => ?_) (fun b hb => ⟨hh.sb b hb, ?_⟩) (fun o b hb hs => ?_)
    · refine hframe b ?_ ?_
      · rcases hb with hb | ⟨o, ho, _⟩
        · exact (h2.sb b hb).1
        · exact (h2.fr _ _ ho).2.1
      · intro hm
        rcases hb with hb | ⟨o, ho, hno⟩
        · exact hMS b hm hb
        · exact hne o b ho (fun j hj e => hno _ ⟨j, hj, rfl⟩ e) hm
    · rcases (hM1 b hm).2 with h3 | h3
      · omega
      · exact hnM h3
    · subst e
      obtain ⟨b1, b2, b3⟩ := hh.box j hj
      obtain ⟨te, b1⟩ := b1
      rw [hgsj j hj]
      refine ⟨⟨te, ?_⟩, fun i => ?_⟩
      · rw [b1]
        congr 2
        apply Array.ext'
        apply List.ext_getElem?
        intro i
        simp only [Slot.leaves, cellsL, List.getElem?_map]
        by_cases hi : i < (boxLs bs yb j).length
        · simp [hi, hc3.1 j i hj, List.getD_eq_getElem?_getD, show i < (bc j).length by omega]
        · simp [hi, show (bc j).length ≤ i by omega]
      · show LO w' S' (lget (boxLs bs yb j) i) (c3 ⟨tk m j, i⟩)
        rw [hc3.1 j i hj]
        exact b3 i
    · obtain ⟨pt, pi⟩ := p
      subst e
      have hp := hpobl j pi b hj ho hb
      obtain ⟨f1, f2, f3⟩ := hob' _ _ hp
      exact ⟨f1, f2, f3, hnew _ _ hp (fun j hj e => by cases e)⟩
    · obtain ⟨pt, pi⟩ := p
      obtain ⟨qt, qi⟩ := q
      subst e e'
      have := hh.inj _ _ _ (hpobl j pi b hj ho hb) (hpobl i qi b hi ho' hb')
      injection this with e1 e2
      rw [e1, e2]
    · rcases hS' b hb with hs | hm | hf
      · exact (h2.sb b hs).2
      · rcases (hM1 b hm).2 with h3 | h3
        · exact .inr (.inr h3)
        · exact .inr (.inl h3)
      · exact .inr (.inr (Nat.le_trans h2.grow hf))
    · rcases hS' b hs with hs' | hm | hf
      · exact (h2.fr _ _ hb).1 hs'
      · obtain ⟨j, hj, rfl⟩ := hM2 b hm ⟨o, hb⟩
        exact (hob' _ _ (hpobb j hj)).1 hs
      · exact Nat.not_lt.2 hf (h2.fr _ _ hb).2.1
  refine ⟨_, ⟨h3, hh.len, hh.rel, fun j b e => ?_, fun j1 j2 b e1 e2 => ?_⟩, fun p hp => ⟨hc3.2 p (fun ⟨j, hj, e⟩ => hp j hj e), hgs0 p.t (fun ⟨j, hj, e⟩ => hp j hj e)⟩, p3⟩
  · obtain ⟨f1, f2, f3⟩ := hob' (.arg j) b e
    refine ⟨f1, f2, f3, fun o' ho' => ?_⟩
    cases o' with
    | inl t =>
      by_cases ht : ∃ j, j < bs.length ∧ tk m j = t
      · obtain ⟨i, hi, rfl⟩ := ht
        simp only [ob, hgsj i hi, Slot.shp, Shp.isBox, if_true] at ho'
        have hp := hpobb i hi
        rw [ho'] at hp
        have := hh.inj (.arg j) _ b e hp
        cases this
      · refine hnew (.arg j) b e (fun j hj e => by cases e) (.inl t) ?_
        simp only [ob] at ho' ⊢
        rw [hgs0 t ht] at ho'
        exact ho'
    | inr p =>
      by_cases ht : ∃ j, j < bs.length ∧ tk m j = p.t
      · obtain ⟨i, hi, e1⟩ := ht
        obtain ⟨pt, pi⟩ := p
        simp only at e1
        subst e1
        simp only [ob] at ho'
        split at ho'
        · rename_i hown
          have := hh.inj (.arg j) _ b e (hpobl i pi b hi hown ho')
          cases this
        · cases ho'
      · refine hnew (.arg j) b e (fun j hj e => by cases e) (.inr p) ?_
        simp only [ob] at ho' ⊢
        rw [show gl (putBoxes m bs 0 yb σ2) p = gl σ2 p from by unfold gl; rw [hgs0 _ ht], hc3.2 p ht] at ho'
        exact ho'
  · have := hh.inj (.arg j1) (.arg j2) b e1 e2
    injection this
end
end Go.Ev
namespace Go.Ev
set_option linter.unusedVariables false
set_option linter.unusedSimpArgs false
section
variable {P : Program} {T : TypeId → Option TI} {env : Env} {X : Ctx} {σ : St} {a : Act} {w : World} {g : Gh} {A : Type} {r : A} {k : St → Option A} {K : Act → World → Prop} {Q : Exit → Act → World → Prop}
  {d : Option Tmp} {ty : TypeId} {pos : String} {aft : Array Edge} {gd : Option (Nat × Bool)}
theorem argsW_rd (h : Rel X σ a w g) (hN : X.N ≤ σ.length) : ∀ (xs : List Operand), (∀ x ∈ xs, ∀ t, x = .tmp t → t < X.N) → ArgsW σ w g (xs.map (rd σ)) (xs.map a.eval)
  | [], _ => .nil
  | x :: xs, hin => .cons (ArgW_of (rd_ok h hN x (hin x (by simp)))) (argsW_rd h hN xs (fun y hy => hin y (by simp [hy])))
theorem argsW_ptr : ∀ (bs : List Nat), (∀ b ∈ bs, isBox σ b) → ArgsW σ w g (bs.map fun b => (false, [.ptr b 0])) (bs.map fun b => Value.pointer (some ⟨g.blk b, 0, none⟩))
  | [], _ => .nil
  | b :: bs, h => .cons ⟨fun _ => ⟨_, rfl, rfl, h b (by simp)⟩, fun e => by simp at e⟩ (argsW_ptr bs (fun c hc => h c (by simp [hc])))
theorem ArgsW_append {as bs : List Arg} {vs us : List Value} (h : ArgsW σ w g as vs) (k : ArgsW σ w g bs us) : ArgsW σ w g (as ++ bs) (vs ++ us) := by
  induction h with
  | nil => exact k
  | cons h1 _ ih => exact .cons h1 ih
/-- Rows that were written in place come to their places. -/
def WOm (m : List (Nat × Nat)) (σ : St) (g : Gh) : List (Option Pl) → List Value → Prop
  | [], [] => True
  | q :: qs, v :: vs => (∀ p, q = some p → (∀ x ∈ m, x.2 ≠ p.t) → Vp σ p ∧ v = g.c p) ∧ WOm m σ g qs vs
  | _, _ => False
theorem WOm.sl {m : List (Nat × Nat)} {g : Gh} {p : Pl} {l : Leaf} : ∀ {qs : List (Option Pl)} {vs : List Value}, WOm m σ g qs vs → WOm m (Ev.sl σ p l) g qs vs
  | [], [], h => h
  | q :: qs, v :: vs, h => ⟨fun r hr hm => ⟨⟨by simpa using (h.1 r hr hm).1.1, by rw [leaves_len, shp_sl, ← leaves_len]; exact (h.1 r hr hm).1.2⟩, (h.1 r hr hm).2⟩, WOm.sl h.2⟩
  | [], _ :: _, h => h.elim
  | _ :: _, [], h => h.elim
theorem any_ne {m : List (Nat × Nat)} {t : Nat} (h : m.any (fun q => q.2 == t) = false) : ∀ x ∈ m, x.2 ≠ t := fun x hx e => by
  rw [List.any_eq_false] at h
  exact h x hx (by simpa using e)
/-- A slot leads to a place again. -/
theorem Pend.al {σ : St} {g : Gh} {ls : List Leaf} {cs : List Value} (h : Pend X a w σ g ls cs) {p q : Pl} (hq : Vp σ q) (hg : gl σ q = .und) (hp : (gl σ p).isOwn = true) (hc : g.c q = g.c p) : Pend X a w (Ev.sl σ q (.al p)) g ls cs := by
  have hgl : ∀ r, gl (Ev.sl σ q (.al p)) r = if q = r then .al p else gl σ r := fun r => gl_sl r _ hq
  have hbox : ∀ b, isBox (Ev.sl σ q (.al p)) b ↔ isBox σ b := fun b => by unfold isBox; rw [shp_sl]
  have hown : ∀ r, (gl (Ev.sl σ q (.al p)) r).isOwn = (gl σ r).isOwn := fun r => by
    rw [hgl r]
    split
    · rename_i e; rw [← e, hg]; rfl
    · rfl
  have hrow : ∀ r, rowTy (gl (Ev.sl σ q (.al p)) r) = rowTy (gl σ r) := fun r => by
    rw [hgl r]
    split
    · rename_i e; rw [← e, hg]; rfl
    · rfl
  have hob : ∀ o, ob (Ev.sl σ q (.al p)) g o = ob σ g o := fun o => by
    cases o with
    | inl t => simp [ob, shp_sl]
    | inr r => simp only [ob, hown r]
  have hLR : ∀ l u, LR σ w g l u → LR (Ev.sl σ q (.al p)) w g l u := by
    intro l u hl
    cases l with
    | al r => exact ⟨hl.1, by rw [hown r]; exact hl.2⟩
    | ptr b o => exact ⟨hl.1, (hbox b).2 hl.2⟩
    | ept r e' i o =>
      obtain ⟨⟨n, h1, h2⟩, h3⟩ := hl
      exact ⟨⟨n, by rw [hrow r]; exact h1, h2⟩, h3⟩
    | hol te' e' ys i r =>
      exact LR_hol (σ := σ) (g := g) (fun _ h => h) (fun _ _ => rfl) (fun _ _ => rfl) (fun s hs => ⟨rfl, fun n hn => ⟨n, by rw [hrow s]; exact hn⟩⟩) hl
    | clo f bs => exact ⟨hl.1, fun b hb => (hbox b).2 (hl.2 b hb)⟩
    | val t x => exact hl
    | own te e xs => exact hl
    | nils => exact hl
    | vpt t x => exact hl
    | cst u => exact hl
    | no => exact hl
    | und => trivial
  have hr := h.rel
  refine ⟨{ hr with
    sh := fun t ht => by rw [shp_sl]; exact hr.sh t (by simpa using ht)
    lf := fun r => ?_
    inj := fun o1 o2 b h1 h2 => hr.inj _ _ b (by rw [← hob]; exact h1) (by rw [← hob]; exact h2)
    fr := fun o b hb => hr.fr o b (by rw [← hob]; exact hb) }, h.len, h.lo, fun j b hb => ?_, h.inj⟩
  · rw [hgl r]
    split
    · rename_i e; subst e; exact ⟨hc, by rw [hown p]; exact hp⟩
    · exact hLR _ _ (hr.lf r)
  · obtain ⟨f1, f2, f3, f4⟩ := h.own j b hb
    exact ⟨f1, f2, f3, fun o' ho' => f4 o' (by rw [← hob]; exact ho')⟩
/-- What the slots led to before. -/
def Pre (m : List (Nat × Nat)) (σ0 σ : St) (g : Gh) (p : Pl) : Prop := ∀ n, (∀ x ∈ m, x.2 ≠ n) → gl σ0 ⟨n, 0⟩ = .al p → Vp σ ⟨n, 0⟩ ∧ g.c ⟨n, 0⟩ = g.c p
theorem Pre.sl {m : List (Nat × Nat)} {σ0 : St} {g : Gh} {p q : Pl} {l : Leaf} (h : Pre m σ0 σ g p) : Pre m σ0 (Ev.sl σ q l) g p := fun n hm hn => by
  obtain ⟨h1, h2⟩ := h n hm hn
  exact ⟨⟨by simpa using h1.1, by rw [leaves_len, shp_sl, ← leaves_len]; exact h1.2⟩, h2⟩
theorem reAl_ok {m : List (Nat × Nat)} {σ0 : St} {p : Pl} : ∀ (n : Nat) {σ : St} {g : Gh} {ls : List Leaf} {cs : List Value}, Pend X a w σ g ls cs → (gl σ p).isOwn = true → Pre m σ0 σ g p →
    Pend X a w (reAl m σ0 p n σ) g ls cs ∧ (reAl m σ0 p n σ).length = σ.length ∧ (∀ t, (gs (reAl m σ0 p n σ) t).shp = (gs σ t).shp)
  | 0, σ, g, ls, cs, h, ho, hp => ⟨h, rfl, fun _ => rfl⟩
  | n + 1, σ, g, ls, cs, h, ho, hp => by
    have key : ∀ σ1 : St, σ1 = (match gl σ0 ⟨n, 0⟩ with
      | .al q => if q = p then (match m.any (fun x => x.2 == n), gl σ ⟨n, 0⟩ with
        | false, .und => Ev.sl σ ⟨n, 0⟩ (.al p)
        | _, _ => σ) else σ
      | _ => σ) → Pend X a w σ1 g ls cs ∧ (gl σ1 p).isOwn = true ∧ Pre m σ0 σ1 g p ∧ σ1.length = σ.length ∧ ∀ t, (gs σ1 t).shp = (gs σ t).shp := by
      intro σ1 e
      split at e
      · rename_i q hq
        split at e
        · rename_i hqp
          subst hqp
          split at e
          · rename_i h1 h2
            subst e
            obtain ⟨k1, k2⟩ := hp n (any_ne h1) hq
            refine ⟨h.al k1 h2 ho k2, ?_, hp.sl, by simp, fun t => by rw [shp_sl]⟩
            rw [gl_sl _ _ k1]
            split
            · rename_i e3; rw [← e3, h2] at ho; cases ho
            · exact ho
          · subst e; exact ⟨h, ho, hp, rfl, fun _ => rfl⟩
        · subst e; exact ⟨h, ho, hp, rfl, fun _ => rfl⟩
      · subst e; exact ⟨h, ho, hp, rfl, fun _ => rfl⟩
    obtain ⟨k1, k2, k3, k4, k5⟩ := key _ rfl
    obtain ⟨r1, r2, r3⟩ := reAl_ok n k1 k2 k3
    exact ⟨r1, r2.trans k4, fun t => (r3 t).trans (k5 t)⟩
theorem putW_ok {m : List (Nat × Nat)} {σ0 : St} : ∀ (ps : List PK) (y : BL (ps.flatMap PK.wk)) (pl : List (Option Pl)) (wv : List Value) {σ σ' : St} {g : Gh} {ls : List Leaf} {cs : List Value}, Pend X a w σ g (wLs ps y ++ ls) (wv ++ cs) → wv.length = (wLs ps y).length → WOm m σ g pl wv →
    (∀ p, (∀ x ∈ m, x.2 ≠ p.t) → Pre m σ0 σ g p) → putW m σ0 ps y pl σ = some σ' → Pend X a w σ' g ls cs ∧ σ'.length = σ.length
  | [], y, pl, wv, σ, σ', g, ls, cs, h, hl, hw, hpr, hp => by
    simp only [putW, Option.some.injEq] at hp
    subst hp
    have : wv = [] := List.eq_nil_of_length_eq_zero hl
    subst this
    exact ⟨h, rfl⟩
  | .v _ _ :: ps, y, pl, wv, σ, σ', g, ls, cs, h, hl, hw, hpr, hp => putW_ok ps y pl wv h hl hw hpr hp
  | .o _ _ :: ps, y, pl, wv, σ, σ', g, ls, cs, h, hl, hw, hpr, hp => putW_ok ps y pl wv h hl hw hpr hp
  | .p _ :: ps, y, pl, wv, σ, σ', g, ls, cs, h, hl, hw, hpr, hp => putW_ok ps y pl wv h hl hw hpr hp
  | .f _ _ :: ps, y, pl, wv, σ, σ', g, ls, cs, h, hl, hw, hpr, hp => putW_ok ps y pl wv h hl hw hpr hp
  | .w te e :: ps, y, pl, [], σ, σ', g, ls, cs, h, hl, hw, hpr, hp => by simp [wLs] at hl
  | .w te e :: ps, y, [], v :: wv, σ, σ', g, ls, cs, h, hl, hw, hpr, hp => hw.elim
  | .w te e :: ps, y, none :: pl, v :: wv, σ, σ', g, ls, cs, h, hl, hw, hpr, hp => putW_ok ps y.2 pl wv h.tail (by simpa [wLs] using hl) hw.2 hpr hp
  | .w te e :: ps, y, some p :: pl, v :: wv, σ, σ', g, ls, cs, h, hl, hw, hpr, hp => by
    simp only [putW] at hp
    split at hp
    rotate_left
    · cases hp
    rename_i h1 h2
    obtain ⟨k1, k2⟩ := hw.1 p rfl (any_ne h1)
    have hown : (gl (Ev.sl σ p (.own te e y.1.1)) p).isOwn = true := by rw [gl_sl _ _ k1, if_pos rfl]; rfl
    obtain ⟨q1, q2, q3⟩ := reAl_ok (m := m) (σ0 := σ0) σ0.length (h.give k1 h2 k2) hown (hpr p (any_ne h1)).sl
    have hw3 : ∀ {σ1 σ2 : St} {qs : List (Option Pl)} {us : List Value}, σ2.length = σ1.length → (∀ t, (gs σ2 t).shp = (gs σ1 t).shp) → WOm m σ1 g qs us → WOm m σ2 g qs us := by
      intro σ1 σ2 qs
      induction qs with
      | nil => intro us _ _ hu; cases us with
        | nil => exact hu
        | cons => exact hu.elim
      | cons q qs ih => intro us e1 e2 hu; cases us with
        | nil => exact hu.elim
        | cons u us => exact ⟨fun r hr hm => ⟨vp_of_shp e1.symm (fun t => (e2 t).symm) (hu.1 r hr hm).1, (hu.1 r hr hm).2⟩, ih e1 e2 hu.2⟩
    obtain ⟨r1, r2⟩ := putW_ok ps y.2 pl wv q1 (by simpa [wLs] using hl) (hw3 q2 q3 hw.2.sl) (fun r hr => fun n hm hn => by
      obtain ⟨z1, z2⟩ := (hpr r hr).sl (q := p) (l := .own te e y.1.1) n hm hn
      exact ⟨vp_of_shp q2.symm (fun t => (q3 t).symm) z1, z2⟩) hp
    exact ⟨r1, by rw [r2, q2]; simp⟩
theorem op_callF {c : Call} {x : Operand} (hcal : c.callee = .value x) (hE : EnvOk P env) (h : Rel X σ a w g) (hN : X.N ≤ σ.length) (ho : OpIn X.N ⟨d, .call c, ty, pos, aft, gd⟩) (hk : opK0 T env ⟨d, .call c, ty, pos, aft, gd⟩ σ k = some r) (hK : Nx X σ.length k r K) :
    Oper.wp P ⟨d, .call c, ty, pos, aft, gd⟩ a w K Q := by
  obtain ⟨cal, args, ats⟩ := c
  simp only at hcal
  subst hcal
  simp only [opK0] at hk
  have hx := rd1_ok h hN x (ho.ops x (by simp [Op.operands, Call.operands]))
  split at hk
  rotate_left
  · cases hk
  rename_i f bs hf
  rw [hf] at hx
  obtain ⟨hv, hbs⟩ := hx
  have hargs := ArgsW_append (argsW_rd h hN args.toList (fun y hy => ho.ops y (by simp [Op.operands, Call.operands]; exact .inr (by simpa using hy)))) (argsW_ptr (σ := σ) (w := w) (g := g) bs hbs)
  simp only [callK] at hk
  split at hk
  · cases hk
  rename_i F hF
  have hs := findF_ok hE hF
  obtain ⟨fn, n1, n2, n3⟩ := hs.fn
  split at hk
  · cases hk
  rename_i σ1 xs m hg
  split at hk
  · cases hk
  rename_i σ2 ys ht
  cases hout : F.F xs ys with
  | none => rw [hout] at hk; cases hk
  | some out =>
  rw [hout] at hk
  simp only [Option.bind] at hk
  have hrun : (execOp a.eval ⟨d, .call ⟨.value x, args, ats⟩, ty, pos, aft, gd⟩).run P w = .ok (.enter f (args.toList.map a.eval ++ bs.map fun b => Value.pointer (some ⟨g.blk b, 0, none⟩)).toArray) w := by
    have e0 : (#[] : Array Value) ++ args.map a.eval ++ (bs.map fun b => Value.pointer (some ⟨g.blk b, 0, none⟩)).toArray = (args.toList.map a.eval ++ bs.map fun b => Value.pointer (some ⟨g.blk b, 0, none⟩)).toArray := by
      apply Array.ext'; simp
    simp only [execOp, resolve, hv, Deferred.ofValue, Sem.run_bind, Sem.run_pure, Result.andThen_ok, invoke, callFunc, run_program, n1, n2, n3, e0, if_false, Bool.false_eq_true]
  unfold Oper.wp
  rw [hrun]
  rw [Oper.upon_enter]
  cases hsc : F.s.scalar with
  | false =>
    rw [hsc] at hg
    obtain ⟨g1, cs, t1, hm, _, hshape, hwo⟩ := gather_ok F.s.ps _ _ hs.ps h hargs (m := []) ⟨fun b t hb => by simp at hb, fun b1 b2 t hb => by simp at hb⟩ hg
    obtain ⟨g2, f2, hh, hb2, hne, hM⟩ := hand_ok (bs := F.s.bs) (ls := outL F.s.ins xs) h t1 hm hs.one ht
    have hshape2 := hshape (fun j => g.blk (tk m j)) (fun b t e => by rw [tk_of e])
    refine (hs.call xs ys out hout w g2.S _ cs _ _ hh hshape2).mono fun e w' hR => ?_
    obtain ⟨v, rfl, hback⟩ := hR
    simp only
    obtain ⟨⟨S', rc, bc, rh, rwl, rv, rS, rS', rpo⟩, ros, rtape, rdr, rout, rgrow, rframe⟩ := hback
    have hminj : ∀ b1 b2 t, m.lookup b1 = some t → m.lookup b2 = some t → b1 = b2 := fun b1 b2 t e1 e2 => hm.inj _ _ _ (lookup_mem e1) (lookup_mem e2)
    obtain ⟨g3, p3, c3, l3⟩ := call_rel (m := m) (bs := F.s.bs) (yb := (splitB F.s.bs out.2).1) f2.rel hminj (fun j hj => ⟨(hb2 j hj).1, f2.box _ (hm.box j _ (lookup_mem (hb2 j hj).1)), (hb2 j hj).2⟩) hne (fun b ⟨o, hb⟩ => (hh.fr o b hb).1) (fun b ⟨o, hb⟩ => by
      obtain ⟨⟨o', ho'⟩, _⟩ := hM o b hb
      exact ⟨(hh.fr o b hb).2, (h.fr _ _ ho').2.2⟩) (fun b ⟨o, hb⟩ hx => by
      rw [f2.blk]
      exact (hM o b hb).2 hx) (by rw [f2.blk]; exact rh) rS rS' (by rw [f2.blk]; exact rpo) ros rtape rdr rout rgrow rframe
    have hwm : WOm m (putBoxes m F.s.bs 0 (splitB F.s.bs out.2).1 σ2) g3 (wpl F.s.ps (args.toList.map (rd σ) ++ bs.map fun b => (false, [.ptr b 0]))) (wvs F.s.ps (args.toList.map a.eval ++ bs.map fun b => Value.pointer (some ⟨g.blk b, 0, none⟩))) := by
      have key : ∀ (qs : List (Option Pl)) (us : List Value), WOk σ g qs us → WOm m (putBoxes m F.s.bs 0 (splitB F.s.bs out.2).1 σ2) g3 qs us := by
        intro qs
        induction qs with
        | nil => intro us hu; cases us with
          | nil => exact trivial
          | cons => exact hu.elim
        | cons q qs ih => intro us hu; cases us with
          | nil => exact hu.elim
          | cons u us =>
            refine ⟨fun p hp hx => ?_, ih us hu.2⟩
            obtain ⟨k1, k2⟩ := hu.1 p hp
            obtain ⟨e1, e2⟩ := c3 p (fun j hj e => hx _ (lookup_mem (hb2 j hj).1) e)
            refine ⟨⟨by rw [l3, f2.len]; exact k1.1, ?_⟩, by rw [e1, f2.c]; exact k2⟩
            rw [e2, leaves_len, f2.shp, ← leaves_len]; exact k1.2
      exact key _ _ hwo
    split at hk
    rotate_left
    · cases hk
    rename_i σ3 hput
    have hpre : ∀ p : Pl, (∀ x ∈ m, x.2 ≠ p.t) → Pre m σ (putBoxes m F.s.bs 0 (splitB F.s.bs out.2).1 σ2) g3 p := fun p hp n hn hg => by
      obtain ⟨e1, e2⟩ := c3 ⟨n, 0⟩ (fun j hj e => hn _ (lookup_mem (hb2 j hj).1) e)
      obtain ⟨e3, _⟩ := c3 p (fun j hj e => hp _ (lookup_mem (hb2 j hj).1) e)
      have hv := vp_of_ne (σ := σ) (p := ⟨n, 0⟩) (by rw [hg]; simp)
      have hc : g.c ⟨n, 0⟩ = g.c p := by have := h.lf ⟨n, 0⟩; rw [hg] at this; exact this.1
      refine ⟨⟨by rw [l3, f2.len]; exact hv.1, ?_⟩, by rw [e1, e3, f2.c, hc]⟩
      rw [e2, leaves_len, f2.shp, ← leaves_len]; exact hv.2
    obtain ⟨q1, q2⟩ := putW_ok F.s.ps _ _ _ p3 rwl hwm hpre hput
    have hlen3 : σ3.length = σ.length := by rw [q2, l3, f2.len]
    exact put_back q1.rel (by rw [hlen3]; exact hN) ho.dst (outSlot_box _ _) q1.len rv q1.lo q1.inj q1.own hk (by rw [hlen3]; exact hK)
  | true =>
    rw [hsc] at hg
    simp only [Sig.scalar, Bool.and_eq_true] at hsc
    obtain ⟨⟨sc1, sc2⟩, sc3⟩ := hsc
    obtain ⟨e0, S, cs, c1, c2, c3, c4, c5⟩ := gather_lend F.s.ps _ _ hs.ps sc3 h hargs hg
    subst e0
    have hbs0 : F.s.bs = [] := by simpa using sc2
    have hn0 : F.s.bs.length = 0 := by rw [hbs0]; rfl
    have hno : ∀ o b, pob (outL F.s.ins xs) cs F.s.bs.length (boxLs F.s.bs ys) (fun _ => []) (fun _ => 0) o ≠ some b := by
      intro o b hb
      cases o with
      | arg j =>
        have hb : own1 (outL F.s.ins xs) cs j = some b := hb
        unfold own1 at hb
        rw [if_neg] at hb
        · cases hb
        · have h3 : (lget (outL F.s.ins xs) j).isOwn = false := c4 j
          intro h2
          rw [h3] at h2
          cases h2
      | box j => simp [pob, hn0] at hb
      | leaf j q => simp [pob, hn0] at hb
    have hh : Hand w (fun b => g.S b ∨ S b) (outL F.s.ins xs) cs F.s.bs.length (boxLs F.s.bs ys) (fun _ => []) (fun _ => 0) :=
      ⟨c2, fun j => LO_mono (fun b hb => .inr hb) (fun _ _ => rfl) (fun _ _ _ => rfl) (c3 j), fun i hi => by omega, fun o1 o2 b e1 => absurd e1 (hno o1 b), fun o b e => absurd e (hno o b), fun b hb => hb.elim (fun hb => (h.sb b hb).1) (c1 b), h.lay.mono (fun _ hb => .inl hb) (fun _ _ => rfl)⟩
    refine (hs.call xs ys out hout w _ _ cs _ _ hh (c5 _)).mono fun e w' hR => ?_
    obtain ⟨v, rfl, hback⟩ := hR
    simp only
    have e2 : σ2 = σ1 := by
      have key : ∀ bs : List (List LK), bs = [] → ∀ (ys : BL bs), takeBoxes m bs 0 σ1 = some (σ2, ys) → σ2 = σ1 := by
        intro bs hb ys ht
        subst hb
        simp only [takeBoxes, Option.some.injEq, Prod.mk.injEq] at ht
        exact ht.1.symm
      exact key _ hbs0 ys ht
    subst e2
    have e3 : putBoxes m F.s.bs 0 (splitB F.s.bs out.2).1 σ2 = σ2 := by
      have key : ∀ bs : List (List LK), bs = [] → ∀ (ys : BL bs), putBoxes m bs 0 ys σ2 = σ2 := by
        intro bs hb ys
        subst hb
        rfl
      exact key _ hbs0 _
    have e4 : ∀ (ps : List PK), ps.all (fun p => match p with | .v .. => true | _ => false) = true → ∀ (y : BL (ps.flatMap PK.wk)) (pl : List (Option Pl)), putW m σ2 ps y pl σ2 = some σ2 ∧ wLs ps y = [] := by
      intro ps
      induction ps with
      | nil => intro _ y pl; exact ⟨rfl, rfl⟩
      | cons q ps ih =>
        intro hp y pl
        simp only [List.all_cons, Bool.and_eq_true] at hp
        cases q with
        | v ag t => exact ih hp.2 y pl
        | _ => simp at hp
    have e5 : putW m σ2 F.s.ps (splitB F.s.bs out.2).2 (wpl F.s.ps (args.toList.map (rd σ2) ++ bs.map fun b => (false, [Leaf.ptr b 0]))) σ2 = some σ2 := (e4 _ sc3 _ _).1
    rw [e3, e5] at hk
    simp only at hk
    obtain ⟨⟨S', rc, bc, rh, rwl, rv, _⟩, hos, htape, hdr, houtp, hgrow, hframe⟩ := hback
    have e6 : wLs F.s.ps (splitB F.s.bs out.2).2 = [] := (e4 _ sc3 _ []).2
    rw [e6] at rh rwl
    have hw0 : wvs F.s.ps (args.toList.map a.eval ++ bs.map fun b => Value.pointer (some ⟨g.blk b, 0, none⟩)) = [] := List.eq_nil_of_length_eq_zero rwl
    rw [hw0] at rh
    have hall : ∀ b, b < w.heap.size → w'.heap[b]? = w.heap[b]? := fun b hb => hframe b hb (fun ⟨o, he⟩ => hno o b he)
    have h1 : Rel X σ2 a w' g := h.below ⟨hos, htape, houtp, hgrow, hall⟩ hdr
    have hpl := plain_outR F.s.rs out.1 sc1
    refine put_back h1 hN ho.dst (outSlot_box _ _) rh.len rv (fun j => ?_) (fun j1 j2 b e1 => ?_) (fun j b e1 => ?_) hk hK
    · have := rh.rel j
      rw [outSlot_leaves] at this ⊢
      exact (hpl j).1 _ _ _ _ _ this
    · unfold own1 at e1
      rw [outSlot_leaves, (hpl j1).2] at e1
      simp at e1
    · unfold own1 at e1
      rw [outSlot_leaves, (hpl j).2] at e1
      simp at e1
end
end Go.Ev
