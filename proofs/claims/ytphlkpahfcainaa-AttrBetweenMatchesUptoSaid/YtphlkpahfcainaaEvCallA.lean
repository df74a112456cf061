/- Calls, part A: what is handed over. -/
import Derived.Test.YtphlkpahfcainaaEvOpM
namespace Go.Ev
set_option linter.unusedVariables false
set_option linter.unusedSimpArgs false

/-- What a leaf tells that is handed over. -/
def LO (w : World) (S : Nat → Prop) : Leaf → Value → Prop
  | .val t x, v => rel w S t x [v]
  | .own te e xs, v => ownR w S te e xs v
  | .und, _ => True
  | _, _ => False

theorem LO_LR {σ : St} {w : World} {g : Gh} {l : Leaf} {v : Value} (h : LO w g.S l v) : LR σ w g l v := by
  cases l with
  | val t x => exact h
  | own te e xs => exact h
  | und => trivial
  | _ => exact h.elim

theorem LO_mono {w w' : World} {S S' : Nat → Prop} (hS : ∀ b, S b → S' b) (hw : ∀ b, S b → w'.heap[b]? = w.heap[b]?) {l : Leaf} {v : Value} (ho : l.isOwn = true → ∀ b, v.ownBlock = some b → w'.heap[b]? = w.heap[b]?) (h : LO w S l v) : LO w' S' l v := by
  cases l with
  | val t x => exact rel_mono hS hw h
  | own te e xs => exact ownR_mono hS hw (ho rfl) h
  | und => trivial
  | _ => exact h.elim

theorem LO_explode {w : World} {S : Nat → Prop} : ∀ {t : Ty} {x : t.den} {cs : List Value}, rel w S t x cs → ∀ i, LO w S (lget (explode t x) i) (cs.getD i undef)
  | .int k, x, cs, h, i => by
    simp only [rel] at h; subst h
    cases i <;> first | rfl | trivial
  | .bool, x, cs, h, i => by
    simp only [rel] at h; subst h
    cases i <;> first | rfl | trivial
  | .str, x, cs, h, i => by
    simp only [rel] at h; subst h
    cases i <;> first | rfl | trivial
  | .list e, x, cs, h, i => by
    have hl := rel_len h
    obtain ⟨v, rfl⟩ := List.length_eq_one_iff.1 (show cs.length = 1 from hl)
    cases i with
    | zero => exact h
    | succ i => trivial
  | .pair a b, x, cs, h, i => by
    simp only [rel] at h
    obtain ⟨c1, c2, rfl, h1, h2⟩ := h
    simp only [explode]
    rw [lget_append, getD_append, length_explode, rel_len h1]
    split
    · exact LO_explode h1 i
    · exact LO_explode h2 _

/-- The block that leaf `j` owns. -/
def own1 (ls : List Leaf) (cs : List Value) (j : Nat) : Option Nat := if (lget ls j).isOwn then (cs.getD j undef).ownBlock else none

theorem own1_lt {ls : List Leaf} {cs : List Value} {j b : Nat} (h : own1 ls cs j = some b) : j < ls.length := by
  apply Nat.lt_of_not_le
  intro hn
  simp only [own1, lget_of_le hn] at h
  cases h

theorem own1_append {l1 l2 : List Leaf} {c1 c2 : List Value} (hl : c1.length = l1.length) (j : Nat) : own1 (l1 ++ l2) (c1 ++ c2) j = if j < l1.length then own1 l1 c1 j else own1 l2 c2 (j - l1.length) := by
  simp only [own1, lget_append, getD_append, hl]
  split <;> rfl

theorem own1_explode (t : Ty) (x : t.den) (cs : List Value) (j : Nat) : own1 (explode t x) cs j = none := by
  simp only [own1, explode_own]; rfl

section
variable {X : Ctx} {a : Act} {w : World}

/-- Leaves are taken out of a state. -/
structure Tk (X : Ctx) (a : Act) (w : World) (σ σ' : St) (g g' : Gh) (ls : List Leaf) (cs : List Value) : Prop where
  fz : Fz X a w σ σ' g g'
  len : cs.length = ls.length
  rel : ∀ j, LO w g'.S (lget ls j) (cs.getD j undef)
  own : ∀ j b, own1 ls cs j = some b → (∃ p, ob σ g (.inr p) = some b) ∧ (∀ o, ob σ' g' o ≠ some b) ∧ ¬ g'.S b
  inj : ∀ j1 j2 b, own1 ls cs j1 = some b → own1 ls cs j2 = some b → j1 = j2

theorem Tk.nil {σ : St} {g : Gh} (h : Rel X σ a w g) : Tk X a w σ σ g g [] [] :=
  ⟨.refl h, rfl, fun j => trivial, fun j b h => by simp [own1, lget, Leaf.isOwn] at h, fun j1 j2 b h => by simp [own1, lget, Leaf.isOwn] at h⟩

theorem Tk.append {σ σ1 σ2 : St} {g g1 g2 : Gh} {l1 l2 : List Leaf} {c1 c2 : List Value} (h : Tk X a w σ σ1 g g1 l1 c1) (k : Tk X a w σ1 σ2 g1 g2 l2 c2) : Tk X a w σ σ2 g g2 (l1 ++ l2) (c1 ++ c2) := by
  have keep : ∀ j b, own1 l1 c1 j = some b → (∀ o, ob σ2 g2 o ≠ some b) ∧ ¬ g2.S b := fun j b hb => by
    obtain ⟨_, h2, h3⟩ := h.own j b hb
    refine ⟨fun o ho => h2 o (k.fz.ob ho), fun hs => ?_⟩
    rcases k.fz.new b hs with hs | ⟨p, hs⟩
    · exact h3 hs
    · exact h2 _ hs
  refine ⟨h.fz.trans k.fz, by simp [h.len, k.len], fun j => ?_, fun j b hb => ?_, fun j1 j2 b h1 h2 => ?_⟩
  · rw [lget_append, getD_append, h.len]
    split
    · exact LO_mono k.fz.S (fun _ _ => rfl) (fun _ _ _ => rfl) (h.rel j)
    · exact k.rel _
  · rw [own1_append h.len] at hb
    split at hb
    · exact ⟨(h.own j b hb).1, keep j b hb⟩
    · obtain ⟨⟨p, hp⟩, h2, h3⟩ := k.own _ b hb
      exact ⟨⟨p, h.fz.ob hp⟩, h2, h3⟩
  · rw [own1_append h.len] at h1 h2
    split at h1 <;> split at h2
    · exact h.inj _ _ b h1 h2
    · obtain ⟨⟨p, hp⟩, _⟩ := k.own _ b h2
      exact absurd hp ((h.own _ b h1).2.1 _)
    · obtain ⟨⟨p, hp⟩, _⟩ := k.own _ b h1
      exact absurd hp ((h.own _ b h2).2.1 _)
    · have := k.inj _ _ b h1 h2
      omega

/-- A plain value is taken. -/
theorem Tk.val {σ σ' : St} {g g' : Gh} (f : Fz X a w σ σ' g g') {t : Ty} {x : t.den} {cs : List Value} (h : Ev.rel w g'.S t x cs) : Tk X a w σ σ' g g' (explode t x) cs :=
  ⟨f, by rw [rel_len h, length_explode], LO_explode h, fun j b hb => by (rw [own1_explode] at hb; cases hb), fun j1 j2 b hb => by (rw [own1_explode] at hb; cases hb)⟩

/-- A place's row is let go. -/
theorem Fz.drop {σ : St} {g : Gh} (h : Rel X σ a w g) {p : Pl} (hv : Vp σ p) : Fz X a w σ (sl (mapL (killP p) σ) p .und) g g := by
  refine ⟨h.drop hv, fun _ h => h, rfl, rfl, fun t => by rw [shp_sl, shp_mapL _ rfl], by simp, fun q te e xs hq => ?_, fun b hb => .inl hb⟩
  rw [gl_sl q _ (vp_mapL rfl hv), gl_mapL _ rfl] at hq
  split at hq
  · cases hq
  · revert hq
    cases gl σ q with
    | own => exact id
    | al r => simp only [killP]; split <;> (intro hx; cases hx)
    | ept r => simp only [killP]; split <;> (intro hx; cases hx)
    | _ => intro hx; cases hx

/-- An owned row is taken. -/
theorem takeOwn_ok {σ σ' : St} {g : Gh} {te : TypeId} {e : Ty} {l : Leaf} {xs : List e.den} {v : Value} (h : Rel X σ a w g) (ht : takeOwn σ te e l = some (σ', xs)) (hl : LRw σ w g l v) : Tk X a w σ σ' g g [.own te e xs] [v] := by
  cases l with
  | al p =>
    simp only [takeOwn] at ht
    split at ht
    rotate_left
    · cases ht
    rename_i te' e' xs' hg
    split at ht
    rotate_left
    · cases ht
    rename_i h1
    subst h1
    split at ht
    rotate_left
    · cases ht
    rename_i h2
    subst h2
    simp only [Option.some.injEq, Prod.mk.injEq] at ht
    obtain ⟨rfl, rfl⟩ := ht
    have hv := vp_of_ne (σ := σ) (p := p) (by rw [hg]; simp)
    have hpo : (gl σ p).isOwn = true := by rw [hg]; rfl
    have hp := h.lf p
    rw [hg] at hp
    have hvc : v = g.c p := hl
    have one : ∀ j b, own1 [Leaf.own te' e' xs'] [v] j = some b → j = 0 ∧ v.ownBlock = some b := fun j b hb => by
      have := own1_lt hb
      have hj : j = 0 := by simp at this; omega
      subst hj
      exact ⟨rfl, by simpa [own1, lget, Leaf.isOwn] using hb⟩
    refine ⟨Fz.drop h hv, rfl, fun j => ?_, fun j b hb => ?_, fun j1 j2 b h1 h2 => by rw [(one _ _ h1).1, (one _ _ h2).1]⟩
    · cases j with
      | zero =>
        show ownR _ _ _ _ _ _
        simp only [List.getD_cons_zero]
        rw [hvc]; exact hp
      | succ j => trivial
    · obtain ⟨_, hb⟩ := one _ _ hb
      rw [hvc] at hb
      have hbo := ownBlock_blk (g := g) hpo hb
      refine ⟨⟨p, hbo⟩, fun o ho => ?_, (h.fr _ _ hbo).1⟩
      have ho2 := (Fz.drop h hv).ob ho
      have := h.inj _ _ _ ho2 hbo
      subst this
      simp only [ob] at ho
      rw [gl_sl _ _ (vp_mapL rfl hv)] at ho
      simp [Leaf.isOwn] at ho
  | nils =>
    simp only [takeOwn, Option.some.injEq, Prod.mk.injEq] at ht
    obtain ⟨rfl, rfl⟩ := ht
    have hv : v = .slice none 0 0 := hl
    subst hv
    have none1 : ∀ j b, own1 [Leaf.own te e []] [Value.slice none 0 0] j ≠ some b := fun j b hb => by
      have := own1_lt hb
      have hj : j = 0 := by simp at this; omega
      subst hj
      simp [own1, lget, Leaf.isOwn, Value.ownBlock] at hb
    refine ⟨.refl h, rfl, fun j => ?_, fun j b hb => absurd hb (none1 j b), fun j1 j2 b h1 _ => absurd h1 (none1 j1 b)⟩
    cases j with
    | zero => exact ownR_nil _ _ _ _
    | succ j => trivial
  | _ => simp [takeOwn] at ht

end

/-! ### What functions are handed, and hand back -/

def boxLs : (bs : List (List LK)) → BL bs → Nat → List Leaf
  | [], _, _ => []
  | b :: bs, x, 0 => outL b x.1
  | b :: bs, x, i + 1 => boxLs bs x.2 i

inductive Ow where
  | arg (j : Nat)
  | box (i : Nat)
  | leaf (i j : Nat)

/-- The blocks that are handed over: of rows, of boxes, of rows in boxes. -/
def pob (ls : List Leaf) (cs : List Value) (n : Nat) (bl : Nat → List Leaf) (bc : Nat → List Value) (bk : Nat → Nat) : Ow → Option Nat
  | .arg j => own1 ls cs j
  | .box i => if i < n then some (bk i) else none
  | .leaf i j => if i < n then own1 (bl i) (bc i) j else none

/-- Boxes hold these leaves. -/
structure BoxR (w : World) (S : Nat → Prop) (bk : Nat → Nat) (i : Nat) (ls : List Leaf) (cs : List Value) : Prop where
  heap : ∃ te, w.heap[bk i]? = some (.cells cs.toArray te (0, 0))
  len : cs.length = ls.length
  rel : ∀ j, LO w S (lget ls j) (cs.getD j undef)

/-- What is handed over. -/
structure Hand (w : World) (S : Nat → Prop) (ls : List Leaf) (cs : List Value) (n : Nat) (bl : Nat → List Leaf) (bc : Nat → List Value) (bk : Nat → Nat) : Prop where
  len : cs.length = ls.length
  rel : ∀ j, LO w S (lget ls j) (cs.getD j undef)
  box : ∀ i, i < n → BoxR w S bk i (bl i) (bc i)
  inj : ∀ o1 o2 b, pob ls cs n bl bc bk o1 = some b → pob ls cs n bl bc bk o2 = some b → o1 = o2
  fr : ∀ o b, pob ls cs n bl bc bk o = some b → ¬ S b ∧ b < w.heap.size
  sb : ∀ b, S b → b < w.heap.size

/-- Values of parameters, with their cells. -/
def ArgShape (bk : Nat → Nat) : List PK → List Value → List Value → Prop
  | [], vs, cs => vs = [] ∧ cs = []
  | .v a t :: ps, vs, cs => ∃ v vs' c cs', vs = v :: vs' ∧ cs = c ++ cs' ∧ c.length = t.sz ∧ (a = true ∧ v = .agg c.toArray ∨ a = false ∧ c = [v]) ∧ ArgShape bk ps vs' cs'
  | .o te e :: ps, vs, cs => ∃ v vs' cs', vs = v :: vs' ∧ cs = v :: cs' ∧ ArgShape bk ps vs' cs'
  | .p b :: ps, vs, cs => ∃ vs', vs = .pointer (some ⟨bk b, 0, none⟩) :: vs' ∧ ArgShape bk ps vs' cs
  | .f g bs :: ps, vs, cs => ∃ vs', vs = .func (.func g) #[] (bs.map fun b => .pointer (some ⟨bk b, 0, none⟩)).toArray :: vs' ∧ ArgShape bk ps vs' cs

/-- What a call leaves. -/
structure Back (s : Sig) (w w' : World) (S : Nat → Prop) (M : Nat → Prop) (bk : Nat → Nat) (v : Value) (out : s.Out) : Prop where
  ex : ∃ (S' : Nat → Prop) (cs : List Value) (bc : Nat → List Value),
    Hand w' S' (outSlot s.rs out.1).leaves cs s.bs.length (boxLs s.bs out.2) bc bk ∧ VR w' 0 cs v (outSlot s.rs out.1).shp ∧
    (∀ b, S b → S' b) ∧ (∀ b, S' b → S b ∨ M b ∨ w.heap.size ≤ b) ∧ (∀ o b, pob (outSlot s.rs out.1).leaves cs s.bs.length (boxLs s.bs out.2) bc bk o = some b → M b ∨ w.heap.size ≤ b)
  os : w'.os = w.os
  tape : w'.tape = w.tape
  output : w'.output = w.output
  grow : w.heap.size ≤ w'.heap.size
  frame : ∀ b, b < w.heap.size → ¬ M b → w'.heap[b]? = w.heap[b]?

def LK.one : LK → Bool
  | .fr t => t.sz == 1
  | .ow .. => true

/-- A parameter's kind is well told. -/
def PK.ok : PK → Bool
  | .v false t => t.sz == 1
  | _ => true

/-- A function does what is told of it. -/
structure Sound (P : Program) (f : FuncId) (F : Fun) : Prop where
  ps : F.s.ps.all PK.ok = true
  one : ∀ ks ∈ F.s.bs, ∀ k ∈ ks, LK.one k = true
  fn : ∃ fn, P.funcs[f]? = some fn ∧ fn.body.isNone = false ∧ (fn.name == "runtime.NumGoroutine") = false
  call : ∀ (x : HL F.s.ins) (y : BL F.s.bs) (out : F.s.Out), F.F x y = some out → ∀ (w : World) (S : Nat → Prop) (vs cs : List Value) (bc : Nat → List Value) (bk : Nat → Nat),
    Hand w S (outL F.s.ins x) cs F.s.bs.length (boxLs F.s.bs y) bc bk → ArgShape bk F.s.ps vs cs →
    Calls P f vs.toArray w fun e w' => ∃ v, e = .returned v ∧ Back F.s w w' S (fun b => ∃ o, pob (outL F.s.ins x) cs F.s.bs.length (boxLs F.s.bs y) bc bk o = some b) bk v out

end Go.Ev
