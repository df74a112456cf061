/- Operations, part D: plain values out of leaves; freezing; stores. -/
import Derived.Test.YtphlkpahfcainaaEvOpC
namespace Go.Ev
set_option linter.unusedVariables false
set_option linter.unusedSimpArgs false

/-- What a plain leaf tells. -/
def LRz (w : World) (S : Nat → Prop) : Leaf → Value → Prop
  | .val t x, v => rel w S t x [v]
  | .nils, v => v = .slice none 0 0
  | _, _ => True

/-- What a leaf tells that was read some steps ago. -/
def LRw (σ : St) (w : World) (g : Gh) : Leaf → Value → Prop
  | .al q, v => v = g.c q
  | .ept .., _ => True
  | .own .., _ => True
  | l, v => LR σ w g l v

theorem LRw_of {σ : St} {w : World} {g : Gh} {l : Leaf} {v : Value} (h : LR σ w g l v) : LRw σ w g l v := by
  cases l with
  | al q => exact h.1
  | ept => trivial
  | own => trivial
  | _ => exact h

theorem as_ok {w : World} {S : Nat → Prop} {t : Ty} {l : Leaf} {x : t.den} {v : Value} (h : l.as t = some x) (hl : LRz w S l v) : rel w S t x [v] := by
  cases l with
  | val t' y =>
    simp only [Leaf.as] at h
    split at h
    · rename_i e
      subst e
      injection h with h
      subst h
      exact hl
    · cases h
  | nils =>
    simp only [Leaf.as] at h
    split at h
    · injection h with h
      subst h
      rw [show v = .slice none 0 0 from hl]
      simp only [rel]
      exact ⟨none, 0, rfl, Nat.le_refl _, .inl trivial⟩
    · cases h
  | _ => simp [Leaf.as] at h

theorem implode_ok {w : World} {S : Nat → Prop} : ∀ {t : Ty} {ls : List Leaf} {x : t.den} {cs : List Value}, implode t ls = some x → cs.length = t.sz → (∀ i, i < t.sz → LRz w S (lget ls i) (cs.getD i undef)) → rel w S t x cs
  | .pair a b, ls, x, cs, h, hl, hc => by
    simp only [implode] at h
    split at h
    · rename_i x1 x2 h1 h2
      injection h with h
      subst h
      simp only [Ty.sz] at hl hc
      simp only [rel]
      refine ⟨cs.take a.sz, cs.drop a.sz, (List.take_append_drop _ _).symm, implode_ok h1 (by simp; omega) (fun i hi => ?_), implode_ok h2 (by simp; omega) (fun i hi => ?_)⟩
      · rw [lget_ltake, if_pos hi]
        have := hc i (by omega)
        simpa [List.getD_eq_getElem?_getD, List.getElem?_take, hi] using this
      · rw [lget_ldrop]
        have := hc (a.sz + i) (by omega)
        simpa [List.getD_eq_getElem?_getD] using this
    · cases h
  | .int k, ls, x, cs, h, hl, hc => by
    obtain ⟨v, rfl⟩ := List.length_eq_one_iff.1 (show cs.length = 1 from hl)
    exact as_ok (t := .int k) h (hc 0 (by simp [Ty.sz]))
  | .bool, ls, x, cs, h, hl, hc => by
    obtain ⟨v, rfl⟩ := List.length_eq_one_iff.1 (show cs.length = 1 from hl)
    exact as_ok (t := .bool) h (hc 0 (by simp [Ty.sz]))
  | .str, ls, x, cs, h, hl, hc => by
    obtain ⟨v, rfl⟩ := List.length_eq_one_iff.1 (show cs.length = 1 from hl)
    exact as_ok (t := .str) h (hc 0 (by simp [Ty.sz]))
  | .list e, ls, x, cs, h, hl, hc => by
    obtain ⟨v, rfl⟩ := List.length_eq_one_iff.1 (show cs.length = 1 from hl)
    exact as_ok (t := .list e) h (hc 0 (by simp [Ty.sz]))

theorem LRz_of {σ : St} {w : World} {g : Gh} {l : Leaf} {v : Value} (h : LRw σ w g l v) : LRz w g.S l v := by
  cases l <;> first | exact h | trivial

theorem LRz_mono {w : World} {S S' : Nat → Prop} (hS : ∀ b, S b → S' b) {l : Leaf} {v : Value} (h : LRz w S l v) : LRz w S' l v := by
  cases l with
  | val t x => exact rel_mono hS (fun _ _ => rfl) h
  | nils => exact h
  | _ => trivial

/-- Leaves read some steps ago, after a step that turned leaves alone. -/
theorem LRw_mono {σ σ' : St} {w : World} {g g' : Gh} (hS : ∀ b, g.S b → g'.S b) (hc : g'.c = g.c) (hb : g'.blk = g.blk) (hx : ∀ b, isBox σ b → isBox σ' b) {l : Leaf} {v : Value} (h : LRw σ w g l v) : LRw σ' w g' l v := by
  cases l with
  | val t x => exact rel_mono hS (fun _ _ => rfl) h
  | al q => show _ = _; rw [hc]; exact h
  | nils => exact h
  | ptr b o => exact ⟨by rw [hb]; exact h.1, hx _ h.2⟩
  | vpt t x =>
    obtain ⟨b, o, cs, h1, h2, h3, h4⟩ := h
    exact ⟨b, o, cs, h1, hS b h2, rel_mono hS (fun _ _ => rfl) h3, h4⟩
  | clo f bs => exact ⟨by rw [hb]; exact h.1, fun b hb => hx _ (h.2 b hb)⟩
  | cst u => exact h
  | no => exact h
  | _ => trivial

section
variable {X : Ctx} {a : Act} {w : World}

/-- A state after some rows were frozen. -/
structure Fz (X : Ctx) (a : Act) (w : World) (σ σ' : St) (g g' : Gh) : Prop where
  rel : Rel X σ' a w g'
  S : ∀ b, g.S b → g'.S b
  c : g'.c = g.c
  blk : g'.blk = g.blk
  shp : ∀ t, (gs σ' t).shp = (gs σ t).shp
  len : σ'.length = σ.length
  own : ∀ p te e xs, gl σ' p = .own te e xs → gl σ p = .own te e xs
  new : ∀ b, g'.S b → g.S b ∨ ∃ p, ob σ g (.inr p) = some b

theorem Fz.refl {σ : St} {g : Gh} (h : Rel X σ a w g) : Fz X a w σ σ g g := ⟨h, fun _ h => h, rfl, rfl, fun _ => rfl, rfl, fun _ _ _ _ h => h, fun b hb => .inl hb⟩
/-- What is owned afterwards was owned. -/
theorem Fz.ob {σ σ' : St} {g g' : Gh} (h : Fz X a w σ σ' g g') {o : Nat ⊕ Pl} {b : Nat} (hb : Ev.ob σ' g' o = some b) : Ev.ob σ g o = some b := by
  cases o with
  | inl t => simpa [Ev.ob, h.shp, h.blk] using hb
  | inr p =>
    simp only [Ev.ob] at hb ⊢
    split at hb
    · rename_i ho
      obtain ⟨te, e, xs, hx⟩ := isOwn_iff.1 ho
      rw [h.own _ _ _ _ hx, ← h.c]
      simpa [Leaf.isOwn] using hb
    · cases hb
theorem Fz.trans {σ σ' σ'' : St} {g g' g'' : Gh} (h : Fz X a w σ σ' g g') (k : Fz X a w σ' σ'' g' g'') : Fz X a w σ σ'' g g'' :=
  ⟨k.rel, fun b hb => k.S b (h.S b hb), k.c.trans h.c, k.blk.trans h.blk, fun t => (k.shp t).trans (h.shp t), k.len.trans h.len, fun p te e xs hx => h.own _ _ _ _ (k.own _ _ _ _ hx), fun b hb => by
    rcases k.new b hb with hb | ⟨p, hb⟩
    · exact h.new b hb
    · exact .inr ⟨p, h.ob hb⟩⟩
theorem Fz.box {σ σ' : St} {g g' : Gh} (h : Fz X a w σ σ' g g') (b : Nat) (hb : isBox σ b) : isBox σ' b := by
  unfold isBox; rw [h.shp]; exact hb

theorem Fz.frz {σ : St} {g : Gh} (h : Rel X σ a w g) (p : Pl) : ∃ g', Fz X a w σ (Ev.frz σ p) g g' := by
  cases ho : (gl σ p).isOwn with
  | false => rw [frz_id ho]; exact ⟨g, .refl h⟩
  | true =>
    refine ⟨_, h.frz ho, fun b hb => .inl hb, rfl, rfl, fun t => frz_shp σ p t, length_frz σ p, fun q te e xs hx => ?_, fun b hb => hb.imp id (fun hb => ⟨p, ownBlock_blk ho hb⟩)⟩
    obtain ⟨te', e', xs', hp⟩ := isOwn_iff.1 ho
    rw [frz_gl hp] at hx
    split at hx
    · cases hx
    · revert hx
      cases gl σ q with
      | own => exact id
      | al r => simp only [frP]; split <;> (intro hx; cases hx)
      | ept r => simp only [frP]; split <;> (intro hx; cases hx)
      | _ => intro hx; cases hx

theorem freezeL_ok : ∀ (ls : List Leaf) {σ : St} {g : Gh} (vs : Nat → Value), Rel X σ a w g → (∀ i, LRw σ w g (lget ls i) (vs i)) →
    ∃ g', Fz X a w σ (freezeL ls σ).1 g g' ∧ (∀ i, LRz w g'.S (lget (freezeL ls σ).2 i) (vs i)) ∧ (freezeL ls σ).2.length = ls.length
  | [], σ, g, vs, h, _ => ⟨g, .refl h, fun i => by simp [freezeL, lget, LRz], rfl⟩
  | l :: ls, σ, g, vs, h, hl => by
    by_cases hal : ∃ p, l = .al p
    · obtain ⟨p, rfl⟩ := hal
      obtain ⟨g1, f1⟩ := Fz.frz h p
      obtain ⟨g2, f2, h2, h3⟩ := freezeL_ok ls (fun i => vs (i + 1)) f1.rel (fun i => LRw_mono f1.S f1.c f1.blk f1.box (hl (i + 1)))
      refine ⟨g2, f1.trans f2, fun i => ?_, by simp [freezeL, h3]⟩
      cases i with
      | zero =>
        simp only [freezeL, lget]
        have hp := f1.rel.lf p
        have hv : vs 0 = g1.c p := by rw [f1.c]; exact hl 0
        rw [hv]
        cases hg : gl (Ev.frz σ p) p with
        | val t x => rw [hg] at hp; exact rel_mono f2.S (fun _ _ => rfl) hp
        | _ => trivial
      | succ i => exact h2 i
    · have e : freezeL (l :: ls) σ = ((freezeL ls σ).1, l :: (freezeL ls σ).2) := by
        cases l <;> first | rfl | exact absurd ⟨_, rfl⟩ hal
      rw [e]
      obtain ⟨g2, f2, h2, h3⟩ := freezeL_ok ls (fun i => vs (i + 1)) h (fun i => hl (i + 1))
      refine ⟨g2, f2, fun i => ?_, by simp [h3]⟩
      cases i with
      | zero => exact LRz_mono f2.S (LRz_of (hl 0))
      | succ i => exact h2 i

end
end Go.Ev
