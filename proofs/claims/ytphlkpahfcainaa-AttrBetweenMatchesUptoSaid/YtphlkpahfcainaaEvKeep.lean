/- Steps of the evaluator's slots keep the relation. -/
import Derived.Test.YtphlkpahfcainaaEvRel
namespace Go.Ev
set_option linter.unusedVariables false
set_option linter.unusedSimpArgs false

/-! ### Places -/

theorem LR_killP {σ : St} {w : World} {g : Gh} {p : Pl} {l : Leaf} {v : Value} (h : LR σ w g l v) : LR (mapL (killP p) σ) w g (killP p l) v := by
  have e : ∀ q, gl (mapL (killP p) σ) q = killP p (gl σ q) := gl_mapL (killP p) rfl σ
  have own : ∀ q, (gl σ q).isOwn = true → (gl (mapL (killP p) σ) q).isOwn = true := fun q hq => by
    rw [e q]; obtain ⟨te, e', xs, hx⟩ := isOwn_iff.1 hq; rw [hx]; rfl
  cases l with
  | al q =>
    simp only [killP]
    split
    · trivial
    · exact ⟨h.1, own q h.2⟩
  | ptr b o => exact ⟨h.1, (isBox_mapL rfl).2 h.2⟩
  | ept q e' i o =>
    simp only [killP]
    split
    · trivial
    · obtain ⟨⟨te, xs, h1, h2⟩, h3⟩ := h
      exact ⟨⟨te, xs, by rw [e q, h1]; rfl, h2⟩, h3⟩
  | clo f bs => exact ⟨h.1, fun b hb => (isBox_mapL rfl).2 (h.2 b hb)⟩
  | _ => exact h

theorem killP_own {p : Pl} {l : Leaf} (h : (killP p l).isOwn = true) : l.isOwn = true := by
  cases l <;> simp_all [killP] <;> split at h <;> simp_all [Leaf.isOwn]

theorem Rel.killPAll {X : Ctx} {σ : St} {a : Act} {w : World} {g : Gh} (h : Rel X σ a w g) (p : Pl) : Rel X (mapL (killP p) σ) a w g :=
  h.weak (by simp) (shp_mapL _ rfl σ) (fun q => by rw [gl_mapL _ rfl]; exact LR_killP (h.lf q)) (fun q hq => by rw [gl_mapL _ rfl] at hq; exact killP_own hq)

/-- Nothing leads to place `p`. -/
def noP (σ : St) (p : Pl) : Prop := ∀ q, killP p (gl σ q) = gl σ q
theorem killP_killP (p : Pl) (l : Leaf) : killP p (killP p l) = killP p l := by
  cases l with
  | al q => by_cases h : q = p <;> simp [killP, h]
  | ept q e i o => by_cases h : q = p <;> simp [killP, h]
  | _ => rfl
theorem noP_killAll (σ : St) (p : Pl) : noP (mapL (killP p) σ) p := fun q => by rw [gl_mapL _ rfl, killP_killP]

/-- Where nothing is owned, nothing leads to. -/
theorem Rel.noP_of {X : Ctx} {σ : St} {a : Act} {w : World} {g : Gh} (h : Rel X σ a w g) {p : Pl} (hp : (gl σ p).isOwn = false) : noP σ p := by
  intro q
  have hq := h.lf q
  generalize gl σ q = l at *
  cases l with
  | al r =>
    simp only [killP]
    split
    · rename_i e; subst e; rw [hq.2] at hp; cases hp
    · rfl
  | ept r e i o =>
    simp only [killP]
    split
    · rename_i e; subst e
      obtain ⟨⟨te, xs, h1, _⟩, _⟩ := hq
      rw [h1] at hp; cases hp
    · rfl
  | _ => rfl

/-- A leaf that isn't read by any other, at a place to which nothing leads, is set; the shape stays. -/
theorem LR_set {σ : St} {w : World} {g : Gh} {p : Pl} {l : Leaf} (hv : Vp σ p) {l' : Leaf} {v : Value} (hk : killP p l' = l') (h : LR σ w g l' v) : LR (sl σ p l) w g l' v := by
  have own : ∀ q, q ≠ p → gl (sl σ p l) q = gl σ q := fun q hq => by rw [gl_sl q l hv, if_neg (Ne.symm hq)]
  cases l' with
  | al q =>
    have hne : q ≠ p := by intro e; subst e; simp [killP] at hk
    exact ⟨h.1, by rw [own q hne]; exact h.2⟩
  | ptr b o => exact ⟨h.1, isBox_sl.2 h.2⟩
  | ept q e' i o =>
    have hne : q ≠ p := by intro e; subst e; simp [killP] at hk
    obtain ⟨⟨te, xs, h1, h2⟩, h3⟩ := h
    exact ⟨⟨te, xs, by rw [own q hne, h1], h2⟩, h3⟩
  | clo f bs => exact ⟨h.1, fun b hb => isBox_sl.2 (h.2 b hb)⟩
  | _ => exact h

/-- What is owned at a place is let go. -/
theorem Rel.drop {X : Ctx} {σ : St} {a : Act} {w : World} {g : Gh} (h : Rel X σ a w g) {p : Pl} (hv : Vp σ p) : Rel X (sl (mapL (killP p) σ) p .und) a w g := by
  have h1 := h.killPAll p
  have hv1 : Vp (mapL (killP p) σ) p := by
    refine ⟨by simpa using hv.1, ?_⟩
    rw [leaves_len, shp_mapL _ rfl, ← leaves_len]; exact hv.2
  refine h1.weak (by simp) (fun t => shp_sl _ _ _ t) (fun q => ?_) (fun q hq => ?_)
  · rw [gl_sl q _ hv1]
    split
    · trivial
    · exact LR_set hv1 (noP_killAll σ p q) (h1.lf q)
  · rw [gl_sl q _ hv1] at hq
    split at hq
    · cases hq
    · exact hq

theorem isOwn_mvP (p q : Pl) (l : Leaf) : (mvP p q l).isOwn = l.isOwn := by
  cases l with
  | al r => by_cases h : r = p <;> simp [mvP, h, Leaf.isOwn]
  | ept r e i o => by_cases h : r = p <;> simp [mvP, h, Leaf.isOwn]
  | _ => rfl
theorem mvP_und (p q : Pl) : mvP p q .und = .und := rfl

theorem xfer_gl {σ : St} {p q : Pl} {te : TypeId} {e : Ty} {xs : List e.den} (hq : gl σ q = .al p) (hp : gl σ p = .own te e xs) (r : Pl) :
    gl (xfer σ q) r = if q = r then .own te e xs else if p = r then .al q else mvP p q (gl σ r) := by
  have e1 : xfer σ q = sl (sl (mapL (mvP p q) σ) p (.al q)) q (.own te e xs) := by unfold xfer; rw [hq]; simp only; rw [hp]
  have vp : Vp (mapL (mvP p q) σ) p := by
    have := vp_of_ne (σ := σ) (p := p) (by rw [hp]; simp)
    refine ⟨by simpa using this.1, ?_⟩
    rw [leaves_len, shp_mapL _ rfl, ← leaves_len]; exact this.2
  have vq : Vp (sl (mapL (mvP p q) σ) p (.al q)) q := by
    have := vp_of_ne (σ := σ) (p := q) (by rw [hq]; simp)
    refine ⟨by simpa using this.1, ?_⟩
    rw [leaves_len, shp_sl, shp_mapL _ rfl, ← leaves_len]; exact this.2
  rw [e1, gl_sl r _ vq, gl_sl r _ vp, gl_mapL _ rfl]

theorem xfer_shp (σ : St) (q : Pl) (t : Nat) : (gs (xfer σ q) t).shp = (gs σ t).shp := by
  unfold xfer
  split
  · split
    · rw [shp_sl, shp_sl, shp_mapL _ rfl]
    · rfl
  · rfl
@[simp] theorem length_xfer (σ : St) (q : Pl) : (xfer σ q).length = σ.length := by
  unfold xfer
  split
  · split <;> simp
  · rfl

theorem Rel.xfer {X : Ctx} {σ : St} {a : Act} {w : World} {g : Gh} (h : Rel X σ a w g) (q : Pl) : Rel X (xfer σ q) a w g := by
  by_cases hc : ¬ ∃ p te e, ∃ xs : List e.den, gl σ q = .al p ∧ gl σ p = .own te e xs
  · have : Ev.xfer σ q = σ := by
      unfold Ev.xfer
      split
      · split
        · exact absurd ⟨_, _, _, _, by assumption, by assumption⟩ hc
        · rfl
      · rfl
    rw [this]; exact h
  obtain ⟨p, te, e, xs, hq, hp⟩ := Classical.not_not.1 hc
  have hne : q ≠ p := by intro e; subst e; rw [hq] at hp; cases hp
  have hgl := xfer_gl hq hp
  have hcq : g.c q = g.c p := by have := h.lf q; rw [hq] at this; exact this.1
  have hbox : ∀ b, isBox (Ev.xfer σ q) b ↔ isBox σ b := fun b => by unfold isBox; rw [xfer_shp]
  have hown : ∀ r, r ≠ p → (gl σ r).isOwn = true → (gl (Ev.xfer σ q) r).isOwn = true := by
    intro r hr ho
    rw [hgl r]
    split
    · rfl
    · rw [if_neg (Ne.symm hr)]
      obtain ⟨te', e', xs', hx⟩ := isOwn_iff.1 ho
      rw [hx]; rfl
  have hLR : ∀ l v, LR σ w g l v → LR (Ev.xfer σ q) w g (mvP p q l) v := by
    intro l v hl
    cases l with
    | al r =>
      simp only [mvP]
      split
      · rename_i e; subst e
        exact ⟨by rw [hcq]; exact hl.1, by rw [hgl, if_pos rfl]; rfl⟩
      · rename_i e
        exact ⟨hl.1, hown r e hl.2⟩
    | ptr b o => exact ⟨hl.1, (hbox b).2 hl.2⟩
    | ept r e' i o =>
      simp only [mvP]
      obtain ⟨⟨te', xs', h1, h2⟩, h3⟩ := hl
      split
      · rename_i e1; subst e1
        rw [hp] at h1
        injection h1 with a1 a2 a3
        subst a1 a2
        have a3 := eq_of_heq a3
        subst a3
        exact ⟨⟨te, xs, by rw [hgl, if_pos rfl], h2⟩, by rw [hcq]; exact h3⟩
      · rename_i e1
        refine ⟨⟨te', xs', ?_, h2⟩, h3⟩
        have hrq : r ≠ q := by intro e; subst e; rw [hq] at h1; cases h1
        rw [hgl, if_neg (Ne.symm hrq), if_neg (Ne.symm e1), h1]; rfl
    | clo f bs => exact ⟨hl.1, fun b hb => (hbox b).2 (hl.2 b hb)⟩
    | _ => exact hl
  have hlf : ∀ r, LR (Ev.xfer σ q) w g (gl (Ev.xfer σ q) r) (g.c r) := by
    intro r
    have hr := hLR _ _ (h.lf r)
    rw [hgl r]
    split
    · rename_i e; subst e
      have := h.lf p
      rw [hp] at this
      rw [hcq]; exact this
    · split
      · rename_i e; subst e
        exact ⟨hcq.symm, by rw [hgl, if_pos rfl]; rfl⟩
      · exact hr
  -- owners
  have hob : ∀ o b, ob (Ev.xfer σ q) g o = some b → ob σ g (if o = .inr q then .inr p else o) = some b ∧ o ≠ .inr p := by
    intro o b hb
    cases o with
    | inl t =>
      rw [if_neg (by simp)]
      exact ⟨by simpa [ob, xfer_shp] using hb, by simp⟩
    | inr r =>
      simp only [ob] at hb
      have ho : (gl (Ev.xfer σ q) r).isOwn = true := by
        cases ho : (gl (Ev.xfer σ q) r).isOwn with
        | true => rfl
        | false => rw [ho] at hb; simp at hb
      rw [ho, if_pos rfl] at hb
      rw [hgl r] at ho
      split at ho
      · rename_i e; subst e
        rw [if_pos rfl]
        refine ⟨?_, by simp; exact hne⟩
        simp only [ob, hp, Leaf.isOwn, if_true]
        rw [← hcq]; exact hb
      · rename_i e1
        split at ho
        · cases ho
        · rename_i e2
          rw [if_neg (by simp; exact Ne.symm e1)]
          refine ⟨?_, by simp; exact Ne.symm e2⟩
          have : (gl σ r).isOwn = true := by rw [isOwn_mvP] at ho; exact ho
          simp only [ob, this, if_true]; exact hb
  exact { h with
    sh := fun t ht => by rw [xfer_shp]; exact h.sh t (by simpa using ht)
    lf := hlf
    inj := fun o1 o2 b h1 h2 => by
      obtain ⟨a1, b1⟩ := hob _ _ h1
      obtain ⟨a2, b2⟩ := hob _ _ h2
      have := h.inj _ _ b a1 a2
      split at this <;> split at this <;> simp_all
    fr := fun o b hb => h.fr _ b (hob _ _ hb).1 }

theorem Rel.xfers {X : Ctx} {a : Act} {w : World} {g : Gh} (d : Nat) : ∀ (n i : Nat) {σ : St}, Rel X σ a w g → Rel X (xfers σ d i n) a w g
  | 0, _, _, h => h
  | n + 1, i, _, h => Rel.xfers d n (i + 1) (h.xfer ⟨d, i⟩)
theorem xfers_shp (d : Nat) : ∀ (n i : Nat) (σ : St) (t : Nat), (gs (Ev.xfers σ d i n) t).shp = (gs σ t).shp
  | 0, _, _, _ => rfl
  | n + 1, i, σ, t => by rw [Ev.xfers, xfers_shp d n (i + 1), xfer_shp]
@[simp] theorem length_xfers (d : Nat) : ∀ (n i : Nat) (σ : St), (Ev.xfers σ d i n).length = σ.length
  | 0, _, _ => rfl
  | n + 1, i, σ => by rw [Ev.xfers, length_xfers d n (i + 1), length_xfer]


/-! ### Freezing -/

theorem frP_und (p : Pl) (e : Ty) (xs : List e.den) : frP p e xs .und = .und := rfl
theorem isOwn_frP (p : Pl) (e : Ty) (xs : List e.den) (l : Leaf) : (frP p e xs l).isOwn = l.isOwn := by
  cases l with
  | al r => by_cases h : r = p <;> simp [frP, h, Leaf.isOwn]
  | ept r e i o => by_cases h : r = p <;> simp [frP, h, Leaf.isOwn]
  | _ => rfl

/-- The blocks that are read only, and one row's. -/
def frG (g : Gh) (p : Pl) : Gh := { g with S := fun b => g.S b ∨ (g.c p).ownBlock = some b }

theorem frz_gl {σ : St} {p : Pl} {te : TypeId} {e : Ty} {xs : List e.den} (hp : gl σ p = .own te e xs) (r : Pl) :
    gl (frz σ p) r = if p = r then .val (.list e) xs else frP p e xs (gl σ r) := by
  have e1 : frz σ p = mapL (frP p e xs) (sl σ p (.val (.list e) xs)) := by unfold frz; rw [hp]
  have vp : Vp σ p := vp_of_ne (by rw [hp]; simp)
  rw [e1, gl_mapL _ rfl, gl_sl r _ vp]
  split <;> rfl

theorem frz_shp (σ : St) (p : Pl) (t : Nat) : (gs (frz σ p) t).shp = (gs σ t).shp := by
  unfold frz
  split
  · rw [shp_mapL _ rfl, shp_sl]
  · rfl
@[simp] theorem length_frz (σ : St) (p : Pl) : (frz σ p).length = σ.length := by
  unfold frz
  split <;> simp

theorem frz_id {σ : St} {p : Pl} (h : (gl σ p).isOwn = false) : frz σ p = σ := by
  unfold frz
  split
  · rename_i e; rw [e] at h; cases h
  · rfl

theorem Rel.frz {X : Ctx} {σ : St} {a : Act} {w : World} {g : Gh} (h : Rel X σ a w g) {p : Pl} (ho : (gl σ p).isOwn = true) : Rel X (frz σ p) a w (frG g p) := by
  obtain ⟨te, e, xs, hp⟩ := isOwn_iff.1 ho
  have hgl := frz_gl hp
  have hbox : ∀ b, isBox (Ev.frz σ p) b ↔ isBox σ b := fun b => by unfold isBox; rw [frz_shp]
  have hS : ∀ b, g.S b → (frG g p).S b := fun b hb => .inl hb
  have hpr : ownR w g.S te e xs (g.c p) := by have := h.lf p; rw [hp] at this; exact this
  have hval : rel w (frG g p).S (.list e) xs [g.c p] := rel_of_ownR hpr hS (fun b hb => .inr hb)
  have hown : ∀ r, r ≠ p → (gl σ r).isOwn = true → (gl (Ev.frz σ p) r).isOwn = true := fun r hr hr2 => by
    rw [hgl r, if_neg (Ne.symm hr), isOwn_frP]; exact hr2
  have hlf : ∀ r, LR (Ev.frz σ p) w (frG g p) (gl (Ev.frz σ p) r) ((frG g p).c r) := by
    intro r
    have hr := h.lf r
    rw [hgl r]
    show LR _ _ _ _ (g.c r)
    split
    · rename_i e; subst e; exact hval
    · rename_i hne
      generalize gl σ r = l at hr
      cases l with
      | val t x => exact rel_mono hS (fun _ _ => rfl) hr
      | own te' e' xs' => exact ownR_mono hS (fun _ _ => rfl) (fun _ _ => rfl) hr
      | al q =>
        simp only [frP]
        split
        · rename_i e; subst e
          show rel _ _ _ _ _
          rw [hr.1]; exact hval
        · rename_i e; exact ⟨hr.1, hown q e hr.2⟩
      | nils => exact hr
      | ptr b o => exact ⟨hr.1, (hbox b).2 hr.2⟩
      | ept q e' i o =>
        simp only [frP]
        split
        · trivial
        · rename_i e1
          obtain ⟨⟨te', xs', h1, h2⟩, h3⟩ := hr
          exact ⟨⟨te', xs', by rw [hgl q, if_neg (Ne.symm e1), h1]; rfl, h2⟩, h3⟩
      | vpt t x =>
        obtain ⟨b, o, cs, h1, h2, h3, h4⟩ := hr
        exact ⟨b, o, cs, h1, hS b h2, rel_mono hS (fun _ _ => rfl) h3, h4⟩
      | clo f bs => exact ⟨hr.1, fun b hb => (hbox b).2 (hr.2 b hb)⟩
      | cst u => exact hr
      | no => exact hr
      | und => trivial
  have hob : ∀ o b, ob (Ev.frz σ p) (frG g p) o = some b → ob σ g o = some b ∧ o ≠ .inr p := by
    intro o b hb
    cases o with
    | inl t => exact ⟨by simpa [ob, frz_shp, frG] using hb, by simp⟩
    | inr r =>
      simp only [ob] at hb
      rw [hgl r] at hb
      split at hb
      · simp [Leaf.isOwn] at hb
      · rename_i e
        rw [isOwn_frP] at hb
        exact ⟨hb, by simp; exact Ne.symm e⟩
  have hpo : ∀ b, (g.c p).ownBlock = some b → ob σ g (.inr p) = some b := fun b hb => by simp [ob, ho, hb]
  exact { h with
    sh := fun t ht => by rw [frz_shp]; exact h.sh t (by simpa using ht)
    lf := hlf
    inj := fun o1 o2 b h1 h2 => h.inj _ _ b (hob _ _ h1).1 (hob _ _ h2).1
    fr := fun o b hb => by
      obtain ⟨h1, h2⟩ := hob _ _ hb
      obtain ⟨f1, f2⟩ := h.fr o b h1
      refine ⟨fun hs => ?_, f2⟩
      rcases hs with hs | hs
      · exact f1 hs
      · exact h2 (h.inj _ _ b h1 (hpo b hs))
    sb := fun b hb => by
      rcases hb with hb | hb
      · exact h.sb b hb
      · obtain ⟨_, f2, f3⟩ := h.fr _ b (hpo b hb)
        exact ⟨f2, .inr (f3.symm)⟩
    s0 := fun b hb => .inl (h.s0 b hb) }

/-! ### The world changes elsewhere -/

theorem LR_world {σ : St} {w w' : World} {g : Gh} {l : Leaf} {v : Value} (hS : ∀ b, g.S b → w'.heap[b]? = w.heap[b]?) (ho : l.isOwn = true → ∀ b, v.ownBlock = some b → w'.heap[b]? = w.heap[b]?)
    (h : LR σ w g l v) : LR σ w' g l v := by
  cases l with
  | val t x => exact rel_mono (fun _ h => h) hS h
  | own te e xs => exact ownR_mono (fun _ h => h) hS (ho rfl) h
  | vpt t x =>
    obtain ⟨b, o, cs, h1, h2, h3, h4⟩ := h
    exact ⟨b, o, cs, h1, h2, rel_mono (fun _ h => h) hS h3, fun j u hu => by rw [← h4 j u hu]; exact World.cell?_of_block (hS b h2)⟩
  | _ => exact h

theorem Rel.world {X : Ctx} {σ : St} {a : Act} {w w' : World} {g : Gh} (h : Rel X σ a w g) (hb : ∀ b, (g.S b ∨ ∃ o, ob σ g o = some b) → w'.heap[b]? = w.heap[b]?)
    (hos : w'.os = w.os) (htape : w'.tape = w.tape) (hout : w'.output = w.output) (hsz : w.heap.size ≤ w'.heap.size) (hfr : ∀ b, b < X.w0.heap.size → ¬ X.M b → w'.heap[b]? = w.heap[b]?) : Rel X σ a w' g := by
  refine { h with
    sh := fun t ht => ?_
    lf := fun p => ?_
    fr := fun o b hb => ?_
    sb := fun b hb => ⟨by have := (h.sb b hb).1; omega, (h.sb b hb).2⟩
    os := hos.trans h.os
    tape := htape.trans h.tape
    output := hout.trans h.output
    grow := Nat.le_trans h.grow hsz
    frame := fun b h1 h2 => (hfr b h1 h2).trans (h.frame b h1 h2) }
  · have := h.sh t ht
    have hbx : (gs σ t).shp.isBox = true → w'.heap[g.blk t]? = w.heap[g.blk t]? := fun hx => hb _ (.inr ⟨.inl t, by simp [ob, hx]⟩)
    generalize (gs σ t).shp = s at *
    cases s with
    | cs ag n => cases ag <;> exact this
    | box n => exact ⟨this.1, by rw [hbx rfl]; exact this.2⟩
    | tup ks n => exact this
  · exact LR_world (fun b hS => hb b (.inl hS)) (fun ho b hbo => hb b (.inr ⟨.inr p, by simp [ob, ho, hbo]⟩)) (h.lf p)
  · obtain ⟨h1, h2, h3⟩ := h.fr o b hb
    exact ⟨h1, by omega, h3⟩

/-- New blocks alone. -/
theorem Rel.below {X : Ctx} {σ : St} {a : Act} {w w' : World} {g : Gh} (h : Rel X σ a w g) (hb : Go.RowKit.Below w.heap.size w w') : Rel X σ a w' g :=
  h.world (fun b hS => hb.block b (by
    rcases hS with hS | ⟨o, ho⟩
    · exact (h.sb b hS).1
    · exact (h.fr o b ho).2.1)) hb.os hb.tape hb.output hb.size (fun b h1 h2 => hb.block b (Nat.lt_of_lt_of_le h1 h.grow))

end Go.Ev
