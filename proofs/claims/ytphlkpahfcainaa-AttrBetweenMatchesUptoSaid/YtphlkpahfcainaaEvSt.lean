/- Stores into boxes and rows keep the relation. -/
import Derived.Test.YtphlkpahfcainaaEvWr
namespace Go.Ev
set_option linter.unusedVariables false
set_option linter.unusedSimpArgs false

def wrPG (g : Gh) (p : Pl) (u : Value) : Gh := { g with c := fun q => if q = p then u else g.c q }

theorem vp_mapL {f : Leaf → Leaf} (hf : f .und = .und) {σ : St} {p : Pl} (h : Vp σ p) : Vp (mapL f σ) p := by
  refine ⟨by simpa using h.1, ?_⟩
  rw [leaves_len, shp_mapL f hf, ← leaves_len]; exact h.2

def kp (σ : St) (p : Pl) : St := match gl σ p with | .own .. => mapL (killP p) σ | _ => σ
theorem wrP_eq (σ : St) (p : Pl) (l : Leaf) : wrP σ p l = sl (kp σ p) p (killP p l) := rfl
theorem kp_gl {X : Ctx} {σ : St} {a : Act} {w : World} {g : Gh} (h : Rel X σ a w g) (p q : Pl) : gl (kp σ p) q = killP p (gl σ q) := by
  unfold kp
  split
  · rw [gl_mapL _ rfl]
  · rename_i hn
    refine (h.noP_of ?_ q).symm
    cases hl : gl σ p with
    | own te e xs => exact (hn _ _ _ hl).elim
    | _ => rfl
theorem kp_shp (σ : St) (p : Pl) (t : Nat) : (gs (kp σ p) t).shp = (gs σ t).shp := by
  unfold kp; split
  · rw [shp_mapL _ rfl]
  · rfl
@[simp] theorem length_kp (σ : St) (p : Pl) : (kp σ p).length = σ.length := by
  unfold kp; split <;> simp
theorem vp_kp {σ : St} {p q : Pl} (h : Vp σ p) : Vp (kp σ q) p := by
  refine ⟨by simpa using h.1, ?_⟩
  rw [leaves_len, kp_shp, ← leaves_len]; exact h.2
theorem isOwn_killP (p : Pl) (l : Leaf) : (killP p l).isOwn = l.isOwn := by
  cases l with
  | al r => by_cases h : r = p <;> simp [killP, h, Leaf.isOwn]
  | ept r e i o => by_cases h : r = p <;> simp [killP, h, Leaf.isOwn]
  | _ => rfl

theorem wrP_shp (σ : St) (p : Pl) (l : Leaf) (t : Nat) : (gs (wrP σ p l) t).shp = (gs σ t).shp := by rw [wrP_eq, shp_sl, kp_shp]
@[simp] theorem length_wrP (σ : St) (p : Pl) (l : Leaf) : (wrP σ p l).length = σ.length := by rw [wrP_eq]; simp

theorem ownBlock_blk {σ : St} {g : Gh} {p : Pl} (ho : (gl σ p).isOwn = true) {b : Nat} (hb : (g.c p).ownBlock = some b) : ob σ g (.inr p) = some b := by simp [ob, ho, hb]
theorem box_blk {σ : St} {g : Gh} {t : Nat} (hb : isBox σ t) : ob σ g (.inl t) = some (g.blk t) := by simp [ob, show (gs σ t).shp.isBox = true from hb]

/-- What is asked of the other leaves after a leaf was written. -/
theorem LR_wrP {X : Ctx} {σ : St} {a : Act} {w w' : World} {g : Gh} (h : Rel X σ a w g) {p : Pl} (hp : Vp σ p) (l : Leaf) {u : Value} (hS : ∀ b, g.S b → w'.heap[b]? = w.heap[b]?)
    {l' : Leaf} {v : Value} (ho : l'.isOwn = true → ∀ b, v.ownBlock = some b → w'.heap[b]? = w.heap[b]?) (hl : LR σ w g l' v) : LR (wrP σ p l) w' (wrPG g p u) (killP p l') v := by
  have hgl : ∀ q, gl (wrP σ p l) q = if p = q then killP p l else killP p (gl σ q) := fun q => by rw [wrP_eq, gl_sl q _ (vp_kp hp), kp_gl h]
  have hown : ∀ q, q ≠ p → (gl σ q).isOwn = true → (gl (wrP σ p l) q).isOwn = true := fun q hq ho => by rw [hgl, if_neg (Ne.symm hq), isOwn_killP]; exact ho
  have hbox : ∀ b, isBox (wrP σ p l) b ↔ isBox σ b := fun b => by unfold isBox; rw [wrP_shp]
  have hl2 := LR_world hS ho hl
  cases l' with
  | al q =>
    by_cases e : q = p
    · simp [killP, e, LR]
    · simp only [killP, e, if_false]
      exact ⟨by simp [wrPG, e]; exact hl2.1, hown q e hl2.2⟩
  | ptr b o => exact ⟨hl2.1, (hbox b).2 hl2.2⟩
  | ept q e' i o =>
    by_cases e : q = p
    · simp [killP, e, LR]
    · simp only [killP, e, if_false]
      obtain ⟨⟨te, xs, h1, h2⟩, h3⟩ := hl2
      exact ⟨⟨te, xs, by rw [hgl, if_neg (Ne.symm e), h1]; rfl, h2⟩, by simpa [wrPG, e] using h3⟩
  | clo f bs => exact ⟨hl2.1, fun b hb => (hbox b).2 (hl2.2 b hb)⟩
  | val t x => exact hl2
  | own te e xs => exact hl2
  | nils => exact hl2
  | vpt t x => exact hl2
  | cst u => exact hl2
  | no => exact hl2
  | und => trivial

/-- A leaf of a box is written. -/
theorem Rel.wrP {X : Ctx} {σ : St} {a : Act} {w : World} {g : Gh} (h : Rel X σ a w g) {p : Pl} (hp : Vp σ p) (hb : isBox σ p.t) {l : Leaf} {u : Value} (hl : LR σ w g l u) (ho : l.isOwn = false) :
    Rel X (wrP σ p l) a (w.setCell ⟨g.blk p.t, p.i, none⟩ u) (wrPG g p u) := by
  have hgl : ∀ q, gl (Ev.wrP σ p l) q = if p = q then killP p l else killP p (gl σ q) := fun q => by rw [wrP_eq, gl_sl q _ (vp_kp hp), kp_gl h]
  have hB := box_blk (g := g) hb
  have hother : ∀ k, k ≠ g.blk p.t → (w.setCell ⟨g.blk p.t, p.i, none⟩ u).heap[k]? = w.heap[k]? := fun k hk => heap_setCell_other w _ k u hk
  have hS : ∀ b, g.S b → (w.setCell ⟨g.blk p.t, p.i, none⟩ u).heap[b]? = w.heap[b]? := fun b hs => hother b (fun e => (h.fr _ _ hB).1 (e ▸ hs))
  have hob : ∀ o b, ob (Ev.wrP σ p l) (wrPG g p u) o = some b → ob σ g o = some b ∧ o ≠ .inr p := by
    intro o b hb'
    cases o with
    | inl t => exact ⟨by simpa [ob, wrP_shp, wrPG] using hb', by simp⟩
    | inr q =>
      simp only [ob, hgl q] at hb'
      by_cases e : p = q
      · rw [if_pos e, isOwn_killP, ho] at hb'; simp at hb'
      · rw [if_neg e, isOwn_killP] at hb'
        exact ⟨by simpa [ob, wrPG, Ne.symm e] using hb', by simp; exact Ne.symm e⟩
  have hsh := h.sh p.t hp.1
  have hbs : (gs σ p.t).shp.isBox = true := hb
  refine { h with
    sh := fun t ht => ?_
    lf := fun q => ?_
    inj := fun o1 o2 b h1 h2 => h.inj _ _ b (hob _ _ h1).1 (hob _ _ h2).1
    fr := fun o b hb' => by
      obtain ⟨f1, f2, f3⟩ := h.fr o b (hob _ _ hb').1
      exact ⟨f1, by simpa using f2, f3⟩
    sb := fun b hb' => by simpa using h.sb b hb'
    os := h.os
    tape := h.tape
    output := h.output
    grow := by simpa using h.grow
    frame := fun b h1 h2 => by
      rw [hother b ?_]; exact h.frame b h1 h2
      intro e; subst e
      rcases (h.fr _ _ hB).2.2 with h3 | h3
      · omega
      · exact h2 h3 }
  · rw [wrP_shp]
    have ht' : t < σ.length := by simpa using ht
    have := h.sh t ht'
    by_cases e : t = p.t
    · subst e
      revert this hbs
      have hlen : p.i < (gs σ p.t).shp.len := by rw [← leaves_len]; exact hp.2
      revert hlen
      cases (gs σ p.t).shp with
      | cs ag n => intro _ hx _; simp [Shp.isBox] at hx
      | tup ks n => intro _ hx _; simp [Shp.isBox] at hx
      | box n =>
        rintro hlen _ ⟨h1, te, h2⟩
        refine ⟨h1, te, ?_⟩
        rw [show (wrPG g p u).blk = g.blk from rfl, heap_setCell_same w _ p.i _ te u h2]
        congr 2
        apply Array.ext'
        simp only [Array.toList_setIfInBounds]
        apply List.ext_getElem?
        intro i
        simp only [cellsL, List.getElem?_set, List.getElem?_map, List.length_map, List.length_range, wrPG]
        by_cases hi : p.i = i
        · subst hi
          simp only [Shp.len] at hlen
          simp [hlen]
        · rw [if_neg hi]
          by_cases hn : i < n
          · simp [hn]
            intro e; exact absurd (by rw [← e]) hi
          · simp [hn]
    · have hc : ∀ n, cellsL (wrPG g p u) t n = cellsL g t n := fun n => by
        simp only [cellsL, wrPG]
        apply List.map_congr_left
        intro i _
        rw [if_neg (by intro e2; apply e; rw [← e2])]
      have hblk : (gs σ t).shp.isBox = true → g.blk t ≠ g.blk p.t := fun hx e2 => by
        have h1 := box_blk (g := g) (t := t) (σ := σ) hx
        rw [e2] at h1
        have := h.inj _ _ _ h1 hB
        simp at this; exact e this
      revert hblk this
      cases (gs σ t).shp with
      | cs ag n =>
        intro hx _
        cases ag with
        | false => exact ⟨hx.1, by rw [hx.2]; simp [wrPG]; intro e2; exact absurd (by rw [← e2]) e⟩
        | true => show _ = _; rw [hc]; exact hx
      | box n =>
        rintro ⟨h1, te, h2⟩ hblk
        refine ⟨h1, te, ?_⟩
        rw [hc, show (wrPG g p u).blk = g.blk from rfl, hother _ (hblk rfl)]; exact h2
      | tup ks n =>
        intro hx _
        obtain ⟨vs, h1, h2⟩ := hx
        exact ⟨vs, h1, by rw [hc]; exact h2⟩
  · rw [hgl q]
    by_cases e : p = q
    · subst e
      rw [if_pos rfl]
      have := LR_wrP h hp l (u := u) hS (fun hx => by rw [ho] at hx; cases hx) hl
      simpa [wrPG] using this
    · rw [if_neg e]
      have := LR_wrP h hp l (u := u) hS (fun hx b hbo => hother b (fun e2 => by
        have h1 := ownBlock_blk (g := g) hx hbo
        rw [e2] at h1
        have := h.inj _ _ _ h1 hB
        cases this)) (h.lf q)
      simpa [wrPG, Ne.symm e] using this


/-- A place's owned row becomes another one, in the same block. -/
theorem Rel.setOwn {X : Ctx} {σ : St} {a : Act} {w w' : World} {g : Gh} (h : Rel X σ a w g) {p : Pl} {te te' : TypeId} {e : Ty} {xs xs' : List e.den} (hp : gl σ p = .own te e xs) (hlen : xs'.length = xs.length)
    (hother : ∀ k, (g.c p).ownBlock ≠ some k → w'.heap[k]? = w.heap[k]?) (hos : w'.os = w.os) (htape : w'.tape = w.tape) (hout : w'.output = w.output) (hsz : w'.heap.size = w.heap.size)
    (hr : ownR w' g.S te' e xs' (g.c p)) : Rel X (sl σ p (.own te' e xs')) a w' g := by
  have hv : Vp σ p := vp_of_ne (by rw [hp]; simp)
  have ho : (gl σ p).isOwn = true := by rw [hp]; rfl
  have hgl : ∀ q, gl (sl σ p (.own te' e xs')) q = if p = q then .own te' e xs' else gl σ q := fun q => gl_sl q _ hv
  have hbl : ∀ k, (g.c p).ownBlock = some k → ob σ g (.inr p) = some k := fun k hk => ownBlock_blk ho hk
  have hS : ∀ b, g.S b → w'.heap[b]? = w.heap[b]? := fun b hs => hother b (fun e => (h.fr _ _ (hbl b e)).1 hs)
  have hown : ∀ q, (gl σ q).isOwn = true → (gl (sl σ p (.own te' e xs')) q).isOwn = true := fun q hq => by
    rw [hgl]; split
    · rfl
    · exact hq
  have hob : ∀ o b, ob (sl σ p (.own te' e xs')) g o = some b → ob σ g o = some b := by
    intro o b hb
    cases o with
    | inl t => simpa [ob, shp_sl] using hb
    | inr q =>
      simp only [ob, hgl q] at hb
      by_cases e : p = q
      · subst e
        rw [if_pos rfl] at hb
        simp only [ob, ho, if_true]
        simpa [Leaf.isOwn] using hb
      · rw [if_neg e] at hb; exact hb
  have hLR : ∀ l v, (l.isOwn = true → ∀ b, v.ownBlock = some b → w'.heap[b]? = w.heap[b]?) → LR σ w g l v → LR (sl σ p (.own te' e xs')) w' g l v := by
    intro l v hlo hl
    have hl2 := LR_world hS hlo hl
    cases l with
    | al q => exact ⟨hl2.1, hown q hl2.2⟩
    | ptr b o => exact ⟨hl2.1, isBox_sl.2 hl2.2⟩
    | ept q e' i o =>
      obtain ⟨⟨te1, xs1, h1, h2, h2'⟩, h3⟩ := hl2
      refine ⟨?_, h3⟩
      by_cases e1 : p = q
      · subst e1
        rw [hp] at h1
        injection h1 with a1 a2 a3
        subst a2
        have a3 := eq_of_heq a3
        subst a3
        exact ⟨te', xs', by rw [hgl, if_pos rfl], h2, by rw [hlen]; exact h2'⟩
      · exact ⟨te1, xs1, by rw [hgl, if_neg e1, h1], h2, h2'⟩
    | clo f bs => exact ⟨hl2.1, fun b hb => isBox_sl.2 (hl2.2 b hb)⟩
    | val t x => exact hl2
    | own te e xs => exact hl2
    | nils => exact hl2
    | vpt t x => exact hl2
    | cst u => exact hl2
    | no => exact hl2
    | und => trivial
  refine { h with
    sh := fun t ht => ?_
    lf := fun q => ?_
    inj := fun o1 o2 b h1 h2 => h.inj _ _ b (hob _ _ h1) (hob _ _ h2)
    fr := fun o b hb => by
      obtain ⟨f1, f2, f3⟩ := h.fr o b (hob _ _ hb)
      exact ⟨f1, by omega, f3⟩
    sb := fun b hb => by
      have := h.sb b hb
      exact ⟨by omega, this.2⟩
    os := hos.trans h.os
    tape := htape.trans h.tape
    output := hout.trans h.output
    grow := by rw [hsz]; exact h.grow
    frame := fun b h1 h2 => by
      rw [hother b ?_]; exact h.frame b h1 h2
      intro e
      rcases (h.fr _ _ (hbl b e)).2.2 with h3 | h3
      · omega
      · exact h2 h3 }
  · rw [shp_sl]
    have := h.sh t (by simpa using ht)
    have hbx : (gs σ t).shp.isBox = true → w'.heap[g.blk t]? = w.heap[g.blk t]? := fun hx => hother _ (fun e2 => by
      have h1 := box_blk (g := g) (t := t) (σ := σ) hx
      have := h.inj _ _ _ h1 (hbl _ e2)
      cases this)
    revert this hbx
    cases (gs σ t).shp with
    | cs ag n => intro hx _; cases ag <;> exact hx
    | box n => intro hx hbx; exact ⟨hx.1, by rw [hbx rfl]; exact hx.2⟩
    | tup ks n => intro hx _; exact hx
  · rw [hgl q]
    by_cases e1 : p = q
    · subst e1; rw [if_pos rfl]; exact hr
    · rw [if_neg e1]
      refine hLR _ _ (fun hx b hb => hother b (fun e2 => ?_)) (h.lf q)
      have := h.inj _ _ _ (ownBlock_blk (g := g) hx hb) (hbl b e2)
      simp at this; exact e1 this.symm

end Go.Ev
