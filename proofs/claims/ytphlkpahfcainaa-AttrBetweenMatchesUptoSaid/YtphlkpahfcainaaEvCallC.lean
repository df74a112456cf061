/- Calls, part C: boxes are handed over and come back. -/
import Derived.Test.YtphlkpahfcainaaEvCallB
namespace Go.Ev
set_option linter.unusedVariables false
set_option linter.unusedSimpArgs false

section
variable {X : Ctx} {a : Act} {w : World}

/-- The slot of box `j`. -/
def tk (m : List (Nat × Nat)) (j : Nat) : Nat := (m.lookup j).getD 0

theorem own1_cells {ls : List Leaf} {g : Gh} {t q b : Nat} (h : own1 ls (cellsL g t ls.length) q = some b) : (lget ls q).isOwn = true ∧ (g.c ⟨t, q⟩).ownBlock = some b := by
  have hq := own1_lt h
  simp only [own1, cellsL_getD _ _ _ _ hq] at h
  split at h
  · rename_i h1; exact ⟨h1, h⟩
  · cases h

theorem cells_range (g : Gh) (t n : Nat) : ((List.range n).map fun j => g.c ⟨t, 0 + j⟩) = cellsL g t n := by simp [cellsL]

theorem lget_lt_own {ls : List Leaf} {j : Nat} (h : (lget ls j).isOwn = true) : j < ls.length := by
  apply Nat.lt_of_not_le
  intro hn
  rw [lget_of_le hn] at h
  cases h

theorem outL_len1 : ∀ {ks : List LK} (xs : HL ks), (∀ k ∈ ks, LK.one k = true) → (outL ks xs).length = ks.length
  | [], _, _ => rfl
  | .fr t :: ks, x, h => by
    have := outL_len1 (ks := ks) x.2 (fun k hk => h k (by simp [hk]))
    have h1 : t.sz = 1 := by simpa [LK.one] using h (.fr t) (by simp)
    show (explode t x.1 ++ outL ks x.2).length = _
    rw [List.length_append, length_explode, this, h1, List.length_cons]; omega
  | .ow te e :: ks, x, h => by
    have := outL_len1 (ks := ks) x.2 (fun k hk => h k (by simp [hk]))
    show (Leaf.own te e x.1 :: outL ks x.2).length = _
    rw [List.length_cons, this, List.length_cons]

/-- All boxes are taken. -/
theorem takeBoxes_ok {m : List (Nat × Nat)} : ∀ (bs : List (List LK)) (i : Nat) {σ σ' : St} {g : Gh} {ys : BL bs}, (∀ ks ∈ bs, ∀ k ∈ ks, LK.one k = true) → Rel X σ a w g → takeBoxes m bs i σ = some (σ', ys) →
    ∃ g', Fz X a w σ σ' g g' ∧
      (∀ j, j < bs.length → m.lookup (i + j) = some (tk m (i + j)) ∧ (boxLs bs ys j).length = (gs σ (tk m (i + j))).leaves.length ∧ (∀ q, LO w g'.S (lget (boxLs bs ys j) q) (g.c ⟨tk m (i + j), q⟩)) ∧ ∀ q, (gl σ' ⟨tk m (i + j), q⟩).isOwn = false) ∧
      (∀ j q b, j < bs.length → (lget (boxLs bs ys j) q).isOwn = true → (g.c ⟨tk m (i + j), q⟩).ownBlock = some b → (∃ p, ob σ g (.inr p) = some b) ∧ (∀ o, ob σ' g' o ≠ some b) ∧ ¬ g'.S b) ∧
      (∀ j1 q1 j2 q2 b, j1 < bs.length → j2 < bs.length → (lget (boxLs bs ys j1) q1).isOwn = true → (g.c ⟨tk m (i + j1), q1⟩).ownBlock = some b → (lget (boxLs bs ys j2) q2).isOwn = true → (g.c ⟨tk m (i + j2), q2⟩).ownBlock = some b → j1 = j2 ∧ q1 = q2)
  | [], i, σ, σ', g, ys, h1, h, ht => by
    simp only [takeBoxes, Option.some.injEq, Prod.mk.injEq] at ht
    obtain ⟨rfl, _⟩ := ht
    exact ⟨g, .refl h, fun j hj => by simp at hj, fun j q b hj => by simp at hj, fun j1 q1 j2 q2 b hj => by simp at hj⟩
  | ks :: bs, i, σ, σ', g, ys, h1, h, ht => by
    simp only [takeBoxes] at ht
    split at ht
    rotate_left
    · cases ht
    rename_i t hlk
    split at ht
    rotate_left
    · cases ht
    rename_i hlen
    split at ht
    rotate_left
    · cases ht
    rename_i σ1 x hx
    split at ht
    rotate_left
    · cases ht
    rename_i σ2 ys2 hx2
    simp only [Option.some.injEq, Prod.mk.injEq] at ht
    obtain ⟨rfl, rfl⟩ := ht
    have htk : tk m i = t := by simp [tk, hlk]
    obtain ⟨g1, t1, o1⟩ := takeBox_ok t ks 0 (h1 ks (by simp)) h hx
    rw [cells_range] at t1
    have hl1 := outL_len1 x (h1 ks (by simp))
    obtain ⟨g2, f2, a2, b2, c2⟩ := takeBoxes_ok bs (i + 1) (fun ks hk => h1 ks (by simp [hk])) t1.fz.rel hx2
    rw [← hl1] at t1
    have own0 : ∀ q b, (lget (outL ks x) q).isOwn = true → (g.c ⟨t, q⟩).ownBlock = some b → own1 (outL ks x) (cellsL g t (outL ks x).length) q = some b := fun q b ho hb => by
      simp only [own1, ho, if_true, cellsL_getD _ _ _ _ (lget_lt_own ho)]; exact hb
    have hsh : ∀ j, i + (j + 1) = i + 1 + j := fun j => by omega
    refine ⟨g2, t1.fz.trans f2, fun j hj => ?_, fun j q b hj ho hb => ?_, fun j1 q1 j2 q2 b hj1 hj2 ho1 hb1 ho2 hb2 => ?_⟩
    · cases j with
      | zero =>
        simp only [Nat.add_zero, htk]
        refine ⟨hlk, ?_, fun q => ?_, fun q => ?_⟩
        · show (outL ks x).length = _
          rw [hl1, hlen]
        · show LO w g2.S (lget (outL ks x) q) _
          by_cases hq : q < (outL ks x).length
          · have := t1.rel q
            rw [cellsL_getD _ _ _ _ hq] at this
            exact LO_mono f2.S (fun _ _ => rfl) (fun _ _ _ => rfl) this
          · rw [lget_of_le (by omega)]; trivial
        · cases ho : (gl σ2 ⟨t, q⟩).isOwn with
          | false => rfl
          | true =>
            exfalso
            obtain ⟨te, e, xs, hxs⟩ := isOwn_iff.1 ho
            have hy := f2.own _ _ _ _ hxs
            by_cases hq : q < 0 + ks.length
            · have := o1 q (fun h => by omega) hq
              rw [hy] at this; cases this
            · have hy0 := t1.fz.own _ _ _ _ hy
              have : q < (gs σ t).leaves.length := lget_lt_own (by have e : lget (gs σ t).leaves q = _ := hy0; rw [e]; rfl)
              omega
      | succ j =>
        rw [hsh j]
        obtain ⟨e1, e2, e3, e4⟩ := a2 j (by simpa using hj)
        refine ⟨e1, ?_, fun q => ?_, e4⟩
        · show (boxLs bs ys2 j).length = _
          rw [e2, leaves_len, t1.fz.shp, ← leaves_len]
        · have := e3 q
          rw [t1.fz.c] at this
          exact this
    · cases j with
      | zero =>
        simp only [Nat.add_zero, htk] at hb
        obtain ⟨p1, p2, p3⟩ := t1.own q b (own0 q b ho hb)
        refine ⟨p1, fun o ho => p2 o (f2.ob ho), fun hs => ?_⟩
        rcases f2.new b hs with hs | ⟨p, hs⟩
        · exact p3 hs
        · exact p2 _ hs
      | succ j =>
        rw [hsh j] at hb
        obtain ⟨⟨p, hp⟩, p2, p3⟩ := b2 j q b (by simpa using hj) ho (by rw [t1.fz.c]; exact hb)
        exact ⟨⟨p, t1.fz.ob hp⟩, p2, p3⟩
    · cases j1 with
      | zero =>
        simp only [Nat.add_zero, htk] at hb1
        cases j2 with
        | zero =>
          simp only [Nat.add_zero, htk] at hb2
          exact ⟨rfl, t1.inj q1 q2 b (own0 q1 b ho1 hb1) (own0 q2 b ho2 hb2)⟩
        | succ j2 =>
          rw [hsh j2] at hb2
          obtain ⟨⟨p, hp⟩, _⟩ := b2 j2 q2 b (by simpa using hj2) ho2 (by rw [t1.fz.c]; exact hb2)
          exact absurd hp ((t1.own q1 b (own0 q1 b ho1 hb1)).2.1 _)
      | succ j1 =>
        rw [hsh j1] at hb1
        cases j2 with
        | zero =>
          simp only [Nat.add_zero, htk] at hb2
          obtain ⟨⟨p, hp⟩, _⟩ := b2 j1 q1 b (by simpa using hj1) ho1 (by rw [t1.fz.c]; exact hb1)
          exact absurd hp ((t1.own q2 b (own0 q2 b ho2 hb2)).2.1 _)
        | succ j2 =>
          rw [hsh j2] at hb2
          obtain ⟨e1, e2⟩ := c2 j1 q1 j2 q2 b (by simpa using hj1) (by simpa using hj2) ho1 (by rw [t1.fz.c]; exact hb1) ho2 (by rw [t1.fz.c]; exact hb2)
          exact ⟨by rw [e1], e2⟩

/-- Boxes come back with other leaves, in another world. -/
theorem Rel.call {σ σ' : St} {g g' : Gh} {w' : World} (h : Rel X σ a w g) {B : Nat → Prop} (hB : ∀ t, B t → isBox σ t) (hno : ∀ p : Pl, B p.t → (gl σ p).isOwn = false) (hlen : σ'.length = σ.length)
    (hgs : ∀ t, ¬ B t → gs σ' t = gs σ t) (hgB : ∀ t, B t → ∃ ls, gs σ' t = .box ls) (hblk : g'.blk = g.blk) (hc : ∀ p : Pl, ¬ B p.t → g'.c p = g.c p) (hS : ∀ b, g.S b → g'.S b)
    (hos : w'.os = w.os) (htape : w'.tape = w.tape) (hout : w'.output = w.output) (hsz : w.heap.size ≤ w'.heap.size)
    (hkeep : ∀ b, (g.S b ∨ ∃ o, ob σ g o = some b ∧ ∀ t, B t → o ≠ .inl t) → w'.heap[b]? = w.heap[b]?)
    (hfrm : ∀ b, b < X.w0.heap.size → ¬ X.M b → w'.heap[b]? = w.heap[b]?)
    (hbx : ∀ t, B t → (∃ te, w'.heap[g.blk t]? = some (.cells (cellsL g' t (gs σ' t).leaves.length).toArray te (0, 0))) ∧ ∀ i, LO w' g'.S (lget (gs σ' t).leaves i) (g'.c ⟨t, i⟩))
    (hown : ∀ (p : Pl) b, B p.t → (gl σ' p).isOwn = true → (g'.c p).ownBlock = some b → ¬ g'.S b ∧ b < w'.heap.size ∧ (X.w0.heap.size ≤ b ∨ X.M b) ∧ ∀ o, ob σ g o ≠ some b)
    (hinj : ∀ (p q : Pl) b, B p.t → B q.t → (gl σ' p).isOwn = true → (g'.c p).ownBlock = some b → (gl σ' q).isOwn = true → (g'.c q).ownBlock = some b → p = q)
    (hsb : ∀ b, g'.S b → b < w'.heap.size ∧ (X.S0 b ∨ X.M b ∨ X.w0.heap.size ≤ b))
    (hdis : ∀ o b, ob σ g o = some b → ¬ g'.S b) : Rel X σ' a w' g' := by
  have hbox : ∀ t, isBox σ' t ↔ isBox σ t := fun t => by
    by_cases hb : B t
    · obtain ⟨ls, e⟩ := hgB t hb
      refine ⟨fun _ => hB t hb, fun _ => by unfold isBox; rw [e]; rfl⟩
    · unfold isBox; rw [hgs t hb]
  have hgl : ∀ p : Pl, ¬ B p.t → gl σ' p = gl σ p := fun p hp => by unfold gl; rw [hgs _ hp]
  have hnB : ∀ p : Pl, (gl σ p).isOwn = true → ¬ B p.t := fun p hp hb => by rw [hno p hb] at hp; cases hp
  have hob : ∀ o b, ob σ' g' o = some b → (ob σ g o = some b ∧ ∀ p, o = .inr p → ¬ B p.t) ∨ ∃ p, o = .inr p ∧ B p.t ∧ (gl σ' p).isOwn = true ∧ (g'.c p).ownBlock = some b := by
    intro o b hb
    cases o with
    | inl t =>
      refine .inl ⟨?_, fun p e => by cases e⟩
      simp only [ob, hblk] at hb ⊢
      have := hbox t
      unfold isBox at this
      by_cases h1 : (gs σ t).shp.isBox = true
      · rw [if_pos h1]; rw [if_pos (this.2 h1)] at hb; exact hb
      · rw [if_neg (fun h2 => h1 (this.1 h2))] at hb; cases hb
    | inr p =>
      by_cases hp : B p.t
      · simp only [ob] at hb
        split at hb
        · rename_i ho; exact .inr ⟨p, rfl, hp, ho, hb⟩
        · cases hb
      · refine .inl ⟨?_, fun q e => by cases e; exact hp⟩
        simpa [ob, hgl p hp, hc p hp] using hb
  have hSw : ∀ b, g.S b → w'.heap[b]? = w.heap[b]? := fun b hb => hkeep b (.inl hb)
  have hLR : ∀ l v, (l.isOwn = true → ∀ b, v.ownBlock = some b → w'.heap[b]? = w.heap[b]?) → LR σ w g l v → LR σ' w' g' l v := by
    intro l v hlo hl
    cases l with
    | val t x => exact rel_mono hS hSw hl
    | own te e xs => exact ownR_mono hS hSw (hlo rfl) hl
    | al q =>
      have hq := hnB q hl.2
      exact ⟨by rw [hc q hq]; exact hl.1, by rw [hgl q hq]; exact hl.2⟩
    | nils => exact hl
    | ptr b o => exact ⟨by rw [hblk]; exact hl.1, (hbox b).2 hl.2⟩
    | ept q e' i o =>
      obtain ⟨⟨te, xs, h1, h2⟩, h3⟩ := hl
      have hq := hnB q (by rw [h1]; rfl)
      exact ⟨⟨te, xs, by rw [hgl q hq, h1], h2⟩, by rw [hc q hq]; exact h3⟩
    | vpt t x =>
      obtain ⟨b, o, cs, h1, h2, h3, h4⟩ := hl
      exact ⟨b, o, cs, h1, hS b h2, rel_mono hS hSw h3, fun j u hu => by rw [← h4 j u hu]; exact World.cell?_of_block (hSw b h2)⟩
    | clo f bs => exact ⟨by rw [hblk]; exact hl.1, fun b hb => (hbox b).2 (hl.2 b hb)⟩
    | cst u => exact hl
    | no => exact hl
    | und => trivial
  refine { h with
    sh := fun t ht => ?_
    lf := fun p => ?_
    inj := fun o1 o2 b h1 h2 => ?_
    fr := fun o b hb => ?_
    sb := hsb
    s0 := fun b hb => hS b (h.s0 b hb)
    bx := fun t ht => by rw [hblk]; exact h.bx t ht
    os := hos.trans h.os
    tape := htape.trans h.tape
    output := hout.trans h.output
    grow := Nat.le_trans h.grow hsz
    frame := fun b h1 h2 => (hfrm b h1 h2).trans (h.frame b h1 h2) }
  · have ht' : t < σ.length := by omega
    have hsh := h.sh t ht'
    by_cases hb : B t
    · obtain ⟨ls, e⟩ := hgB t hb
      obtain ⟨⟨te, h1⟩, _⟩ := hbx t hb
      rw [e] at h1 ⊢
      refine ⟨fun hN => ?_, te, by rw [hblk]; exact h1⟩
      have hx := hB t hb
      unfold isBox at hx
      revert hx hsh
      cases (gs σ t).shp with
      | cs ag n => intro _ hx; cases hx
      | tup ks n => intro _ hx; cases hx
      | box n => intro hsh _; rw [hblk]; exact hsh.1 hN
    · rw [hgs t hb]
      have hcl : ∀ n, cellsL g' t n = cellsL g t n := fun n => by
        simp only [cellsL]
        exact List.map_congr_left (fun i _ => hc ⟨t, i⟩ hb)
      have hbk : (gs σ t).shp.isBox = true → w'.heap[g.blk t]? = w.heap[g.blk t]? := fun hx => hkeep _ (.inr ⟨.inl t, by simp [ob, hx], fun t' h' e => by cases e; exact hb h'⟩)
      revert hsh hbk
      cases (gs σ t).shp with
      | cs ag n =>
        intro hsh _
        cases ag with
        | false => exact ⟨hsh.1, by rw [hc ⟨t, 0⟩ hb]; exact hsh.2⟩
        | true => show _ = _; rw [hcl]; exact hsh
      | box n => intro hsh hbk; exact ⟨by rw [hblk]; exact hsh.1, by rw [hblk, hcl, hbk rfl]; exact hsh.2⟩
      | tup ks n =>
        intro hsh _
        obtain ⟨vs, h1, h2⟩ := hsh
        exact ⟨vs, h1, by rw [hcl]; exact h2⟩
  · by_cases hb : B p.t
    · exact LO_LR ((hbx p.t hb).2 p.i)
    · rw [hgl p hb, hc p hb]
      exact hLR _ _ (fun ho b hbo => hkeep b (.inr ⟨.inr p, by simp [ob, ho, hbo], fun t _ e => by cases e⟩)) (h.lf p)
  · rcases hob _ _ h1 with ⟨a1, c1⟩ | ⟨p1, e1, b1, c1, d1⟩ <;> rcases hob _ _ h2 with ⟨a2, c2⟩ | ⟨p2, e2, b2, c2, d2⟩
    · exact h.inj _ _ b a1 a2
    · exact absurd a1 ((hown p2 b b2 c2 d2).2.2.2 _)
    · exact absurd a2 ((hown p1 b b1 c1 d1).2.2.2 _)
    · rw [e1, e2, hinj p1 p2 b b1 b2 c1 d1 c2 d2]
  · rcases hob _ _ hb with ⟨a1, c1⟩ | ⟨p1, e1, b1, c1, d1⟩
    · obtain ⟨f1, f2, f3⟩ := h.fr o b a1
      exact ⟨hdis o b a1, by omega, f3⟩
    · obtain ⟨f1, f2, f3, _⟩ := hown p1 b b1 c1 d1
      exact ⟨f1, f2, f3⟩

end

/-- What boxes hold afterwards. -/
theorem putBoxes_gs {m : List (Nat × Nat)} (hinj : ∀ b1 b2 t, m.lookup b1 = some t → m.lookup b2 = some t → b1 = b2) : ∀ (bs : List (List LK)) (i : Nat) (x : BL bs) (σ : St), (∀ j, j < bs.length → ∃ t, m.lookup (i + j) = some t ∧ t < σ.length) →
    (∀ j t, j < bs.length → m.lookup (i + j) = some t → gs (putBoxes m bs i x σ) t = .box (boxLs bs x j)) ∧ (∀ t, (∀ j, j < bs.length → m.lookup (i + j) ≠ some t) → gs (putBoxes m bs i x σ) t = gs σ t) ∧ (putBoxes m bs i x σ).length = σ.length
  | [], i, x, σ, h => ⟨fun j t hj => by simp at hj, fun t _ => rfl, rfl⟩
  | ks :: bs, i, x, σ, h => by
    obtain ⟨t0, h0, hl0⟩ := h 0 (by simp)
    rw [Nat.add_zero] at h0
    have e1 : putBoxes m (ks :: bs) i x σ = putBoxes m bs (i + 1) x.2 (ss σ t0 (.box (outL ks x.1))) := by simp [putBoxes, h0]
    obtain ⟨r1, r2, r3⟩ := putBoxes_gs hinj bs (i + 1) x.2 (ss σ t0 (.box (outL ks x.1))) (fun j hj => by
      obtain ⟨t, h1, h2⟩ := h (j + 1) (by simpa using hj)
      exact ⟨t, by rw [show i + 1 + j = i + (j + 1) from by omega]; exact h1, by simpa using h2⟩)
    rw [e1]
    refine ⟨fun j t hj hlk => ?_, fun t hno => ?_, by rw [r3]; simp⟩
    · cases j with
      | zero =>
        rw [Nat.add_zero, h0] at hlk
        injection hlk with hlk
        subst hlk
        rw [r2 t0 (fun j hj hlk => by have := hinj _ _ _ h0 hlk; omega), gs_ss, if_pos ⟨rfl, hl0⟩]
        rfl
      | succ j =>
        exact r1 j t (by simpa using hj) (by rw [show i + 1 + j = i + (j + 1) from by omega]; exact hlk)
    · rw [r2 t (fun j hj hlk => hno (j + 1) (by simpa using hj) (by rw [show i + (j + 1) = i + 1 + j from by omega]; exact hlk)), gs_ss, if_neg]
      rintro ⟨e, _⟩
      subst e
      exact hno 0 (by simp) (by rw [Nat.add_zero]; exact h0)

end Go.Ev
