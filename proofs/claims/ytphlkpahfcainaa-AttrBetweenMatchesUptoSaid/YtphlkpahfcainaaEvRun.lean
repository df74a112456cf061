/- Code, whole. -/
import Derived.Test.YtphlkpahfcainaaEvExec
namespace Go.Ev
set_option linter.unusedVariables false
set_option linter.unusedSimpArgs false

/-! ### What is kept at a loop's head -/

theorem length_coer (os : List (Nat × TypeId × Ty)) : ∀ (ls : List Leaf) (i : Nat), (coer os i ls).length = ls.length
  | [], _ => rfl
  | l :: ls, i => by cases l <;> simp [coer, length_coer os ls (i + 1)]

theorem lget_coer (os : List (Nat × TypeId × Ty)) : ∀ (ls : List Leaf) (i j : Nat), lget (coer os i ls) j = match lget ls j with
    | .nils => (match os.lookup (i + j) with | some e => .own e.1 e.2 [] | none => .nils)
    | l => l
  | [], i, j => by simp [coer, lget]
  | l :: ls, i, 0 => by cases l <;> simp [coer, lget] <;> rfl
  | l :: ls, i, j + 1 => by
    have := lget_coer os ls (i + 1) j
    rw [show i + 1 + j = i + (j + 1) from by omega] at this
    cases l <;> simpa [coer, lget] using this

theorem gs_scrubS (keep : Keep) : ∀ (σ : St) (i t : Nat), gs (scrubS keep i σ) t = match keep.lookup (i + t) with
    | some os => (gs σ t).with (coer os 0 ((gs σ t).leaves.map (dropL keep)))
    | none => nones
  | [], i, t => by
    simp only [scrubS, gs]
    cases keep.lookup (i + t) with
    | none => rfl
    | some os => rfl
  | s :: σ, i, 0 => by simp only [scrubS, gs, Nat.add_zero]; rfl
  | s :: σ, i, t + 1 => by
    simp only [scrubS, gs]
    rw [gs_scrubS keep σ (i + 1) t, show i + 1 + t = i + (t + 1) from by omega]

theorem length_scrubS (keep : Keep) : ∀ (σ : St) (i : Nat), (scrubS keep i σ).length = σ.length
  | [], _ => rfl
  | s :: σ, i => by simp [scrubS, length_scrubS keep σ (i + 1)]

section
variable {P : Program} {T : TypeId → Option TI} {env : Env} {X : Ctx} {σ : St} {a : Act} {w : World} {g : Gh} {A : Type} {r : A} {k : St → Option A} {K : Act → World → Prop} {Q : Exit → Act → World → Prop}

theorem Rel.scrub (keep : Keep) (h : Rel X σ a w g) : ∃ g', Rel X (Ev.scrub keep σ) a w g' := by
  obtain ⟨c', hc1, hc2⟩ : ∃ c' : Pl → Value, (∀ p : Pl, (keep.lookup p.t).isSome = true → c' p = g.c p) ∧ ∀ p : Pl, (keep.lookup p.t).isSome = false → c' p = a.tmps.getD p.t undef :=
    ⟨fun p => if (keep.lookup p.t).isSome then g.c p else a.tmps.getD p.t undef, fun p hp => by simp [hp], fun p hp => by simp [hp]⟩
  have hgs : ∀ t, gs (Ev.scrub keep σ) t = match keep.lookup t with
      | some os => (gs σ t).with (coer os 0 ((gs σ t).leaves.map (dropL keep)))
      | none => nones := fun t => by
    have := gs_scrubS keep σ 0 t
    rw [Nat.zero_add] at this
    exact this
  have hshp : ∀ t, (keep.lookup t).isSome = true → (gs (Ev.scrub keep σ) t).shp = (gs σ t).shp := fun t ht => by
    obtain ⟨os, ho⟩ := Option.isSome_iff_exists.1 ht
    rw [hgs t, ho]
    exact shp_with _ _ (by rw [length_coer]; simp)
  have hno : ∀ t, (keep.lookup t).isSome = false → gs (Ev.scrub keep σ) t = nones := fun t ht => by
    rw [hgs t]
    cases hk : keep.lookup t with
    | none => rfl
    | some os => rw [hk] at ht; cases ht
  have hgl : ∀ p : Pl, (keep.lookup p.t).isSome = true → gl (Ev.scrub keep σ) p = dropL keep (gl σ p) ∨ (gl σ p = .nils ∧ ∃ te e, gl (Ev.scrub keep σ) p = .own te e []) := fun p hp => by
    obtain ⟨os, ho⟩ := Option.isSome_iff_exists.1 hp
    have e1 : gl (Ev.scrub keep σ) p = lget (coer os 0 ((gs σ p.t).leaves.map (dropL keep))) p.i := by
      unfold gl
      rw [hgs p.t, ho]
      simp only [leaves_with]
    rw [e1, lget_coer, lget_map _ rfl]
    show _ ∨ _
    rw [show lget (gs σ p.t).leaves p.i = gl σ p from rfl]
    have dn : ∀ l, l ≠ .nils → dropL keep l ≠ .nils := by
      intro l h
      cases l <;> simp only [dropL] <;> first | exact absurd rfl h | (split <;> simp) | simp
    have mn : ∀ l : Leaf, l ≠ .nils → (match l with | .nils => (match os.lookup (0 + p.i) with | some e => Leaf.own e.1 e.2 [] | none => .nils) | l => l) = l := by
      intro l h
      cases l <;> first | rfl | exact absurd rfl h
    by_cases hz : gl σ p = .nils
    · rw [hz]
      simp only [dropL]
      cases os.lookup (0 + p.i) with
      | none => exact .inl rfl
      | some e => exact .inr ⟨trivial, _, _, rfl⟩
    · exact .inl (mn _ (dn _ hz))
  have hgl0 : ∀ p : Pl, (keep.lookup p.t).isSome = false → gl (Ev.scrub keep σ) p = .und := fun p hp => by
    unfold gl
    rw [hno p.t hp]
    cases p.i <;> rfl
  have hbox : ∀ t, (keep.lookup t).isSome = true → isBox σ t → isBox (Ev.scrub keep σ) t := fun t ht hb => by
    unfold isBox; rw [hshp t ht]; exact hb
  have hown : ∀ q : Pl, (keep.lookup q.t).isSome = true → (gl σ q).isOwn = true → gl (Ev.scrub keep σ) q = gl σ q := fun q hq ho => by
    obtain ⟨te, e, xs, hx⟩ := isOwn_iff.1 ho
    rcases hgl q hq with e1 | ⟨e1, _⟩
    · rw [e1, hx]; rfl
    · rw [hx] at e1; cases e1
  have hLR : ∀ l v, LR σ w g l v → LR (Ev.scrub keep σ) w ⟨g.S, c', g.blk⟩ (dropL keep l) v := by
    intro l v hl
    cases l with
    | al q =>
      simp only [dropL]
      split
      · rename_i hq
        exact ⟨by rw [hl.1]; exact (hc1 q hq).symm, by rw [hown q hq hl.2]; exact hl.2⟩
      · trivial
    | ptr b o =>
      simp only [dropL]
      split
      · rename_i hb; exact ⟨hl.1, hbox b hb hl.2⟩
      · trivial
    | clo f bs =>
      simp only [dropL]
      split
      · rename_i hb
        exact ⟨hl.1, fun b hm => hbox b (List.all_eq_true.1 hb b hm) (hl.2 b hm)⟩
      · trivial
    | ept => trivial
    | vpt => trivial
    | val t x => exact hl
    | own te e xs => exact hl
    | nils => exact hl
    | cst u => exact hl
    | no => exact hl
    | und => trivial
  have hob : ∀ o b, ob (Ev.scrub keep σ) ⟨g.S, c', g.blk⟩ o = some b → ob σ g o = some b := by
    intro o b hb
    cases o with
    | inl t =>
      cases hk : (keep.lookup t).isSome with
      | true => simpa [ob, hshp t hk] using hb
      | false => simp [ob, hno t hk, nones, Slot.shp, Shp.isBox] at hb
    | inr p =>
      cases hk : (keep.lookup p.t).isSome with
      | false => simp [ob, hgl0 p hk, Leaf.isOwn] at hb
      | true =>
        simp only [ob] at hb ⊢
        rw [hc1 p hk] at hb
        rcases hgl p hk with e1 | ⟨e1, te, e, e2⟩
        · rw [e1] at hb
          have : (dropL keep (gl σ p)).isOwn = (gl σ p).isOwn := by
            cases gl σ p <;> simp only [dropL] <;> first | rfl | (split <;> rfl)
          rw [this] at hb
          exact hb
        · have hv := h.lf p
          rw [e1] at hv
          rw [e2, show g.c p = .slice none 0 0 from hv] at hb
          simp [Leaf.isOwn, Value.ownBlock] at hb
  refine ⟨⟨g.S, c', g.blk⟩, { h with
    sh := fun t ht => ?_
    lf := fun p => ?_
    inj := fun o1 o2 b h1 h2 => h.inj _ _ b (hob _ _ h1) (hob _ _ h2)
    fr := fun o b hb => h.fr o b (hob _ _ hb) }⟩
  · have ht' : t < σ.length := by simpa [Ev.scrub, length_scrubS] using ht
    cases hk : (keep.lookup t).isSome with
    | false =>
      rw [hno t hk]
      exact ⟨rfl, (hc2 ⟨t, 0⟩ hk).symm⟩
    | true =>
      rw [hshp t hk]
      have := h.sh t ht'
      have hcl : ∀ n, cellsL ⟨g.S, c', g.blk⟩ t n = cellsL g t n := fun n => by
        simp only [cellsL]
        exact List.map_congr_left (fun i _ => hc1 ⟨t, i⟩ hk)
      revert this
      cases (gs σ t).shp with
      | cs ag n =>
        cases ag with
        | false =>
          rintro ⟨h1, h2⟩
          refine ⟨h1, ?_⟩
          show _ = c' ⟨t, 0⟩
          rw [hc1 ⟨t, 0⟩ hk]; exact h2
        | true => intro h1; show _ = _; rw [hcl]; exact h1
      | box n => rintro ⟨h1, h2⟩; exact ⟨h1, by rw [hcl]; exact h2⟩
      | tup ks n =>
        rintro ⟨vs, h1, h2⟩
        exact ⟨vs, h1, by rw [hcl]; exact h2⟩
  · cases hk : (keep.lookup p.t).isSome with
    | false => rw [hgl0 p hk]; trivial
    | true =>
      show LR _ _ _ _ (c' p)
      rw [hc1 p hk]
      rcases hgl p hk with e1 | ⟨e1, te, e, e2⟩
      · rw [e1]; exact hLR _ _ (h.lf p)
      · have hv := h.lf p
        rw [e1] at hv
        rw [e2, show g.c p = .slice none 0 0 from hv]
        exact ownR_nil _ _ _ _

/-- A condition's number. -/
theorem cond_ok {c : Operand} {v : Bool} (h : Rel X σ a w g) (hN : X.N ≤ σ.length) (hc : ∀ t, c = .tmp t → t < X.N) (hr : rd1 σ c = .val .bool v) : a.eval c = .bool v ∧ ∀ t, c = .tmp t → know σ t v = σ := by
  have hx := rd1_ok h hN c hc
  rw [hr] at hx
  refine ⟨LR_bool hx, fun t ht => ?_⟩
  subst ht
  have hsh := h.sh t (Nat.lt_of_lt_of_le (hc t rfl) hN)
  simp only [rd1, rd] at hr
  cases hg : gs σ t with
  | cs ag ls =>
    rw [hg] at hr hsh
    cases ag with
    | true => simp at hr
    | false =>
      obtain ⟨l, hl⟩ := List.length_eq_one_iff.1 (show ls.length = 1 from hsh.1)
      subst hl
      apply know_id
      rw [hg]
      cases l <;> simp [view, lget] at hr
      obtain ⟨e1, e2⟩ := hr
      subst e1
      simp at e2
      subst e2
      rfl
  | box ls => rw [hg] at hr; simp [lget] at hr
  | tup ks ls => rw [hg] at hr; simp [lget] at hr

theorem exec_ok (hT : TOk P T) (hE : EnvOk P env) (hm : P.follows .mixedOrders = true) {os : List (Nat × Ord)} {n : Nat} : ∀ (c : Code) (hs : List Keep) {Q : Exit → Act → World → Prop} {kn : St → Option A} {kx : Nat → St → Option A} {kr : St → Option A} {σ : St} {a : Act} {w : World} {g : Gh},
    codeOk os X.N c = true → Rel X σ a w g → X.N ≤ σ.length → exec T env os n c hs σ kn kx kr = some r →
    (∀ σ' a' w' g', Rel X σ' a' w' g' → σ'.length = σ.length → kn σ' = some r → Q .normal a' w') →
    (∀ i σ' a' w' g', Rel X σ' a' w' g' → σ'.length = σ.length → kx i σ' = some r → Q (.exit i) a' w') →
    (∀ σ' a' w' g', Rel X σ' a' w' g' → σ'.length = σ.length → kr σ' = some r → Q .ret a' w') → c.wp P Q a w
  | .skip, hs, Q, kn, kx, kr, σ, a, w, g, hc, h, hN, hk, hn, hx, hr => wp_skip (hn σ a w g h rfl hk)
  | .exit i, hs, Q, kn, kx, kr, σ, a, w, g, hc, h, hN, hk, hn, hx, hr => wp_exit (hx i σ a w g h rfl hk)
  | .ret, hs, Q, kn, kx, kr, σ, a, w, g, hc, h, hN, hk, hn, hx, hr => wp_ret (hr σ a w g h rfl hk)
  | .seq x y, hs, Q, kn, kx, kr, σ, a, w, g, hc, h, hN, hk, hn, hx, hr => by
    simp only [codeOk, Bool.and_eq_true] at hc
    refine wp_seq (exec_ok hT hE hm x hs hc.1 h hN hk (fun σ1 a1 w1 g1 e1 e2 e3 => ?_) hx hr)
    exact exec_ok hT hE hm y _ hc.2 e1 (by omega) e3 (fun σ2 a2 w2 g2 f1 f2 f3 => hn _ _ _ _ f1 (by omega) f3) (fun i σ2 a2 w2 g2 f1 f2 f3 => hx i _ _ _ _ f1 (by omega) f3) (fun σ2 a2 w2 g2 f1 f2 f3 => hr _ _ _ _ f1 (by omega) f3)
  | .block id b, hs, Q, kn, kx, kr, σ, a, w, g, hc, h, hN, hk, hn, hx, hr => by
    refine wp_block (exec_ok hT hE hm b hs hc h hN hk (fun σ1 a1 w1 g1 e1 e2 e3 => hn _ _ _ _ e1 e2 e3) (fun i σ1 a1 w1 g1 e1 e2 e3 => ?_) (fun σ1 a1 w1 g1 e1 e2 e3 => hr _ _ _ _ e1 e2 e3))
    show if i = id then _ else _
    split
    · rename_i hi; rw [if_pos hi] at e3; exact hn _ _ _ _ e1 e2 e3
    · rename_i hi; rw [if_neg hi] at e3; exact hx _ _ _ _ _ e1 e2 e3
  | .cond c x y, hs, Q, kn, kx, kr, σ, a, w, g, hc, h, hN, hk, hn, hx, hr => by
    simp only [codeOk, Bool.and_eq_true] at hc
    obtain ⟨⟨c1, c2⟩, c3⟩ := hc
    simp only [exec] at hk
    split at hk
    rotate_left
    · cases hk
    rename_i v hv
    obtain ⟨q1, q2⟩ := cond_ok h hN (fun t ht => by subst ht; simpa using c1) hv
    refine wp_cond q1 ?_
    have hk2 : bcond v (exec T env os n x hs σ kn kx kr) (exec T env os n y (hs.drop (nloops x)) σ kn kx kr) = some r := by
      cases c with
      | tmp t =>
        simp only at hk
        have := q2 t rfl
        cases v with
        | true => simp only [bcond] at hk ⊢; rw [this] at hk; exact hk
        | false => simp only [bcond] at hk ⊢; rw [this] at hk; exact hk
      | _ => exact hk
    cases v with
    | true => exact exec_ok hT hE hm x hs c2 h hN hk2 hn hx hr
    | false => exact exec_ok hT hE hm y _ c3 h hN hk2 hn hx hr
  | .loop b, hs, Q, kn, kx, kr, σ, a, w, g, hc, h, hN, hk, hn, hx, hr => by
    simp only [exec] at hk
    obtain ⟨g0, h0⟩ := h.scrub (hs.headD [])
    refine wp_loop_ghost (fun m a' w' => ∃ σ' g', Rel X σ' a' w' g' ∧ σ'.length = σ.length ∧ loopK (fun σ k => exec T env os n b hs.tail σ k kx kr) (hs.headD []) m σ' = some r) n ⟨_, g0, h0, by simp [Ev.scrub, length_scrubS], hk⟩ ?_
    rintro m a1 w1 ⟨σ1, g1, e1, e2, e3⟩
    cases m with
    | zero => simp [loopK] at e3
    | succ m =>
      simp only [loopK] at e3
      refine exec_ok hT hE hm b _ hc e1 (by omega) e3 (fun σ2 a2 w2 g2 f1 f2 f3 => ?_) (fun i σ2 a2 w2 g2 f1 f2 f3 => hx i _ _ _ _ f1 (by omega) f3) (fun σ2 a2 w2 g2 f1 f2 f3 => hr _ _ _ _ f1 (by omega) f3)
      obtain ⟨g3, h3⟩ := f1.scrub (hs.headD [])
      exact ⟨m, Nat.lt_succ_self m, _, g3, h3, by simp [Ev.scrub, length_scrubS]; omega, f3⟩
  | .region id ops draw, hs, Q, kn, kx, kr, σ, a, w, g, hc, h, hN, hk, hn, hx, hr => by
    simp only [codeOk, Bool.and_eq_true] at hc
    obtain ⟨c1, c2⟩ := hc
    have hin : ∀ q ∈ ops.toList, OpIn X.N q := fun q hq => opIn_ok (List.all_eq_true.1 c1 q hq)
    have fin : (Code.region id ops draw).wp P (fun e a' w' => e = .normal ∧ ∃ σ' g', Rel X σ' a' w' g' ∧ σ'.length = σ.length ∧ kn σ' = some r) a w := by
      cases draw with
      | false =>
        refine wp_region ?_
        have := reg_lex (Q := fun e a' w' => e = .normal ∧ ∃ σ' g', Rel X σ' a' w' g' ∧ σ'.length = σ.length ∧ kn σ' = some r) hT hE hin ops.toList 0 rfl h hN hk (fun σ' a' w' g' e1 e2 e3 => ⟨rfl, σ', g', e1, e2, e3⟩)
        rw [← List.range_eq_range'] at this
        simpa using this
      | true =>
        simp only at c2
        simp only [exec] at hk
        cases hl : os.lookup id with
        | none => rw [hl] at hk; cases hk
        | some t =>
          rw [hl] at hk c2
          simp only [Bool.and_eq_true] at c2
          obtain ⟨d1, d3⟩ := c2
          refine wp_region_any hm ?_
          have h1 : Rel X σ a { w with drawn := w.drawn + 1 } g := h.below ⟨rfl, rfl, rfl, Nat.le_refl _, fun _ _ => rfl⟩
          have := reg_any (Q := fun e a' w' => e = .normal ∧ ∃ σ' g', Rel X σ' a' w' g' ∧ σ'.length = σ.length ∧ kn σ' = some r) hT hE hin d1 (fun c a w hq => by cases hq.1) ops.size t _ d3 h1 hN hk (fun σ' a' w' g' e1 e2 e3 => ⟨rfl, σ', g', e1, e2, e3⟩)
          exact this
    refine wp_mono fin (fun e a' w' hq => ?_)
    obtain ⟨rfl, σ', g', e1, e2, e3⟩ := hq
    exact hn σ' a' w' g' e1 e2 e3
  | .rangeFunc _ _ _ _, hs, Q, kn, kx, kr, σ, a, w, g, hc, h, hN, hk, hn, hx, hr => by simp [exec] at hk
  | .scope _, hs, Q, kn, kx, kr, σ, a, w, g, hc, h, hN, hk, hn, hx, hr => by simp [exec] at hk
  | .label _, hs, Q, kn, kx, kr, σ, a, w, g, hc, h, hN, hk, hn, hx, hr => by simp [exec] at hk
  | .goto _, hs, Q, kn, kx, kr, σ, a, w, g, hc, h, hN, hk, hn, hx, hr => by simp [exec] at hk
  | .refuse _, hs, Q, kn, kx, kr, σ, a, w, g, hc, h, hN, hk, hn, hx, hr => by simp [exec] at hk

end
end Go.Ev
