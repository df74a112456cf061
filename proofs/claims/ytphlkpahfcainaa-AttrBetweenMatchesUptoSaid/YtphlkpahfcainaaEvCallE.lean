/- Calls, part E: the call, whole. -/
import Derived.Test.YtphlkpahfcainaaEvCallD
namespace Go.Ev
set_option linter.unusedVariables false
set_option linter.unusedSimpArgs false

section
variable {P : Program} {T : TypeId → Option TI} {env : Env} {X : Ctx} {σ : St} {a : Act} {w : World} {g : Gh} {A : Type} {r : A} {k : St → Option A} {K : Act → World → Prop} {Q : Exit → Act → World → Prop}
  {d : Option Tmp} {ty : TypeId} {pos : String} {aft : Array Edge} {gd : Option (Nat × Bool)}

/-- A result is written. -/
theorem put_back {w : World} {g : Gh} (h : Rel X σ a w g) (hN : X.N ≤ σ.length) (hd : ∀ t, d = some t → t < X.N) {s : Slot} {cs : List Value} {v : Value} (hs : s.shp.isBox = false) (hlen : cs.length = s.leaves.length) (hv : VR w 0 cs v s.shp)
    (hl : ∀ j, LO w g.S (lget s.leaves j) (cs.getD j undef)) (hinj : ∀ j1 j2 b, own1 s.leaves cs j1 = some b → own1 s.leaves cs j2 = some b → j1 = j2)
    (hfr : ∀ j b, own1 s.leaves cs j = some b → ¬ g.S b ∧ b < w.heap.size ∧ (X.w0.heap.size ≤ b ∨ X.M b) ∧ ∀ o', ob σ g o' ≠ some b)
    (hk : k (Ev.wr σ d s) = some r) (hK : Nx X σ.length k r K) : K (a.put d v) w := by
  cases d with
  | none => exact hK σ a w g h rfl hk
  | some d =>
    refine hK _ _ _ _ (h.wr (hd d rfl) hN (s := s) (cs := cs) (nb := 0) hlen hv (fun i => LO_LR (hl i)) (fun o1 o2 b e1 e2 => ?_) (fun o b e => ?_)) (by simp) hk
    · cases o1 with
      | none => simp [nob, hs] at e1
      | some i =>
        cases o2 with
        | none => simp [nob, hs] at e2
        | some j => rw [hinj i j b e1 e2]
    · cases o with
      | none => simp [nob, hs] at e
      | some i => exact hfr i b e

theorem call_back {σ2 : St} {g2 : Gh} {F : Fun} {ys : BL F.s.bs} {m : List (Nat × Nat)} {M : Nat → Prop} {w' : World} {v : Value} {out : F.s.Out} (h2 : Rel X σ2 a w g2) (hN : X.N ≤ σ2.length) (hd : ∀ t, d = some t → t < X.N)
    (hminj : ∀ b1 b2 t, m.lookup b1 = some t → m.lookup b2 = some t → b1 = b2)
    (hbx : ∀ j, j < F.s.bs.length → m.lookup j = some (tk m j) ∧ isBox σ2 (tk m j) ∧ ∀ q, (gl σ2 ⟨tk m j, q⟩).isOwn = false)
    (hne : ∀ o b, ob σ2 g2 o = some b → (∀ j, j < F.s.bs.length → o ≠ .inl (tk m j)) → ¬ M b)
    (hMS : ∀ b, M b → ¬ g2.S b) (hM1 : ∀ b, M b → b < w.heap.size ∧ (X.w0.heap.size ≤ b ∨ X.M b))
    (hM2 : ∀ b, M b → (∃ o, ob σ2 g2 o = some b) → ∃ j, j < F.s.bs.length ∧ b = g2.blk (tk m j))
    (hback : Back F.s w w' g2.S M (fun j => g2.blk (tk m j)) v out) (hk : k (Ev.wr (putBoxes m F.s.bs 0 out.2 σ2) d (outSlot F.s.rs out.1)) = some r) (hK : Nx X σ2.length k r K) : K (a.put d v) w' := by
  obtain ⟨⟨S', cs, bc, hh, hv, hS, hS', hpo⟩, hos, htape, hout, hgrow, hframe⟩ := hback
  have hlt : ∀ j, j < F.s.bs.length → tk m j < σ2.length := fun j hj => isBox_lt (hbx j hj).2.1
  obtain ⟨p1, p2, p3⟩ := putBoxes_gs hminj F.s.bs 0 out.2 σ2 (fun j hj => ⟨tk m j, by rw [Nat.zero_add]; exact (hbx j hj).1, hlt j hj⟩)
  simp only [Nat.zero_add] at p1 p2
  have hB0 : ∀ t, (∃ j, j < F.s.bs.length ∧ tk m j = t) → ∃ j, j < F.s.bs.length ∧ tk m j = t := fun t h => h
  -- the number of a slot's box
  obtain ⟨jo, hjo⟩ : ∃ jo : Nat → Nat, ∀ j, j < F.s.bs.length → jo (tk m j) = j := by
    refine ⟨fun t => Classical.epsilon fun j => j < F.s.bs.length ∧ tk m j = t, fun j hj => ?_⟩
    have he := Classical.epsilon_spec (p := fun i => i < F.s.bs.length ∧ tk m i = tk m j) ⟨j, hj, rfl⟩
    have l1 := (hbx _ he.1).1
    have l2 := (hbx j hj).1
    rw [he.2] at l1
    exact hminj _ _ _ l1 l2
  have hdec : ∀ t, (∃ j, j < F.s.bs.length ∧ tk m j = t) ∨ ¬ ∃ j, j < F.s.bs.length ∧ tk m j = t := fun t => Classical.em _
  obtain ⟨c3, hc3⟩ : ∃ c3 : Pl → Value, (∀ j q, j < F.s.bs.length → c3 ⟨tk m j, q⟩ = (bc j).getD q undef) ∧ ∀ p : Pl, (¬ ∃ j, j < F.s.bs.length ∧ tk m j = p.t) → c3 p = g2.c p := by
    classical
    refine ⟨fun p => if ∃ j, j < F.s.bs.length ∧ tk m j = p.t then (bc (jo p.t)).getD p.i undef else g2.c p, fun j q hj => ?_, fun p hp => ?_⟩
    · simp only
      rw [if_pos ⟨j, hj, rfl⟩, hjo j hj]
    · simp only [if_neg hp]
  have hgsj : ∀ j, j < F.s.bs.length → gs (putBoxes m F.s.bs 0 out.2 σ2) (tk m j) = .box (boxLs F.s.bs out.2 j) := fun j hj => p1 j _ hj (hbx j hj).1
  have hgs0 : ∀ t, (¬ ∃ j, j < F.s.bs.length ∧ tk m j = t) → gs (putBoxes m F.s.bs 0 out.2 σ2) t = gs σ2 t := fun t ht => p2 t (fun j hj e => ht ⟨j, hj, tk_of e⟩)
  have hgl : ∀ j q, j < F.s.bs.length → gl (putBoxes m F.s.bs 0 out.2 σ2) ⟨tk m j, q⟩ = lget (boxLs F.s.bs out.2 j) q := fun j q hj => by
    show lget (gs _ (tk m j)).leaves q = _
    rw [hgsj j hj]; rfl
  have hpobb : ∀ j, j < F.s.bs.length → pob (outSlot F.s.rs out.1).leaves cs F.s.bs.length (boxLs F.s.bs out.2) bc (fun j => g2.blk (tk m j)) (.box j) = some (g2.blk (tk m j)) := fun j hj => by simp [pob, hj]
  have hpobl : ∀ j q b, j < F.s.bs.length → (gl (putBoxes m F.s.bs 0 out.2 σ2) ⟨tk m j, q⟩).isOwn = true → (c3 ⟨tk m j, q⟩).ownBlock = some b → pob (outSlot F.s.rs out.1).leaves cs F.s.bs.length (boxLs F.s.bs out.2) bc (fun j => g2.blk (tk m j)) (.leaf j q) = some b := fun j q b hj ho hb => by
    rw [hgl j q hj] at ho
    rw [hc3.1 j q hj] at hb
    simp only [pob, hj, own1, ho, hb, if_true]
  -- what is new is nobody's
  have hnew : ∀ o b, pob (outSlot F.s.rs out.1).leaves cs F.s.bs.length (boxLs F.s.bs out.2) bc (fun j => g2.blk (tk m j)) o = some b → (∀ j, j < F.s.bs.length → o ≠ .box j) → ∀ o', ob σ2 g2 o' ≠ some b := by
    intro o b hb hnb o' ho'
    by_cases hbo : ∃ j, j < F.s.bs.length ∧ o' = .inl (tk m j)
    · obtain ⟨j, hj, rfl⟩ := hbo
      have : g2.blk (tk m j) = b := by
        have := box_blk (g := g2) (hbx j hj).2.1
        rw [this] at ho'
        injection ho'
      have hp := hpobb j hj
      rw [this] at hp
      exact hnb j hj (hh.inj _ _ _ hb hp)
    · have hnm := hne o' b ho' (fun j hj e => hbo ⟨j, hj, e⟩)
      rcases hpo o b hb with hm | hf
      · exact hnm hm
      · exact Nat.not_lt.2 hf (h2.fr _ _ ho').2.1
  have hob' : ∀ o b, pob (outSlot F.s.rs out.1).leaves cs F.s.bs.length (boxLs F.s.bs out.2) bc (fun j => g2.blk (tk m j)) o = some b → ¬ S' b ∧ b < w'.heap.size ∧ (X.w0.heap.size ≤ b ∨ X.M b) := by
    intro o b hb
    obtain ⟨f1, f2⟩ := hh.fr o b hb
    refine ⟨f1, f2, ?_⟩
    rcases hpo o b hb with hm | hf
    · exact (hM1 b hm).2
    · exact .inl (Nat.le_trans h2.grow hf)
  have h3 : Rel X (putBoxes m F.s.bs 0 out.2 σ2) a w' ⟨S', c3, g2.blk⟩ := by
    refine h2.call (B := fun t => ∃ j, j < F.s.bs.length ∧ tk m j = t) (fun t ⟨j, hj, e⟩ => by subst e; exact (hbx j hj).2.1) (fun p ⟨j, hj, e⟩ => by obtain ⟨pt, pi⟩ := p; subst e; exact (hbx j hj).2.2 pi) p3 hgs0 (fun t ⟨j, hj, e⟩ => by subst e; exact ⟨_, hgsj j hj⟩) rfl hc3.2 hS hos htape hout hgrow
      (fun b hb => ?_) (fun b h1 hnM => hframe b (Nat.lt_of_lt_of_le h1 h2.grow) (fun hm => ?_)) (fun t ⟨j, hj, e⟩ => ?_) (fun p b ⟨j, hj, e⟩ ho hb => ?_) (fun p q b ⟨j, hj, e⟩ ⟨i, hi, e'⟩ ho hb ho' hb' => ?_) (fun b hb => ⟨hh.sb b hb, ?_⟩) (fun o b hb hs => ?_)
    · refine hframe b ?_ ?_
      · rcases hb with hb | ⟨o, ho, _⟩
        · exact (h2.sb b hb).1
        · exact (h2.fr _ _ ho).2.1
      · intro hm
        rcases hb with hb | ⟨o, ho, hno⟩
        · exact hMS b hm hb
        · exact hne o b ho (fun j hj e => hno _ ⟨j, hj, rfl⟩ e) hm
    · rcases (hM1 b hm).2 with h3 | h3
      · omega
      · exact hnM h3
    · subst e
      obtain ⟨b1, b2, b3⟩ := hh.box j hj
      obtain ⟨te, b1⟩ := b1
      rw [hgsj j hj]
      refine ⟨⟨te, ?_⟩, fun i => ?_⟩
      · rw [b1]
        congr 2
        apply Array.ext'
        apply List.ext_getElem?
        intro i
        simp only [Slot.leaves, cellsL, List.getElem?_map]
        by_cases hi : i < (boxLs F.s.bs out.2 j).length
        · simp [hi, hc3.1 j i hj, List.getD_eq_getElem?_getD, show i < (bc j).length by omega]
        · simp [hi, show (bc j).length ≤ i by omega]
      · show LO w' S' (lget (boxLs F.s.bs out.2 j) i) (c3 ⟨tk m j, i⟩)
        rw [hc3.1 j i hj]
        exact b3 i
    · obtain ⟨pt, pi⟩ := p
      subst e
      have hp := hpobl j pi b hj ho hb
      obtain ⟨f1, f2, f3⟩ := hob' _ _ hp
      exact ⟨f1, f2, f3, hnew _ _ hp (fun j hj e => by cases e)⟩
    · obtain ⟨pt, pi⟩ := p
      obtain ⟨qt, qi⟩ := q
      subst e e'
      have := hh.inj _ _ _ (hpobl j pi b hj ho hb) (hpobl i qi b hi ho' hb')
      injection this with e1 e2
      rw [e1, e2]
    · rcases hS' b hb with hs | hm | hf
      · exact (h2.sb b hs).2
      · rcases (hM1 b hm).2 with h3 | h3
        · exact .inr (.inr h3)
        · exact .inr (.inl h3)
      · exact .inr (.inr (Nat.le_trans h2.grow hf))
    · rcases hS' b hs with hs' | hm | hf
      · exact (h2.fr _ _ hb).1 hs'
      · obtain ⟨j, hj, rfl⟩ := hM2 b hm ⟨o, hb⟩
        exact (hob' _ _ (hpobb j hj)).1 hs
      · exact Nat.not_lt.2 hf (h2.fr _ _ hb).2.1
  refine put_back h3 (by rw [p3]; exact hN) hd (outSlot_box _ _) hh.len hv hh.rel (fun j1 j2 b e1 e2 => ?_) (fun j b e => ?_) hk (by rw [p3]; exact hK)
  · have := hh.inj (.arg j1) (.arg j2) b e1 e2
    injection this
  · obtain ⟨f1, f2, f3⟩ := hob' (.arg j) b e
    refine ⟨f1, f2, f3, fun o' ho' => ?_⟩
    cases o' with
    | inl t =>
      by_cases ht : ∃ j, j < F.s.bs.length ∧ tk m j = t
      · obtain ⟨i, hi, rfl⟩ := ht
        simp only [ob, hgsj i hi, Slot.shp, Shp.isBox, if_true] at ho'
        have hp := hpobb i hi
        rw [ho'] at hp
        have := hh.inj (.arg j) _ b e hp
        cases this
      · refine hnew (.arg j) b e (fun j hj e => by cases e) (.inl t) ?_
        simp only [ob] at ho' ⊢
        rw [hgs0 t ht] at ho'
        exact ho'
    | inr p =>
      by_cases ht : ∃ j, j < F.s.bs.length ∧ tk m j = p.t
      · obtain ⟨i, hi, e1⟩ := ht
        obtain ⟨pt, pi⟩ := p
        simp only at e1
        subst e1
        simp only [ob] at ho'
        split at ho'
        · rename_i hown
          have := hh.inj (.arg j) _ b e (hpobl i pi b hi hown ho')
          cases this
        · cases ho'
      · refine hnew (.arg j) b e (fun j hj e => by cases e) (.inr p) ?_
        simp only [ob] at ho' ⊢
        rw [show gl (putBoxes m F.s.bs 0 out.2 σ2) p = gl σ2 p from by unfold gl; rw [hgs0 _ ht], hc3.2 p ht] at ho'
        exact ho'

end
end Go.Ev
