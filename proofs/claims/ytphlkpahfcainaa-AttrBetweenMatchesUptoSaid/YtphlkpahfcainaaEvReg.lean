/- Regions, in every order that may come up. -/
import Derived.Test.YtphlkpahfcainaaEvOps
import Derived.Orders
namespace Go.Ev
set_option linter.unusedVariables false
set_option linter.unusedSimpArgs false

section
variable {P : Program} {ops : Array Oper} {Q : Exit → Act → World → Prop} {C : World → Prop}

/-- In state `a`, in each world of the class, operation `o` leaves `v` in its slot, and the world as it is. -/
def YI (P : Program) (ops : Array Oper) (C : World → Prop) (o : Oper) (v : Value) (a : Act) : Prop :=
  (Region.wanted o (yielded ops a.tmps) = true ∧ ∀ w, C w → (execOp a.eval o).run P w = .ok (.value v) w) ∨ (Region.wanted o (yielded ops a.tmps) = false ∧ v = undef)

theorem YI.step {i : Nat} {o : Oper} {v : Value} {a : Act} (hi : ops[i]? = some o) (hy : YI P ops C o v a) {K : Act → World → Prop} {w : World} (hw : C w) (h : K (a.put o.dst v) w) : wpOp P ops Q i K a w := by
  unfold wpOp
  simp only [hi]
  rcases hy with ⟨h1, h2⟩ | ⟨h1, rfl⟩
  · rw [if_pos h1]
    refine .inl ?_
    unfold Oper.wp
    rw [h2 w hw]
    exact h
  · rw [if_neg (by rw [h1]; simp)]
    exact h

theorem YI.same {o : Oper} {v : Value} {a a' : Act} (hy : YI P ops C o v a) (he : execOp a'.eval o = execOp a.eval o) (hw : Region.wanted o (yielded ops a'.tmps) = Region.wanted o (yielded ops a.tmps)) : YI P ops C o v a' := by
  unfold YI at *
  rw [he, hw]
  exact hy

/-- Another operation comes first: nothing is lost. -/
theorem step_put {j : Nat} {oi oj : Oper} {v : Value} (hj : ops[j]? = some oj) (hap : oi.apart ops oj = true) (hsi : ∀ cs b, oi.op ≠ .select cs b) (hsj : ∀ cs b, oj.op ≠ .select cs b)
    (hQ : ∀ c a w, ¬ Q (.panic c) a w) (hC : (∀ w, C w) ∨ (growOp oj.op = true ∧ ∀ w w', C w → ExtW w w' → C w')) {K : Act → World → Prop} {a : Act} {w : World} (hw : C w) (hy : YI P ops C oi v a)
    (h : wpOp P ops Q j K (a.put oi.dst v) w) : wpOp P ops Q j (fun a' w' => YI P ops C oi v a' ∧ C w' ∧ K (a'.put oi.dst v) w') a w := by
  obtain ⟨h1, h2, h3⟩ := Oper.apart_spec hap
  have keep : ∀ u, YI P ops C oi v (a.put oj.dst u) := fun u => hy.same (execOp_put oi hsi a oj.dst u h3) (wanted_put oi a oj.dst u h3)
  have comm : ∀ u, (a.put oi.dst v).put oj.dst u = (a.put oj.dst u).put oi.dst v := fun u => Act.put_comm a v u h2
  unfold wpOp at h ⊢
  rw [hj] at h ⊢
  simp only at h ⊢
  rw [wanted_put oj a oi.dst v h1] at h
  by_cases hwant : Region.wanted oj (yielded ops a.tmps) = true
  · rw [if_pos hwant] at h ⊢
    rcases h with h | ⟨hasks, hlets⟩
    · refine .inl ?_
      unfold Oper.wp at h ⊢
      rw [execOp_put oj hsj a oi.dst v h1] at h
      rcases hC with hC | ⟨hg, hC⟩
      · generalize (execOp a.eval oj).run P w = r at h ⊢
        cases r with
        | halt x w' =>
          cases x <;> simp only [Oper.upon] at h
          exact absurd h (hQ _ _ _)
        | ok n w' =>
          cases n <;> simp only [Oper.upon] at h ⊢
          case value u => exact ⟨keep u, hC _, by rw [← comm]; exact h⟩
          case skip => exact ⟨keep _, hC _, by rw [← comm]; exact h⟩
          case defer d =>
            refine ⟨?_, hC _, ?_⟩
            · have k0 : YI P ops C oi v { a with defers := d :: a.defers } := hy.same rfl rfl
              exact k0.same (execOp_put oi hsi _ oj.dst undef h3) (wanted_put oi _ oj.dst undef h3)
            · rw [← Act.put_comm _ v undef h2, ← Act.put_defers]
              exact h
          case enter f args =>
            refine Calls.mono h fun e w'' he => ?_
            cases e with
            | returned u => exact ⟨keep u, hC _, by rw [← comm]; exact he⟩
            | panicked c => exact absurd he (hQ _ _ _)
            | outgrown => exact he
          case row row args => exact Rows.mono h fun u w'' he => ⟨keep u, hC _, by rw [← comm]; exact he⟩
      · cases hr : (execOp a.eval oj).run P w with
        | halt x w' =>
          rw [hr] at h
          cases x <;> simp only [Oper.upon] at h
          exact absurd h (hQ _ _ _)
        | ok n w' =>
          obtain ⟨g1, u, rfl⟩ := grow_run hg hr
          rw [hr] at h
          exact ⟨keep u, hC _ _ hw g1, by rw [← comm]; exact h⟩
    · refine .inr ⟨?_, hlets⟩
      unfold Oper.asks at hasks ⊢
      rw [execOp_put oj hsj a oi.dst v h1] at hasks
      exact hasks
  · rw [if_neg hwant] at h ⊢
    exact ⟨keep _, hw, by rw [← comm]; exact h⟩

/-- Those that wait for `i`. -/
def depOk (ops : Array Oper) (i : Nat) (D : List Nat) : Bool := D.all fun j => match ops[j]? with
  | some o => o.after.any fun e => Region.binds .any e && (e.on == i || D.contains e.on)
  | none => false

theorem depOk_spec {i : Nat} {D : List Nat} (h : depOk ops i D = true) {j : Nat} (hj : j ∈ D) : ∃ o, ops[j]? = some o ∧ ∃ e ∈ o.after, Region.binds .any e = true ∧ (e.on = i ∨ e.on ∈ D) := by
  have := List.all_eq_true.1 h j hj
  split at this
  · rename_i o ho
    obtain ⟨e, he, hb⟩ := Array.any_eq_true'.1 this
    simp only [Bool.and_eq_true, Bool.or_eq_true, beq_iff_eq, List.contains_iff_mem] at hb
    exact ⟨o, ho, e, he, hb.1, hb.2⟩
  · cases this

theorem unlisted {listed : Array Bool} {i : Nat} (h : listed.getD i true = false) : listed.getD i false = false := by
  simp only [Array.getD_eq_getD_getElem?] at *
  cases hx : listed[i]? with
  | none => rw [hx] at h; cases h
  | some b => rw [hx] at h; simpa using h

/-- An operation may be taken first. -/
theorem any_first {i : Nat} {oi : Oper} {v : Value} {D : List Nat} (hi : ops[i]? = some oi) (hD : depOk ops i D = true) (hsel : ∀ (j : Nat) (o : Oper) cs b, ops[j]? = some o → o.op ≠ .select cs b) (hQ : ∀ c a w, ¬ Q (.panic c) a w) :
    ∀ (fuel : Nat) (listed : Array Bool) (a : Act) (w : World),
      (∀ j oj, ops[j]? = some oj → j ≠ i → j ∉ D → listed.getD j true = false → oi.apart ops oj = true ∧ ((∀ w, C w) ∨ (growOp oj.op = true ∧ ∀ w w', C w → ExtW w w' → C w'))) →
      (∀ j ∈ D, listed.getD j true = false) → i ∈ Region.ready .any ops listed → C w → YI P ops C oi v a →
      wpAny P .any ops Q fuel (listed.setIfInBounds i true) (a.put oi.dst v) w → wpAny P .any ops Q (fuel + 1) listed a w := by
  intro fuel
  induction fuel with
  | zero =>
    intro listed a w hfree hun hr hw hy H
    refine ⟨fun h => (by rw [h] at hr; cases hr), fun j hj => ?_⟩
    by_cases hji : j = i
    · subst hji; exact hy.step hi hw H
    · have := ready_mono hj hji
      rw [H.1] at this
      cases this
  | succ fuel ih =>
    intro listed a w hfree hun hr hw hy H
    refine ⟨fun h => (by rw [h] at hr; cases hr), fun j hj => ?_⟩
    by_cases hji : j = i
    · subst hji; exact hy.step hi hw H
    · have h1 := H.2 j (ready_mono hj hji)
      obtain ⟨hjun, oj, hoj, hall⟩ := mem_ready.1 hj
      have hiun := (mem_ready.1 hr).1
      have hjD : j ∉ D := fun hm => by
        obtain ⟨o, ho, e, he, hb, hc⟩ := depOk_spec hD hm
        rw [hoj] at ho
        injection ho with ho
        subst ho
        have h2 := hall e he hb
        rcases hc with hc | hc
        · rw [hc, unlisted hiun] at h2; cases h2
        · rw [unlisted (hun _ hc)] at h2; cases h2
      obtain ⟨hap, hC⟩ := hfree j oj hoj hji hjD hjun
      have h2 := step_put (C := C) hoj hap (fun cs b => hsel i oi cs b hi) (fun cs b => hsel j oj cs b hoj) hQ hC hw hy h1
      refine wpOp_mono (fun a' w' h3 => ih (listed.setIfInBounds j true) a' w' (fun k ok hk hki hkD hkun => hfree k ok hk hki hkD ?_) (fun k hk => ?_) (ready_mono hr (Ne.symm hji)) h3.2.1 h3.1 ?_) h2
      · by_cases hjk : j = k
        · subst hjk; exact hjun
        · rw [Go.getD_set_ne true hjk] at hkun; exact hkun
      · rw [Go.getD_set_ne true (fun e => hjD (by rw [e]; exact hk))]
        exact hun k hk
      · rw [Array.setIfInBounds_comm _ _ hji]
        exact h3.2.2

/-- The only one that may come up. -/
theorem any_only {i : Nat} {fuel : Nat} {listed : Array Bool} {a : Act} {w : World} {D : List Nat} (hD : depOk ops i D = true) (hr : i ∈ Region.ready .any ops listed) (hun : ∀ j ∈ D, listed.getD j true = false)
    (hall : ∀ j oj, ops[j]? = some oj → j ≠ i → j ∉ D → listed.getD j true = true) (h : wpOp P ops Q i (wpAny P .any ops Q fuel (listed.setIfInBounds i true)) a w) : wpAny P .any ops Q (fuel + 1) listed a w := by
  refine ⟨fun h => (by rw [h] at hr; cases hr), fun j hj => ?_⟩
  by_cases hji : j = i
  · subst hji; exact h
  · exfalso
    obtain ⟨hjun, oj, hoj, hal⟩ := mem_ready.1 hj
    by_cases hm : j ∈ D
    · obtain ⟨o, ho, e, he, hb, hc⟩ := depOk_spec hD hm
      rw [hoj] at ho
      injection ho with ho
      subst ho
      have h2 := hal e he hb
      rcases hc with hc | hc
      · rw [hc, unlisted (mem_ready.1 hr).1] at h2; cases h2
      · rw [unlisted (hun _ hc)] at h2; cases h2
    · rw [hall j oj hoj hji hm] at hjun; cases hjun

end
end Go.Ev
