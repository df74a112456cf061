import Derived.Test.YtpmeeopafdgbpaaDoorEvMg
namespace Go.Ev
set_option linter.unusedVariables false
set_option linter.unusedSimpArgs false
def opIn (N : Nat) (o : Oper) : Bool := (match o.dst with
  | some d => decide (d < N)
  | none => true) && o.op.operands.toList.all fun x => match x with
    | .tmp t => decide (t < N)
    | _ => true
theorem opIn_ok {N : Nat} {o : Oper} (h : opIn N o = true) : OpIn N o := by
  simp only [opIn, Bool.and_eq_true] at h
  refine ⟨fun d hd => ?_, fun x hx t ht => ?_⟩
  · rw [hd] at h; simpa using h.1
  · have := List.all_eq_true.1 h.2 x (by simpa using hx)
    subst ht
    simpa using this
/-- Those that may come first. -/
def heads : Ord → List Nat
  | .nil => []
  | .st i _ => [i]
  | .alt i _ u => i :: heads u
  | .grp _ _ => []
noncomputable section
def rdyF (ops : List Oper) (m i : Nat) : Bool := match ops[i]? with
  | some o => !(m.testBit i) && Nat.beq (Nat.land (depM o) m) (depM o)
  | none => false
def dM (o : Oper) : Nat := match o.dst with
  | some d => Nat.pow 2 d
  | none => 0
def lM (ops : Array Oper) (o : Oper) : Nat := msk (o.looksAt ops)
def apartF (ops : Array Oper) (x y : Oper) : Bool := Nat.beq (Nat.land (dM x) (Nat.lor (lM ops y) (dM y))) 0 && Nat.beq (Nat.land (dM y) (lM ops x)) 0
def okRest (ops : Array Oper) (oi : Oper) (i m D : Nat) : List Oper → Nat → Bool
  | [], _ => true
  | oj :: os, j => (Nat.beq j i || (m.testBit j || (D.testBit j || (apartF ops oi oj && (pureOp oi.op || loadOp oi.op && growOp oj.op))))) && okRest ops oi i m D os (j + 1)
/-- Operation `i` may be taken now. -/
def okF (ops : Array Oper) (m i : Nat) : Bool := Nat.beq (Nat.land (dmask i ops.toList 0 0) m) 0 && match ops.toList[i]? with
  | some oi => okRest ops oi i m (dmask i ops.toList 0 0) ops.toList 0
  | none => false
def noneF (ops : List Oper) (m : Nat) : Nat → Bool
  | 0 => true
  | n + 1 => !rdyF ops m n && noneF ops m n
def altF (ops : List Oper) (m : Nat) (hs : List Nat) : Nat → Bool
  | 0 => true
  | n + 1 => (!rdyF ops m n || hs.contains n) && altF ops m hs n
def topoF (ops : List Oper) : Nat → List Nat → Bool
  | _, [] => true
  | m, i :: is => rdyF ops m i && topoF ops (Nat.lor m (Nat.pow 2 i)) is
def restF (ops : List Oper) (m : Nat) (l : List Nat) : Nat → Bool
  | 0 => true
  | n + 1 => (m.testBit n || (l.contains n || l.all fun i => (dmask i ops 0 0).testBit n)) && restF ops m l n
def grpF (ops : Array Oper) (m : Nat) (l : List Nat) : Bool := topoF ops.toList m l && restF ops.toList m l ops.size && l.all fun i => Nat.beq (Nat.land (dmask i ops.toList 0 0) m) 0
/-- The orders cover every draw; `alts`: what follows is one of several ways. -/
def chk (ops : Array Oper) : Bool → Nat → Ord → Nat → Bool
  | alts, _, .nil, m => alts || noneF ops.toList m ops.size
  | alts, 0, .st i t, m => false
  | alts, 0, .alt i t u, m => false
  | alts, n + 1, .st i t, m => (alts || (rdyF ops.toList m i && okF ops m i)) && chk ops false n t (Nat.lor m (Nat.pow 2 i))
  | alts, n + 1, .alt i t u, m => (alts || ((i :: heads u).any (rdyF ops.toList m) && altF ops.toList m (i :: heads u) ops.size)) && chk ops false n t (Nat.lor m (Nat.pow 2 i)) && chk ops true (n + 1) u m
  | alts, n, .grp l t, m => !alts && decide (1 ≤ l.length ∧ l.length ≤ n) && grpF ops m l && chk ops false (n - l.length) t (Nat.lor m (msk l))
end
theorem lor_bit (x y t : Nat) : (Nat.lor x y).testBit t = (x.testBit t || y.testBit t) := Nat.testBit_or x y t
theorem pow_bit (n t : Nat) : (Nat.pow 2 n).testBit t = decide (n = t) := Nat.testBit_two_pow
theorem land_bit (x y t : Nat) : (Nat.land x y).testBit t = (x.testBit t && y.testBit t) := Nat.testBit_and x y t
theorem msk_bit : ∀ (l : List Nat) (t : Nat), (msk l).testBit t = decide (t ∈ l)
  | [], t => by simp [msk]
  | u :: l, t => by
    rw [msk, lor_bit, pow_bit, msk_bit l t, Bool.eq_iff_iff]
    simp only [Bool.or_eq_true, decide_eq_true_eq, List.mem_cons]
    constructor
    · rintro (h | h)
      · exact .inr h
      · exact .inl h.symm
    · rintro (h | h)
      · exact .inr h.symm
      · exact .inl h
theorem land_zero {x y : Nat} (h : Nat.beq (Nat.land x y) 0 = true) (t : Nat) (h1 : x.testBit t = true) : y.testBit t = false := by
  have e : Nat.land x y = 0 := Nat.eq_of_beq_eq_true h
  have := land_bit x y t
  rw [e, Nat.zero_testBit, h1] at this
  simpa using this.symm
theorem land_ne {x y : Nat} (h : Nat.beq (Nat.land x y) 0 = false) : ∃ t, x.testBit t = true ∧ y.testBit t = true := by
  have e : Nat.land x y ≠ 0 := fun z => by rw [z] at h; cases h
  obtain ⟨t, ht⟩ := Nat.exists_testBit_of_ne_zero e
  rw [land_bit] at ht
  exact ⟨t, by simpa using ht⟩
theorem land_sub {x y : Nat} (h : Nat.beq (Nat.land x y) x = true) (t : Nat) (h1 : x.testBit t = true) : y.testBit t = true := by
  have e : Nat.land x y = x := Nat.eq_of_beq_eq_true h
  have := land_bit x y t
  rw [e, h1] at this
  simpa using this.symm
theorem sub_land {x y : Nat} (h : ∀ t, x.testBit t = true → y.testBit t = true) : Nat.beq (Nat.land x y) x = true := by
  have e : Nat.land x y = x := Nat.eq_of_testBit_eq fun t => by
    rw [land_bit]
    cases hx : x.testBit t with
    | false => rfl
    | true => rw [h t hx]; rfl
  rw [e]; exact Nat.beq_refl _
theorem depM_bit (o : Oper) (t : Nat) : (depM o).testBit t = true ↔ ∃ e ∈ o.after, Region.binds .any e = true ∧ e.on = t := by
  unfold depM
  rw [msk_bit, decide_eq_true_eq, List.mem_map]
  constructor
  · rintro ⟨e, he, rfl⟩
    rw [List.mem_filter] at he
    exact ⟨e, by simpa using he.1, he.2, rfl⟩
  · rintro ⟨e, he, hb, rfl⟩
    exact ⟨e, List.mem_filter.2 ⟨by simpa using he, hb⟩, rfl⟩
theorem dmask_mono (i : Nat) : ∀ (os : List Oper) (j D t : Nat), D.testBit t = true → (dmask i os j D).testBit t = true
  | [], j, D, t, h => h
  | o :: os, j, D, t, h => by
    refine dmask_mono i os (j + 1) _ t ?_
    cases Nat.beq (Nat.land (depM o) (Nat.lor D (Nat.pow 2 i))) 0
    · show (Nat.lor D (Nat.pow 2 j)).testBit t = true
      rw [lor_bit, h]; rfl
    · exact h
/-- Those that wait for `i` wait for it, or for another one that does. -/
theorem dmask_spec (i : Nat) : ∀ (os : List Oper) (j D t : Nat), (dmask i os j D).testBit t = true → D.testBit t = true ∨ ∃ k o, t = j + k ∧ os[k]? = some o ∧ ∃ u, (depM o).testBit u = true ∧ (u = i ∨ (dmask i os j D).testBit u = true)
  | [], j, D, t, h => .inl h
  | o :: os, j, D, t, h => by
    obtain ⟨D', hD⟩ : ∃ D', D' = cond (Nat.beq (Nat.land (depM o) (Nat.lor D (Nat.pow 2 i))) 0) D (Nat.lor D (Nat.pow 2 j)) := ⟨_, rfl⟩
    have e : dmask i (o :: os) j D = dmask i os (j + 1) D' := by rw [hD]; rfl
    rw [e] at h ⊢
    rcases dmask_spec i os (j + 1) D' t h with h1 | ⟨k, o', h1, h2, h3⟩
    · cases hb : Nat.beq (Nat.land (depM o) (Nat.lor D (Nat.pow 2 i))) 0 with
      | true => rw [hb] at hD; rw [hD] at h1; exact .inl h1
      | false =>
        have hD' : D' = Nat.lor D (Nat.pow 2 j) := by rw [hD, hb]; rfl
        rw [hD', lor_bit, pow_bit, Bool.or_eq_true, decide_eq_true_eq] at h1
        rcases h1 with h1 | h1
        · exact .inl h1
        · refine .inr ⟨0, o, h1.symm, rfl, ?_⟩
          obtain ⟨u, u1, u2⟩ := land_ne hb
          rw [lor_bit, pow_bit, Bool.or_eq_true, decide_eq_true_eq] at u2
          rcases u2 with u2 | u2
          · refine ⟨u, u1, .inr (dmask_mono i os _ _ u ?_)⟩
            rw [hD', lor_bit, u2]; rfl
          · exact ⟨u, u1, .inl u2.symm⟩
    · exact .inr ⟨k + 1, o', by omega, h2, h3⟩
/-- What is listed. -/
structure Lst (ops : Array Oper) (f : Nat → Bool) (listed : Array Bool) : Prop where
  size : listed.size = ops.size
  bit : ∀ k, k < ops.size → listed[k]? = some (f k)
  sub : ∀ k, f k = true → k < ops.size
theorem Lst.getD {ops : Array Oper} {f : Nat → Bool} {listed : Array Bool} (h : Lst ops f listed) (k : Nat) (d : Bool) : listed.getD k d = if k < ops.size then f k else d := by
  rw [Array.getD_eq_getD_getElem?]
  by_cases hk : k < ops.size
  · rw [h.bit k hk, if_pos hk]; rfl
  · rw [if_neg hk, Array.getElem?_eq_none (by rw [h.size]; omega)]; rfl
theorem Lst.set {ops : Array Oper} {f : Nat → Bool} {listed : Array Bool} (h : Lst ops f listed) {i : Nat} (hi : i < ops.size) {f' : Nat → Bool} (hf : ∀ k, f' k = (f k || decide (i = k))) : Lst ops f' (listed.setIfInBounds i true) := by
  refine ⟨by rw [Array.size_setIfInBounds]; exact h.size, fun k hk => ?_, fun k hk => ?_⟩
  · rw [Array.getElem?_setIfInBounds, hf]
    by_cases e : i = k
    · subst e; simp [h.size, hi]
    · simp [e, h.bit k hk]
  · rw [hf, Bool.or_eq_true, decide_eq_true_eq] at hk
    rcases hk with hk | hk
    · exact h.sub k hk
    · omega
theorem Lst.zero (ops : Array Oper) : Lst ops (Nat.testBit 0) (Array.replicate ops.size false) :=
  ⟨by simp, fun k hk => by simp [hk, Array.getElem?_replicate], fun k hk => by simp at hk⟩
theorem Lst.ready {ops : Array Oper} {m : Nat} {listed : Array Bool} (h : Lst ops m.testBit listed) (i : Nat) : i ∈ Region.ready .any ops listed ↔ rdyF ops.toList m i = true := by
  rw [mem_ready]
  unfold rdyF
  rw [Array.getElem?_toList]
  cases ho : ops[i]? with
  | none => simp
  | some o =>
    have hlt : i < ops.size := (Array.getElem?_eq_some_iff.1 ho).1
    simp only [Option.some.injEq, exists_eq_left', Bool.and_eq_true, Bool.not_eq_true']
    rw [h.getD, if_pos hlt]
    refine and_congr Iff.rfl ⟨fun h1 => sub_land fun t ht => ?_, fun h1 e he hb => ?_⟩
    · obtain ⟨e, he, hb, rfl⟩ := (depM_bit o t).1 ht
      have := h1 e he hb
      rw [h.getD] at this
      split at this
      · exact this
      · cases this
    · have := land_sub h1 e.on ((depM_bit o e.on).2 ⟨e, he, hb, rfl⟩)
      rw [h.getD, if_pos (h.sub _ this)]
      exact this
theorem dM_bit {o : Oper} {d : Nat} (h : o.dst = some d) (t : Nat) : (dM o).testBit t = decide (d = t) := by unfold dM; rw [h]; exact pow_bit d t
theorem apartF_ok {ops : Array Oper} {x y : Oper} (h : apartF ops x y = true) : x.apart ops y = true := by
  unfold apartF at h
  rw [Bool.and_eq_true] at h
  have hl : ∀ (o : Oper) (t : Nat), (lM ops o).testBit t = false → (o.looksAt ops).contains t = false := fun o t ht => by
    unfold lM at ht
    rw [msk_bit] at ht
    cases hc : (o.looksAt ops).contains t with
    | false => rfl
    | true => rw [List.contains_iff_mem] at hc; simp [hc] at ht
  unfold Oper.apart
  rw [Bool.and_eq_true]
  constructor
  · cases hd : x.dst with
    | none => rfl
    | some d =>
      have := land_zero h.1 d (by rw [dM_bit hd]; simp)
      rw [lor_bit, Bool.or_eq_false_iff] at this
      simp only [hl y d this.1, Bool.not_false, Bool.true_and, bne_iff_ne]
      intro e
      have := this.2
      rw [dM_bit e] at this
      simp at this
  · cases hd : y.dst with
    | none => rfl
    | some d =>
      have := land_zero h.2 d (by rw [dM_bit hd]; simp)
      simp only [hl x d this, Bool.not_false]
theorem okRest_ok {ops : Array Oper} {oi : Oper} {i m D : Nat} : ∀ (os : List Oper) (j : Nat), okRest ops oi i m D os j = true → ∀ k oj, os[k]? = some oj → j + k ≠ i → D.testBit (j + k) = false → m.testBit (j + k) = false → oi.apart ops oj = true ∧ (pureOp oi.op = true ∨ (loadOp oi.op = true ∧ growOp oj.op = true))
  | [], j, h, k, oj, hk => by simp at hk
  | o :: os, j, h, k, oj, hk => by
    intro h1 h2 h3
    unfold okRest at h
    rw [Bool.and_eq_true] at h
    cases k with
    | zero =>
      simp only [List.getElem?_cons_zero, Option.some.injEq] at hk
      subst hk
      rw [Nat.add_zero] at h1 h2 h3
      have hb : Nat.beq j i = false := by
        cases hb : Nat.beq j i with
        | false => rfl
        | true => exact absurd (Nat.eq_of_beq_eq_true hb) h1
      have := h.1
      rw [hb, h2, h3] at this
      simp only [Bool.false_or, Bool.and_eq_true, Bool.or_eq_true] at this
      exact ⟨apartF_ok this.1, this.2⟩
    | succ k =>
      exact okRest_ok os (j + 1) h.2 k oj (by simpa using hk) (by omega) (by rw [show j + 1 + k = j + (k + 1) by omega]; exact h2) (by rw [show j + 1 + k = j + (k + 1) by omega]; exact h3)
theorem dmask_lt {ops : Array Oper} {i t : Nat} (h : (dmask i ops.toList 0 0).testBit t = true) : ∃ o, ops[t]? = some o ∧ ∃ u, (depM o).testBit u = true ∧ (u = i ∨ (dmask i ops.toList 0 0).testBit u = true) := by
  rcases dmask_spec i ops.toList 0 0 t h with h | ⟨k, o, h1, h2, h3⟩
  · simp at h
  · rw [Nat.zero_add] at h1
    subst h1
    exact ⟨o, by simpa using h2, h3⟩
theorem okF_spec {ops : Array Oper} {m : Nat} {listed : Array Bool} {i : Nat} (hL : Lst ops m.testBit listed) (h : okF ops m i = true) : ∃ D, depOk ops i D = true ∧ (∀ j ∈ D, listed.getD j true = false) ∧
    ∀ oi, ops[i]? = some oi → ∀ j oj, ops[j]? = some oj → j ≠ i → j ∉ D → listed.getD j true = false → oi.apart ops oj = true ∧ (pureOp oi.op = true ∨ (loadOp oi.op = true ∧ growOp oj.op = true)) := by
  unfold okF at h
  rw [Bool.and_eq_true] at h
  obtain ⟨h1, h2⟩ := h
  have mem : ∀ t, t ∈ (List.range ops.size).filter (dmask i ops.toList 0 0).testBit ↔ (dmask i ops.toList 0 0).testBit t = true := fun t => by
    rw [List.mem_filter, List.mem_range]
    refine ⟨fun h => h.2, fun h => ⟨?_, h⟩⟩
    obtain ⟨o, ho, _⟩ := dmask_lt h
    exact (Array.getElem?_eq_some_iff.1 ho).1
  refine ⟨(List.range ops.size).filter (dmask i ops.toList 0 0).testBit, List.all_eq_true.2 fun j hj => ?_, fun j hj => ?_, fun oi hi j oj hj hne hD hun => ?_⟩
  · obtain ⟨o, ho, u, u1, u2⟩ := dmask_lt ((mem j).1 hj)
    simp only [ho]
    obtain ⟨e, he, hb, rfl⟩ := (depM_bit o u).1 u1
    rw [Array.any_eq_true']
    refine ⟨e, he, ?_⟩
    rw [Bool.and_eq_true, Bool.or_eq_true]
    refine ⟨hb, ?_⟩
    rcases u2 with u2 | u2
    · exact .inl (by simpa using u2)
    · exact .inr (by rw [List.contains_iff_mem]; exact (mem _).2 u2)
  · have hD := (mem j).1 hj
    have hlt : j < ops.size := by obtain ⟨o, ho, _⟩ := dmask_lt hD; exact (Array.getElem?_eq_some_iff.1 ho).1
    rw [hL.getD, if_pos hlt]
    exact land_zero h1 j hD
  · have hi' : ops.toList[i]? = some oi := by simpa using hi
    rw [hi'] at h2
    simp only at h2
    have hlt : j < ops.size := (Array.getElem?_eq_some_iff.1 hj).1
    rw [hL.getD, if_pos hlt] at hun
    have hD' : (dmask i ops.toList 0 0).testBit j = false := by
      cases hb : (dmask i ops.toList 0 0).testBit j with
      | false => rfl
      | true => exact absurd ((mem j).2 hb) hD
    have := okRest_ok ops.toList 0 h2 j oj (by simpa using hj)
    rw [Nat.zero_add] at this
    exact this hne hD' hun
theorem noneF_ok {ops : List Oper} {m : Nat} : ∀ (n : Nat), noneF ops m n = true → ∀ i, i < n → rdyF ops m i = false
  | 0, _, i, h => by omega
  | n + 1, h, i, hi => by
    unfold noneF at h
    rw [Bool.and_eq_true] at h
    by_cases e : i = n
    · subst e; simpa using h.1
    · exact noneF_ok n h.2 i (by omega)
theorem altF_ok {ops : List Oper} {m : Nat} {hs : List Nat} : ∀ (n : Nat), altF ops m hs n = true → ∀ i, i < n → rdyF ops m i = true → i ∈ hs
  | 0, _, i, h => by omega
  | n + 1, h, i, hi => by
    intro hr
    unfold altF at h
    rw [Bool.and_eq_true] at h
    by_cases e : i = n
    · subst e
      have := h.1
      rw [hr] at this
      simpa using this
    · exact altF_ok n h.2 i (by omega) hr
theorem rdy_lt {ops : Array Oper} {m i : Nat} (h : rdyF ops.toList m i = true) : i < ops.size := by
  unfold rdyF at h
  split at h
  · rename_i o ho
    have := (List.getElem?_eq_some_iff.1 ho).1
    simpa using this
  · cases h
def codeOk (os : RegT) (N : Nat) : Code → Bool
  | .region id ops draw => ops.toList.all (opIn N) && (match draw with
    | false => true
    | true => match os.os.lookup id with
      | some t => Region.noSelect ops && chk ops false ops.size t 0
      | none => false)
  | .seq a b => codeOk os N a && codeOk os N b
  | .cond c a b => (match c with
    | .tmp t => decide (t < N)
    | _ => true) && codeOk os N a && codeOk os N b
  | .block _ b => codeOk os N b
  | .loop b => codeOk os N b
  | _ => true
section
variable {P : Program} {T : TypeId → Option TI} {env : Env} {X : Ctx} {σ : St} {a : Act} {w : World} {g : Gh} {A : Type} {r : A} {k : St → Option A} {K : Act → World → Prop} {Q : Exit → Act → World → Prop} {ops : Array Oper}
theorem know_id {t : Nat} {b : Bool} (h : gs σ t = .cs false [.val .bool b]) : know σ t b = σ := by
  unfold know
  rw [← h]
  exact ss_self σ t (by rw [h]; intro e; cases e)
/-- A guard tells whether an operation is wanted. -/
theorem guard_ok {o : Oper} {rest : List Oper} (hin : ∀ q ∈ ops.toList, OpIn X.N q) (ho : OpIn X.N o) (h : Rel X σ a w g) (hN : X.N ≤ σ.length) (hk : regK T env ops.toList (o :: rest) σ k = some r) :
    (Region.wanted o (yielded ops a.tmps) = true ∧ opK T env o σ (fun σ1 => regK T env ops.toList rest σ1 k) = some r) ∨
    (Region.wanted o (yielded ops a.tmps) = false ∧ ∃ σ1 g1, Rel X σ1 (a.put o.dst undef) w g1 ∧ σ1.length = σ.length ∧ regK T env ops.toList rest σ1 k = some r) := by
  have skip : ∀ σ1, σ1 = Ev.wr σ o.dst (.cs false [.no]) → ∃ g1, Rel X σ1 (a.put o.dst undef) w g1 ∧ σ1.length = σ.length := by
    intro σ1 e
    subst e
    cases hd : o.dst with
    | none => exact ⟨g, h, rfl⟩
    | some d =>
      obtain ⟨g1, h1, _⟩ := h.wr1 (ho.dst d hd) hN (l := .no) (v := undef) rfl rfl
      exact ⟨g1, h1, by simp⟩
  simp only [regK] at hk
  cases hg : o.guard with
  | none =>
    rw [hg] at hk
    exact .inl ⟨by simp [Region.wanted, hg], hk⟩
  | some jw =>
    obtain ⟨j, want⟩ := jw
    rw [hg] at hk
    simp only at hk
    cases hdo : dstOf ops.toList j with
    | none => rw [hdo] at hk; cases hk
    | some t =>
    rw [hdo] at hk
    simp only at hk
    obtain ⟨oj, hoj, hojd⟩ : ∃ oj, ops[j]? = some oj ∧ oj.dst = some t := by
      unfold dstOf at hdo
      split at hdo
      · rename_i oj hoj
        exact ⟨oj, by simpa using hoj, hdo⟩
      · cases hdo
    have ht : t < X.N := (hin oj (by
      have := Array.mem_of_getElem? hoj
      simpa using this)).dst t hojd
    have hyield : yielded ops a.tmps j = match a.tmps.getD t undef with | .bool b => some b | _ => none := by
      have hlt : t < a.tmps.size := by rw [h.size]; exact ht
      simp only [yielded, hoj, Option.bind_some, hojd]
      rw [Array.getElem?_eq_getElem hlt]
      simp [Array.getD, hlt]
      cases a.tmps[t] <;> rfl
    have hsh := h.sh t (Nat.lt_of_lt_of_le ht hN)
    split at hk
    · rename_i hgs
      have hno := h.lf ⟨t, 0⟩
      rw [hgs] at hsh
      unfold gl at hno
      simp only [hgs] at hno
      have hv : a.tmps.getD t undef = undef := hsh.2.trans hno
      refine .inr ⟨?_, ?_⟩
      · rw [hv] at hyield
        simp only [Region.wanted, hg, hyield]
        rfl
      · obtain ⟨g1, h1, h2⟩ := skip _ rfl
        exact ⟨_, g1, h1, h2, hk⟩
    · rename_i v hgs
      have hvl := h.lf ⟨t, 0⟩
      rw [hgs] at hsh
      unfold gl at hvl
      simp only [hgs] at hvl
      have hv : a.tmps.getD t undef = .bool v := hsh.2.trans (LR_bool hvl)
      have hw : Region.wanted o (yielded ops a.tmps) = (v == want) := by
        rw [hv] at hyield
        simp only [Region.wanted, hg, hyield]
        cases v <;> cases want <;> rfl
      cases hvw : (v == want) with
      | true =>
        rw [hvw] at hk
        have e : v = want := by simpa using hvw
        subst e
        simp only [bcond, know_id hgs] at hk
        exact .inl ⟨by rw [hw, hvw], hk⟩
      | false =>
        rw [hvw] at hk
        have e : (!want) = v := by cases v <;> cases want <;> simp_all
        simp only [bcond] at hk
        rw [e, know_id hgs] at hk
        refine .inr ⟨by rw [hw, hvw], ?_⟩
        obtain ⟨g1, h1, h2⟩ := skip _ rfl
        exact ⟨_, g1, h1, h2, hk⟩
    · cases hk
/-- One operation of a region. -/
theorem reg_step (hT : TOk P T) (hE : EnvOk P env) {i : Nat} {o : Oper} {rest : List Oper} (hi : ops[i]? = some o) (hin : ∀ q ∈ ops.toList, OpIn X.N q) (h : Rel X σ a w g) (hN : X.N ≤ σ.length) (hk : regK T env ops.toList (o :: rest) σ k = some r)
    (hK : ∀ σ' a' w' g', Rel X σ' a' w' g' → σ'.length = σ.length → regK T env ops.toList rest σ' k = some r → K a' w') : wpOp P ops Q i K a w := by
  have ho : OpIn X.N o := hin o (by have := Array.mem_of_getElem? hi; simpa using this)
  unfold wpOp
  simp only [hi]
  rcases guard_ok hin ho h hN hk with ⟨h1, h2⟩ | ⟨h1, σ1, g1, h2, h3, h4⟩
  · rw [if_pos h1]
    exact .inl (op_sound hT hE h hN ho h2 (fun σ' a' w' g' e1 e2 e3 => hK σ' a' w' g' e1 e2 e3))
  · rw [if_neg (by rw [h1]; simp)]
    exact hK _ _ _ _ h2 h3 h4
theorem reg_lex (hT : TOk P T) (hE : EnvOk P env) (hin : ∀ q ∈ ops.toList, OpIn X.N q) : ∀ (rest : List Oper) (i : Nat) {σ : St} {a : Act} {w : World} {g : Gh}, ops.toList.drop i = rest → Rel X σ a w g → X.N ≤ σ.length → regK T env ops.toList rest σ k = some r →
    (∀ σ' a' w' g', Rel X σ' a' w' g' → σ'.length = σ.length → k σ' = some r → Q .normal a' w') → wpOps P ops Q (List.range' i rest.length) a w
  | [], i, σ, a, w, g, hd, h, hN, hk, hK => by
    exact hK σ a w g h rfl hk
  | o :: rest, i, σ, a, w, g, hd, h, hN, hk, hK => by
    have hi : ops[i]? = some o := by
      have := congrArg (fun l => l[0]?) hd
      simpa using this
    rw [List.length_cons, List.range'_succ, wpOps_cons]
    refine reg_step hT hE hi hin h hN hk (fun σ' a' w' g' e1 e2 e3 => ?_)
    refine reg_lex hT hE hin rest (i + 1) ?_ e1 (by omega) e3 (fun σ'' a'' w'' g'' f1 f2 f3 => hK σ'' a'' w'' g'' f1 (by omega) f3)
    rw [← List.drop_drop, hd]
    rfl
/-- Each of several ways. -/
theorem alts_ok {n : Nat} {m : Nat} : ∀ (u : Ord), chk ops true (n + 1) u m = true → regO T env ops.toList u σ k = some r → ∀ j ∈ heads u, ∃ t o, ops[j]? = some o ∧ chk ops false n t (Nat.lor m (Nat.pow 2 j)) = true ∧ regK T env ops.toList [o] σ (fun σ1 => regO T env ops.toList t σ1 k) = some r
  | .nil, _, _, j, hj => by simp [heads] at hj
  | .grp _ _, _, _, j, hj => by simp [heads] at hj
  | .st i t, hc, hk, j, hj => by
    simp only [heads, List.mem_singleton] at hj
    subst hj
    simp only [chk, Bool.true_or, Bool.true_and] at hc
    simp only [regO] at hk
    cases ho : ops.toList[j]? with
    | none => rw [ho] at hk; cases hk
    | some o => rw [ho] at hk; exact ⟨t, o, by simpa using ho, hc, hk⟩
  | .alt i t u, hc, hk, j, hj => by
    simp only [chk, Bool.true_or, Bool.true_and, Bool.and_eq_true] at hc
    simp only [regO] at hk
    cases ho : ops.toList[i]? with
    | none => rw [ho] at hk; cases hk
    | some o =>
      rw [ho] at hk
      obtain ⟨k1, k2⟩ := agree_some hk
      simp only [heads, List.mem_cons] at hj
      rcases hj with rfl | hj
      · exact ⟨t, o, by simpa using ho, hc.1, k1⟩
      · exact alts_ok u hc.2 k2 j hj
def pairOk (ops : List Oper) (e f : Nat × Actn × Slot) : Prop := (dmask e.1 ops 0 0).testBit f.1 = true ∨ Indep e.2.1 e.2.2 f.2.1 f.2.2
theorem regG_spec {ol : List Oper} : ∀ (is : List Nat) (done : Done) {σ : St}, regG T env ol k is done σ = some r →
    ∃ L : Done, L.map (·.1) = is ∧ Chain T env ol σ L ∧ k (fin L σ) = some r ∧ (∀ e ∈ done, ∀ f ∈ L, pairOk ol e f) ∧ L.Pairwise (pairOk ol)
  | [], done, σ, h => ⟨[], rfl, trivial, h, fun e he f hf => (by cases hf), .nil⟩
  | i :: is, done, σ, h => by
    simp only [regG] at h
    split at h
    · rename_i o ho
      split at h
      · rename_i A hA
        rw [Mo.bind_eq] at h
        obtain ⟨s, hs, h⟩ := Option.bind_eq_some_iff.1 h
        split at h
        · rename_i hc
          simp only [Bool.and_eq_true, List.all_eq_true, Bool.or_eq_true, Bool.not_eq_true'] at hc
          obtain ⟨⟨c1, c2⟩, c3⟩ := hc
          obtain ⟨L, l1, l2, l3, l4, l5⟩ := regG_spec is _ h
          refine ⟨(i, A, s) :: L, by simp [l1], ⟨⟨o, ho, hA⟩, hs, fun e he z => ?_, fun p hp => ?_, l2⟩, l3, fun e he f hf => ?_, .cons (fun f hf => l4 (i, A, s) (by simp) f hf) l5⟩
          · have := c1 e he
            rw [z] at this; cases this
          · rw [hp] at c2; simpa using c2
          · rcases List.mem_cons.1 hf with rfl | hf
            · rcases c3 e he with q | q
              · exact .inl q
              · exact .inr (indep_spec q)
            · exact l4 e (by simp [he]) f hf
        · cases h
      · cases h
    · cases h
def Topo (ops : Array Oper) : (Nat → Bool) → List Nat → Prop
  | _, [] => True
  | f, i :: is => f i = false ∧ (∃ o, ops[i]? = some o ∧ ∀ t, (depM o).testBit t = true → f t = true) ∧ Topo ops (fun t => f t || decide (i = t)) is
theorem topoF_ok : ∀ (is : List Nat) (m : Nat) (f : Nat → Bool), (∀ t, f t = m.testBit t) → topoF ops.toList m is = true → Topo ops f is
  | [], m, f, _, _ => trivial
  | i :: is, m, f, hf, h => by
    unfold topoF at h
    rw [Bool.and_eq_true] at h
    obtain ⟨h1, h2⟩ := h
    refine ⟨?_, ?_, topoF_ok is _ _ (fun t => by rw [lor_bit, pow_bit, hf]) h2⟩
    · unfold rdyF at h1
      split at h1
      · rw [Bool.and_eq_true] at h1; rw [hf]; simpa using h1.1
      · cases h1
    · unfold rdyF at h1
      split at h1
      · rename_i o ho
        rw [Bool.and_eq_true] at h1
        exact ⟨o, by simpa using ho, fun t ht => by rw [hf]; exact land_sub h1.2 t ht⟩
      · cases h1
theorem topo_un : ∀ (L1 : List Nat) (j : Nat) (L2 : List Nat) (f : Nat → Bool), Topo ops f (L1 ++ j :: L2) → f j = false
  | [], j, L2, f, h => h.1
  | i :: L1, j, L2, f, h => by
    have := topo_un L1 j L2 _ h.2.2
    rw [Bool.or_eq_false_iff] at this
    exact this.1
theorem topo_rm : ∀ (L1 : List Nat) (j : Nat) (L2 : List Nat) (f : Nat → Bool), Topo ops f (L1 ++ j :: L2) → Topo ops (fun t => f t || decide (j = t)) (L1 ++ L2)
  | [], j, L2, f, h => h.2.2
  | i :: L1, j, L2, f, h => by
    obtain ⟨h1, ⟨o, h2, h3⟩, h4⟩ := h
    have hj := topo_un L1 j L2 _ h4
    rw [Bool.or_eq_false_iff] at hj
    have ih := topo_rm L1 j L2 _ h4
    refine ⟨?_, ⟨o, h2, fun t ht => by show (f t || decide (j = t)) = true; rw [h3 t ht]; rfl⟩, ?_⟩
    · show (f i || decide (j = i)) = false
      rw [h1]
      have : ¬ i = j := by simpa using hj.2
      simpa using fun e => this e.symm
    · have : (fun t => (f t || decide (j = t)) || decide (i = t)) = fun t => (f t || decide (i = t)) || decide (j = t) := by
        funext t; cases f t <;> cases decide (j = t) <;> cases decide (i = t) <;> rfl
      show Topo ops (fun t => (f t || decide (j = t)) || decide (i = t)) (L1 ++ L2)
      rw [this]; exact ih
theorem restF_ok {ol : List Oper} {m : Nat} {l : List Nat} : ∀ (n : Nat), restF ol m l n = true → ∀ k, k < n → m.testBit k = false → k ∉ l → ∀ i ∈ l, (dmask i ol 0 0).testBit k = true
  | 0, _, k, h => by omega
  | n + 1, h, k, hk => by
    intro h1 h2 i hi
    unfold restF at h
    rw [Bool.and_eq_true] at h
    by_cases e : k = n
    · subst e
      have := h.1
      rw [h1] at this
      simp only [Bool.false_or, Bool.or_eq_true, List.contains_iff_mem, List.all_eq_true] at this
      rcases this with this | this
      · exact absurd this h2
      · exact this i hi
    · exact restF_ok n h.2 k (by omega) h1 h2 i hi
/-- What waits for one that is not listed is not ready. -/
theorem not_ready {f : Nat → Bool} {i : Nat} (hi : f i = false) (hz : ∀ t, (dmask i ops.toList 0 0).testBit t = true → f t = false) {j : Nat} (hj : (dmask i ops.toList 0 0).testBit j = true) {o : Oper} (ho : ops[j]? = some o) :
    ¬ ∀ t, (depM o).testBit t = true → f t = true := by
  intro h
  obtain ⟨o', ho', u, u1, u2⟩ := dmask_lt hj
  rw [ho] at ho'
  injection ho' with ho'
  subst ho'
  have := h u u1
  rcases u2 with u2 | u2
  · rw [u2, hi] at this; cases this
  · rw [hz u u2] at this; cases this
theorem ready_f {f : Nat → Bool} {listed : Array Bool} (hL : Lst ops f listed) {j : Nat} : j ∈ Region.ready .any ops listed ↔ f j = false ∧ ∃ o, ops[j]? = some o ∧ ∀ t, (depM o).testBit t = true → f t = true := by
  rw [mem_ready]
  constructor
  · rintro ⟨h1, o, ho, h2⟩
    have hlt : j < ops.size := (Array.getElem?_eq_some_iff.1 ho).1
    rw [hL.getD, if_pos hlt] at h1
    refine ⟨h1, o, ho, fun t ht => ?_⟩
    obtain ⟨e, he, hb, rfl⟩ := (depM_bit o t).1 ht
    have := h2 e he hb
    rw [hL.getD] at this
    split at this
    · exact this
    · cases this
  · rintro ⟨h1, o, ho, h2⟩
    have hlt : j < ops.size := (Array.getElem?_eq_some_iff.1 ho).1
    refine ⟨by rw [hL.getD, if_pos hlt]; exact h1, o, ho, fun e he hb => ?_⟩
    have := h2 e.on ((depM_bit o e.on).2 ⟨e, he, hb, rfl⟩)
    rw [hL.getD, if_pos (hL.sub _ this)]
    exact this
theorem chain_fit {ol : List Oper} {N : Nat} (hin : ∀ q ∈ ol, OpIn N q) : ∀ (L : Done) {σ : St}, Chain T env ol σ L → Fit N L
  | [], σ, _ => fun e he => by cases he
  | (i, A, s) :: L, σ, ⟨⟨o, h1, h2⟩, h3, h4, h5, h6⟩ => fun e he => by
    rcases List.mem_cons.1 he with rfl | he
    · obtain ⟨q1, _, _⟩ := act_reads h2
      exact ⟨(hin o (List.mem_of_getElem? h1)).dst _ q1, h5⟩
    · exact chain_fit hin L h6 e he
theorem fit_le {n m : Nat} {L : Done} (h : Fit n L) (hnm : n ≤ m) : Fit m L := fun e he => ⟨Nat.lt_of_lt_of_le (h e he).1 hnm, (h e he).2⟩
theorem length_fin : ∀ (L : Done) (σ : St), (fin L σ).length = σ.length
  | [], σ => rfl
  | (i, A, s) :: L, σ => by show (fin L (app A.tk A.d s σ)).length = _; rw [length_fin L, length_app]
theorem Rel.eqv {σ' : St} (h : Rel X σ a w g) (he : Eqv σ σ') : Rel X σ' a w g := by
  have bx : ∀ b, isBox σ b → isBox σ' b := fun b hb => by unfold isBox at *; rw [← he.shp]; exact hb
  have lr : ∀ l v, LR σ w g l v → LR σ' w g l v := by
    intro l v hl
    cases l with
    | al q => exact ⟨hl.1, by rw [← he.gl]; exact hl.2⟩
    | ptr b o => exact ⟨hl.1, bx b hl.2⟩
    | ept q e i o =>
      obtain ⟨⟨n, h1, h2⟩, h3⟩ := hl
      exact ⟨⟨n, by rw [← he.gl]; exact h1, h2⟩, h3⟩
    | hol te e xs i q => exact LR_hol (fun _ h => h) (fun _ _ => rfl) (fun _ _ => rfl) (fun r _ => ⟨rfl, fun n hn => ⟨n, by rw [← he.gl]; exact hn⟩⟩) hl
    | clo f bs => exact ⟨hl.1, fun b hb => bx b (hl.2 b hb)⟩
    | _ => exact hl
  exact h.weak he.len.symm (fun t => (he.shp t).symm) (fun p => by rw [← he.gl]; exact lr _ _ (h.lf p)) (fun p hp => by rw [he.gl]; exact hp)
theorem grp_ok (hT : TOk P T) (hE : EnvOk P env) (hin : ∀ q ∈ ops.toList, OpIn X.N q) (hQ : ∀ c a w, ¬ Q (.panic c) a w) (n0 : Nat) (M : Nat → Bool) :
    ∀ (n : Nat) (L : Done) (f : Nat → Bool) (listed : Array Bool) {σ : St} {a : Act} {w : World} {g : Gh}, L.length = n → Rel X σ a w g → X.N ≤ σ.length → Lst ops f listed → Chain T env ops.toList σ L → L.Pairwise (pairOk ops.toList) → Topo ops f (L.map (·.1)) →
    (∀ k, k < ops.size → f k = false → k ∉ L.map (·.1) → ∀ e ∈ L, (dmask e.1 ops.toList 0 0).testBit k = true) → (∀ e ∈ L, ∀ t, (dmask e.1 ops.toList 0 0).testBit t = true → f t = false) → (∀ k, M k = (f k || decide (k ∈ L.map (·.1)))) →
    (∀ σ' a' w' g' listed', Rel X σ' a' w' g' → σ'.length = σ.length → Eqv σ' (fin L σ) → Lst ops M listed' → wpAny P .any ops Q n0 listed' a' w') → wpAny P .any ops Q (n + n0) listed a w := by
  intro n
  induction n with
  | zero =>
    intro L f listed σ a w g hn h hN hL hc hp ht hr hz hM hK
    have : L = [] := List.eq_nil_of_length_eq_zero hn
    subst this
    have e : M = f := by funext k; rw [hM]; simp
    rw [Nat.zero_add]
    exact hK σ a w g listed h rfl (Eqv.refl _) (by rw [e]; exact hL)
  | succ n ih =>
    intro L f listed σ a w g hn h hN hL hc hp ht hr hz hM hK
    have main : ∀ j ∈ Region.ready .any ops listed, wpOp P ops Q j (wpAny P .any ops Q (n + n0) (listed.setIfInBounds j true)) a w := by
      intro j hj
      obtain ⟨j1, oj, j2, j3⟩ := (ready_f hL).1 hj
      have hlt : j < ops.size := (Array.getElem?_eq_some_iff.1 j2).1
      have un : ∀ e ∈ L, f e.1 = false := fun e he => by
        obtain ⟨L1, L2, rfl⟩ := List.append_of_mem he
        rw [List.map_append, List.map_cons] at ht
        exact topo_un _ _ _ _ ht
      have hmem : j ∈ L.map (·.1) := by
        apply Classical.byContradiction
        intro hno
        cases L with
        | nil => simp at hn
        | cons e L =>
          exact not_ready (un e (by simp)) (hz e (by simp)) (hr j hlt j1 hno e (by simp)) j2 j3
      obtain ⟨e, he, hej⟩ := List.mem_map.1 hmem
      obtain ⟨L1, L2, rfl⟩ := List.append_of_mem he
      obtain ⟨i, A, s⟩ := e
      simp only at hej
      subst hej
      have hI : ∀ e ∈ L1, Indep e.2.1 e.2.2 A s := fun e he1 => by
        have := (List.pairwise_append.1 hp).2.2 e he1 (i, A, s) (by simp)
        rcases this with q | q
        · exact absurd j3 (not_ready (un e (by simp [he1])) (hz e (by simp [he1])) q j2)
        · exact q
      have hfit := fit_le (chain_fit hin _ hc) hN
      obtain ⟨⟨o, b1, b2⟩, b3, b4, b5⟩ := bubble i A s L2 L1 hc hI hfit
      have ho : ops[i]? = some o := by simpa using b1
      have hrun : regK T env ops.toList [o] σ some = some (app A.tk A.d s σ) := by
        rw [regK_act b2 b3]
      refine reg_step hT hE ho hin h hN hrun (fun σ' a' w' g' e1 e2 e3 => ?_)
      have e3' : σ' = app A.tk A.d s σ := by simpa [regK] using e3
      subst e3'
      have hf' : ∀ k, (fun t => f t || decide (i = t)) k = (f k || decide (i = k)) := fun k => rfl
      refine ih (L1 ++ L2) (fun t => f t || decide (i = t)) _ (by simp at hn ⊢; omega) e1 (by rw [length_app]; exact hN) (hL.set hlt hf') b4 ?_ ?_ ?_ ?_ ?_ ?_
      · exact hp.sublist (by simp)
      · rw [List.map_append, List.map_cons] at ht
        rw [List.map_append]
        exact topo_rm _ _ _ _ ht
      · intro k hk hfk hno e he1
        rw [Bool.or_eq_false_iff] at hfk
        refine hr k hk hfk.1 ?_ e ?_
        · rw [List.map_append, List.map_cons]
          rw [List.map_append] at hno
          simp only [List.mem_append, List.mem_cons, not_or] at hno ⊢
          exact ⟨hno.1, fun q => by simp [q] at hfk, hno.2⟩
        · rcases List.mem_append.1 he1 with q | q <;> simp [q]
      · intro e he1 t htt
        have heL : e ∈ L1 ++ (i, A, s) :: L2 := by rcases List.mem_append.1 he1 with q | q <;> simp [q]
        rw [Bool.or_eq_false_iff]
        refine ⟨hz e heL t htt, ?_⟩
        cases hb : decide (i = t) with
        | false => rfl
        | true =>
          have : i = t := by simpa using hb
          subst this
          exact absurd j3 (not_ready (un e heL) (hz e heL) htt j2)
      · intro k
        rw [hM k]
        rw [List.map_append, List.map_cons, List.map_append]
        rw [Bool.eq_iff_iff]
        simp only [Bool.or_eq_true, decide_eq_true_eq, List.mem_append, List.mem_cons]
        constructor
        · rintro (q | q | q | q)
          · exact .inl (.inl q)
          · exact .inr (.inl q)
          · exact .inl (.inr q.symm)
          · exact .inr (.inr q)
        · rintro ((q | q) | q | q)
          · exact .inl q
          · exact .inr (.inr (.inl q.symm))
          · exact .inr (.inl q)
          · exact .inr (.inr (.inr q))
      · intro σ'' a'' w'' g'' listed'' f1 f2 f3 f4
        exact hK σ'' a'' w'' g'' listed'' f1 (by rw [f2, length_app]) (f3.trans b5) f4
    rw [show n + 1 + n0 = (n + n0) + 1 by omega]
    refine ⟨fun hre => ?_, main⟩
    exfalso
    cases L with
    | nil => simp at hn
    | cons e L =>
      obtain ⟨t1, ⟨o, t2, t3⟩, _⟩ := ht
      have : e.1 ∈ Region.ready .any ops listed := (ready_f hL).2 ⟨t1, o, t2, t3⟩
      rw [hre] at this; cases this
theorem reg_any (hT : TOk P T) (hE : EnvOk P env) (hin : ∀ q ∈ ops.toList, OpIn X.N q) (hsel : Region.noSelect ops = true) (hQ : ∀ c a w, ¬ Q (.panic c) a w) : ∀ (n : Nat) (t : Ord) (m : Nat) (listed : Array Bool) {σ : St} {a : Act} {w : World} {g : Gh}, Lst ops m.testBit listed → chk ops false n t m = true → Rel X σ a w g → X.N ≤ σ.length →
    regO T env ops.toList t σ k = some r → (∀ σ' a' w' g', Rel X σ' a' w' g' → σ'.length = σ.length → k σ' = some r → Q .normal a' w') → wpAny P .any ops Q n listed a w
  | n, .nil, m, listed, σ, a, w, g, hL, hd, h, hN, hk, hK => by
    simp only [chk, Bool.false_or] at hd
    have hre : Region.ready .any ops listed = [] := by
      apply List.eq_nil_iff_forall_not_mem.2
      intro i hi
      have hr := (hL.ready i).1 hi
      rw [noneF_ok _ hd i (rdy_lt hr)] at hr
      cases hr
    have hq := hK σ a w g h rfl hk
    cases n with
    | zero => exact ⟨hre, hq⟩
    | succ n => exact ⟨fun _ => hq, fun i hi => by rw [hre] at hi; simp at hi⟩
  | 0, .st i t, m, listed, σ, a, w, g, hL, hd, h, hN, hk, hK => by simp [chk] at hd
  | 0, .alt i t u, m, listed, σ, a, w, g, hL, hd, h, hN, hk, hK => by simp [chk] at hd
  | n, .grp l t, m, listed, σ, a, w, g, hL, hd, h, hN, hk, hK => by
    simp only [chk, Bool.not_false, Bool.true_and, Bool.and_eq_true, decide_eq_true_eq] at hd
    obtain ⟨⟨⟨h0, h1⟩, h2⟩, h3⟩ := hd
    unfold grpF at h2
    simp only [Bool.and_eq_true, List.all_eq_true] at h2
    obtain ⟨⟨g1, g2⟩, g3⟩ := h2
    simp only [regO] at hk
    obtain ⟨L, l1, l2, l3, _, l5⟩ := regG_spec l [] hk
    have hlen : L.length = l.length := by rw [← l1, List.length_map]
    have hfin : ∀ k, (Nat.lor m (msk l)).testBit k = (m.testBit k || decide (k ∈ L.map (·.1))) := fun k => by rw [lor_bit, msk_bit, l1]
    have := grp_ok (Q := Q) hT hE hin hQ (n - l.length) (Nat.lor m (msk l)).testBit L.length L m.testBit listed rfl h hN hL l2 l5 (by rw [l1]; exact topoF_ok l m _ (fun _ => rfl) g1)
      (fun k hk1 hk2 hk3 e he => by
        rw [l1] at hk3
        exact restF_ok _ g2 k hk1 hk2 hk3 e.1 (by rw [← l1]; exact List.mem_map.2 ⟨e, he, rfl⟩))
      (fun e he t ht => land_zero (g3 e.1 (by rw [← l1]; exact List.mem_map.2 ⟨e, he, rfl⟩)) t ht) hfin
      (fun σ' a' w' g' listed' e1 e2 e3 e4 => by
        exact reg_any hT hE hin hsel hQ (n - l.length) t _ listed' e4 h3 (e1.eqv e3) (by rw [length_fin]; exact hN) l3 (fun σ'' a'' w'' g'' f1 f2 f3 => hK σ'' a'' w'' g'' f1 (by rw [f2, length_fin]) f3))
    rw [hlen, show l.length + (n - l.length) = n by omega] at this
    exact this
  | n + 1, .alt i t u, m, listed, σ, a, w, g, hL, hd, h, hN, hk, hK => by
    have hd2 : chk ops true (n + 1) (.alt i t u) m = true := by
      simp only [chk, Bool.false_or, Bool.true_or, Bool.true_and, Bool.and_eq_true] at hd ⊢
      exact ⟨hd.1.2, hd.2⟩
    simp only [chk, Bool.false_or, Bool.and_eq_true] at hd
    obtain ⟨⟨⟨hany, hall⟩, hdt⟩, hdu⟩ := hd
    have each : ∀ j ∈ Region.ready .any ops listed, j ∈ heads (.alt i t u) := fun j hj => by
      have hr := (hL.ready j).1 hj
      exact altF_ok _ hall j (rdy_lt hr) hr
    have step : ∀ j ∈ Region.ready .any ops listed, wpOp P ops Q j (wpAny P .any ops Q n (listed.setIfInBounds j true)) a w := fun j hj => by
      have hil : j < ops.size := rdy_lt ((hL.ready j).1 hj)
      obtain ⟨t', o, ho, hc, hk'⟩ := alts_ok _ hd2 hk j (each j hj)
      exact reg_step hT hE ho hin h hN hk' (fun σ' a' w' g' e1 e2 e3 => reg_any hT hE hin hsel hQ n t' _ _ (hL.set hil (fun k => by rw [lor_bit, pow_bit])) hc e1 (by omega) (by simpa [regK] using e3) (fun σ'' a'' w'' g'' f1 f2 f3 => hK σ'' a'' w'' g'' f1 (by omega) f3))
    refine ⟨fun hr => ?_, step⟩
    obtain ⟨x, _, hx⟩ := List.any_eq_true.1 hany
    have : x ∈ Region.ready .any ops listed := (hL.ready x).2 hx
    rw [hr] at this; cases this
  | n + 1, .st i t, m, listed, σ, a, w, g, hL, hd, h, hN, hk, hK => by
    simp only [chk, Bool.false_or, Bool.and_eq_true] at hd
    obtain ⟨⟨hr0, hs⟩, hd⟩ := hd
    have hr : i ∈ Region.ready .any ops listed := (hL.ready i).2 hr0
    have hil0 : i < ops.size := rdy_lt hr0
    have hL' : Lst ops (Nat.lor m (Nat.pow 2 i)).testBit (listed.setIfInBounds i true) := hL.set hil0 (fun k => by rw [lor_bit, pow_bit])
    obtain ⟨hiun, oi, hi, hall⟩ := mem_ready.1 hr
    have hil : ops.toList[i]? = some oi := by simpa using hi
    simp only [regO, hil] at hk
    obtain ⟨D, d1, d2, d3⟩ := okF_spec hL hs
    have d3 := d3 oi hi
    have ho : OpIn X.N oi := hin oi (by have := Array.mem_of_getElem? hi; simpa using this)
    have next : ∀ σ' a' w' g', Rel X σ' a' w' g' → σ'.length = σ.length → regK T env ops.toList [] σ' (fun σ1 => regO T env ops.toList t σ1 k) = some r → wpAny P .any ops Q n (listed.setIfInBounds i true) a' w' := by
      intro σ' a' w' g' e1 e2 e3
      exact reg_any hT hE hin hsel hQ n t _ _ hL' hd e1 (by omega) (by simpa [regK] using e3) (fun σ'' a'' w'' g'' f1 f2 f3 => hK σ'' a'' w'' g'' f1 (by omega) f3)
    have hsel' := Region.noSelect_spec hsel
    cases hp : pureOp oi.op with
    | true =>
      have key : ∃ v, YI P ops (fun _ => True) oi v a ∧ wpAny P .any ops Q n (listed.setIfInBounds i true) (a.put oi.dst v) w := by
        rcases guard_ok hin ho h hN hk with ⟨h1, h2⟩ | ⟨h1, σ1, g1, h2, h3, h4⟩
        · obtain ⟨v, v1, v2⟩ := op_pure (K := fun a' w' => wpAny P .any ops Q n (listed.setIfInBounds i true) a' w') hT hp h hN ho h2 next
          exact ⟨v, .inl ⟨h1, fun w _ => v1 w⟩, v2⟩
        · exact ⟨undef, .inr ⟨h1, rfl⟩, next _ _ _ _ h2 h3 h4⟩
      obtain ⟨v, v1, v2⟩ := key
      exact any_first hi d1 hsel' hQ n listed a w (fun j oj hj hne hD hun => ⟨(d3 j oj hj hne hD hun).1, .inl fun _ => trivial⟩) d2 hr trivial v1 v2
    | false =>
      cases hl : loadOp oi.op with
      | true =>
        have key : ∃ v, YI P ops (ExtW w) oi v a ∧ wpAny P .any ops Q n (listed.setIfInBounds i true) (a.put oi.dst v) w := by
          rcases guard_ok hin ho h hN hk with ⟨h1, h2⟩ | ⟨h1, σ1, g1, h2, h3, h4⟩
          · obtain ⟨d, op, ty, pos, aft, gd⟩ := oi
            cases op <;> simp only [loadOp, Bool.false_eq_true] at hl
            case load =>
              obtain ⟨v, v1, v2⟩ := op_load1 (K := fun a' w' => wpAny P .any ops Q n (listed.setIfInBounds i true) a' w') hT h hN ho h2 next
              exact ⟨v, .inl ⟨h1, v1⟩, v2⟩
            case convert =>
              obtain ⟨v, v1, v2⟩ := (op_convert (T := T) (env := env) (K := fun a' w' => wpAny P .any ops Q n (listed.setIfInBounds i true) a' w') hT h hN ho (by simpa only [opK] using h2) next).2
              exact ⟨v, .inl ⟨h1, v1⟩, v2⟩
          · exact ⟨undef, .inr ⟨h1, rfl⟩, next _ _ _ _ h2 h3 h4⟩
        obtain ⟨v, v1, v2⟩ := key
        refine any_first hi d1 hsel' hQ n listed a w (fun j oj hj hne hD hun => ?_) d2 hr (ExtW.refl w) v1 v2
        obtain ⟨c1, c2⟩ := d3 j oj hj hne hD hun
        refine ⟨c1, .inr ⟨?_, fun w1 w2 e1 e2 => e1.trans e2⟩⟩
        rcases c2 with c2 | c2
        · rw [hp] at c2; cases c2
        · exact c2.2
      | false =>
        refine any_only d1 hr d2 (fun j oj hj hne hD => ?_) (reg_step hT hE hi hin h hN hk next)
        cases hun : listed.getD j true with
        | true => rfl
        | false =>
          obtain ⟨_, c2⟩ := d3 j oj hj hne hD hun
          rw [hp, hl] at c2
          rcases c2 with c2 | c2
          · cases c2
          · cases c2.1
termination_by n => n
decreasing_by all_goals omega
end
end Go.Ev
namespace Go.Ev
set_option linter.unusedVariables false
set_option linter.unusedSimpArgs false
theorem length_coer (os : List (Nat × TypeId × Ty)) : ∀ (ls : List Leaf) (i : Nat), (coer os i ls).length = ls.length
  | [], _ => rfl
  | l :: ls, i => by cases l <;> simp [coer, length_coer os ls (i + 1)]
theorem lget_coer (os : List (Nat × TypeId × Ty)) : ∀ (ls : List Leaf) (i j : Nat), lget (coer os i ls) j = match lget ls j with
    | .nils => (match os.lookup (i + j) with | some e => .own e.1 e.2 [] | none => .nils)
    | l => l
  | [], i, j => by simp [coer, lget]
  | l :: ls, i, 0 => by cases l <;> simp [coer, lget] <;> rfl
  | l :: ls, i, j + 1 => by
    have := lget_coer os ls (i + 1) j
    rw [show i + 1 + j = i + (j + 1) from by omega] at this
    cases l <;> simpa [coer, lget] using this
theorem gsT_scrubK (keep : Keep) (σ : St) : ∀ (l : Keep) (t : Nat), gsT (scrubK keep σ l) t = match l.lookup t with
    | some os => (gs σ t).with (coer os 0 ((gs σ t).leaves.map (dropL keep)))
    | none => nones
  | [], t => rfl
  | (u, os) :: l, t => by
    show gsT (ssT (scrubK keep σ l) u ((gs σ u).with (coer os 0 ((gs σ u).leaves.map (dropL keep))))) t = _
    rw [gsT_ssT, gsT_scrubK keep σ l t]
    by_cases h : u = t
    · subst h
      simp [List.lookup]
    · have : (t == u) = false := beq_eq_false_iff_ne.2 (fun e => h e.symm)
      simp [List.lookup, h, this]
theorem gs_scrub0 (keep : Keep) (σ : St) (t : Nat) : gs (Ev.scrub0 keep σ) t = match keep.lookup t with
    | some os => (gs σ t).with (coer os 0 ((gs σ t).leaves.map (dropL keep)))
    | none => nones := by
  have e : gs (Ev.scrub0 keep σ) t = if t < σ.length then gsT (scrubK keep σ keep) t else nones := gs_if (Ev.scrub0 keep σ) t
  rw [e, gsT_scrubK]
  by_cases h : t < σ.length
  · rw [if_pos h]
  · rw [if_neg h, gs_of_le (by omega)]
    cases keep.lookup t with
    | none => rfl
    | some os => rfl
@[simp] theorem length_scrub0 (keep : Keep) (σ : St) : (Ev.scrub0 keep σ).length = σ.length := rfl
section
variable {P : Program} {T : TypeId → Option TI} {env : Env} {X : Ctx} {σ : St} {a : Act} {w : World} {g : Gh} {A : Type} {r : A} {k : St → Option A} {K : Act → World → Prop} {Q : Exit → Act → World → Prop}
theorem Rel.scrub0 (keep : Keep) (h : Rel X σ a w g) : ∃ g', Rel X (Ev.scrub0 keep σ) a w g' := by
  obtain ⟨c', hc1, hc2⟩ : ∃ c' : Pl → Value, (∀ p : Pl, (keep.lookup p.t).isSome = true → c' p = g.c p) ∧ ∀ p : Pl, (keep.lookup p.t).isSome = false → c' p = a.tmps.getD p.t undef :=
    ⟨fun p => if (keep.lookup p.t).isSome then g.c p else a.tmps.getD p.t undef, fun p hp => by simp [hp], fun p hp => by simp [hp]⟩
  have hgs : ∀ t, gs (Ev.scrub0 keep σ) t = match keep.lookup t with
      | some os => (gs σ t).with (coer os 0 ((gs σ t).leaves.map (dropL keep)))
      | none => nones := gs_scrub0 keep σ
  have hshp : ∀ t, (keep.lookup t).isSome = true → (gs (Ev.scrub0 keep σ) t).shp = (gs σ t).shp := fun t ht => by
    obtain ⟨os, ho⟩ := Option.isSome_iff_exists.1 ht
    rw [hgs t, ho]
    exact shp_with _ _ (by rw [length_coer]; simp)
  have hno : ∀ t, (keep.lookup t).isSome = false → gs (Ev.scrub0 keep σ) t = nones := fun t ht => by
    rw [hgs t]
    cases hk : keep.lookup t with
    | none => rfl
    | some os => rw [hk] at ht; cases ht
  have hgl : ∀ p : Pl, (keep.lookup p.t).isSome = true → gl (Ev.scrub0 keep σ) p = dropL keep (gl σ p) ∨ (gl σ p = .nils ∧ ∃ te e, gl (Ev.scrub0 keep σ) p = .own te e []) := fun p hp => by
    obtain ⟨os, ho⟩ := Option.isSome_iff_exists.1 hp
    have e1 : gl (Ev.scrub0 keep σ) p = lget (coer os 0 ((gs σ p.t).leaves.map (dropL keep))) p.i := by
      unfold gl
      rw [hgs p.t, ho]
      simp only [leaves_with]
    rw [e1, lget_coer, lget_map _ rfl]
    show _ ∨ _
    rw [show lget (gs σ p.t).leaves p.i = gl σ p from rfl]
    have dn : ∀ l, l ≠ .nils → dropL keep l ≠ .nils := by
      intro l h
      cases l <;> simp only [dropL] <;> first | exact absurd rfl h | (split <;> simp) | simp
    have mn : ∀ l : Leaf, l ≠ .nils → (match l with | .nils => (match os.lookup (0 + p.i) with | some e => Leaf.own e.1 e.2 [] | none => .nils) | l => l) = l := by
      intro l h
      cases l <;> first | rfl | exact absurd rfl h
    by_cases hz : gl σ p = .nils
    · rw [hz]
      simp only [dropL]
      cases os.lookup (0 + p.i) with
      | none => exact .inl rfl
      | some e => exact .inr ⟨trivial, _, _, rfl⟩
    · exact .inl (mn _ (dn _ hz))
  have hgl0 : ∀ p : Pl, (keep.lookup p.t).isSome = false → gl (Ev.scrub0 keep σ) p = .und := fun p hp => by
    unfold gl
    rw [hno p.t hp]
    cases p.i <;> rfl
  have hbox : ∀ t, (keep.lookup t).isSome = true → isBox σ t → isBox (Ev.scrub0 keep σ) t := fun t ht hb => by
    unfold isBox; rw [hshp t ht]; exact hb
  have hrow : ∀ (q : Pl) (e : Ty) (n : Nat), (keep.lookup q.t).isSome = true → rowTy (gl σ q) = some (e, n) → rowTy (gl (Ev.scrub0 keep σ) q) = some (e, n) := fun q e n hq ho => by
    rcases hgl q hq with e1 | ⟨e1, _⟩
    · rw [e1, ← ho]
      cases gl σ q <;> simp only [dropL] <;> first | rfl | (split <;> rfl)
    · rw [e1] at ho; cases ho
  have hown : ∀ q : Pl, (keep.lookup q.t).isSome = true → (gl σ q).isOwn = true → (gl (Ev.scrub0 keep σ) q).isOwn = true := fun q hq ho => by
    obtain ⟨e, n, hx⟩ := isOwn_iff.1 ho
    exact rowTy_own (hrow q e n hq hx)
  have hLR : ∀ l v, LR σ w g l v → LR (Ev.scrub0 keep σ) w ⟨g.S, c', g.blk, g.vc⟩ (dropL keep l) v := by
    intro l v hl
    cases l with
    | al q =>
      simp only [dropL]
      split
      · rename_i hq
        exact ⟨by rw [hl.1]; exact (hc1 q hq).symm, hown q hq hl.2⟩
      · trivial
    | ptr b o =>
      simp only [dropL]
      split
      · rename_i hb; exact ⟨hl.1, hbox b hb hl.2⟩
      · trivial
    | clo f bs =>
      simp only [dropL]
      split
      · rename_i hb
        exact ⟨hl.1, fun b hm => hbox b (List.all_eq_true.1 hb b hm) (hl.2 b hm)⟩
      · trivial
    | ept => trivial
    | vpt => trivial
    | hol te e xs i q =>
      refine LR_holF (σ := σ) (g := g) (fun _ h => h) (fun _ _ => rfl) (fun _ _ => rfl) (fun r _ hf => ?_) hl
      have hr : (keep.lookup r.t).isSome = true := by
        cases hk : keep.lookup r.t with
        | some _ => rfl
        | none => rw [hk] at hf; cases hf
      exact ⟨hc1 r hr, fun n hn => ⟨n, hrow r e n hr hn⟩⟩
    | val t x => exact hl
    | own te e xs => exact hl
    | nils => exact hl
    | cst u => exact hl
    | no => exact hl
    | und => trivial
  have hob : ∀ o b, ob (Ev.scrub0 keep σ) ⟨g.S, c', g.blk, g.vc⟩ o = some b → ob σ g o = some b := by
    intro o b hb
    cases o with
    | inl t =>
      cases hk : (keep.lookup t).isSome with
      | true => simpa [ob, hshp t hk] using hb
      | false => simp [ob, hno t hk, nones, Slot.shp, Shp.isBox] at hb
    | inr p =>
      cases hk : (keep.lookup p.t).isSome with
      | false => simp [ob, hgl0 p hk, Leaf.isOwn] at hb
      | true =>
        simp only [ob] at hb ⊢
        rw [hc1 p hk] at hb
        rcases hgl p hk with e1 | ⟨e1, te, e, e2⟩
        · rw [e1] at hb
          have : (dropL keep (gl σ p)).isOwn = (gl σ p).isOwn := by
            cases gl σ p <;> simp only [dropL] <;> first | rfl | (split <;> rfl)
          rw [this] at hb
          exact hb
        · have hv := h.lf p
          rw [e1] at hv
          rw [e2, show g.c p = .slice none 0 0 from hv] at hb
          simp [Leaf.isOwn, Value.ownBlock] at hb
  refine ⟨⟨g.S, c', g.blk, g.vc⟩, { h with
    sh := fun t ht => ?_
    lf := fun p => ?_
    inj := fun o1 o2 b h1 h2 => h.inj _ _ b (hob _ _ h1) (hob _ _ h2)
    fr := fun o b hb => h.fr o b (hob _ _ hb) }⟩
  · have ht' : t < σ.length := by simpa using ht
    cases hk : (keep.lookup t).isSome with
    | false =>
      rw [hno t hk]
      exact ⟨rfl, (hc2 ⟨t, 0⟩ hk).symm⟩
    | true =>
      rw [hshp t hk]
      have := h.sh t ht'
      have hcl : ∀ n, cellsL ⟨g.S, c', g.blk, g.vc⟩ t n = cellsL g t n := fun n => by
        simp only [cellsL]
        exact List.map_congr_left (fun i _ => hc1 ⟨t, i⟩ hk)
      revert this
      cases (gs σ t).shp with
      | cs ag n =>
        cases ag with
        | false =>
          rintro ⟨h1, h2⟩
          refine ⟨h1, ?_⟩
          show _ = c' ⟨t, 0⟩
          rw [hc1 ⟨t, 0⟩ hk]; exact h2
        | true => intro h1; show _ = _; rw [hcl]; exact h1
      | box n => rintro ⟨h1, h2⟩; exact ⟨h1, by rw [hcl]; exact h2⟩
      | tup ks n =>
        rintro ⟨vs, h1, h2⟩
        exact ⟨vs, h1, by rw [hcl]; exact h2⟩
      | itr s i n => exact id
      | vb n => rintro ⟨h1, h2⟩; exact ⟨h1, by show c' ⟨t, 0⟩ = _; rw [hc1 ⟨t, 0⟩ hk]; exact h2⟩
  · cases hk : (keep.lookup p.t).isSome with
    | false => rw [hgl0 p hk]; trivial
    | true =>
      show LR _ _ _ _ (c' p)
      rw [hc1 p hk]
      rcases hgl p hk with e1 | ⟨e1, te, e, e2⟩
      · rw [e1]; exact hLR _ _ (h.lf p)
      · have hv := h.lf p
        rw [e1] at hv
        rw [e2, show g.c p = .slice none 0 0 from hv]
        exact ownR_nil _ _ _ _
/-- A condition's number. -/
theorem stlK_ok (keep : Keep) (t : Nat) : ∀ (ls : List Leaf) (i : Nat) {σ : St} {g : Gh}, Rel X σ a w g → ∃ g', Rel X (stlK keep t i ls σ) a w g' ∧ (stlK keep t i ls σ).length = σ.length
  | [], _, σ, g, h => ⟨g, h, rfl⟩
  | l :: ls, i, σ, g, h => by
    by_cases hl : ∃ te e, ∃ xs : List (List e.den), ∃ j q, l = .hol te e xs j (some q)
    · obtain ⟨te, e, xs, j, q, rfl⟩ := hl
      simp only [stlK]
      split
      · exact stlK_ok keep t ls (i + 1) h
      · obtain ⟨g1, h1, _⟩ := h.stl ⟨t, i⟩
        obtain ⟨g2, h2, h3⟩ := stlK_ok keep t ls (i + 1) h1
        exact ⟨g2, h2, by rw [h3, length_stl]⟩
    · have e : stlK keep t i (l :: ls) σ = stlK keep t (i + 1) ls σ := by
        cases l with
        | hol te e xs j q =>
          cases q with
          | none => rfl
          | some q => exact absurd ⟨_, _, _, _, _, rfl⟩ hl
        | _ => rfl
      rw [e]
      exact stlK_ok keep t ls (i + 1) h
theorem stlS_ok (keep : Keep) : ∀ (l : Keep) {σ : St} {g : Gh}, Rel X σ a w g → ∃ g', Rel X (stlS keep l σ) a w g' ∧ (stlS keep l σ).length = σ.length
  | [], σ, g, h => ⟨g, h, rfl⟩
  | e :: l, σ, g, h => by
    obtain ⟨g1, h1, h2⟩ := stlK_ok keep e.1 (gs σ e.1).leaves 0 h
    obtain ⟨g2, h3, h4⟩ := stlS_ok keep l h1
    exact ⟨g2, h3, by show (stlS keep l _).length = _; rw [h4, h2]⟩
theorem Rel.scrub (hot : Bool) (keep : Keep) (h : Rel X σ a w g) : ∃ g', Rel X (Ev.scrub hot keep σ) a w g' ∧ (Ev.scrub hot keep σ).length = σ.length := by
  cases hot with
  | true =>
    obtain ⟨g1, h1, h2⟩ := stlS_ok keep keep h
    obtain ⟨g2, h3⟩ := h1.scrub0 keep
    exact ⟨g2, h3, by show (Ev.scrub0 keep _).length = _; rw [length_scrub0, h2]⟩
  | false =>
    obtain ⟨g2, h3⟩ := h.scrub0 keep
    exact ⟨g2, h3, length_scrub0 keep σ⟩
theorem cond_ok {c : Operand} {v : Bool} (h : Rel X σ a w g) (hN : X.N ≤ σ.length) (hc : ∀ t, c = .tmp t → t < X.N) (hr : rd1 σ c = .val .bool v) : a.eval c = .bool v ∧ ∀ t, c = .tmp t → know σ t v = σ := by
  have hx := rd1_ok h hN c hc
  rw [hr] at hx
  refine ⟨LR_bool hx, fun t ht => ?_⟩
  subst ht
  have hsh := h.sh t (Nat.lt_of_lt_of_le (hc t rfl) hN)
  simp only [rd1, rd] at hr
  cases hg : gs σ t with
  | cs ag ls =>
    rw [hg] at hr hsh
    cases ag with
    | true => simp at hr
    | false =>
      obtain ⟨l, hl⟩ := List.length_eq_one_iff.1 (show ls.length = 1 from hsh.1)
      subst hl
      apply know_id
      rw [hg]
      cases l <;> simp [view, lget] at hr
      obtain ⟨e1, e2⟩ := hr
      subst e1
      simp at e2
      subst e2
      rfl
  | box ls => rw [hg] at hr; simp [lget] at hr
  | tup ks ls => rw [hg] at hr; simp [lget] at hr
  | itr s i ls => rw [hg] at hr; simp [lget] at hr
  | vb ls => rw [hg] at hr; simp [lget] at hr
theorem exec_ok (hT : TOk P T) (hE : EnvOk P env) (hm : P.follows .mixedOrders = true) {os : RegT} {n : Nat} : ∀ (c : Code) (hs : List Keep) {Q : Exit → Act → World → Prop} {kn : St → Option A} {kx : Nat → St → Option A} {kr : St → Option A} {σ : St} {a : Act} {w : World} {g : Gh},
    codeOk os X.N c = true → Rel X σ a w g → X.N ≤ σ.length → exec T env os n c hs σ kn kx kr = some r →
    (∀ σ' a' w' g', Rel X σ' a' w' g' → σ'.length = σ.length → kn σ' = some r → Q .normal a' w') →
    (∀ i σ' a' w' g', Rel X σ' a' w' g' → σ'.length = σ.length → kx i σ' = some r → Q (.exit i) a' w') →
    (∀ σ' a' w' g', Rel X σ' a' w' g' → σ'.length = σ.length → kr σ' = some r → Q .ret a' w') → c.wp P Q a w
  | .skip, hs, Q, kn, kx, kr, σ, a, w, g, hc, h, hN, hk, hn, hx, hr => wp_skip (hn σ a w g h rfl hk)
  | .exit i, hs, Q, kn, kx, kr, σ, a, w, g, hc, h, hN, hk, hn, hx, hr => wp_exit (hx i σ a w g h rfl hk)
  | .ret, hs, Q, kn, kx, kr, σ, a, w, g, hc, h, hN, hk, hn, hx, hr => wp_ret (hr σ a w g h rfl hk)
  | .seq x y, hs, Q, kn, kx, kr, σ, a, w, g, hc, h, hN, hk, hn, hx, hr => by
    simp only [codeOk, Bool.and_eq_true] at hc
    refine wp_seq (exec_ok hT hE hm x hs hc.1 h hN hk (fun σ1 a1 w1 g1 e1 e2 e3 => ?_) hx hr)
    exact exec_ok hT hE hm y _ hc.2 e1 (by omega) e3 (fun σ2 a2 w2 g2 f1 f2 f3 => hn _ _ _ _ f1 (by omega) f3) (fun i σ2 a2 w2 g2 f1 f2 f3 => hx i _ _ _ _ f1 (by omega) f3) (fun σ2 a2 w2 g2 f1 f2 f3 => hr _ _ _ _ f1 (by omega) f3)
  | .block id b, hs, Q, kn, kx, kr, σ, a, w, g, hc, h, hN, hk, hn, hx, hr => by
    refine wp_block (exec_ok hT hE hm b hs hc h hN hk (fun σ1 a1 w1 g1 e1 e2 e3 => hn _ _ _ _ e1 e2 e3) (fun i σ1 a1 w1 g1 e1 e2 e3 => ?_) (fun σ1 a1 w1 g1 e1 e2 e3 => hr _ _ _ _ e1 e2 e3))
    show if i = id then _ else _
    split
    · rename_i hi; rw [if_pos hi] at e3; exact hn _ _ _ _ e1 e2 e3
    · rename_i hi; rw [if_neg hi] at e3; exact hx _ _ _ _ _ e1 e2 e3
  | .cond c x y, hs, Q, kn, kx, kr, σ, a, w, g, hc, h, hN, hk, hn, hx, hr => by
    simp only [codeOk, Bool.and_eq_true] at hc
    obtain ⟨⟨c1, c2⟩, c3⟩ := hc
    simp only [exec] at hk
    split at hk
    rotate_left
    · cases hk
    rename_i v hv
    obtain ⟨q1, q2⟩ := cond_ok h hN (fun t ht => by subst ht; simpa using c1) hv
    refine wp_cond q1 ?_
    have hk2 : bcond v (exec T env os n x hs σ kn kx kr) (exec T env os n y (hs.drop (nloops x)) σ kn kx kr) = some r := by
      cases c with
      | tmp t =>
        simp only at hk
        have := q2 t rfl
        cases v with
        | true => simp only [bcond] at hk ⊢; rw [this] at hk; exact hk
        | false => simp only [bcond] at hk ⊢; rw [this] at hk; exact hk
      | _ => exact hk
    cases v with
    | true => exact exec_ok hT hE hm x hs c2 h hN hk2 hn hx hr
    | false => exact exec_ok hT hE hm y _ c3 h hN hk2 hn hx hr
  | .loop b, hs, Q, kn, kx, kr, σ, a, w, g, hc, h, hN, hk, hn, hx, hr => by
    simp only [exec] at hk
    obtain ⟨g0, h0, h0l⟩ := h.scrub os.hot (hs.headD [])
    refine wp_loop_ghost (fun m a' w' => ∃ σ' g', Rel X σ' a' w' g' ∧ σ'.length = σ.length ∧ loopK (fun σ k => exec T env os n b hs.tail σ k kx kr) os.hot (hs.headD []) m σ' = some r) n ⟨_, g0, h0, h0l, hk⟩ ?_
    rintro m a1 w1 ⟨σ1, g1, e1, e2, e3⟩
    cases m with
    | zero => simp [loopK] at e3
    | succ m =>
      simp only [loopK] at e3
      refine exec_ok hT hE hm b _ hc e1 (by omega) e3 (fun σ2 a2 w2 g2 f1 f2 f3 => ?_) (fun i σ2 a2 w2 g2 f1 f2 f3 => hx i _ _ _ _ f1 (by omega) f3) (fun σ2 a2 w2 g2 f1 f2 f3 => hr _ _ _ _ f1 (by omega) f3)
      obtain ⟨g3, h3, h3l⟩ := f1.scrub os.hot (hs.headD [])
      exact ⟨m, Nat.lt_succ_self m, _, g3, h3, by omega, f3⟩
  | .region id ops draw, hs, Q, kn, kx, kr, σ, a, w, g, hc, h, hN, hk, hn, hx, hr => by
    simp only [codeOk, Bool.and_eq_true] at hc
    obtain ⟨c1, c2⟩ := hc
    have hin : ∀ q ∈ ops.toList, OpIn X.N q := fun q hq => opIn_ok (List.all_eq_true.1 c1 q hq)
    have fin : ∀ {σ : St} {g : Gh}, Rel X σ a w g → X.N ≤ σ.length → regX T env os id ops draw σ kn = some r → (Code.region id ops draw).wp P (fun e a' w' => e = .normal ∧ ∃ σ' g', Rel X σ' a' w' g' ∧ σ'.length = σ.length ∧ kn σ' = some r) a w := by
      intro σ g h hN hk
      unfold regX at hk
      cases draw with
      | false =>
        refine wp_region ?_
        have := reg_lex (Q := fun e a' w' => e = .normal ∧ ∃ σ' g', Rel X σ' a' w' g' ∧ σ'.length = σ.length ∧ kn σ' = some r) hT hE hin ops.toList 0 rfl h hN hk (fun σ' a' w' g' e1 e2 e3 => ⟨rfl, σ', g', e1, e2, e3⟩)
        rw [← List.range_eq_range'] at this
        simpa using this
      | true =>
        simp only at c2 hk
        cases hl : os.os.lookup id with
        | none => rw [hl] at hk; cases hk
        | some t =>
          rw [hl] at hk c2
          simp only [Bool.and_eq_true] at c2
          obtain ⟨d1, d3⟩ := c2
          refine wp_region_any hm ?_
          have h1 : Rel X σ a { w with drawn := w.drawn + 1 } g := h.below ⟨rfl, rfl, rfl, Nat.le_refl _, fun _ _ => rfl⟩ (Nat.le_succ _)
          have := reg_any (Q := fun e a' w' => e = .normal ∧ ∃ σ' g', Rel X σ' a' w' g' ∧ σ'.length = σ.length ∧ kn σ' = some r) hT hE hin d1 (fun c a w hq => by cases hq.1) ops.size t 0 _ (Lst.zero ops) d3 h1 hN hk (fun σ' a' w' g' e1 e2 e3 => ⟨rfl, σ', g', e1, e2, e3⟩)
          exact this
    simp only [exec] at hk
    cases hj : os.js.lookup id with
    | none =>
      rw [hj] at hk
      refine wp_mono (fin h hN hk) (fun e a' w' hq => ?_)
      obtain ⟨rfl, σ', g', e1, e2, e3⟩ := hq
      exact hn σ' a' w' g' e1 e2 e3
    | some keep =>
      rw [hj] at hk
      obtain ⟨g1, h1, h1l⟩ := h.scrub os.hot keep
      refine wp_mono (fin h1 (by rw [h1l]; exact hN) hk) (fun e a' w' hq => ?_)
      obtain ⟨rfl, σ', g', e1, e2, e3⟩ := hq
      exact hn σ' a' w' g' e1 (by rw [e2, h1l]) e3
  | .rangeFunc _ _ _ _, hs, Q, kn, kx, kr, σ, a, w, g, hc, h, hN, hk, hn, hx, hr => by simp [exec] at hk
  | .scope _, hs, Q, kn, kx, kr, σ, a, w, g, hc, h, hN, hk, hn, hx, hr => by simp [exec] at hk
  | .label _, hs, Q, kn, kx, kr, σ, a, w, g, hc, h, hN, hk, hn, hx, hr => by simp [exec] at hk
  | .goto _, hs, Q, kn, kx, kr, σ, a, w, g, hc, h, hN, hk, hn, hx, hr => by simp [exec] at hk
  | .refuse _, hs, Q, kn, kx, kr, σ, a, w, g, hc, h, hN, hk, hn, hx, hr => by simp [exec] at hk
end
end Go.Ev
