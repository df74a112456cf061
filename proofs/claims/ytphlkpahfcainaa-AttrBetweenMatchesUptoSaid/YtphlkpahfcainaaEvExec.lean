/- Code: what it is told is what it does. -/
import Derived.Test.YtphlkpahfcainaaEvReg
import Derived.Deep.LoopGhost
namespace Go.Ev
set_option linter.unusedVariables false
set_option linter.unusedSimpArgs false

/-! ### What is checked once of the code -/

def opIn (N : Nat) (o : Oper) : Bool := (match o.dst with
  | some d => decide (d < N)
  | none => true) && o.op.operands.toList.all fun x => match x with
    | .tmp t => decide (t < N)
    | _ => true
theorem opIn_ok {N : Nat} {o : Oper} (h : opIn N o = true) : OpIn N o := by
  simp only [opIn, Bool.and_eq_true] at h
  refine ⟨fun d hd => ?_, fun x hx t ht => ?_⟩
  · rw [hd] at h; simpa using h.1
  · have := List.all_eq_true.1 h.2 x (by simpa using hx)
    subst ht
    simpa using this

def depsFrom (l : List Oper) (i : Nat) : List Oper → Nat → List Nat → List Nat
  | [], _, D => D
  | o :: os, j, D => depsFrom l i os (j + 1) (if o.after.toList.any (fun e => Region.binds .any e && (e.on == i || D.contains e.on)) then j :: D else D)

/-- Operation `i` may be taken now. -/
def okStep (ops : Array Oper) (listed : Array Bool) (i : Nat) : Bool :=
  let D := depsFrom ops.toList i ops.toList 0 []
  depOk ops i D && D.all (fun j => !listed.getD j true) && (List.range ops.size).all fun j => j == i || listed.getD j true || D.contains j || match ops[i]?, ops[j]? with
    | some oi, some oj => oi.apart ops oj && (pureOp oi.op || loadOp oi.op && growOp oj.op)
    | _, _ => false

/-- Those that may come first. -/
def heads : Ord → List Nat
  | .nil => []
  | .st i _ => [i]
  | .alt i _ u => i :: heads u
/-- The orders cover every draw; `alts`: what follows is one of several ways. -/
def chk (ops : Array Oper) : Bool → Nat → Ord → Array Bool → Bool
  | alts, _, .nil, listed => alts || (Region.ready .any ops listed).isEmpty
  | alts, n + 1, .st i t, listed => (alts || ((Region.ready .any ops listed).contains i && okStep ops listed i)) && chk ops false n t (listed.setIfInBounds i true)
  | alts, n + 1, .alt i t u, listed => (alts || (!(Region.ready .any ops listed).isEmpty && (Region.ready .any ops listed).all fun j => (i :: heads u).contains j)) && chk ops false n t (listed.setIfInBounds i true) && chk ops true (n + 1) u listed
  | _, 0, _, _ => false

def codeOk (os : List (Nat × Ord)) (N : Nat) : Code → Bool
  | .region id ops draw => ops.toList.all (opIn N) && (match draw with
    | false => true
    | true => match os.lookup id with
      | some t => Region.noSelect ops && chk ops false ops.size t (Array.replicate ops.size false)
      | none => false)
  | .seq a b => codeOk os N a && codeOk os N b
  | .cond c a b => (match c with
    | .tmp t => decide (t < N)
    | _ => true) && codeOk os N a && codeOk os N b
  | .block _ b => codeOk os N b
  | .loop b => codeOk os N b
  | _ => true

/-! ### Slots -/

theorem ss_self : ∀ (σ : St) (t : Nat), ss σ t (gs σ t) = σ
  | [], _ => rfl
  | _ :: σ, 0 => rfl
  | s :: σ, t + 1 => by simp only [ss, gs]; rw [ss_self σ t]

section
variable {P : Program} {T : TypeId → Option TI} {env : Env} {X : Ctx} {σ : St} {a : Act} {w : World} {g : Gh} {A : Type} {r : A} {k : St → Option A} {K : Act → World → Prop} {Q : Exit → Act → World → Prop} {ops : Array Oper}

theorem know_id {t : Nat} {b : Bool} (h : gs σ t = .cs false [.val .bool b]) : know σ t b = σ := by
  unfold know
  rw [← h]
  exact ss_self σ t

/-- A guard tells whether an operation is wanted. -/
theorem guard_ok {o : Oper} {rest : List Oper} (hin : ∀ q ∈ ops.toList, OpIn X.N q) (ho : OpIn X.N o) (h : Rel X σ a w g) (hN : X.N ≤ σ.length) (hk : regK T env ops.toList (o :: rest) σ k = some r) :
    (Region.wanted o (yielded ops a.tmps) = true ∧ opK T env o σ (fun σ1 => regK T env ops.toList rest σ1 k) = some r) ∨
    (Region.wanted o (yielded ops a.tmps) = false ∧ ∃ σ1 g1, Rel X σ1 (a.put o.dst undef) w g1 ∧ σ1.length = σ.length ∧ regK T env ops.toList rest σ1 k = some r) := by
  have skip : ∀ σ1, σ1 = Ev.wr σ o.dst (.cs false [.no]) → ∃ g1, Rel X σ1 (a.put o.dst undef) w g1 ∧ σ1.length = σ.length := by
    intro σ1 e
    subst e
    cases hd : o.dst with
    | none => exact ⟨g, h, rfl⟩
    | some d =>
      obtain ⟨g1, h1, _⟩ := h.wr1 (ho.dst d hd) hN (l := .no) (v := undef) rfl rfl
      exact ⟨g1, h1, by simp⟩
  simp only [regK] at hk
  cases hg : o.guard with
  | none =>
    rw [hg] at hk
    exact .inl ⟨by simp [Region.wanted, hg], hk⟩
  | some jw =>
    obtain ⟨j, want⟩ := jw
    rw [hg] at hk
    simp only at hk
    cases hdo : dstOf ops.toList j with
    | none => rw [hdo] at hk; cases hk
    | some t =>
    rw [hdo] at hk
    simp only at hk
    obtain ⟨oj, hoj, hojd⟩ : ∃ oj, ops[j]? = some oj ∧ oj.dst = some t := by
      unfold dstOf at hdo
      split at hdo
      · rename_i oj hoj
        exact ⟨oj, by simpa using hoj, hdo⟩
      · cases hdo
    have ht : t < X.N := (hin oj (by
      have := Array.mem_of_getElem? hoj
      simpa using this)).dst t hojd
    have hyield : yielded ops a.tmps j = match a.tmps.getD t undef with | .bool b => some b | _ => none := by
      have hlt : t < a.tmps.size := by rw [h.size]; exact ht
      simp only [yielded, hoj, Option.bind_some, hojd]
      rw [Array.getElem?_eq_getElem hlt]
      simp [Array.getD, hlt]
      cases a.tmps[t] <;> rfl
    have hsh := h.sh t (Nat.lt_of_lt_of_le ht hN)
    split at hk
    · rename_i hgs
      have hno := h.lf ⟨t, 0⟩
      rw [hgs] at hsh
      unfold gl at hno
      simp only [hgs] at hno
      have hv : a.tmps.getD t undef = undef := hsh.2.trans hno
      refine .inr ⟨?_, ?_⟩
      · rw [hv] at hyield
        simp only [Region.wanted, hg, hyield]
        rfl
      · obtain ⟨g1, h1, h2⟩ := skip _ rfl
        exact ⟨_, g1, h1, h2, hk⟩
    · rename_i v hgs
      have hvl := h.lf ⟨t, 0⟩
      rw [hgs] at hsh
      unfold gl at hvl
      simp only [hgs] at hvl
      have hv : a.tmps.getD t undef = .bool v := hsh.2.trans (LR_bool hvl)
      have hw : Region.wanted o (yielded ops a.tmps) = (v == want) := by
        rw [hv] at hyield
        simp only [Region.wanted, hg, hyield]
        cases v <;> cases want <;> rfl
      cases hvw : (v == want) with
      | true =>
        rw [hvw] at hk
        have e : v = want := by simpa using hvw
        subst e
        simp only [bcond, know_id hgs] at hk
        exact .inl ⟨by rw [hw, hvw], hk⟩
      | false =>
        rw [hvw] at hk
        have e : (!want) = v := by cases v <;> cases want <;> simp_all
        simp only [bcond] at hk
        rw [e, know_id hgs] at hk
        refine .inr ⟨by rw [hw, hvw], ?_⟩
        obtain ⟨g1, h1, h2⟩ := skip _ rfl
        exact ⟨_, g1, h1, h2, hk⟩
    · cases hk

/-- One operation of a region. -/
theorem reg_step (hT : TOk P T) (hE : EnvOk P env) {i : Nat} {o : Oper} {rest : List Oper} (hi : ops[i]? = some o) (hin : ∀ q ∈ ops.toList, OpIn X.N q) (h : Rel X σ a w g) (hN : X.N ≤ σ.length) (hk : regK T env ops.toList (o :: rest) σ k = some r)
    (hK : ∀ σ' a' w' g', Rel X σ' a' w' g' → σ'.length = σ.length → regK T env ops.toList rest σ' k = some r → K a' w') : wpOp P ops Q i K a w := by
  have ho : OpIn X.N o := hin o (by have := Array.mem_of_getElem? hi; simpa using this)
  unfold wpOp
  simp only [hi]
  rcases guard_ok hin ho h hN hk with ⟨h1, h2⟩ | ⟨h1, σ1, g1, h2, h3, h4⟩
  · rw [if_pos h1]
    exact .inl (op_sound hT hE h hN ho h2 (fun σ' a' w' g' e1 e2 e3 => hK σ' a' w' g' e1 e2 e3))
  · rw [if_neg (by rw [h1]; simp)]
    exact hK _ _ _ _ h2 h3 h4

theorem reg_lex (hT : TOk P T) (hE : EnvOk P env) (hin : ∀ q ∈ ops.toList, OpIn X.N q) : ∀ (rest : List Oper) (i : Nat) {σ : St} {a : Act} {w : World} {g : Gh}, ops.toList.drop i = rest → Rel X σ a w g → X.N ≤ σ.length → regK T env ops.toList rest σ k = some r →
    (∀ σ' a' w' g', Rel X σ' a' w' g' → σ'.length = σ.length → k σ' = some r → Q .normal a' w') → wpOps P ops Q (List.range' i rest.length) a w
  | [], i, σ, a, w, g, hd, h, hN, hk, hK => by
    exact hK σ a w g h rfl hk
  | o :: rest, i, σ, a, w, g, hd, h, hN, hk, hK => by
    have hi : ops[i]? = some o := by
      have := congrArg (fun l => l[0]?) hd
      simpa using this
    rw [List.length_cons, List.range'_succ, wpOps_cons]
    refine reg_step hT hE hi hin h hN hk (fun σ' a' w' g' e1 e2 e3 => ?_)
    refine reg_lex hT hE hin rest (i + 1) ?_ e1 (by omega) e3 (fun σ'' a'' w'' g'' f1 f2 f3 => hK σ'' a'' w'' g'' f1 (by omega) f3)
    rw [← List.drop_drop, hd]
    rfl

theorem okStep_spec {listed : Array Bool} {i : Nat} (h : okStep ops listed i = true) : ∃ D, depOk ops i D = true ∧ (∀ j ∈ D, listed.getD j true = false) ∧
    ∀ oi, ops[i]? = some oi → ∀ j oj, ops[j]? = some oj → j ≠ i → j ∉ D → listed.getD j true = false → oi.apart ops oj = true ∧ (pureOp oi.op = true ∨ (loadOp oi.op = true ∧ growOp oj.op = true)) := by
  simp only [okStep, Bool.and_eq_true] at h
  obtain ⟨⟨h1, h2⟩, h3⟩ := h
  refine ⟨_, h1, fun j hj => by simpa using List.all_eq_true.1 h2 j hj, fun oi hi j oj hj hne hD hun => ?_⟩
  have hlt : j < ops.size := (Array.getElem?_eq_some_iff.1 hj).1
  have := List.all_eq_true.1 h3 j (by simpa using hlt)
  simp only [hi, hj, hun, Bool.or_eq_true, beq_iff_eq, hne, false_or, Bool.false_eq_true, List.contains_iff_mem, Bool.and_eq_true] at this
  rcases this with this | ⟨t1, t2⟩
  · exact absurd this hD
  · exact ⟨t1, t2⟩

/-- Each of several ways. -/
theorem alts_ok {n : Nat} {listed : Array Bool} : ∀ (u : Ord), chk ops true (n + 1) u listed = true → regO T env ops.toList u σ k = some r → ∀ j ∈ heads u, ∃ t o, ops[j]? = some o ∧ chk ops false n t (listed.setIfInBounds j true) = true ∧ regK T env ops.toList [o] σ (fun σ1 => regO T env ops.toList t σ1 k) = some r
  | .nil, _, _, j, hj => by simp [heads] at hj
  | .st i t, hc, hk, j, hj => by
    simp only [heads, List.mem_singleton] at hj
    subst hj
    simp only [chk, Bool.true_or, Bool.true_and] at hc
    simp only [regO] at hk
    cases ho : ops.toList[j]? with
    | none => rw [ho] at hk; cases hk
    | some o => rw [ho] at hk; exact ⟨t, o, by simpa using ho, hc, hk⟩
  | .alt i t u, hc, hk, j, hj => by
    simp only [chk, Bool.true_or, Bool.true_and, Bool.and_eq_true] at hc
    simp only [regO] at hk
    cases ho : ops.toList[i]? with
    | none => rw [ho] at hk; cases hk
    | some o =>
      rw [ho] at hk
      obtain ⟨k1, k2⟩ := agree_some hk
      simp only [heads, List.mem_cons] at hj
      rcases hj with rfl | hj
      · exact ⟨t, o, by simpa using ho, hc.1, k1⟩
      · exact alts_ok u hc.2 k2 j hj

theorem reg_any (hT : TOk P T) (hE : EnvOk P env) (hin : ∀ q ∈ ops.toList, OpIn X.N q) (hsel : Region.noSelect ops = true) (hQ : ∀ c a w, ¬ Q (.panic c) a w) : ∀ (n : Nat) (t : Ord) (listed : Array Bool) {σ : St} {a : Act} {w : World} {g : Gh}, chk ops false n t listed = true → Rel X σ a w g → X.N ≤ σ.length →
    regO T env ops.toList t σ k = some r → (∀ σ' a' w' g', Rel X σ' a' w' g' → σ'.length = σ.length → k σ' = some r → Q .normal a' w') → wpAny P .any ops Q n listed a w
  | n, .nil, listed, σ, a, w, g, hd, h, hN, hk, hK => by
    simp only [chk, Bool.false_or, List.isEmpty_iff] at hd
    have hq := hK σ a w g h rfl hk
    cases n with
    | zero => exact ⟨hd, hq⟩
    | succ n => exact ⟨fun _ => hq, fun i hi => by rw [hd] at hi; simp at hi⟩
  | 0, .st i t, listed, σ, a, w, g, hd, h, hN, hk, hK => by simp [chk] at hd
  | 0, .alt i t u, listed, σ, a, w, g, hd, h, hN, hk, hK => by simp [chk] at hd
  | n + 1, .alt i t u, listed, σ, a, w, g, hd, h, hN, hk, hK => by
    have hd2 : chk ops true (n + 1) (.alt i t u) listed = true := by
      simp only [chk, Bool.false_or, Bool.true_or, Bool.true_and, Bool.and_eq_true] at hd ⊢
      exact ⟨hd.1.2, hd.2⟩
    simp only [chk, Bool.false_or, Bool.and_eq_true] at hd
    have hall := hd.1.1.2
    have hne := hd.1.1.1
    have each : ∀ j ∈ Region.ready .any ops listed, j ∈ heads (.alt i t u) := fun j hj => by
      have := List.all_eq_true.1 hall j hj
      simpa [heads] using this
    have step : ∀ j ∈ Region.ready .any ops listed, wpOp P ops Q j (wpAny P .any ops Q n (listed.setIfInBounds j true)) a w := fun j hj => by
      obtain ⟨t', o, ho, hc, hk'⟩ := alts_ok _ hd2 hk j (each j hj)
      exact reg_step hT hE ho hin h hN hk' (fun σ' a' w' g' e1 e2 e3 => reg_any hT hE hin hsel hQ n t' _ hc e1 (by omega) (by simpa [regK] using e3) (fun σ'' a'' w'' g'' f1 f2 f3 => hK σ'' a'' w'' g'' f1 (by omega) f3))
    exact ⟨fun hr => by rw [hr] at hne; simp at hne, step⟩
  | n + 1, .st i t, listed, σ, a, w, g, hd, h, hN, hk, hK => by
    simp only [chk, Bool.false_or, Bool.and_eq_true] at hd
    obtain ⟨⟨hr, hs⟩, hd⟩ := hd
    have hr : i ∈ Region.ready .any ops listed := by simpa using hr
    obtain ⟨hiun, oi, hi, hall⟩ := mem_ready.1 hr
    have hil : ops.toList[i]? = some oi := by simpa using hi
    simp only [regO, hil] at hk
    obtain ⟨D, d1, d2, d3⟩ := okStep_spec hs
    have d3 := d3 oi hi
    have ho : OpIn X.N oi := hin oi (by have := Array.mem_of_getElem? hi; simpa using this)
    have next : ∀ σ' a' w' g', Rel X σ' a' w' g' → σ'.length = σ.length → regK T env ops.toList [] σ' (fun σ1 => regO T env ops.toList t σ1 k) = some r → wpAny P .any ops Q n (listed.setIfInBounds i true) a' w' := by
      intro σ' a' w' g' e1 e2 e3
      exact reg_any hT hE hin hsel hQ n t _ hd e1 (by omega) (by simpa [regK] using e3) (fun σ'' a'' w'' g'' f1 f2 f3 => hK σ'' a'' w'' g'' f1 (by omega) f3)
    have hsel' := Region.noSelect_spec hsel
    cases hp : pureOp oi.op with
    | true =>
      have key : ∃ v, YI P ops (fun _ => True) oi v a ∧ wpAny P .any ops Q n (listed.setIfInBounds i true) (a.put oi.dst v) w := by
        rcases guard_ok hin ho h hN hk with ⟨h1, h2⟩ | ⟨h1, σ1, g1, h2, h3, h4⟩
        · obtain ⟨v, v1, v2⟩ := op_pure (K := fun a' w' => wpAny P .any ops Q n (listed.setIfInBounds i true) a' w') hT hp h hN ho h2 next
          exact ⟨v, .inl ⟨h1, fun w _ => v1 w⟩, v2⟩
        · exact ⟨undef, .inr ⟨h1, rfl⟩, next _ _ _ _ h2 h3 h4⟩
      obtain ⟨v, v1, v2⟩ := key
      exact any_first hi d1 hsel' hQ n listed a w (fun j oj hj hne hD hun => ⟨(d3 j oj hj hne hD hun).1, .inl fun _ => trivial⟩) d2 hr trivial v1 v2
    | false =>
      cases hl : loadOp oi.op with
      | true =>
        have key : ∃ v, YI P ops (ExtW w) oi v a ∧ wpAny P .any ops Q n (listed.setIfInBounds i true) (a.put oi.dst v) w := by
          rcases guard_ok hin ho h hN hk with ⟨h1, h2⟩ | ⟨h1, σ1, g1, h2, h3, h4⟩
          · obtain ⟨d, op, ty, pos, aft, gd⟩ := oi
            cases op <;> simp only [loadOp, Bool.false_eq_true] at hl
            obtain ⟨v, v1, v2⟩ := op_load (K := fun a' w' => wpAny P .any ops Q n (listed.setIfInBounds i true) a' w') hT h hN ho h2 next
            exact ⟨v, .inl ⟨h1, v1⟩, v2⟩
          · exact ⟨undef, .inr ⟨h1, rfl⟩, next _ _ _ _ h2 h3 h4⟩
        obtain ⟨v, v1, v2⟩ := key
        refine any_first hi d1 hsel' hQ n listed a w (fun j oj hj hne hD hun => ?_) d2 hr (ExtW.refl w) v1 v2
        obtain ⟨c1, c2⟩ := d3 j oj hj hne hD hun
        refine ⟨c1, .inr ⟨?_, fun w1 w2 e1 e2 => e1.trans e2⟩⟩
        rcases c2 with c2 | c2
        · rw [hp] at c2; cases c2
        · exact c2.2
      | false =>
        refine any_only d1 hr d2 (fun j oj hj hne hD => ?_) (reg_step hT hE hi hin h hN hk next)
        cases hun : listed.getD j true with
        | true => rfl
        | false =>
          obtain ⟨_, c2⟩ := d3 j oj hj hne hD hun
          rw [hp, hl] at c2
          rcases c2 with c2 | c2
          · cases c2
          · cases c2.1

end
end Go.Ev
