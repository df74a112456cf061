/- Code is sound. -/
import Derived.Test.YtlgjdgebmiegeaaEvMd
import Derived.Orders
import Derived.Deep.LoopGhost
/- Operations that change nothing that was there. -/
namespace Go.Ev
set_option linter.unusedVariables false
set_option linter.unusedSimpArgs false

theorem ExtW.refl (w : World) : ExtW w w := fun _ _ => rfl
theorem ExtW.size {w w' : World} (h : ExtW w w') : w.heap.size ≤ w'.heap.size := by
  apply Nat.le_of_not_lt
  intro hn
  have h1 := h w'.heap.size hn
  rw [Array.getElem?_eq_none (Nat.le_refl _), Array.getElem?_eq_getElem hn] at h1
  cases h1
theorem ExtW.trans {w w' w'' : World} (h : ExtW w w') (k : ExtW w' w'') : ExtW w w'' := fun b hb => (k b (Nat.lt_of_lt_of_le hb h.size)).trans (h b hb)

section
variable {P : Program} {α β : Type}

/-- Whatever it comes to, nothing that was there is changed. -/
def SG (P : Program) (s : Sem α) : Prop := ∀ w v w', s.run P w = .ok v w' → ExtW w w'

theorem SG.pure (a : α) : SG P (pure a : Sem α) := fun w v w' h => by
  rw [Sem.run_pure] at h
  injection h with h1 h2
  subst h2
  exact .refl _
theorem SG.bind {s : Sem α} {f : α → Sem β} (h : SG P s) (k : ∀ a, SG P (f a)) : SG P (s >>= f) := fun w v w' e => by
  rw [Sem.run_bind] at e
  cases hs : s.run P w with
  | ok a w1 =>
    rw [hs] at e
    exact (h _ _ _ hs).trans (k a _ _ _ e)
  | halt x w1 => rw [hs] at e; cases e
theorem SG.map {s : Sem α} {f : α → β} (h : SG P s) : SG P (f <$> s) := by
  have e : (f <$> s) = s >>= fun a => Pure.pure (f a) := rfl
  rw [e]
  exact h.bind fun a => .pure _
theorem SG.halt (x : Halt) : SG P (Sem.halt x : Sem α) := fun w v w' h => by cases h
theorem SG.stuck (m : String) : SG P (Go.stuck m : Sem α) := SG.halt _
theorem SG.unsupported (u : Unsupported) : SG P (Go.unsupported u : Sem α) := SG.halt _
theorem SG.goPanic (v : Value) : SG P (Go.goPanic v : Sem α) := SG.halt _
theorem SG.program : SG P Go.program := fun w v w' h => by
  simp only [Go.program, Sem.run] at h
  injection h with h1 h2
  subst h2
  exact .refl _
theorem SG.mark (m : Mark) : SG P (Go.mark m) := fun w v w' h => by
  simp only [Go.mark, Sem.run] at h
  injection h with h1 h2
  subst h2
  exact .refl _
theorem SG.choose (q : Question) : SG P (Go.choose q) := fun w v w' h => by
  simp only [Go.choose, Sem.run] at h
  split at h <;> (injection h with h1 h2; subst h2; exact fun _ _ => rfl)
theorem SG.load (a : Addr) : SG P (Go.load a) := fun w v w' h => by
  simp only [Go.load, Sem.run] at h
  split at h
  · injection h with h1 h2; subst h2; exact .refl _
  · split at h
    · injection h with h1 h2; subst h2; exact .refl _
    · cases h
theorem SG.getObj (r : Nat) : SG P (Go.getObj r) := fun w v w' h => by
  simp only [Go.getObj, Sem.run] at h
  split at h
  · cases h
  · injection h with h1 h2; subst h2; exact .refl _
  · cases h
theorem SG.shape (r : Nat) : SG P (Go.shape r) := fun w v w' h => by
  simp only [Go.shape, Sem.run] at h
  injection h with h1 h2
  subst h2
  exact .refl _
theorem SG.listMapM {γ δ : Type} {f : γ → Sem δ} (h : ∀ x, SG P (f x)) : ∀ l : List γ, SG P (l.mapM f)
  | [] => by rw [List.mapM_nil]; exact .pure _
  | x :: l => by rw [List.mapM_cons]; exact (h x).bind fun _ => (SG.listMapM h l).bind fun _ => .pure _
theorem SG.mapM {γ δ : Type} {f : γ → Sem δ} (h : ∀ x, SG P (f x)) (l : Array γ) : SG P (l.mapM f) := by
  rw [Array.mapM_eq_mapM_toList]
  exact .map (.listMapM h _)
theorem SG.newObj (o : Obj) : SG P (Go.newObj o) := fun w v w' h => by
  simp only [Go.newObj, Sem.run] at h
  injection h with h1 h2
  subst h2
  intro b hb
  exact Array.getElem?_push_lt hb |>.trans (Array.getElem?_eq_getElem hb).symm
theorem SG.typeInfo (t : TypeId) : SG P (Go.typeInfo t) := by
  unfold Go.typeInfo
  refine SG.program.bind fun p => ?_
  split
  · exact .pure _
  · exact .stuck _
theorem SG.underlying (t : TypeId) : SG P (Go.underlying t) := by
  unfold Go.underlying
  refine SG.program.bind fun p => ?_
  split
  · exact .pure _
  · exact .stuck _
theorem SG.sizeOf (t : TypeId) : SG P (Go.sizeOf t) := (SG.typeInfo t).bind fun _ => .pure _
theorem SG.zeroValue (t : TypeId) : SG P (Go.zeroValue t) := by
  unfold Go.zeroValue
  refine (SG.typeInfo t).bind fun i => ?_
  split
  · exact .pure _
  · exact .unsupported _
theorem SG.isAgg (t : TypeId) : SG P (Go.isAgg t) := by
  unfold Go.isAgg
  refine (SG.underlying t).bind fun d => ?_
  split <;> exact .pure _
theorem SG.newRow (e : TypeId) (cs : Array Value) : SG P (Go.newRow e cs) := (SG.newObj _).bind fun _ => .pure _
theorem SG.newVar (t : TypeId) (v : Value) : SG P (Go.newVar t v) := SG.newRow _ _
theorem SG.askRoom (n : Nat) : SG P (Go.askRoom n) := by
  unfold Go.askRoom
  split
  · exact .mark _
  · exact .pure _
theorem SG.elemOf (t : TypeId) : SG P (Go.elemOf t) := by
  unfold Go.elemOf
  refine (SG.underlying t).bind fun d => ?_
  split
  · exact .pure _
  · exact .stuck _
theorem SG.runtimePanic (e : RuntimeError) : SG P (Go.runtimePanic e : Sem α) := by
  unfold Go.runtimePanic
  refine SG.program.bind fun p => ?_
  cases e with
  | typeAssertion i c a m => exact (SG.elemOf _).bind fun _ => (SG.newVar _ _).bind fun _ => .goPanic _
  | panicNil => exact (SG.elemOf _).bind fun _ => (SG.newVar _ _).bind fun _ => .goPanic _
  | _ => exact .goPanic _
theorem SG.boundsPanic (k : IntKind) (x y : Int) (c : BoundsCode) : SG P (Go.boundsPanic k x y c : Sem α) := by
  unfold Go.boundsPanic
  split
  · exact (SG.map (.choose _)).bind fun _ => .runtimePanic _
  · exact (SG.pure _).bind fun _ => .runtimePanic _
theorem SG.asIntOf (v : Value) : SG P (Go.asIntOf v) := by
  unfold Go.asIntOf
  split
  · exact .pure _
  · exact .unsupported _
  · exact .stuck _
theorem SG.asInt (v : Value) : SG P (Go.asInt v) := (SG.asIntOf v).bind fun _ => .pure _
theorem SG.sureAddr (v : Value) : SG P (Instr.sureAddr v) := by
  unfold Instr.sureAddr
  split
  · exact .pure _
  · exact .stuck _
theorem SG.loadCellsFrom (a : Addr) : ∀ (n i : Nat) (acc : Array Value), SG P (Go.loadCellsFrom a i n acc)
  | 0, i, acc => .pure _
  | n + 1, i, acc => (SG.load _).bind fun v => SG.loadCellsFrom a n (i + 1) _
theorem SG.loadVar (t : TypeId) (a : Addr) : SG P (Go.loadVar t a) := by
  unfold Go.loadVar
  refine (SG.isAgg t).bind fun b => ?_
  split
  · exact (SG.sizeOf t).bind fun n => (SG.loadCellsFrom a n 0 _).bind fun _ => .pure _
  · exact .load _

theorem SG.loadAt (t : TypeId) (v : Value) : SG P (Instr.loadAt t v) := (SG.sureAddr v).bind fun _ => .loadVar _ _
theorem SG.alloc (t : TypeId) : SG P (Instr.alloc t true (.tuple #[])) := by
  unfold Instr.alloc
  refine (SG.zeroValue t).bind fun z => ?_
  exact (SG.newVar _ _).bind fun _ => .pure _
theorem SG.box (t : TypeId) (v : Value) : SG P (Instr.box t v) := (SG.newVar _ _).bind fun _ => .pure _
theorem SG.buildSlice (t : TypeId) (n : Nat) (ps : Array (Nat × Value)) : SG P (Instr.buildSlice t n ps) := by
  unfold Instr.buildSlice
  repeat' (first | exact SG.pure _ | exact SG.stuck _ | exact SG.unsupported _ | exact SG.goPanic _ | exact SG.typeInfo _ | exact SG.underlying _ | exact SG.sizeOf _ | exact SG.zeroValue _ | exact SG.isAgg _ | exact SG.newRow _ _ | exact SG.newVar _ _ | exact SG.askRoom _ | exact SG.runtimePanic _ | exact SG.boundsPanic _ _ _ _ | exact SG.asIntOf _ | exact SG.asInt _ | exact SG.sureAddr _ | exact SG.load _ | exact SG.loadVar _ _ | exact SG.choose _ | exact SG.mark _ | exact SG.program | exact SG.getObj _ | exact SG.shape _ |  refine SG.bind ?_ (fun _ => ?_) | refine SG.map ?_ | split | dsimp only)
theorem SG.makeSlice (t : TypeId) (x y : Value) : SG P (Instr.makeSlice t x y) := by
  unfold Instr.makeSlice
  repeat' (first | exact SG.pure _ | exact SG.stuck _ | exact SG.unsupported _ | exact SG.goPanic _ | exact SG.typeInfo _ | exact SG.underlying _ | exact SG.sizeOf _ | exact SG.zeroValue _ | exact SG.isAgg _ | exact SG.newRow _ _ | exact SG.newVar _ _ | exact SG.askRoom _ | exact SG.runtimePanic _ | exact SG.boundsPanic _ _ _ _ | exact SG.asIntOf _ | exact SG.asInt _ | exact SG.sureAddr _ | exact SG.load _ | exact SG.loadVar _ _ | exact SG.choose _ | exact SG.mark _ | exact SG.program | exact SG.getObj _ | exact SG.shape _ |  refine SG.bind ?_ (fun _ => ?_) | refine SG.map ?_ | split | dsimp only)
theorem SG.indexAt (t : TypeId) (x y : Value) : SG P (Instr.indexAt t x y) := by
  unfold Instr.indexAt
  repeat' (first | exact SG.pure _ | exact SG.stuck _ | exact SG.unsupported _ | exact SG.goPanic _ | exact SG.typeInfo _ | exact SG.underlying _ | exact SG.sizeOf _ | exact SG.zeroValue _ | exact SG.isAgg _ | exact SG.newRow _ _ | exact SG.newVar _ _ | exact SG.askRoom _ | exact SG.runtimePanic _ | exact SG.boundsPanic _ _ _ _ | exact SG.asIntOf _ | exact SG.asInt _ | exact SG.sureAddr _ | exact SG.load _ | exact SG.loadVar _ _ | exact SG.choose _ | exact SG.mark _ | exact SG.program | exact SG.getObj _ | exact SG.shape _ |  refine SG.bind ?_ (fun _ => ?_) | refine SG.map ?_ | split | dsimp only)
theorem SG.build (t : TypeId) (ps : Array (Nat × Value)) : SG P (Instr.build t ps) := by
  unfold Instr.build
  refine (SG.zeroValue t).bind fun z => (SG.underlying t).bind fun d => ?_
  split
  · refine (SG.mapM (fun (f : Field) => (SG.sizeOf f.type).bind fun _ => .pure _) _).bind fun ps => ?_
    split
    · exact .pure _
    · exact .stuck _
  · refine (SG.sizeOf _).bind fun n => ?_
    split
    · exact .pure _
    · exact .stuck _
  · exact .stuck _
theorem SG.len (ts : Array TypeId) (t : TypeId) (xs : Array Value) : SG P (Builtin.len_ ts t xs) := by
  unfold Builtin.len_
  repeat' (first | exact SG.pure _ | exact SG.stuck _ | exact SG.unsupported _ | exact SG.goPanic _ | exact SG.typeInfo _ | exact SG.underlying _ | exact SG.sizeOf _ | exact SG.zeroValue _ | exact SG.isAgg _ | exact SG.newRow _ _ | exact SG.newVar _ _ | exact SG.askRoom _ | exact SG.runtimePanic _ | exact SG.boundsPanic _ _ _ _ | exact SG.asIntOf _ | exact SG.asInt _ | exact SG.sureAddr _ | exact SG.load _ | exact SG.loadVar _ _ | exact SG.choose _ | exact SG.mark _ | exact SG.program | exact SG.getObj _ | exact SG.shape _ |  refine SG.bind ?_ (fun _ => ?_) | refine SG.map ?_ | split | dsimp only)

end
end Go.Ev

/- Operations, all of them. -/
namespace Go.Ev
set_option linter.unusedVariables false
set_option linter.unusedSimpArgs false

/-- Operations that look at no memory. -/
def pureOp (o : Op) : Bool := match o with
  | .move _ | .assign _ | .pick .. | .nilCheck _ | .binOp .. | .unOp .. | .convert .. | .slice .. | .fieldAddr .. | .field .. | .indexAddr .. | .index .. | .makeFunc .. | .extract .. | .build .. => true
  | .call c => match c.callee with
    | .builtin .len | .builtin .min | .builtin .max => true
    | _ => false
  | _ => false
def loadOp (o : Op) : Bool := match o with
  | .load .. => true
  | _ => false
/-- Operations that change nothing that was there. -/
def growOp (o : Op) : Bool := match o with
  | .move _ | .assign _ | .load .. | .alloc _ | .box .. | .build .. | .buildSlice .. | .makeSlice .. | .indexAddr .. => true
  | .call c => match c.callee with
    | .builtin .len => true
    | _ => false
  | _ => false

theorem value_run {P : Program} {s : Sem Value} {w : World} {n : Next} {w' : World} (h : (s >>= fun v => (pure (.value v) : Sem Next)).run P w = .ok n w') : ∃ v, n = .value v ∧ s.run P w = .ok v w' := by
  rw [Sem.run_bind] at h
  cases hs : s.run P w with
  | ok v w1 =>
    rw [hs] at h
    simp only [Result.andThen_ok, Sem.run_pure, Result.ok.injEq] at h
    exact ⟨v, h.1.symm, by rw [h.2]⟩
  | halt x w1 => rw [hs] at h; cases h

theorem grow_run {P : Program} {o : Oper} (ho : growOp o.op = true) {ρ : Operand → Value} {w : World} {n : Next} {w' : World} (h : (execOp ρ o).run P w = .ok n w') : ExtW w w' ∧ ∃ v, n = .value v := by
  obtain ⟨d, op, ty, pos, aft, gd⟩ := o
  have key : ∀ s : Sem Value, SG P s → (s >>= fun v => (pure (.value v) : Sem Next)).run P w = .ok n w' → ExtW w w' ∧ ∃ v, n = .value v := by
    intro s hs h
    obtain ⟨v, h1, h2⟩ := value_run h
    exact ⟨hs _ _ _ h2, v, h1⟩
  cases op <;> simp only [growOp, Bool.false_eq_true] at ho <;> simp only [execOp] at h
  case move x =>
    rw [Sem.run_pure] at h
    injection h with h1 h2
    subst h2
    exact ⟨.refl _, _, h1.symm⟩
  case assign x =>
    rw [Sem.run_pure] at h
    injection h with h1 h2
    subst h2
    exact ⟨.refl _, _, h1.symm⟩
  case alloc t => exact key _ (.alloc _) h
  case box t x => exact key _ (.box _ _) h
  case build t ps => exact key _ (.build _ _) h
  case buildSlice t n ps => exact key _ (.buildSlice _ _ _) h
  case load t x => exact key _ (.loadAt _ _) h
  case makeSlice t l c => exact key _ (.makeSlice _ _ _) h
  case indexAddr t x i => exact key _ (.indexAt _ _ _) h
  case call c =>
    obtain ⟨cal, args, ats⟩ := c
    simp only at ho
    split at ho
    · simp only [resolve, invoke, builtin, Sem.run_bind, Sem.run_pure, Result.andThen_ok] at h
      have h2 : (Builtin.len_ ats ty (args.map ρ) >>= fun v => (pure (.value v) : Sem Next)).run P w = .ok n w' := by
        rw [Sem.run_bind]
        exact h
      exact key _ (.len _ _ _) h2
    · cases ho

section
variable {P : Program} {T : TypeId → Option TI} {env : Env} {X : Ctx} {σ : St} {a : Act} {w : World} {g : Gh} {A : Type} {r : A} {k : St → Option A} {K : Act → World → Prop} {Q : Exit → Act → World → Prop} {o : Oper}

theorem op_pure (hT : TOk P T) (hp : pureOp o.op = true) (h : Rel X σ a w g) (hN : X.N ≤ σ.length) (ho : OpIn X.N o) (hk : opK T env o σ k = some r) (hK : Nx X σ.length k r K) : Oper.wpS P o a w K := by
  obtain ⟨d, op, ty, pos, aft, gd⟩ := o
  cases op <;> simp only [pureOp, Bool.false_eq_true] at hp
  case move => exact op_move h hN ho hk hK
  case assign => exact op_assign h hN ho hk hK
  case pick => exact op_pick h hN ho hk hK
  case nilCheck => exact op_nilCheck h hN ho hk hK
  case binOp => exact op_binOp hT h hN ho hk hK
  case unOp => exact op_unOp h hN ho hk hK
  case convert => exact op_convert hT h hN ho hk hK
  case slice => exact op_slice hT h hN ho hk hK
  case fieldAddr => exact op_fieldAddr hT h hN ho hk hK
  case field => exact op_field hT h hN ho hk hK
  case indexAddr => exact op_indexAddr hT h hN ho hk hK
  case index => exact op_index hT h hN ho hk hK
  case makeFunc => exact op_makeFunc h hN ho hk hK
  case extract => exact op_extract h hN ho hk hK
  case build => exact op_build hT h hN ho hk hK
  case call c =>
    split at hp
    · rename_i hc; exact op_len hT hc h hN ho hk hK
    · rename_i hc; exact op_min hc h hN ho hk hK
    · rename_i hc; exact op_max hc h hN ho hk hK
    · cases hp

theorem op_sound (hT : TOk P T) (hE : EnvOk P env) (h : Rel X σ a w g) (hN : X.N ≤ σ.length) (ho : OpIn X.N o) (hk : opK T env o σ k = some r) (hK : Nx X σ.length k r K) : o.wp P a w K Q := by
  cases hp : pureOp o.op with
  | true => exact Oper.wp_of_S (op_pure hT hp h hN ho hk hK)
  | false =>
    obtain ⟨d, op, ty, pos, aft, gd⟩ := o
    cases op <;> simp only [pureOp, reduceCtorEq] at hp
    case alloc => exact op_alloc hT h hN ho hk hK
    case box => exact op_box hT h hN ho hk hK
    case buildSlice => exact op_buildSlice hT h hN ho hk hK
    case load => exact Oper.wp_of_E (op_load hT h hN ho hk hK)
    case store => exact op_store hT h hN ho hk hK
    case makeSlice => exact op_makeSlice hT h hN ho hk hK
    case call c =>
      obtain ⟨cal, args, ats⟩ := c
      cases cal with
      | value x => exact op_callF rfl hE h hN ho hk hK
      | invoke x n => simp [opK] at hk
      | builtin b =>
        cases b <;> first | (simp only [reduceCtorEq] at hp; done) | exact op_append hT rfl h hN ho hk hK | (simp [opK] at hk; done)
    all_goals (simp [opK] at hk)

end
end Go.Ev

/- Regions, in every order that may come up. -/
namespace Go.Ev
set_option linter.unusedVariables false
set_option linter.unusedSimpArgs false

section
variable {P : Program} {ops : Array Oper} {Q : Exit → Act → World → Prop} {C : World → Prop}

/-- In state `a`, in each world of the class, operation `o` leaves `v` in its slot, and the world as it is. -/
def YI (P : Program) (ops : Array Oper) (C : World → Prop) (o : Oper) (v : Value) (a : Act) : Prop :=
  (Region.wanted o (yielded ops a.tmps) = true ∧ ∀ w, C w → (execOp a.eval o).run P w = .ok (.value v) w) ∨ (Region.wanted o (yielded ops a.tmps) = false ∧ v = undef)

theorem YI.step {i : Nat} {o : Oper} {v : Value} {a : Act} (hi : ops[i]? = some o) (hy : YI P ops C o v a) {K : Act → World → Prop} {w : World} (hw : C w) (h : K (a.put o.dst v) w) : wpOp P ops Q i K a w := by
  unfold wpOp
  simp only [hi]
  rcases hy with ⟨h1, h2⟩ | ⟨h1, rfl⟩
  · rw [if_pos h1]
    refine .inl ?_
    unfold Oper.wp
    rw [h2 w hw]
    exact h
  · rw [if_neg (by rw [h1]; simp)]
    exact h

theorem YI.same {o : Oper} {v : Value} {a a' : Act} (hy : YI P ops C o v a) (he : execOp a'.eval o = execOp a.eval o) (hw : Region.wanted o (yielded ops a'.tmps) = Region.wanted o (yielded ops a.tmps)) : YI P ops C o v a' := by
  unfold YI at *
  rw [he, hw]
  exact hy

/-- Another operation comes first: nothing is lost. -/
theorem step_put {j : Nat} {oi oj : Oper} {v : Value} (hj : ops[j]? = some oj) (hap : oi.apart ops oj = true) (hsi : ∀ cs b, oi.op ≠ .select cs b) (hsj : ∀ cs b, oj.op ≠ .select cs b)
    (hQ : ∀ c a w, ¬ Q (.panic c) a w) (hC : (∀ w, C w) ∨ (growOp oj.op = true ∧ ∀ w w', C w → ExtW w w' → C w')) {K : Act → World → Prop} {a : Act} {w : World} (hw : C w) (hy : YI P ops C oi v a)
    (h : wpOp P ops Q j K (a.put oi.dst v) w) : wpOp P ops Q j (fun a' w' => YI P ops C oi v a' ∧ C w' ∧ K (a'.put oi.dst v) w') a w := by
  obtain ⟨h1, h2, h3⟩ := Oper.apart_spec hap
  have keep : ∀ u, YI P ops C oi v (a.put oj.dst u) := fun u => hy.same (execOp_put oi hsi a oj.dst u h3) (wanted_put oi a oj.dst u h3)
  have comm : ∀ u, (a.put oi.dst v).put oj.dst u = (a.put oj.dst u).put oi.dst v := fun u => Act.put_comm a v u h2
  unfold wpOp at h ⊢
  rw [hj] at h ⊢
  simp only at h ⊢
  rw [wanted_put oj a oi.dst v h1] at h
  by_cases hwant : Region.wanted oj (yielded ops a.tmps) = true
  · rw [if_pos hwant] at h ⊢
    rcases h with h | ⟨hasks, hlets⟩
    · refine .inl ?_
      unfold Oper.wp at h ⊢
      rw [execOp_put oj hsj a oi.dst v h1] at h
      rcases hC with hC | ⟨hg, hC⟩
      · generalize (execOp a.eval oj).run P w = r at h ⊢
        cases r with
        | halt x w' =>
          cases x <;> simp only [Oper.upon] at h
          exact absurd h (hQ _ _ _)
        | ok n w' =>
          cases n <;> simp only [Oper.upon] at h ⊢
          case value u => exact ⟨keep u, hC _, by rw [← comm]; exact h⟩
          case skip => exact ⟨keep _, hC _, by rw [← comm]; exact h⟩
          case defer d =>
            refine ⟨?_, hC _, ?_⟩
            · have k0 : YI P ops C oi v { a with defers := d :: a.defers } := hy.same rfl rfl
              exact k0.same (execOp_put oi hsi _ oj.dst undef h3) (wanted_put oi _ oj.dst undef h3)
            · rw [← Act.put_comm _ v undef h2, ← Act.put_defers]
              exact h
          case enter f args =>
            refine Calls.mono h fun e w'' he => ?_
            cases e with
            | returned u => exact ⟨keep u, hC _, by rw [← comm]; exact he⟩
            | panicked c => exact absurd he (hQ _ _ _)
            | outgrown => exact he
          case row row args => exact Rows.mono h fun u w'' he => ⟨keep u, hC _, by rw [← comm]; exact he⟩
      · cases hr : (execOp a.eval oj).run P w with
        | halt x w' =>
          rw [hr] at h
          cases x <;> simp only [Oper.upon] at h
          exact absurd h (hQ _ _ _)
        | ok n w' =>
          obtain ⟨g1, u, rfl⟩ := grow_run hg hr
          rw [hr] at h
          exact ⟨keep u, hC _ _ hw g1, by rw [← comm]; exact h⟩
    · refine .inr ⟨?_, hlets⟩
      unfold Oper.asks at hasks ⊢
      rw [execOp_put oj hsj a oi.dst v h1] at hasks
      exact hasks
  · rw [if_neg hwant] at h ⊢
    exact ⟨keep _, hw, by rw [← comm]; exact h⟩

/-- Those that wait for `i`. -/
def depOk (ops : Array Oper) (i : Nat) (D : List Nat) : Bool := D.all fun j => match ops[j]? with
  | some o => o.after.any fun e => Region.binds .any e && (e.on == i || D.contains e.on)
  | none => false

theorem depOk_spec {i : Nat} {D : List Nat} (h : depOk ops i D = true) {j : Nat} (hj : j ∈ D) : ∃ o, ops[j]? = some o ∧ ∃ e ∈ o.after, Region.binds .any e = true ∧ (e.on = i ∨ e.on ∈ D) := by
  have := List.all_eq_true.1 h j hj
  split at this
  · rename_i o ho
    obtain ⟨e, he, hb⟩ := Array.any_eq_true'.1 this
    simp only [Bool.and_eq_true, Bool.or_eq_true, beq_iff_eq, List.contains_iff_mem] at hb
    exact ⟨o, ho, e, he, hb.1, hb.2⟩
  · cases this

theorem unlisted {listed : Array Bool} {i : Nat} (h : listed.getD i true = false) : listed.getD i false = false := by
  simp only [Array.getD_eq_getD_getElem?] at *
  cases hx : listed[i]? with
  | none => rw [hx] at h; cases h
  | some b => rw [hx] at h; simpa using h

/-- An operation may be taken first. -/
theorem any_first {i : Nat} {oi : Oper} {v : Value} {D : List Nat} (hi : ops[i]? = some oi) (hD : depOk ops i D = true) (hsel : ∀ (j : Nat) (o : Oper) cs b, ops[j]? = some o → o.op ≠ .select cs b) (hQ : ∀ c a w, ¬ Q (.panic c) a w) :
    ∀ (fuel : Nat) (listed : Array Bool) (a : Act) (w : World),
      (∀ j oj, ops[j]? = some oj → j ≠ i → j ∉ D → listed.getD j true = false → oi.apart ops oj = true ∧ ((∀ w, C w) ∨ (growOp oj.op = true ∧ ∀ w w', C w → ExtW w w' → C w'))) →
      (∀ j ∈ D, listed.getD j true = false) → i ∈ Region.ready .any ops listed → C w → YI P ops C oi v a →
      wpAny P .any ops Q fuel (listed.setIfInBounds i true) (a.put oi.dst v) w → wpAny P .any ops Q (fuel + 1) listed a w := by
  intro fuel
  induction fuel with
  | zero =>
    intro listed a w hfree hun hr hw hy H
    refine ⟨fun h => (by rw [h] at hr; cases hr), fun j hj => ?_⟩
    by_cases hji : j = i
    · subst hji; exact hy.step hi hw H
    · have := ready_mono hj hji
      rw [H.1] at this
      cases this
  | succ fuel ih =>
    intro listed a w hfree hun hr hw hy H
    refine ⟨fun h => (by rw [h] at hr; cases hr), fun j hj => ?_⟩
    by_cases hji : j = i
    · subst hji; exact hy.step hi hw H
    · have h1 := H.2 j (ready_mono hj hji)
      obtain ⟨hjun, oj, hoj, hall⟩ := mem_ready.1 hj
      have hiun := (mem_ready.1 hr).1
      have hjD : j ∉ D := fun hm => by
        obtain ⟨o, ho, e, he, hb, hc⟩ := depOk_spec hD hm
        rw [hoj] at ho
        injection ho with ho
        subst ho
        have h2 := hall e he hb
        rcases hc with hc | hc
        · rw [hc, unlisted hiun] at h2; cases h2
        · rw [unlisted (hun _ hc)] at h2; cases h2
      obtain ⟨hap, hC⟩ := hfree j oj hoj hji hjD hjun
      have h2 := step_put (C := C) hoj hap (fun cs b => hsel i oi cs b hi) (fun cs b => hsel j oj cs b hoj) hQ hC hw hy h1
      refine wpOp_mono (fun a' w' h3 => ih (listed.setIfInBounds j true) a' w' (fun k ok hk hki hkD hkun => hfree k ok hk hki hkD ?_) (fun k hk => ?_) (ready_mono hr (Ne.symm hji)) h3.2.1 h3.1 ?_) h2
      · by_cases hjk : j = k
        · subst hjk; exact hjun
        · rw [Go.getD_set_ne true hjk] at hkun; exact hkun
      · rw [Go.getD_set_ne true (fun e => hjD (by rw [e]; exact hk))]
        exact hun k hk
      · rw [Array.setIfInBounds_comm _ _ hji]
        exact h3.2.2

/-- The only one that may come up. -/
theorem any_only {i : Nat} {fuel : Nat} {listed : Array Bool} {a : Act} {w : World} {D : List Nat} (hD : depOk ops i D = true) (hr : i ∈ Region.ready .any ops listed) (hun : ∀ j ∈ D, listed.getD j true = false)
    (hall : ∀ j oj, ops[j]? = some oj → j ≠ i → j ∉ D → listed.getD j true = true) (h : wpOp P ops Q i (wpAny P .any ops Q fuel (listed.setIfInBounds i true)) a w) : wpAny P .any ops Q (fuel + 1) listed a w := by
  refine ⟨fun h => (by rw [h] at hr; cases hr), fun j hj => ?_⟩
  by_cases hji : j = i
  · subst hji; exact h
  · exfalso
    obtain ⟨hjun, oj, hoj, hal⟩ := mem_ready.1 hj
    by_cases hm : j ∈ D
    · obtain ⟨o, ho, e, he, hb, hc⟩ := depOk_spec hD hm
      rw [hoj] at ho
      injection ho with ho
      subst ho
      have h2 := hal e he hb
      rcases hc with hc | hc
      · rw [hc, unlisted (mem_ready.1 hr).1] at h2; cases h2
      · rw [unlisted (hun _ hc)] at h2; cases h2
    · rw [hall j oj hoj hji hm] at hjun; cases hjun

end
end Go.Ev

/- Code: what it is told is what it does. -/
namespace Go.Ev
set_option linter.unusedVariables false
set_option linter.unusedSimpArgs false

/-! ### What is checked once of the code -/

def opIn (N : Nat) (o : Oper) : Bool := (match o.dst with
  | some d => decide (d < N)
  | none => true) && o.op.operands.toList.all fun x => match x with
    | .tmp t => decide (t < N)
    | _ => true
theorem opIn_ok {N : Nat} {o : Oper} (h : opIn N o = true) : OpIn N o := by
  simp only [opIn, Bool.and_eq_true] at h
  refine ⟨fun d hd => ?_, fun x hx t ht => ?_⟩
  · rw [hd] at h; simpa using h.1
  · have := List.all_eq_true.1 h.2 x (by simpa using hx)
    subst ht
    simpa using this

def depsFrom (l : List Oper) (i : Nat) : List Oper → Nat → List Nat → List Nat
  | [], _, D => D
  | o :: os, j, D => depsFrom l i os (j + 1) (if o.after.toList.any (fun e => Region.binds .any e && (e.on == i || D.contains e.on)) then j :: D else D)

/-- Operation `i` may be taken now. -/
def okStep (ops : Array Oper) (listed : Array Bool) (i : Nat) : Bool :=
  let D := depsFrom ops.toList i ops.toList 0 []
  depOk ops i D && D.all (fun j => !listed.getD j true) && (List.range ops.size).all fun j => j == i || listed.getD j true || D.contains j || match ops[i]?, ops[j]? with
    | some oi, some oj => oi.apart ops oj && (pureOp oi.op || loadOp oi.op && growOp oj.op)
    | _, _ => false

/-- Those that may come first. -/
def heads : Ord → List Nat
  | .nil => []
  | .st i _ => [i]
  | .alt i _ u => i :: heads u
/-- The orders cover every draw; `alts`: what follows is one of several ways. -/
def chk (ops : Array Oper) : Bool → Nat → Ord → Array Bool → Bool
  | alts, _, .nil, listed => alts || (Region.ready .any ops listed).isEmpty
  | alts, n + 1, .st i t, listed => (alts || ((Region.ready .any ops listed).contains i && okStep ops listed i)) && chk ops false n t (listed.setIfInBounds i true)
  | alts, n + 1, .alt i t u, listed => (alts || (!(Region.ready .any ops listed).isEmpty && (Region.ready .any ops listed).all fun j => (i :: heads u).contains j)) && chk ops false n t (listed.setIfInBounds i true) && chk ops true (n + 1) u listed
  | _, 0, _, _ => false

def codeOk (os : List (Nat × Ord)) (N : Nat) : Code → Bool
  | .region id ops draw => ops.toList.all (opIn N) && (match draw with
    | false => true
    | true => match os.lookup id with
      | some t => Region.noSelect ops && chk ops false ops.size t (Array.replicate ops.size false)
      | none => false)
  | .seq a b => codeOk os N a && codeOk os N b
  | .cond c a b => (match c with
    | .tmp t => decide (t < N)
    | _ => true) && codeOk os N a && codeOk os N b
  | .block _ b => codeOk os N b
  | .loop b => codeOk os N b
  | _ => true

/-! ### Slots -/

theorem ss_self : ∀ (σ : St) (t : Nat), ss σ t (gs σ t) = σ
  | [], _ => rfl
  | _ :: σ, 0 => rfl
  | s :: σ, t + 1 => by simp only [ss, gs]; rw [ss_self σ t]

section
variable {P : Program} {T : TypeId → Option TI} {env : Env} {X : Ctx} {σ : St} {a : Act} {w : World} {g : Gh} {A : Type} {r : A} {k : St → Option A} {K : Act → World → Prop} {Q : Exit → Act → World → Prop} {ops : Array Oper}

theorem know_id {t : Nat} {b : Bool} (h : gs σ t = .cs false [.val .bool b]) : know σ t b = σ := by
  unfold know
  rw [← h]
  exact ss_self σ t

/-- A guard tells whether an operation is wanted. -/
theorem guard_ok {o : Oper} {rest : List Oper} (hin : ∀ q ∈ ops.toList, OpIn X.N q) (ho : OpIn X.N o) (h : Rel X σ a w g) (hN : X.N ≤ σ.length) (hk : regK T env ops.toList (o :: rest) σ k = some r) :
    (Region.wanted o (yielded ops a.tmps) = true ∧ opK T env o σ (fun σ1 => regK T env ops.toList rest σ1 k) = some r) ∨
    (Region.wanted o (yielded ops a.tmps) = false ∧ ∃ σ1 g1, Rel X σ1 (a.put o.dst undef) w g1 ∧ σ1.length = σ.length ∧ regK T env ops.toList rest σ1 k = some r) := by
  have skip : ∀ σ1, σ1 = Ev.wr σ o.dst (.cs false [.no]) → ∃ g1, Rel X σ1 (a.put o.dst undef) w g1 ∧ σ1.length = σ.length := by
    intro σ1 e
    subst e
    cases hd : o.dst with
    | none => exact ⟨g, h, rfl⟩
    | some d =>
      obtain ⟨g1, h1, _⟩ := h.wr1 (ho.dst d hd) hN (l := .no) (v := undef) rfl rfl
      exact ⟨g1, h1, by simp⟩
  simp only [regK] at hk
  cases hg : o.guard with
  | none =>
    rw [hg] at hk
    exact .inl ⟨by simp [Region.wanted, hg], hk⟩
  | some jw =>
    obtain ⟨j, want⟩ := jw
    rw [hg] at hk
    simp only at hk
    cases hdo : dstOf ops.toList j with
    | none => rw [hdo] at hk; cases hk
    | some t =>
    rw [hdo] at hk
    simp only at hk
    obtain ⟨oj, hoj, hojd⟩ : ∃ oj, ops[j]? = some oj ∧ oj.dst = some t := by
      unfold dstOf at hdo
      split at hdo
      · rename_i oj hoj
        exact ⟨oj, by simpa using hoj, hdo⟩
      · cases hdo
    have ht : t < X.N := (hin oj (by
      have := Array.mem_of_getElem? hoj
      simpa using this)).dst t hojd
    have hyield : yielded ops a.tmps j = match a.tmps.getD t undef with | .bool b => some b | _ => none := by
      have hlt : t < a.tmps.size := by rw [h.size]; exact ht
      simp only [yielded, hoj, Option.bind_some, hojd]
      rw [Array.getElem?_eq_getElem hlt]
      simp [Array.getD, hlt]
      cases a.tmps[t] <;> rfl
    have hsh := h.sh t (Nat.lt_of_lt_of_le ht hN)
    split at hk
    · rename_i hgs
      have hno := h.lf ⟨t, 0⟩
      rw [hgs] at hsh
      unfold gl at hno
      simp only [hgs] at hno
      have hv : a.tmps.getD t undef = undef := hsh.2.trans hno
      refine .inr ⟨?_, ?_⟩
      · rw [hv] at hyield
        simp only [Region.wanted, hg, hyield]
        rfl
      · obtain ⟨g1, h1, h2⟩ := skip _ rfl
        exact ⟨_, g1, h1, h2, hk⟩
    · rename_i v hgs
      have hvl := h.lf ⟨t, 0⟩
      rw [hgs] at hsh
      unfold gl at hvl
      simp only [hgs] at hvl
      have hv : a.tmps.getD t undef = .bool v := hsh.2.trans (LR_bool hvl)
      have hw : Region.wanted o (yielded ops a.tmps) = (v == want) := by
        rw [hv] at hyield
        simp only [Region.wanted, hg, hyield]
        cases v <;> cases want <;> rfl
      cases hvw : (v == want) with
      | true =>
        rw [hvw] at hk
        have e : v = want := by simpa using hvw
        subst e
        simp only [bcond, know_id hgs] at hk
        exact .inl ⟨by rw [hw, hvw], hk⟩
      | false =>
        rw [hvw] at hk
        have e : (!want) = v := by cases v <;> cases want <;> simp_all
        simp only [bcond] at hk
        rw [e, know_id hgs] at hk
        refine .inr ⟨by rw [hw, hvw], ?_⟩
        obtain ⟨g1, h1, h2⟩ := skip _ rfl
        exact ⟨_, g1, h1, h2, hk⟩
    · cases hk

/-- One operation of a region. -/
theorem reg_step (hT : TOk P T) (hE : EnvOk P env) {i : Nat} {o : Oper} {rest : List Oper} (hi : ops[i]? = some o) (hin : ∀ q ∈ ops.toList, OpIn X.N q) (h : Rel X σ a w g) (hN : X.N ≤ σ.length) (hk : regK T env ops.toList (o :: rest) σ k = some r)
    (hK : ∀ σ' a' w' g', Rel X σ' a' w' g' → σ'.length = σ.length → regK T env ops.toList rest σ' k = some r → K a' w') : wpOp P ops Q i K a w := by
  have ho : OpIn X.N o := hin o (by have := Array.mem_of_getElem? hi; simpa using this)
  unfold wpOp
  simp only [hi]
  rcases guard_ok hin ho h hN hk with ⟨h1, h2⟩ | ⟨h1, σ1, g1, h2, h3, h4⟩
  · rw [if_pos h1]
    exact .inl (op_sound hT hE h hN ho h2 (fun σ' a' w' g' e1 e2 e3 => hK σ' a' w' g' e1 e2 e3))
  · rw [if_neg (by rw [h1]; simp)]
    exact hK _ _ _ _ h2 h3 h4

theorem reg_lex (hT : TOk P T) (hE : EnvOk P env) (hin : ∀ q ∈ ops.toList, OpIn X.N q) : ∀ (rest : List Oper) (i : Nat) {σ : St} {a : Act} {w : World} {g : Gh}, ops.toList.drop i = rest → Rel X σ a w g → X.N ≤ σ.length → regK T env ops.toList rest σ k = some r →
    (∀ σ' a' w' g', Rel X σ' a' w' g' → σ'.length = σ.length → k σ' = some r → Q .normal a' w') → wpOps P ops Q (List.range' i rest.length) a w
  | [], i, σ, a, w, g, hd, h, hN, hk, hK => by
    exact hK σ a w g h rfl hk
  | o :: rest, i, σ, a, w, g, hd, h, hN, hk, hK => by
    have hi : ops[i]? = some o := by
      have := congrArg (fun l => l[0]?) hd
      simpa using this
    rw [List.length_cons, List.range'_succ, wpOps_cons]
    refine reg_step hT hE hi hin h hN hk (fun σ' a' w' g' e1 e2 e3 => ?_)
    refine reg_lex hT hE hin rest (i + 1) ?_ e1 (by omega) e3 (fun σ'' a'' w'' g'' f1 f2 f3 => hK σ'' a'' w'' g'' f1 (by omega) f3)
    rw [← List.drop_drop, hd]
    rfl

theorem okStep_spec {listed : Array Bool} {i : Nat} (h : okStep ops listed i = true) : ∃ D, depOk ops i D = true ∧ (∀ j ∈ D, listed.getD j true = false) ∧
    ∀ oi, ops[i]? = some oi → ∀ j oj, ops[j]? = some oj → j ≠ i → j ∉ D → listed.getD j true = false → oi.apart ops oj = true ∧ (pureOp oi.op = true ∨ (loadOp oi.op = true ∧ growOp oj.op = true)) := by
  simp only [okStep, Bool.and_eq_true] at h
  obtain ⟨⟨h1, h2⟩, h3⟩ := h
  refine ⟨_, h1, fun j hj => by simpa using List.all_eq_true.1 h2 j hj, fun oi hi j oj hj hne hD hun => ?_⟩
  have hlt : j < ops.size := (Array.getElem?_eq_some_iff.1 hj).1
  have := List.all_eq_true.1 h3 j (by simpa using hlt)
  simp only [hi, hj, hun, Bool.or_eq_true, beq_iff_eq, hne, false_or, Bool.false_eq_true, List.contains_iff_mem, Bool.and_eq_true] at this
  rcases this with this | ⟨t1, t2⟩
  · exact absurd this hD
  · exact ⟨t1, t2⟩

/-- Each of several ways. -/
theorem alts_ok {n : Nat} {listed : Array Bool} : ∀ (u : Ord), chk ops true (n + 1) u listed = true → regO T env ops.toList u σ k = some r → ∀ j ∈ heads u, ∃ t o, ops[j]? = some o ∧ chk ops false n t (listed.setIfInBounds j true) = true ∧ regK T env ops.toList [o] σ (fun σ1 => regO T env ops.toList t σ1 k) = some r
  | .nil, _, _, j, hj => by simp [heads] at hj
  | .st i t, hc, hk, j, hj => by
    simp only [heads, List.mem_singleton] at hj
    subst hj
    simp only [chk, Bool.true_or, Bool.true_and] at hc
    simp only [regO] at hk
    cases ho : ops.toList[j]? with
    | none => rw [ho] at hk; cases hk
    | some o => rw [ho] at hk; exact ⟨t, o, by simpa using ho, hc, hk⟩
  | .alt i t u, hc, hk, j, hj => by
    simp only [chk, Bool.true_or, Bool.true_and, Bool.and_eq_true] at hc
    simp only [regO] at hk
    cases ho : ops.toList[i]? with
    | none => rw [ho] at hk; cases hk
    | some o =>
      rw [ho] at hk
      obtain ⟨k1, k2⟩ := agree_some hk
      simp only [heads, List.mem_cons] at hj
      rcases hj with rfl | hj
      · exact ⟨t, o, by simpa using ho, hc.1, k1⟩
      · exact alts_ok u hc.2 k2 j hj

theorem reg_any (hT : TOk P T) (hE : EnvOk P env) (hin : ∀ q ∈ ops.toList, OpIn X.N q) (hsel : Region.noSelect ops = true) (hQ : ∀ c a w, ¬ Q (.panic c) a w) : ∀ (n : Nat) (t : Ord) (listed : Array Bool) {σ : St} {a : Act} {w : World} {g : Gh}, chk ops false n t listed = true → Rel X σ a w g → X.N ≤ σ.length →
    regO T env ops.toList t σ k = some r → (∀ σ' a' w' g', Rel X σ' a' w' g' → σ'.length = σ.length → k σ' = some r → Q .normal a' w') → wpAny P .any ops Q n listed a w
  | n, .nil, listed, σ, a, w, g, hd, h, hN, hk, hK => by
    simp only [chk, Bool.false_or, List.isEmpty_iff] at hd
    have hq := hK σ a w g h rfl hk
    cases n with
    | zero => exact ⟨hd, hq⟩
    | succ n => exact ⟨fun _ => hq, fun i hi => by rw [hd] at hi; simp at hi⟩
  | 0, .st i t, listed, σ, a, w, g, hd, h, hN, hk, hK => by simp [chk] at hd
  | 0, .alt i t u, listed, σ, a, w, g, hd, h, hN, hk, hK => by simp [chk] at hd
  | n + 1, .alt i t u, listed, σ, a, w, g, hd, h, hN, hk, hK => by
    have hd2 : chk ops true (n + 1) (.alt i t u) listed = true := by
      simp only [chk, Bool.false_or, Bool.true_or, Bool.true_and, Bool.and_eq_true] at hd ⊢
      exact ⟨hd.1.2, hd.2⟩
    simp only [chk, Bool.false_or, Bool.and_eq_true] at hd
    have hall := hd.1.1.2
    have hne := hd.1.1.1
    have each : ∀ j ∈ Region.ready .any ops listed, j ∈ heads (.alt i t u) := fun j hj => by
      have := List.all_eq_true.1 hall j hj
      simpa [heads] using this
    have step : ∀ j ∈ Region.ready .any ops listed, wpOp P ops Q j (wpAny P .any ops Q n (listed.setIfInBounds j true)) a w := fun j hj => by
      obtain ⟨t', o, ho, hc, hk'⟩ := alts_ok _ hd2 hk j (each j hj)
      exact reg_step hT hE ho hin h hN hk' (fun σ' a' w' g' e1 e2 e3 => reg_any hT hE hin hsel hQ n t' _ hc e1 (by omega) (by simpa [regK] using e3) (fun σ'' a'' w'' g'' f1 f2 f3 => hK σ'' a'' w'' g'' f1 (by omega) f3))
    exact ⟨fun hr => by rw [hr] at hne; simp at hne, step⟩
  | n + 1, .st i t, listed, σ, a, w, g, hd, h, hN, hk, hK => by
    simp only [chk, Bool.false_or, Bool.and_eq_true] at hd
    obtain ⟨⟨hr, hs⟩, hd⟩ := hd
    have hr : i ∈ Region.ready .any ops listed := by simpa using hr
    obtain ⟨hiun, oi, hi, hall⟩ := mem_ready.1 hr
    have hil : ops.toList[i]? = some oi := by simpa using hi
    simp only [regO, hil] at hk
    obtain ⟨D, d1, d2, d3⟩ := okStep_spec hs
    have d3 := d3 oi hi
    have ho : OpIn X.N oi := hin oi (by have := Array.mem_of_getElem? hi; simpa using this)
    have next : ∀ σ' a' w' g', Rel X σ' a' w' g' → σ'.length = σ.length → regK T env ops.toList [] σ' (fun σ1 => regO T env ops.toList t σ1 k) = some r → wpAny P .any ops Q n (listed.setIfInBounds i true) a' w' := by
      intro σ' a' w' g' e1 e2 e3
      exact reg_any hT hE hin hsel hQ n t _ hd e1 (by omega) (by simpa [regK] using e3) (fun σ'' a'' w'' g'' f1 f2 f3 => hK σ'' a'' w'' g'' f1 (by omega) f3)
    have hsel' := Region.noSelect_spec hsel
    cases hp : pureOp oi.op with
    | true =>
      have key : ∃ v, YI P ops (fun _ => True) oi v a ∧ wpAny P .any ops Q n (listed.setIfInBounds i true) (a.put oi.dst v) w := by
        rcases guard_ok hin ho h hN hk with ⟨h1, h2⟩ | ⟨h1, σ1, g1, h2, h3, h4⟩
        · obtain ⟨v, v1, v2⟩ := op_pure (K := fun a' w' => wpAny P .any ops Q n (listed.setIfInBounds i true) a' w') hT hp h hN ho h2 next
          exact ⟨v, .inl ⟨h1, fun w _ => v1 w⟩, v2⟩
        · exact ⟨undef, .inr ⟨h1, rfl⟩, next _ _ _ _ h2 h3 h4⟩
      obtain ⟨v, v1, v2⟩ := key
      exact any_first hi d1 hsel' hQ n listed a w (fun j oj hj hne hD hun => ⟨(d3 j oj hj hne hD hun).1, .inl fun _ => trivial⟩) d2 hr trivial v1 v2
    | false =>
      cases hl : loadOp oi.op with
      | true =>
        have key : ∃ v, YI P ops (ExtW w) oi v a ∧ wpAny P .any ops Q n (listed.setIfInBounds i true) (a.put oi.dst v) w := by
          rcases guard_ok hin ho h hN hk with ⟨h1, h2⟩ | ⟨h1, σ1, g1, h2, h3, h4⟩
          · obtain ⟨d, op, ty, pos, aft, gd⟩ := oi
            cases op <;> simp only [loadOp, Bool.false_eq_true] at hl
            obtain ⟨v, v1, v2⟩ := op_load (K := fun a' w' => wpAny P .any ops Q n (listed.setIfInBounds i true) a' w') hT h hN ho h2 next
            exact ⟨v, .inl ⟨h1, v1⟩, v2⟩
          · exact ⟨undef, .inr ⟨h1, rfl⟩, next _ _ _ _ h2 h3 h4⟩
        obtain ⟨v, v1, v2⟩ := key
        refine any_first hi d1 hsel' hQ n listed a w (fun j oj hj hne hD hun => ?_) d2 hr (ExtW.refl w) v1 v2
        obtain ⟨c1, c2⟩ := d3 j oj hj hne hD hun
        refine ⟨c1, .inr ⟨?_, fun w1 w2 e1 e2 => e1.trans e2⟩⟩
        rcases c2 with c2 | c2
        · rw [hp] at c2; cases c2
        · exact c2.2
      | false =>
        refine any_only d1 hr d2 (fun j oj hj hne hD => ?_) (reg_step hT hE hi hin h hN hk next)
        cases hun : listed.getD j true with
        | true => rfl
        | false =>
          obtain ⟨_, c2⟩ := d3 j oj hj hne hD hun
          rw [hp, hl] at c2
          rcases c2 with c2 | c2
          · cases c2
          · cases c2.1

end
end Go.Ev

/- Code, whole. -/
namespace Go.Ev
set_option linter.unusedVariables false
set_option linter.unusedSimpArgs false

/-! ### What is kept at a loop's head -/

theorem length_coer (os : List (Nat × TypeId × Ty)) : ∀ (ls : List Leaf) (i : Nat), (coer os i ls).length = ls.length
  | [], _ => rfl
  | l :: ls, i => by cases l <;> simp [coer, length_coer os ls (i + 1)]

theorem lget_coer (os : List (Nat × TypeId × Ty)) : ∀ (ls : List Leaf) (i j : Nat), lget (coer os i ls) j = match lget ls j with
    | .nils => (match os.lookup (i + j) with | some e => .own e.1 e.2 [] | none => .nils)
    | l => l
  | [], i, j => by simp [coer, lget]
  | l :: ls, i, 0 => by cases l <;> simp [coer, lget] <;> rfl
  | l :: ls, i, j + 1 => by
    have := lget_coer os ls (i + 1) j
    rw [show i + 1 + j = i + (j + 1) from by omega] at this
    cases l <;> simpa [coer, lget] using this

theorem gs_scrubS (keep : Keep) : ∀ (σ : St) (i t : Nat), gs (scrubS keep i σ) t = match keep.lookup (i + t) with
    | some os => (gs σ t).with (coer os 0 ((gs σ t).leaves.map (dropL keep)))
    | none => nones
  | [], i, t => by
    simp only [scrubS, gs]
    cases keep.lookup (i + t) with
    | none => rfl
    | some os => rfl
  | s :: σ, i, 0 => by simp only [scrubS, gs, Nat.add_zero]; rfl
  | s :: σ, i, t + 1 => by
    simp only [scrubS, gs]
    rw [gs_scrubS keep σ (i + 1) t, show i + 1 + t = i + (t + 1) from by omega]

theorem length_scrubS (keep : Keep) : ∀ (σ : St) (i : Nat), (scrubS keep i σ).length = σ.length
  | [], _ => rfl
  | s :: σ, i => by simp [scrubS, length_scrubS keep σ (i + 1)]

section
variable {P : Program} {T : TypeId → Option TI} {env : Env} {X : Ctx} {σ : St} {a : Act} {w : World} {g : Gh} {A : Type} {r : A} {k : St → Option A} {K : Act → World → Prop} {Q : Exit → Act → World → Prop}

theorem Rel.scrub (keep : Keep) (h : Rel X σ a w g) : ∃ g', Rel X (Ev.scrub keep σ) a w g' := by
  obtain ⟨c', hc1, hc2⟩ : ∃ c' : Pl → Value, (∀ p : Pl, (keep.lookup p.t).isSome = true → c' p = g.c p) ∧ ∀ p : Pl, (keep.lookup p.t).isSome = false → c' p = a.tmps.getD p.t undef :=
    ⟨fun p => if (keep.lookup p.t).isSome then g.c p else a.tmps.getD p.t undef, fun p hp => by simp [hp], fun p hp => by simp [hp]⟩
  have hgs : ∀ t, gs (Ev.scrub keep σ) t = match keep.lookup t with
      | some os => (gs σ t).with (coer os 0 ((gs σ t).leaves.map (dropL keep)))
      | none => nones := fun t => by
    have := gs_scrubS keep σ 0 t
    rw [Nat.zero_add] at this
    exact this
  have hshp : ∀ t, (keep.lookup t).isSome = true → (gs (Ev.scrub keep σ) t).shp = (gs σ t).shp := fun t ht => by
    obtain ⟨os, ho⟩ := Option.isSome_iff_exists.1 ht
    rw [hgs t, ho]
    exact shp_with _ _ (by rw [length_coer]; simp)
  have hno : ∀ t, (keep.lookup t).isSome = false → gs (Ev.scrub keep σ) t = nones := fun t ht => by
    rw [hgs t]
    cases hk : keep.lookup t with
    | none => rfl
    | some os => rw [hk] at ht; cases ht
  have hgl : ∀ p : Pl, (keep.lookup p.t).isSome = true → gl (Ev.scrub keep σ) p = dropL keep (gl σ p) ∨ (gl σ p = .nils ∧ ∃ te e, gl (Ev.scrub keep σ) p = .own te e []) := fun p hp => by
    obtain ⟨os, ho⟩ := Option.isSome_iff_exists.1 hp
    have e1 : gl (Ev.scrub keep σ) p = lget (coer os 0 ((gs σ p.t).leaves.map (dropL keep))) p.i := by
      unfold gl
      rw [hgs p.t, ho]
      simp only [leaves_with]
    rw [e1, lget_coer, lget_map _ rfl]
    show _ ∨ _
    rw [show lget (gs σ p.t).leaves p.i = gl σ p from rfl]
    have dn : ∀ l, l ≠ .nils → dropL keep l ≠ .nils := by
      intro l h
      cases l <;> simp only [dropL] <;> first | exact absurd rfl h | (split <;> simp) | simp
    have mn : ∀ l : Leaf, l ≠ .nils → (match l with | .nils => (match os.lookup (0 + p.i) with | some e => Leaf.own e.1 e.2 [] | none => .nils) | l => l) = l := by
      intro l h
      cases l <;> first | rfl | exact absurd rfl h
    by_cases hz : gl σ p = .nils
    · rw [hz]
      simp only [dropL]
      cases os.lookup (0 + p.i) with
      | none => exact .inl rfl
      | some e => exact .inr ⟨trivial, _, _, rfl⟩
    · exact .inl (mn _ (dn _ hz))
  have hgl0 : ∀ p : Pl, (keep.lookup p.t).isSome = false → gl (Ev.scrub keep σ) p = .und := fun p hp => by
    unfold gl
    rw [hno p.t hp]
    cases p.i <;> rfl
  have hbox : ∀ t, (keep.lookup t).isSome = true → isBox σ t → isBox (Ev.scrub keep σ) t := fun t ht hb => by
    unfold isBox; rw [hshp t ht]; exact hb
  have hown : ∀ q : Pl, (keep.lookup q.t).isSome = true → (gl σ q).isOwn = true → gl (Ev.scrub keep σ) q = gl σ q := fun q hq ho => by
    obtain ⟨te, e, xs, hx⟩ := isOwn_iff.1 ho
    rcases hgl q hq with e1 | ⟨e1, _⟩
    · rw [e1, hx]; rfl
    · rw [hx] at e1; cases e1
  have hLR : ∀ l v, LR σ w g l v → LR (Ev.scrub keep σ) w ⟨g.S, c', g.blk⟩ (dropL keep l) v := by
    intro l v hl
    cases l with
    | al q =>
      simp only [dropL]
      split
      · rename_i hq
        exact ⟨by rw [hl.1]; exact (hc1 q hq).symm, by rw [hown q hq hl.2]; exact hl.2⟩
      · trivial
    | ptr b o =>
      simp only [dropL]
      split
      · rename_i hb; exact ⟨hl.1, hbox b hb hl.2⟩
      · trivial
    | clo f bs =>
      simp only [dropL]
      split
      · rename_i hb
        exact ⟨hl.1, fun b hm => hbox b (List.all_eq_true.1 hb b hm) (hl.2 b hm)⟩
      · trivial
    | ept => trivial
    | vpt => trivial
    | val t x => exact hl
    | own te e xs => exact hl
    | nils => exact hl
    | cst u => exact hl
    | no => exact hl
    | und => trivial
  have hob : ∀ o b, ob (Ev.scrub keep σ) ⟨g.S, c', g.blk⟩ o = some b → ob σ g o = some b := by
    intro o b hb
    cases o with
    | inl t =>
      cases hk : (keep.lookup t).isSome with
      | true => simpa [ob, hshp t hk] using hb
      | false => simp [ob, hno t hk, nones, Slot.shp, Shp.isBox] at hb
    | inr p =>
      cases hk : (keep.lookup p.t).isSome with
      | false => simp [ob, hgl0 p hk, Leaf.isOwn] at hb
      | true =>
        simp only [ob] at hb ⊢
        rw [hc1 p hk] at hb
        rcases hgl p hk with e1 | ⟨e1, te, e, e2⟩
        · rw [e1] at hb
          have : (dropL keep (gl σ p)).isOwn = (gl σ p).isOwn := by
            cases gl σ p <;> simp only [dropL] <;> first | rfl | (split <;> rfl)
          rw [this] at hb
          exact hb
        · have hv := h.lf p
          rw [e1] at hv
          rw [e2, show g.c p = .slice none 0 0 from hv] at hb
          simp [Leaf.isOwn, Value.ownBlock] at hb
  refine ⟨⟨g.S, c', g.blk⟩, { h with
    sh := fun t ht => ?_
    lf := fun p => ?_
    inj := fun o1 o2 b h1 h2 => h.inj _ _ b (hob _ _ h1) (hob _ _ h2)
    fr := fun o b hb => h.fr o b (hob _ _ hb) }⟩
  · have ht' : t < σ.length := by simpa [Ev.scrub, length_scrubS] using ht
    cases hk : (keep.lookup t).isSome with
    | false =>
      rw [hno t hk]
      exact ⟨rfl, (hc2 ⟨t, 0⟩ hk).symm⟩
    | true =>
      rw [hshp t hk]
      have := h.sh t ht'
      have hcl : ∀ n, cellsL ⟨g.S, c', g.blk⟩ t n = cellsL g t n := fun n => by
        simp only [cellsL]
        exact List.map_congr_left (fun i _ => hc1 ⟨t, i⟩ hk)
      revert this
      cases (gs σ t).shp with
      | cs ag n =>
        cases ag with
        | false =>
          rintro ⟨h1, h2⟩
          refine ⟨h1, ?_⟩
          show _ = c' ⟨t, 0⟩
          rw [hc1 ⟨t, 0⟩ hk]; exact h2
        | true => intro h1; show _ = _; rw [hcl]; exact h1
      | box n => rintro ⟨h1, h2⟩; exact ⟨h1, by rw [hcl]; exact h2⟩
      | tup ks n =>
        rintro ⟨vs, h1, h2⟩
        exact ⟨vs, h1, by rw [hcl]; exact h2⟩
  · cases hk : (keep.lookup p.t).isSome with
    | false => rw [hgl0 p hk]; trivial
    | true =>
      show LR _ _ _ _ (c' p)
      rw [hc1 p hk]
      rcases hgl p hk with e1 | ⟨e1, te, e, e2⟩
      · rw [e1]; exact hLR _ _ (h.lf p)
      · have hv := h.lf p
        rw [e1] at hv
        rw [e2, show g.c p = .slice none 0 0 from hv]
        exact ownR_nil _ _ _ _

/-- A condition's number. -/
theorem cond_ok {c : Operand} {v : Bool} (h : Rel X σ a w g) (hN : X.N ≤ σ.length) (hc : ∀ t, c = .tmp t → t < X.N) (hr : rd1 σ c = .val .bool v) : a.eval c = .bool v ∧ ∀ t, c = .tmp t → know σ t v = σ := by
  have hx := rd1_ok h hN c hc
  rw [hr] at hx
  refine ⟨LR_bool hx, fun t ht => ?_⟩
  subst ht
  have hsh := h.sh t (Nat.lt_of_lt_of_le (hc t rfl) hN)
  simp only [rd1, rd] at hr
  cases hg : gs σ t with
  | cs ag ls =>
    rw [hg] at hr hsh
    cases ag with
    | true => simp at hr
    | false =>
      obtain ⟨l, hl⟩ := List.length_eq_one_iff.1 (show ls.length = 1 from hsh.1)
      subst hl
      apply know_id
      rw [hg]
      cases l <;> simp [view, lget] at hr
      obtain ⟨e1, e2⟩ := hr
      subst e1
      simp at e2
      subst e2
      rfl
  | box ls => rw [hg] at hr; simp [lget] at hr
  | tup ks ls => rw [hg] at hr; simp [lget] at hr

theorem exec_ok (hT : TOk P T) (hE : EnvOk P env) (hm : P.follows .mixedOrders = true) {os : List (Nat × Ord)} {n : Nat} : ∀ (c : Code) (hs : List Keep) {Q : Exit → Act → World → Prop} {kn : St → Option A} {kx : Nat → St → Option A} {kr : St → Option A} {σ : St} {a : Act} {w : World} {g : Gh},
    codeOk os X.N c = true → Rel X σ a w g → X.N ≤ σ.length → exec T env os n c hs σ kn kx kr = some r →
    (∀ σ' a' w' g', Rel X σ' a' w' g' → σ'.length = σ.length → kn σ' = some r → Q .normal a' w') →
    (∀ i σ' a' w' g', Rel X σ' a' w' g' → σ'.length = σ.length → kx i σ' = some r → Q (.exit i) a' w') →
    (∀ σ' a' w' g', Rel X σ' a' w' g' → σ'.length = σ.length → kr σ' = some r → Q .ret a' w') → c.wp P Q a w
  | .skip, hs, Q, kn, kx, kr, σ, a, w, g, hc, h, hN, hk, hn, hx, hr => wp_skip (hn σ a w g h rfl hk)
  | .exit i, hs, Q, kn, kx, kr, σ, a, w, g, hc, h, hN, hk, hn, hx, hr => wp_exit (hx i σ a w g h rfl hk)
  | .ret, hs, Q, kn, kx, kr, σ, a, w, g, hc, h, hN, hk, hn, hx, hr => wp_ret (hr σ a w g h rfl hk)
  | .seq x y, hs, Q, kn, kx, kr, σ, a, w, g, hc, h, hN, hk, hn, hx, hr => by
    simp only [codeOk, Bool.and_eq_true] at hc
    refine wp_seq (exec_ok hT hE hm x hs hc.1 h hN hk (fun σ1 a1 w1 g1 e1 e2 e3 => ?_) hx hr)
    exact exec_ok hT hE hm y _ hc.2 e1 (by omega) e3 (fun σ2 a2 w2 g2 f1 f2 f3 => hn _ _ _ _ f1 (by omega) f3) (fun i σ2 a2 w2 g2 f1 f2 f3 => hx i _ _ _ _ f1 (by omega) f3) (fun σ2 a2 w2 g2 f1 f2 f3 => hr _ _ _ _ f1 (by omega) f3)
  | .block id b, hs, Q, kn, kx, kr, σ, a, w, g, hc, h, hN, hk, hn, hx, hr => by
    refine wp_block (exec_ok hT hE hm b hs hc h hN hk (fun σ1 a1 w1 g1 e1 e2 e3 => hn _ _ _ _ e1 e2 e3) (fun i σ1 a1 w1 g1 e1 e2 e3 => ?_) (fun σ1 a1 w1 g1 e1 e2 e3 => hr _ _ _ _ e1 e2 e3))
    show if i = id then _ else _
    split
    · rename_i hi; rw [if_pos hi] at e3; exact hn _ _ _ _ e1 e2 e3
    · rename_i hi; rw [if_neg hi] at e3; exact hx _ _ _ _ _ e1 e2 e3
  | .cond c x y, hs, Q, kn, kx, kr, σ, a, w, g, hc, h, hN, hk, hn, hx, hr => by
    simp only [codeOk, Bool.and_eq_true] at hc
    obtain ⟨⟨c1, c2⟩, c3⟩ := hc
    simp only [exec] at hk
    split at hk
    rotate_left
    · cases hk
    rename_i v hv
    obtain ⟨q1, q2⟩ := cond_ok h hN (fun t ht => by subst ht; simpa using c1) hv
    refine wp_cond q1 ?_
    have hk2 : bcond v (exec T env os n x hs σ kn kx kr) (exec T env os n y (hs.drop (nloops x)) σ kn kx kr) = some r := by
      cases c with
      | tmp t =>
        simp only at hk
        have := q2 t rfl
        cases v with
        | true => simp only [bcond] at hk ⊢; rw [this] at hk; exact hk
        | false => simp only [bcond] at hk ⊢; rw [this] at hk; exact hk
      | _ => exact hk
    cases v with
    | true => exact exec_ok hT hE hm x hs c2 h hN hk2 hn hx hr
    | false => exact exec_ok hT hE hm y _ c3 h hN hk2 hn hx hr
  | .loop b, hs, Q, kn, kx, kr, σ, a, w, g, hc, h, hN, hk, hn, hx, hr => by
    simp only [exec] at hk
    obtain ⟨g0, h0⟩ := h.scrub (hs.headD [])
    refine wp_loop_ghost (fun m a' w' => ∃ σ' g', Rel X σ' a' w' g' ∧ σ'.length = σ.length ∧ loopK (fun σ k => exec T env os n b hs.tail σ k kx kr) (hs.headD []) m σ' = some r) n ⟨_, g0, h0, by simp [Ev.scrub, length_scrubS], hk⟩ ?_
    rintro m a1 w1 ⟨σ1, g1, e1, e2, e3⟩
    cases m with
    | zero => simp [loopK] at e3
    | succ m =>
      simp only [loopK] at e3
      refine exec_ok hT hE hm b _ hc e1 (by omega) e3 (fun σ2 a2 w2 g2 f1 f2 f3 => ?_) (fun i σ2 a2 w2 g2 f1 f2 f3 => hx i _ _ _ _ f1 (by omega) f3) (fun σ2 a2 w2 g2 f1 f2 f3 => hr _ _ _ _ f1 (by omega) f3)
      obtain ⟨g3, h3⟩ := f1.scrub (hs.headD [])
      exact ⟨m, Nat.lt_succ_self m, _, g3, h3, by simp [Ev.scrub, length_scrubS]; omega, f3⟩
  | .region id ops draw, hs, Q, kn, kx, kr, σ, a, w, g, hc, h, hN, hk, hn, hx, hr => by
    simp only [codeOk, Bool.and_eq_true] at hc
    obtain ⟨c1, c2⟩ := hc
    have hin : ∀ q ∈ ops.toList, OpIn X.N q := fun q hq => opIn_ok (List.all_eq_true.1 c1 q hq)
    have fin : (Code.region id ops draw).wp P (fun e a' w' => e = .normal ∧ ∃ σ' g', Rel X σ' a' w' g' ∧ σ'.length = σ.length ∧ kn σ' = some r) a w := by
      cases draw with
      | false =>
        refine wp_region ?_
        have := reg_lex (Q := fun e a' w' => e = .normal ∧ ∃ σ' g', Rel X σ' a' w' g' ∧ σ'.length = σ.length ∧ kn σ' = some r) hT hE hin ops.toList 0 rfl h hN hk (fun σ' a' w' g' e1 e2 e3 => ⟨rfl, σ', g', e1, e2, e3⟩)
        rw [← List.range_eq_range'] at this
        simpa using this
      | true =>
        simp only at c2
        simp only [exec] at hk
        cases hl : os.lookup id with
        | none => rw [hl] at hk; cases hk
        | some t =>
          rw [hl] at hk c2
          simp only [Bool.and_eq_true] at c2
          obtain ⟨d1, d3⟩ := c2
          refine wp_region_any hm ?_
          have h1 : Rel X σ a { w with drawn := w.drawn + 1 } g := h.below ⟨rfl, rfl, rfl, Nat.le_refl _, fun _ _ => rfl⟩
          have := reg_any (Q := fun e a' w' => e = .normal ∧ ∃ σ' g', Rel X σ' a' w' g' ∧ σ'.length = σ.length ∧ kn σ' = some r) hT hE hin d1 (fun c a w hq => by cases hq.1) ops.size t _ d3 h1 hN hk (fun σ' a' w' g' e1 e2 e3 => ⟨rfl, σ', g', e1, e2, e3⟩)
          exact this
    refine wp_mono fin (fun e a' w' hq => ?_)
    obtain ⟨rfl, σ', g', e1, e2, e3⟩ := hq
    exact hn σ' a' w' g' e1 e2 e3
  | .rangeFunc _ _ _ _, hs, Q, kn, kx, kr, σ, a, w, g, hc, h, hN, hk, hn, hx, hr => by simp [exec] at hk
  | .scope _, hs, Q, kn, kx, kr, σ, a, w, g, hc, h, hN, hk, hn, hx, hr => by simp [exec] at hk
  | .label _, hs, Q, kn, kx, kr, σ, a, w, g, hc, h, hN, hk, hn, hx, hr => by simp [exec] at hk
  | .goto _, hs, Q, kn, kx, kr, σ, a, w, g, hc, h, hN, hk, hn, hx, hr => by simp [exec] at hk
  | .refuse _, hs, Q, kn, kx, kr, σ, a, w, g, hc, h, hN, hk, hn, hx, hr => by simp [exec] at hk

end
end Go.Ev
