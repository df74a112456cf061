/- Code is sound. -/
import Derived.Test.YtlgjdgebmiegeaaEvMd
import Derived.Orders
import Derived.Deep.LoopGhost
namespace Go.Ev
set_option linter.unusedVariables false
set_option linter.unusedSimpArgs false
theorem ExtW.refl (w : World) : ExtW w w := fun _ _ => rfl
theorem ExtW.size {w w' : World} (h : ExtW w w') : w.heap.size ≤ w'.heap.size := by
  apply Nat.le_of_not_lt
  intro hn
  have h1 := h w'.heap.size hn
  rw [Array.getElem?_eq_none (Nat.le_refl _), Array.getElem?_eq_getElem hn] at h1
  cases h1
theorem ExtW.trans {w w' w'' : World} (h : ExtW w w') (k : ExtW w' w'') : ExtW w w'' := fun b hb => (k b (Nat.lt_of_lt_of_le hb h.size)).trans (h b hb)
section
variable {P : Program} {α β : Type}
/-- Whatever it comes to, nothing that was there is changed. -/
def SG (P : Program) (s : Sem α) : Prop := ∀ w v w', s.run P w = .ok v w' → ExtW w w'
theorem SG.pure (a : α) : SG P (pure a : Sem α) := fun w v w' h => by
  rw [Sem.run_pure] at h
  injection h with h1 h2
  subst h2
  exact .refl _
theorem SG.bind {s : Sem α} {f : α → Sem β} (h : SG P s) (k : ∀ a, SG P (f a)) : SG P (s >>= f) := fun w v w' e => by
  rw [Sem.run_bind] at e
  cases hs : s.run P w with
  | ok a w1 =>
    rw [hs] at e
    exact (h _ _ _ hs).trans (k a _ _ _ e)
  | halt x w1 => rw [hs] at e; cases e
theorem SG.map {s : Sem α} {f : α → β} (h : SG P s) : SG P (f <$> s) := by
  have e : (f <$> s) = s >>= fun a => Pure.pure (f a) := rfl
  rw [e]
  exact h.bind fun a => .pure _
theorem SG.halt (x : Halt) : SG P (Sem.halt x : Sem α) := fun w v w' h => by cases h
theorem SG.stuck (m : String) : SG P (Go.stuck m : Sem α) := SG.halt _
theorem SG.unsupported (u : Unsupported) : SG P (Go.unsupported u : Sem α) := SG.halt _
theorem SG.goPanic (v : Value) : SG P (Go.goPanic v : Sem α) := SG.halt _
theorem SG.program : SG P Go.program := fun w v w' h => by
  simp only [Go.program, Sem.run] at h
  injection h with h1 h2
  subst h2
  exact .refl _
theorem SG.mark (m : Mark) : SG P (Go.mark m) := fun w v w' h => by
  simp only [Go.mark, Sem.run] at h
  injection h with h1 h2
  subst h2
  exact .refl _
theorem SG.choose (q : Question) : SG P (Go.choose q) := fun w v w' h => by
  simp only [Go.choose, Sem.run] at h
  split at h <;> (injection h with h1 h2; subst h2; exact fun _ _ => rfl)
theorem SG.load (a : Addr) : SG P (Go.load a) := fun w v w' h => by
  simp only [Go.load, Sem.run] at h
  split at h
  · injection h with h1 h2; subst h2; exact .refl _
  · split at h
    · injection h with h1 h2; subst h2; exact .refl _
    · cases h
theorem SG.getObj (r : Nat) : SG P (Go.getObj r) := fun w v w' h => by
  simp only [Go.getObj, Sem.run] at h
  split at h
  · cases h
  · injection h with h1 h2; subst h2; exact .refl _
  · cases h
theorem SG.shape (r : Nat) : SG P (Go.shape r) := fun w v w' h => by
  simp only [Go.shape, Sem.run] at h
  injection h with h1 h2
  subst h2
  exact .refl _
theorem SG.listMapM {γ δ : Type} {f : γ → Sem δ} (h : ∀ x, SG P (f x)) : ∀ l : List γ, SG P (l.mapM f)
  | [] => by rw [List.mapM_nil]; exact .pure _
  | x :: l => by rw [List.mapM_cons]; exact (h x).bind fun _ => (SG.listMapM h l).bind fun _ => .pure _
theorem SG.mapM {γ δ : Type} {f : γ → Sem δ} (h : ∀ x, SG P (f x)) (l : Array γ) : SG P (l.mapM f) := by
  rw [Array.mapM_eq_mapM_toList]
  exact .map (.listMapM h _)
theorem SG.newObj (o : Obj) : SG P (Go.newObj o) := fun w v w' h => by
  simp only [Go.newObj, Sem.run] at h
  injection h with h1 h2
  subst h2
  intro b hb
  exact Array.getElem?_push_lt hb |>.trans (Array.getElem?_eq_getElem hb).symm
theorem SG.typeInfo (t : TypeId) : SG P (Go.typeInfo t) := by
  unfold Go.typeInfo
  refine SG.program.bind fun p => ?_
  split
  · exact .pure _
  · exact .stuck _
theorem SG.underlying (t : TypeId) : SG P (Go.underlying t) := by
  unfold Go.underlying
  refine SG.program.bind fun p => ?_
  split
  · exact .pure _
  · exact .stuck _
theorem SG.sizeOf (t : TypeId) : SG P (Go.sizeOf t) := (SG.typeInfo t).bind fun _ => .pure _
theorem SG.zeroValue (t : TypeId) : SG P (Go.zeroValue t) := by
  unfold Go.zeroValue
  refine (SG.typeInfo t).bind fun i => ?_
  split
  · exact .pure _
  · exact .unsupported _
theorem SG.isAgg (t : TypeId) : SG P (Go.isAgg t) := by
  unfold Go.isAgg
  refine (SG.underlying t).bind fun d => ?_
  split <;> exact .pure _
theorem SG.newRow (e : TypeId) (cs : Array Value) : SG P (Go.newRow e cs) := (SG.newObj _).bind fun _ => .pure _
theorem SG.newVar (t : TypeId) (v : Value) : SG P (Go.newVar t v) := SG.newRow _ _
theorem SG.askRoom (n : Nat) : SG P (Go.askRoom n) := by
  unfold Go.askRoom
  split
  · exact .mark _
  · exact .pure _
theorem SG.elemOf (t : TypeId) : SG P (Go.elemOf t) := by
  unfold Go.elemOf
  refine (SG.underlying t).bind fun d => ?_
  split
  · exact .pure _
  · exact .stuck _
theorem SG.runtimePanic (e : RuntimeError) : SG P (Go.runtimePanic e : Sem α) := by
  unfold Go.runtimePanic
  refine SG.program.bind fun p => ?_
  cases e with
  | typeAssertion i c a m => exact (SG.elemOf _).bind fun _ => (SG.newVar _ _).bind fun _ => .goPanic _
  | panicNil => exact (SG.elemOf _).bind fun _ => (SG.newVar _ _).bind fun _ => .goPanic _
  | _ => exact .goPanic _
theorem SG.boundsPanic (k : IntKind) (x y : Int) (c : BoundsCode) : SG P (Go.boundsPanic k x y c : Sem α) := by
  unfold Go.boundsPanic
  split
  · exact (SG.map (.choose _)).bind fun _ => .runtimePanic _
  · exact (SG.pure _).bind fun _ => .runtimePanic _
theorem SG.asIntOf (v : Value) : SG P (Go.asIntOf v) := by
  unfold Go.asIntOf
  split
  · exact .pure _
  · exact .unsupported _
  · exact .stuck _
theorem SG.asInt (v : Value) : SG P (Go.asInt v) := (SG.asIntOf v).bind fun _ => .pure _
theorem SG.sureAddr (v : Value) : SG P (Instr.sureAddr v) := by
  unfold Instr.sureAddr
  split
  · exact .pure _
  · exact .stuck _
theorem SG.loadCellsFrom (a : Addr) : ∀ (n i : Nat) (acc : Array Value), SG P (Go.loadCellsFrom a i n acc)
  | 0, i, acc => .pure _
  | n + 1, i, acc => (SG.load _).bind fun v => SG.loadCellsFrom a n (i + 1) _
theorem SG.loadVar (t : TypeId) (a : Addr) : SG P (Go.loadVar t a) := by
  unfold Go.loadVar
  refine (SG.isAgg t).bind fun b => ?_
  split
  · exact (SG.sizeOf t).bind fun n => (SG.loadCellsFrom a n 0 _).bind fun _ => .pure _
  · exact .load _
theorem SG.loadAt (t : TypeId) (v : Value) : SG P (Instr.loadAt t v) := (SG.sureAddr v).bind fun _ => .loadVar _ _
theorem SG.alloc (t : TypeId) : SG P (Instr.alloc t true (.tuple #[])) := by
  unfold Instr.alloc
  refine (SG.zeroValue t).bind fun z => ?_
  exact (SG.newVar _ _).bind fun _ => .pure _
theorem SG.box (t : TypeId) (v : Value) : SG P (Instr.box t v) := (SG.newVar _ _).bind fun _ => .pure _
theorem SG.buildSlice (t : TypeId) (n : Nat) (ps : Array (Nat × Value)) : SG P (Instr.buildSlice t n ps) := by
  unfold Instr.buildSlice
  repeat' (first | exact SG.pure _ | exact SG.stuck _ | exact SG.unsupported _ | exact SG.goPanic _ | exact SG.typeInfo _ | exact SG.underlying _ | exact SG.sizeOf _ | exact SG.zeroValue _ | exact SG.isAgg _ | exact SG.newRow _ _ | exact SG.newVar _ _ | exact SG.askRoom _ | exact SG.runtimePanic _ | exact SG.boundsPanic _ _ _ _ | exact SG.asIntOf _ | exact SG.asInt _ | exact SG.sureAddr _ | exact SG.load _ | exact SG.loadVar _ _ | exact SG.choose _ | exact SG.mark _ | exact SG.program | exact SG.getObj _ | exact SG.shape _ |  refine SG.bind ?_ (fun _ => ?_) | refine SG.map ?_ | split | dsimp only)
theorem SG.makeSlice (t : TypeId) (x y : Value) : SG P (Instr.makeSlice t x y) := by
  unfold Instr.makeSlice
  repeat' (first | exact SG.pure _ | exact SG.stuck _ | exact SG.unsupported _ | exact SG.goPanic _ | exact SG.typeInfo _ | exact SG.underlying _ | exact SG.sizeOf _ | exact SG.zeroValue _ | exact SG.isAgg _ | exact SG.newRow _ _ | exact SG.newVar _ _ | exact SG.askRoom _ | exact SG.runtimePanic _ | exact SG.boundsPanic _ _ _ _ | exact SG.asIntOf _ | exact SG.asInt _ | exact SG.sureAddr _ | exact SG.load _ | exact SG.loadVar _ _ | exact SG.choose _ | exact SG.mark _ | exact SG.program | exact SG.getObj _ | exact SG.shape _ |  refine SG.bind ?_ (fun _ => ?_) | refine SG.map ?_ | split | dsimp only)
theorem SG.indexAt (t : TypeId) (x y : Value) : SG P (Instr.indexAt t x y) := by
  unfold Instr.indexAt
  repeat' (first | exact SG.pure _ | exact SG.stuck _ | exact SG.unsupported _ | exact SG.goPanic _ | exact SG.typeInfo _ | exact SG.underlying _ | exact SG.sizeOf _ | exact SG.zeroValue _ | exact SG.isAgg _ | exact SG.newRow _ _ | exact SG.newVar _ _ | exact SG.askRoom _ | exact SG.runtimePanic _ | exact SG.boundsPanic _ _ _ _ | exact SG.asIntOf _ | exact SG.asInt _ | exact SG.sureAddr _ | exact SG.load _ | exact SG.loadVar _ _ | exact SG.choose _ | exact SG.mark _ | exact SG.program | exact SG.getObj _ | exact SG.shape _ |  refine SG.bind ?_ (fun _ => ?_) | refine SG.map ?_ | split | dsimp only)
theorem SG.build (t : TypeId) (ps : Array (Nat × Value)) : SG P (Instr.build t ps) := by
  unfold Instr.build
  refine (SG.zeroValue t).bind fun z => (SG.underlying t).bind fun d => ?_
  split
  · refine (SG.mapM (fun (f : Field) => (SG.sizeOf f.type).bind fun _ => .pure _) _).bind fun ps => ?_
    split
    · exact .pure _
    · exact .stuck _
  · refine (SG.sizeOf _).bind fun n => ?_
    split
    · exact .pure _
    · exact .stuck _
  · exact .stuck _
theorem SG.len (ts : Array TypeId) (t : TypeId) (xs : Array Value) : SG P (Builtin.len_ ts t xs) := by
  unfold Builtin.len_
  repeat' (first | exact SG.pure _ | exact SG.stuck _ | exact SG.unsupported _ | exact SG.goPanic _ | exact SG.typeInfo _ | exact SG.underlying _ | exact SG.sizeOf _ | exact SG.zeroValue _ | exact SG.isAgg _ | exact SG.newRow _ _ | exact SG.newVar _ _ | exact SG.askRoom _ | exact SG.runtimePanic _ | exact SG.boundsPanic _ _ _ _ | exact SG.asIntOf _ | exact SG.asInt _ | exact SG.sureAddr _ | exact SG.load _ | exact SG.loadVar _ _ | exact SG.choose _ | exact SG.mark _ | exact SG.program | exact SG.getObj _ | exact SG.shape _ |  refine SG.bind ?_ (fun _ => ?_) | refine SG.map ?_ | split | dsimp only)
end
end Go.Ev
namespace Go.Ev
set_option linter.unusedVariables false
set_option linter.unusedSimpArgs false
/-- Operations that look at no memory. -/
def pureOp (o : Op) : Bool := match o with
  | .move _ | .assign _ | .pick .. | .nilCheck _ | .binOp .. | .unOp .. | .convert .. | .slice .. | .fieldAddr .. | .field .. | .indexAddr .. | .index .. | .makeFunc .. | .extract .. | .build .. => true
  | .call c => match c.callee with
    | .builtin .len | .builtin .min | .builtin .max => true
    | _ => false
  | _ => false
def loadOp (o : Op) : Bool := match o with
  | .load .. => true
  | _ => false
/-- Operations that change nothing that was there. -/
def growOp (o : Op) : Bool := match o with
  | .move _ | .assign _ | .load .. | .alloc _ | .box .. | .build .. | .buildSlice .. | .makeSlice .. | .indexAddr .. => true
  | .call c => match c.callee with
    | .builtin .len => true
    | _ => false
  | _ => false
theorem value_run {P : Program} {s : Sem Value} {w : World} {n : Next} {w' : World} (h : (s >>= fun v => (pure (.value v) : Sem Next)).run P w = .ok n w') : ∃ v, n = .value v ∧ s.run P w = .ok v w' := by
  rw [Sem.run_bind] at h
  cases hs : s.run P w with
  | ok v w1 =>
    rw [hs] at h
    simp only [Result.andThen_ok, Sem.run_pure, Result.ok.injEq] at h
    exact ⟨v, h.1.symm, by rw [h.2]⟩
  | halt x w1 => rw [hs] at h; cases h
theorem grow_run {P : Program} {o : Oper} (ho : growOp o.op = true) {ρ : Operand → Value} {w : World} {n : Next} {w' : World} (h : (execOp ρ o).run P w = .ok n w') : ExtW w w' ∧ ∃ v, n = .value v := by
  obtain ⟨d, op, ty, pos, aft, gd⟩ := o
  have key : ∀ s : Sem Value, SG P s → (s >>= fun v => (pure (.value v) : Sem Next)).run P w = .ok n w' → ExtW w w' ∧ ∃ v, n = .value v := by
    intro s hs h
    obtain ⟨v, h1, h2⟩ := value_run h
    exact ⟨hs _ _ _ h2, v, h1⟩
  cases op <;> simp only [growOp, Bool.false_eq_true] at ho <;> simp only [execOp] at h
  case move x =>
    rw [Sem.run_pure] at h
    injection h with h1 h2
    subst h2
    exact ⟨.refl _, _, h1.symm⟩
  case assign x =>
    rw [Sem.run_pure] at h
    injection h with h1 h2
    subst h2
    exact ⟨.refl _, _, h1.symm⟩
  case alloc t => exact key _ (.alloc _) h
  case box t x => exact key _ (.box _ _) h
  case build t ps => exact key _ (.build _ _) h
  case buildSlice t n ps => exact key _ (.buildSlice _ _ _) h
  case load t x => exact key _ (.loadAt _ _) h
  case makeSlice t l c => exact key _ (.makeSlice _ _ _) h
  case indexAddr t x i => exact key _ (.indexAt _ _ _) h
  case call c =>
    obtain ⟨cal, args, ats⟩ := c
    simp only at ho
    split at ho
    · simp only [resolve, invoke, builtin, Sem.run_bind, Sem.run_pure, Result.andThen_ok] at h
      have h2 : (Builtin.len_ ats ty (args.map ρ) >>= fun v => (pure (.value v) : Sem Next)).run P w = .ok n w' := by
        rw [Sem.run_bind]
        exact h
      exact key _ (.len _ _ _) h2
    · cases ho
section
variable {P : Program} {T : TypeId → Option TI} {env : Env} {X : Ctx} {σ : St} {a : Act} {w : World} {g : Gh} {A : Type} {r : A} {k : St → Option A} {K : Act → World → Prop} {Q : Exit → Act → World → Prop} {o : Oper}
theorem op_pure (hT : TOk P T) (hp : pureOp o.op = true) (h : Rel X σ a w g) (hN : X.N ≤ σ.length) (ho : OpIn X.N o) (hk : opK T env o σ k = some r) (hK : Nx X σ.length k r K) : Oper.wpS P o a w K := by
  obtain ⟨d, op, ty, pos, aft, gd⟩ := o
  cases op <;> simp only [pureOp, Bool.false_eq_true] at hp
  case move => exact op_move h hN ho hk hK
  case assign => exact op_assign h hN ho hk hK
  case pick => exact op_pick h hN ho hk hK
  case nilCheck => exact op_nilCheck h hN ho hk hK
  case binOp => exact op_binOp hT h hN ho hk hK
  case unOp => exact op_unOp h hN ho hk hK
  case convert => exact op_convert hT h hN ho hk hK
  case slice => exact op_slice hT h hN ho hk hK
  case fieldAddr => exact op_fieldAddr hT h hN ho hk hK
  case field => exact op_field hT h hN ho hk hK
  case indexAddr => exact op_indexAddr hT h hN ho hk hK
  case index => exact op_index hT h hN ho hk hK
  case makeFunc => exact op_makeFunc h hN ho hk hK
  case extract => exact op_extract h hN ho hk hK
  case build => exact op_build hT h hN ho hk hK
  case call c =>
    split at hp
    · rename_i hc; exact op_len hT hc h hN ho hk hK
    · rename_i hc; exact op_min hc h hN ho hk hK
    · rename_i hc; exact op_max hc h hN ho hk hK
    · cases hp
theorem op_sound (hT : TOk P T) (hE : EnvOk P env) (h : Rel X σ a w g) (hN : X.N ≤ σ.length) (ho : OpIn X.N o) (hk : opK T env o σ k = some r) (hK : Nx X σ.length k r K) : o.wp P a w K Q := by
  cases hp : pureOp o.op with
  | true => exact Oper.wp_of_S (op_pure hT hp h hN ho hk hK)
  | false =>
    obtain ⟨d, op, ty, pos, aft, gd⟩ := o
    cases op <;> simp only [pureOp, reduceCtorEq] at hp
    case alloc => exact op_alloc hT h hN ho hk hK
    case box => exact op_box hT h hN ho hk hK
    case buildSlice => exact op_buildSlice hT h hN ho hk hK
    case load => exact Oper.wp_of_E (op_load hT h hN ho hk hK)
    case store => exact op_store hT h hN ho hk hK
    case makeSlice => exact op_makeSlice hT h hN ho hk hK
    case call c =>
      obtain ⟨cal, args, ats⟩ := c
      cases cal with
      | value x => exact op_callF rfl hE h hN ho hk hK
      | invoke x n => simp [opK] at hk
      | builtin b =>
        cases b <;> first | (simp only [reduceCtorEq] at hp; done) | exact op_append hT rfl h hN ho hk hK | (simp [opK] at hk; done)
    all_goals (simp [opK] at hk)
end
end Go.Ev
namespace Go.Ev
set_option linter.unusedVariables false
set_option linter.unusedSimpArgs false
section
variable {P : Program} {ops : Array Oper} {Q : Exit → Act → World → Prop} {C : World → Prop}
/-- In state `a`, in each world of the class, operation `o` leaves `v` in its slot, and the world as it is. -/
def YI (P : Program) (ops : Array Oper) (C : World → Prop) (o : Oper) (v : Value) (a : Act) : Prop :=
  (Region.wanted o (yielded ops a.tmps) = true ∧ ∀ w, C w → (execOp a.eval o).run P w = .ok (.value v) w) ∨ (Region.wanted o (yielded ops a.tmps) = false ∧ v = undef)
theorem YI.step {i : Nat} {o : Oper} {v : Value} {a : Act} (hi : ops[i]? = some o) (hy : YI P ops C o v a) {K : Act → World → Prop} {w : World} (hw : C w) (h : K (a.put o.dst v) w) : wpOp P ops Q i K a w := by
  unfold wpOp
  simp only [hi]
  rcases hy with ⟨h1, h2⟩ | ⟨h1, rfl⟩
  · rw [if_pos h1]
    refine .inl ?_
    unfold Oper.wp
    rw [h2 w hw]
    exact h
  · rw [if_neg (by rw [h1]; simp)]
    exact h
theorem YI.same {o : Oper} {v : Value} {a a' : Act} (hy : YI P ops C o v a) (he : execOp a'.eval o = execOp a.eval o) (hw : Region.wanted o (yielded ops a'.tmps) = Region.wanted o (yielded ops a.tmps)) : YI P ops C o v a' := by
  unfold YI at *
  rw [he, hw]
  exact hy
/-- Another operation comes first: nothing is lost. -/
theorem step_put {j : Nat} {oi oj : Oper} {v : Value} (hj : ops[j]? = some oj) (hap : oi.apart ops oj = true) (hsi : ∀ cs b, oi.op ≠ .select cs b) (hsj : ∀ cs b, oj.op ≠ .select cs b)
    (hQ : ∀ c a w, ¬ Q (.panic c) a w) (hC : (∀ w, C w) ∨ (growOp oj.op = true ∧ ∀ w w', C w → ExtW w w' → C w')) {K : Act → World → Prop} {a : Act} {w : World} (hw : C w) (hy : YI P ops C oi v a)
    (h : wpOp P ops Q j K (a.put oi.dst v) w) : wpOp P ops Q j (fun a' w' => YI P ops C oi v a' ∧ C w' ∧ K (a'.put oi.dst v) w') a w := by
  obtain ⟨h1, h2, h3⟩ := Oper.apart_spec hap
  have keep : ∀ u, YI P ops C oi v (a.put oj.dst u) := fun u => hy.same (execOp_put oi hsi a oj.dst u h3) (wanted_put oi a oj.dst u h3)
  have comm : ∀ u, (a.put oi.dst v).put oj.dst u = (a.put oj.dst u).put oi.dst v := fun u => Act.put_comm a v u h2
  unfold wpOp at h ⊢
  rw [hj] at h ⊢
  simp only at h ⊢
  rw [wanted_put oj a oi.dst v h1] at h
  by_cases hwant : Region.wanted oj (yielded ops a.tmps) = true
  · rw [if_pos hwant] at h ⊢
    rcases h with h | ⟨hasks, hlets⟩
    · refine .inl ?_
      unfold Oper.wp at h ⊢
      rw [execOp_put oj hsj a oi.dst v h1] at h
      rcases hC with hC | ⟨hg, hC⟩
      · generalize (execOp a.eval oj).run P w = r at h ⊢
        cases r with
        | halt x w' =>
          cases x <;> simp only [Oper.upon] at h
          exact absurd h (hQ _ _ _)
        | ok n w' =>
          cases n <;> simp only [Oper.upon] at h ⊢
          case value u => exact ⟨keep u, hC _, by rw [← comm]; exact h⟩
          case skip => exact ⟨keep _, hC _, by rw [← comm]; exact h⟩
          case defer d =>
            refine ⟨?_, hC _, ?_⟩
            · have k0 : YI P ops C oi v { a with defers := d :: a.defers } := hy.same rfl rfl
              exact k0.same (execOp_put oi hsi _ oj.dst undef h3) (wanted_put oi _ oj.dst undef h3)
            · rw [← Act.put_comm _ v undef h2, ← Act.put_defers]
              exact h
          case enter f args =>
            refine Calls.mono h fun e w'' he => ?_
            cases e with
            | returned u => exact ⟨keep u, hC _, by rw [← comm]; exact he⟩
            | panicked c => exact absurd he (hQ _ _ _)
            | outgrown => exact he
          case row row args => exact Rows.mono h fun u w'' he => ⟨keep u, hC _, by rw [← comm]; exact he⟩
      · cases hr : (execOp a.eval oj).run P w with
        | halt x w' =>
          rw [hr] at h
          cases x <;> simp only [Oper.upon] at h
          exact absurd h (hQ _ _ _)
        | ok n w' =>
          obtain ⟨g1, u, rfl⟩ := grow_run hg hr
          rw [hr] at h
          exact ⟨keep u, hC _ _ hw g1, by rw [← comm]; exact h⟩
    · refine .inr ⟨?_, hlets⟩
      unfold Oper.asks at hasks ⊢
      rw [execOp_put oj hsj a oi.dst v h1] at hasks
      exact hasks
  · rw [if_neg hwant] at h ⊢
    exact ⟨keep _, hw, by rw [← comm]; exact h⟩
/-- Those that wait for `i`. -/
def depOk (ops : Array Oper) (i : Nat) (D : List Nat) : Bool := D.all fun j => match ops[j]? with
  | some o => o.after.any fun e => Region.binds .any e && (e.on == i || D.contains e.on)
  | none => false
theorem depOk_spec {i : Nat} {D : List Nat} (h : depOk ops i D = true) {j : Nat} (hj : j ∈ D) : ∃ o, ops[j]? = some o ∧ ∃ e ∈ o.after, Region.binds .any e = true ∧ (e.on = i ∨ e.on ∈ D) := by
  have := List.all_eq_true.1 h j hj
  split at this
  · rename_i o ho
    obtain ⟨e, he, hb⟩ := Array.any_eq_true'.1 this
    simp only [Bool.and_eq_true, Bool.or_eq_true, beq_iff_eq, List.contains_iff_mem] at hb
    exact ⟨o, ho, e, he, hb.1, hb.2⟩
  · cases this
theorem unlisted {listed : Array Bool} {i : Nat} (h : listed.getD i true = false) : listed.getD i false = false := by
  simp only [Array.getD_eq_getD_getElem?] at *
  cases hx : listed[i]? with
  | none => rw [hx] at h; cases h
  | some b => rw [hx] at h; simpa using h
/-- An operation may be taken first. -/
theorem any_first {i : Nat} {oi : Oper} {v : Value} {D : List Nat} (hi : ops[i]? = some oi) (hD : depOk ops i D = true) (hsel : ∀ (j : Nat) (o : Oper) cs b, ops[j]? = some o → o.op ≠ .select cs b) (hQ : ∀ c a w, ¬ Q (.panic c) a w) :
    ∀ (fuel : Nat) (listed : Array Bool) (a : Act) (w : World),
      (∀ j oj, ops[j]? = some oj → j ≠ i → j ∉ D → listed.getD j true = false → oi.apart ops oj = true ∧ ((∀ w, C w) ∨ (growOp oj.op = true ∧ ∀ w w', C w → ExtW w w' → C w'))) →
      (∀ j ∈ D, listed.getD j true = false) → i ∈ Region.ready .any ops listed → C w → YI P ops C oi v a →
      wpAny P .any ops Q fuel (listed.setIfInBounds i true) (a.put oi.dst v) w → wpAny P .any ops Q (fuel + 1) listed a w := by
  intro fuel
  induction fuel with
  | zero =>
    intro listed a w hfree hun hr hw hy H
    refine ⟨fun h => (by rw [h] at hr; cases hr), fun j hj => ?_⟩
    by_cases hji : j = i
    · subst hji; exact hy.step hi hw H
    · have := ready_mono hj hji
      rw [H.1] at this
      cases this
  | succ fuel ih =>
    intro listed a w hfree hun hr hw hy H
    refine ⟨fun h => (by rw [h] at hr; cases hr), fun j hj => ?_⟩
    by_cases hji : j = i
    · subst hji; exact hy.step hi hw H
    · have h1 := H.2 j (ready_mono hj hji)
      obtain ⟨hjun, oj, hoj, hall⟩ := mem_ready.1 hj
      have hiun := (mem_ready.1 hr).1
      have hjD : j ∉ D := fun hm => by
        obtain ⟨o, ho, e, he, hb, hc⟩ := depOk_spec hD hm
        rw [hoj] at ho
        injection ho with ho
        subst ho
        have h2 := hall e he hb
        rcases hc with hc | hc
        · rw [hc, unlisted hiun] at h2; cases h2
        · rw [unlisted (hun _ hc)] at h2; cases h2
      obtain ⟨hap, hC⟩ := hfree j oj hoj hji hjD hjun
      have h2 := step_put (C := C) hoj hap (fun cs b => hsel i oi cs b hi) (fun cs b => hsel j oj cs b hoj) hQ hC hw hy h1
      refine wpOp_mono (fun a' w' h3 => ih (listed.setIfInBounds j true) a' w' (fun k ok hk hki hkD hkun => hfree k ok hk hki hkD ?_) (fun k hk => ?_) (ready_mono hr (Ne.symm hji)) h3.2.1 h3.1 ?_) h2
      · by_cases hjk : j = k
        · subst hjk; exact hjun
        · rw [Go.getD_set_ne true hjk] at hkun; exact hkun
      · rw [Go.getD_set_ne true (fun e => hjD (by rw [e]; exact hk))]
        exact hun k hk
      · rw [Array.setIfInBounds_comm _ _ hji]
        exact h3.2.2
/-- The only one that may come up. -/
theorem any_only {i : Nat} {fuel : Nat} {listed : Array Bool} {a : Act} {w : World} {D : List Nat} (hD : depOk ops i D = true) (hr : i ∈ Region.ready .any ops listed) (hun : ∀ j ∈ D, listed.getD j true = false)
    (hall : ∀ j oj, ops[j]? = some oj → j ≠ i → j ∉ D → listed.getD j true = true) (h : wpOp P ops Q i (wpAny P .any ops Q fuel (listed.setIfInBounds i true)) a w) : wpAny P .any ops Q (fuel + 1) listed a w := by
  refine ⟨fun h => (by rw [h] at hr; cases hr), fun j hj => ?_⟩
  by_cases hji : j = i
  · subst hji; exact h
  · exfalso
    obtain ⟨hjun, oj, hoj, hal⟩ := mem_ready.1 hj
    by_cases hm : j ∈ D
    · obtain ⟨o, ho, e, he, hb, hc⟩ := depOk_spec hD hm
      rw [hoj] at ho
      injection ho with ho
      subst ho
      have h2 := hal e he hb
      rcases hc with hc | hc
      · rw [hc, unlisted (mem_ready.1 hr).1] at h2; cases h2
      · rw [unlisted (hun _ hc)] at h2; cases h2
    · rw [hall j oj hoj hji hm] at hjun; cases hjun
end
end Go.Ev
