/- Operations, all of them. -/
import Derived.Test.YtphlkpahfcainaaEvGrow
namespace Go.Ev
set_option linter.unusedVariables false
set_option linter.unusedSimpArgs false

/-- Operations that look at no memory. -/
def pureOp (o : Op) : Bool := match o with
  | .move _ | .assign _ | .pick .. | .nilCheck _ | .binOp .. | .unOp .. | .convert .. | .slice .. | .fieldAddr .. | .field .. | .indexAddr .. | .index .. | .makeFunc .. | .extract .. | .build .. => true
  | .call c => match c.callee with
    | .builtin .len | .builtin .min | .builtin .max => true
    | _ => false
  | _ => false
def loadOp (o : Op) : Bool := match o with
  | .load .. => true
  | _ => false
/-- Operations that change nothing that was there. -/
def growOp (o : Op) : Bool := match o with
  | .move _ | .assign _ | .load .. | .alloc _ | .box .. | .build .. | .buildSlice .. | .makeSlice .. | .indexAddr .. => true
  | .call c => match c.callee with
    | .builtin .len => true
    | _ => false
  | _ => false

theorem value_run {P : Program} {s : Sem Value} {w : World} {n : Next} {w' : World} (h : (s >>= fun v => (pure (.value v) : Sem Next)).run P w = .ok n w') : ∃ v, n = .value v ∧ s.run P w = .ok v w' := by
  rw [Sem.run_bind] at h
  cases hs : s.run P w with
  | ok v w1 =>
    rw [hs] at h
    simp only [Result.andThen_ok, Sem.run_pure, Result.ok.injEq] at h
    exact ⟨v, h.1.symm, by rw [h.2]⟩
  | halt x w1 => rw [hs] at h; cases h

theorem grow_run {P : Program} {o : Oper} (ho : growOp o.op = true) {ρ : Operand → Value} {w : World} {n : Next} {w' : World} (h : (execOp ρ o).run P w = .ok n w') : ExtW w w' ∧ ∃ v, n = .value v := by
  obtain ⟨d, op, ty, pos, aft, gd⟩ := o
  have key : ∀ s : Sem Value, SG P s → (s >>= fun v => (pure (.value v) : Sem Next)).run P w = .ok n w' → ExtW w w' ∧ ∃ v, n = .value v := by
    intro s hs h
    obtain ⟨v, h1, h2⟩ := value_run h
    exact ⟨hs _ _ _ h2, v, h1⟩
  cases op <;> simp only [growOp, Bool.false_eq_true] at ho <;> simp only [execOp] at h
  case move x =>
    rw [Sem.run_pure] at h
    injection h with h1 h2
    subst h2
    exact ⟨.refl _, _, h1.symm⟩
  case assign x =>
    rw [Sem.run_pure] at h
    injection h with h1 h2
    subst h2
    exact ⟨.refl _, _, h1.symm⟩
  case alloc t => exact key _ (.alloc _) h
  case box t x => exact key _ (.box _ _) h
  case build t ps => exact key _ (.build _ _) h
  case buildSlice t n ps => exact key _ (.buildSlice _ _ _) h
  case load t x => exact key _ (.loadAt _ _) h
  case makeSlice t l c => exact key _ (.makeSlice _ _ _) h
  case indexAddr t x i => exact key _ (.indexAt _ _ _) h
  case call c =>
    obtain ⟨cal, args, ats⟩ := c
    simp only at ho
    split at ho
    · simp only [resolve, invoke, builtin, Sem.run_bind, Sem.run_pure, Result.andThen_ok] at h
      have h2 : (Builtin.len_ ats ty (args.map ρ) >>= fun v => (pure (.value v) : Sem Next)).run P w = .ok n w' := by
        rw [Sem.run_bind]
        exact h
      exact key _ (.len _ _ _) h2
    · cases ho

section
variable {P : Program} {T : TypeId → Option TI} {env : Env} {X : Ctx} {σ : St} {a : Act} {w : World} {g : Gh} {A : Type} {r : A} {k : St → Option A} {K : Act → World → Prop} {Q : Exit → Act → World → Prop} {o : Oper}

theorem op_pure (hT : TOk P T) (hp : pureOp o.op = true) (h : Rel X σ a w g) (hN : X.N ≤ σ.length) (ho : OpIn X.N o) (hk : opK T env o σ k = some r) (hK : Nx X σ.length k r K) : Oper.wpS P o a w K := by
  obtain ⟨d, op, ty, pos, aft, gd⟩ := o
  cases op <;> simp only [pureOp, Bool.false_eq_true] at hp
  case move => exact op_move h hN ho hk hK
  case assign => exact op_assign h hN ho hk hK
  case pick => exact op_pick h hN ho hk hK
  case nilCheck => exact op_nilCheck h hN ho hk hK
  case binOp => exact op_binOp hT h hN ho hk hK
  case unOp => exact op_unOp h hN ho hk hK
  case convert => exact op_convert hT h hN ho hk hK
  case slice => exact op_slice hT h hN ho hk hK
  case fieldAddr => exact op_fieldAddr hT h hN ho hk hK
  case field => exact op_field hT h hN ho hk hK
  case indexAddr => exact op_indexAddr hT h hN ho hk hK
  case index => exact op_index hT h hN ho hk hK
  case makeFunc => exact op_makeFunc h hN ho hk hK
  case extract => exact op_extract h hN ho hk hK
  case build => exact op_build hT h hN ho hk hK
  case call c =>
    split at hp
    · rename_i hc; exact op_len hT hc h hN ho hk hK
    · rename_i hc; exact op_min hc h hN ho hk hK
    · rename_i hc; exact op_max hc h hN ho hk hK
    · cases hp

theorem op_sound (hT : TOk P T) (hE : EnvOk P env) (h : Rel X σ a w g) (hN : X.N ≤ σ.length) (ho : OpIn X.N o) (hk : opK T env o σ k = some r) (hK : Nx X σ.length k r K) : o.wp P a w K Q := by
  cases hp : pureOp o.op with
  | true => exact Oper.wp_of_S (op_pure hT hp h hN ho hk hK)
  | false =>
    obtain ⟨d, op, ty, pos, aft, gd⟩ := o
    cases op <;> simp only [pureOp, reduceCtorEq] at hp
    case alloc => exact op_alloc hT h hN ho hk hK
    case box => exact op_box hT h hN ho hk hK
    case buildSlice => exact op_buildSlice hT h hN ho hk hK
    case load => exact Oper.wp_of_E (op_load hT h hN ho hk hK)
    case store => exact op_store hT h hN ho hk hK
    case makeSlice => exact op_makeSlice hT h hN ho hk hK
    case call c =>
      obtain ⟨cal, args, ats⟩ := c
      cases cal with
      | value x => exact op_callF rfl hE h hN ho hk hK
      | invoke x n => simp [opK] at hk
      | builtin b =>
        cases b <;> first | (simp only [reduceCtorEq] at hp; done) | exact op_append hT rfl h hN ho hk hK | (simp [opK] at hk; done)
    all_goals (simp [opK] at hk)

end
end Go.Ev
