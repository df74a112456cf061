/- Operations that change nothing that was there. -/
import Derived.Test.YtphlkpahfcainaaEvCallF
namespace Go.Ev
set_option linter.unusedVariables false
set_option linter.unusedSimpArgs false

theorem ExtW.refl (w : World) : ExtW w w := fun _ _ => rfl
theorem ExtW.size {w w' : World} (h : ExtW w w') : w.heap.size ≤ w'.heap.size := by
  apply Nat.le_of_not_lt
  intro hn
  have h1 := h w'.heap.size hn
  rw [Array.getElem?_eq_none (Nat.le_refl _), Array.getElem?_eq_getElem hn] at h1
  cases h1
theorem ExtW.trans {w w' w'' : World} (h : ExtW w w') (k : ExtW w' w'') : ExtW w w'' := fun b hb => (k b (Nat.lt_of_lt_of_le hb h.size)).trans (h b hb)

section
variable {P : Program} {α β : Type}

/-- Whatever it comes to, nothing that was there is changed. -/
def SG (P : Program) (s : Sem α) : Prop := ∀ w v w', s.run P w = .ok v w' → ExtW w w'

theorem SG.pure (a : α) : SG P (pure a : Sem α) := fun w v w' h => by
  rw [Sem.run_pure] at h
  injection h with h1 h2
  subst h2
  exact .refl _
theorem SG.bind {s : Sem α} {f : α → Sem β} (h : SG P s) (k : ∀ a, SG P (f a)) : SG P (s >>= f) := fun w v w' e => by
  rw [Sem.run_bind] at e
  cases hs : s.run P w with
  | ok a w1 =>
    rw [hs] at e
    exact (h _ _ _ hs).trans (k a _ _ _ e)
  | halt x w1 => rw [hs] at e; cases e
theorem SG.map {s : Sem α} {f : α → β} (h : SG P s) : SG P (f <$> s) := by
  have e : (f <$> s) = s >>= fun a => Pure.pure (f a) := rfl
  rw [e]
  exact h.bind fun a => .pure _
theorem SG.halt (x : Halt) : SG P (Sem.halt x : Sem α) := fun w v w' h => by cases h
theorem SG.stuck (m : String) : SG P (Go.stuck m : Sem α) := SG.halt _
theorem SG.unsupported (u : Unsupported) : SG P (Go.unsupported u : Sem α) := SG.halt _
theorem SG.goPanic (v : Value) : SG P (Go.goPanic v : Sem α) := SG.halt _
theorem SG.program : SG P Go.program := fun w v w' h => by
  simp only [Go.program, Sem.run] at h
  injection h with h1 h2
  subst h2
  exact .refl _
theorem SG.mark (m : Mark) : SG P (Go.mark m) := fun w v w' h => by
  simp only [Go.mark, Sem.run] at h
  injection h with h1 h2
  subst h2
  exact .refl _
theorem SG.choose (q : Question) : SG P (Go.choose q) := fun w v w' h => by
  simp only [Go.choose, Sem.run] at h
  split at h <;> (injection h with h1 h2; subst h2; exact fun _ _ => rfl)
theorem SG.load (a : Addr) : SG P (Go.load a) := fun w v w' h => by
  simp only [Go.load, Sem.run] at h
  split at h
  · injection h with h1 h2; subst h2; exact .refl _
  · split at h
    · injection h with h1 h2; subst h2; exact .refl _
    · cases h
theorem SG.getObj (r : Nat) : SG P (Go.getObj r) := fun w v w' h => by
  simp only [Go.getObj, Sem.run] at h
  split at h
  · cases h
  · injection h with h1 h2; subst h2; exact .refl _
  · cases h
theorem SG.shape (r : Nat) : SG P (Go.shape r) := fun w v w' h => by
  simp only [Go.shape, Sem.run] at h
  injection h with h1 h2
  subst h2
  exact .refl _
theorem SG.listMapM {γ δ : Type} {f : γ → Sem δ} (h : ∀ x, SG P (f x)) : ∀ l : List γ, SG P (l.mapM f)
  | [] => by rw [List.mapM_nil]; exact .pure _
  | x :: l => by rw [List.mapM_cons]; exact (h x).bind fun _ => (SG.listMapM h l).bind fun _ => .pure _
theorem SG.mapM {γ δ : Type} {f : γ → Sem δ} (h : ∀ x, SG P (f x)) (l : Array γ) : SG P (l.mapM f) := by
  rw [Array.mapM_eq_mapM_toList]
  exact .map (.listMapM h _)
theorem SG.newObj (o : Obj) : SG P (Go.newObj o) := fun w v w' h => by
  simp only [Go.newObj, Sem.run] at h
  injection h with h1 h2
  subst h2
  intro b hb
  exact Array.getElem?_push_lt hb |>.trans (Array.getElem?_eq_getElem hb).symm
theorem SG.typeInfo (t : TypeId) : SG P (Go.typeInfo t) := by
  unfold Go.typeInfo
  refine SG.program.bind fun p => ?_
  split
  · exact .pure _
  · exact .stuck _
theorem SG.underlying (t : TypeId) : SG P (Go.underlying t) := by
  unfold Go.underlying
  refine SG.program.bind fun p => ?_
  split
  · exact .pure _
  · exact .stuck _
theorem SG.sizeOf (t : TypeId) : SG P (Go.sizeOf t) := (SG.typeInfo t).bind fun _ => .pure _
theorem SG.zeroValue (t : TypeId) : SG P (Go.zeroValue t) := by
  unfold Go.zeroValue
  refine (SG.typeInfo t).bind fun i => ?_
  split
  · exact .pure _
  · exact .unsupported _
theorem SG.isAgg (t : TypeId) : SG P (Go.isAgg t) := by
  unfold Go.isAgg
  refine (SG.underlying t).bind fun d => ?_
  split <;> exact .pure _
theorem SG.newRow (e : TypeId) (cs : Array Value) : SG P (Go.newRow e cs) := (SG.newObj _).bind fun _ => .pure _
theorem SG.newVar (t : TypeId) (v : Value) : SG P (Go.newVar t v) := SG.newRow _ _
theorem SG.askRoom (n : Nat) : SG P (Go.askRoom n) := by
  unfold Go.askRoom
  split
  · exact .mark _
  · exact .pure _
theorem SG.elemOf (t : TypeId) : SG P (Go.elemOf t) := by
  unfold Go.elemOf
  refine (SG.underlying t).bind fun d => ?_
  split
  · exact .pure _
  · exact .stuck _
theorem SG.runtimePanic (e : RuntimeError) : SG P (Go.runtimePanic e : Sem α) := by
  unfold Go.runtimePanic
  refine SG.program.bind fun p => ?_
  cases e with
  | typeAssertion i c a m => exact (SG.elemOf _).bind fun _ => (SG.newVar _ _).bind fun _ => .goPanic _
  | panicNil => exact (SG.elemOf _).bind fun _ => (SG.newVar _ _).bind fun _ => .goPanic _
  | _ => exact .goPanic _
theorem SG.boundsPanic (k : IntKind) (x y : Int) (c : BoundsCode) : SG P (Go.boundsPanic k x y c : Sem α) := by
  unfold Go.boundsPanic
  split
  · exact (SG.map (.choose _)).bind fun _ => .runtimePanic _
  · exact (SG.pure _).bind fun _ => .runtimePanic _
theorem SG.asIntOf (v : Value) : SG P (Go.asIntOf v) := by
  unfold Go.asIntOf
  split
  · exact .pure _
  · exact .unsupported _
  · exact .stuck _
theorem SG.asInt (v : Value) : SG P (Go.asInt v) := (SG.asIntOf v).bind fun _ => .pure _
theorem SG.sureAddr (v : Value) : SG P (Instr.sureAddr v) := by
  unfold Instr.sureAddr
  split
  · exact .pure _
  · exact .stuck _
theorem SG.loadCellsFrom (a : Addr) : ∀ (n i : Nat) (acc : Array Value), SG P (Go.loadCellsFrom a i n acc)
  | 0, i, acc => .pure _
  | n + 1, i, acc => (SG.load _).bind fun v => SG.loadCellsFrom a n (i + 1) _
theorem SG.loadVar (t : TypeId) (a : Addr) : SG P (Go.loadVar t a) := by
  unfold Go.loadVar
  refine (SG.isAgg t).bind fun b => ?_
  split
  · exact (SG.sizeOf t).bind fun n => (SG.loadCellsFrom a n 0 _).bind fun _ => .pure _
  · exact .load _

theorem SG.loadAt (t : TypeId) (v : Value) : SG P (Instr.loadAt t v) := (SG.sureAddr v).bind fun _ => .loadVar _ _
theorem SG.alloc (t : TypeId) : SG P (Instr.alloc t true (.tuple #[])) := by
  unfold Instr.alloc
  refine (SG.zeroValue t).bind fun z => ?_
  exact (SG.newVar _ _).bind fun _ => .pure _
theorem SG.box (t : TypeId) (v : Value) : SG P (Instr.box t v) := (SG.newVar _ _).bind fun _ => .pure _
theorem SG.buildSlice (t : TypeId) (n : Nat) (ps : Array (Nat × Value)) : SG P (Instr.buildSlice t n ps) := by
  unfold Instr.buildSlice
  repeat' (first | exact SG.pure _ | exact SG.stuck _ | exact SG.unsupported _ | exact SG.goPanic _ | exact SG.typeInfo _ | exact SG.underlying _ | exact SG.sizeOf _ | exact SG.zeroValue _ | exact SG.isAgg _ | exact SG.newRow _ _ | exact SG.newVar _ _ | exact SG.askRoom _ | exact SG.runtimePanic _ | exact SG.boundsPanic _ _ _ _ | exact SG.asIntOf _ | exact SG.asInt _ | exact SG.sureAddr _ | exact SG.load _ | exact SG.loadVar _ _ | exact SG.choose _ | exact SG.mark _ | exact SG.program | exact SG.getObj _ | exact SG.shape _ |  refine SG.bind ?_ (fun _ => ?_) | refine SG.map ?_ | split | dsimp only)
theorem SG.makeSlice (t : TypeId) (x y : Value) : SG P (Instr.makeSlice t x y) := by
  unfold Instr.makeSlice
  repeat' (first | exact SG.pure _ | exact SG.stuck _ | exact SG.unsupported _ | exact SG.goPanic _ | exact SG.typeInfo _ | exact SG.underlying _ | exact SG.sizeOf _ | exact SG.zeroValue _ | exact SG.isAgg _ | exact SG.newRow _ _ | exact SG.newVar _ _ | exact SG.askRoom _ | exact SG.runtimePanic _ | exact SG.boundsPanic _ _ _ _ | exact SG.asIntOf _ | exact SG.asInt _ | exact SG.sureAddr _ | exact SG.load _ | exact SG.loadVar _ _ | exact SG.choose _ | exact SG.mark _ | exact SG.program | exact SG.getObj _ | exact SG.shape _ |  refine SG.bind ?_ (fun _ => ?_) | refine SG.map ?_ | split | dsimp only)
theorem SG.indexAt (t : TypeId) (x y : Value) : SG P (Instr.indexAt t x y) := by
  unfold Instr.indexAt
  repeat' (first | exact SG.pure _ | exact SG.stuck _ | exact SG.unsupported _ | exact SG.goPanic _ | exact SG.typeInfo _ | exact SG.underlying _ | exact SG.sizeOf _ | exact SG.zeroValue _ | exact SG.isAgg _ | exact SG.newRow _ _ | exact SG.newVar _ _ | exact SG.askRoom _ | exact SG.runtimePanic _ | exact SG.boundsPanic _ _ _ _ | exact SG.asIntOf _ | exact SG.asInt _ | exact SG.sureAddr _ | exact SG.load _ | exact SG.loadVar _ _ | exact SG.choose _ | exact SG.mark _ | exact SG.program | exact SG.getObj _ | exact SG.shape _ |  refine SG.bind ?_ (fun _ => ?_) | refine SG.map ?_ | split | dsimp only)
theorem SG.build (t : TypeId) (ps : Array (Nat × Value)) : SG P (Instr.build t ps) := by
  unfold Instr.build
  refine (SG.zeroValue t).bind fun z => (SG.underlying t).bind fun d => ?_
  split
  · refine (SG.mapM (fun (f : Field) => (SG.sizeOf f.type).bind fun _ => .pure _) _).bind fun ps => ?_
    split
    · exact .pure _
    · exact .stuck _
  · refine (SG.sizeOf _).bind fun n => ?_
    split
    · exact .pure _
    · exact .stuck _
  · exact .stuck _
theorem SG.len (ts : Array TypeId) (t : TypeId) (xs : Array Value) : SG P (Builtin.len_ ts t xs) := by
  unfold Builtin.len_
  repeat' (first | exact SG.pure _ | exact SG.stuck _ | exact SG.unsupported _ | exact SG.goPanic _ | exact SG.typeInfo _ | exact SG.underlying _ | exact SG.sizeOf _ | exact SG.zeroValue _ | exact SG.isAgg _ | exact SG.newRow _ _ | exact SG.newVar _ _ | exact SG.askRoom _ | exact SG.runtimePanic _ | exact SG.boundsPanic _ _ _ _ | exact SG.asIntOf _ | exact SG.asInt _ | exact SG.sureAddr _ | exact SG.load _ | exact SG.loadVar _ _ | exact SG.choose _ | exact SG.mark _ | exact SG.program | exact SG.getObj _ | exact SG.shape _ |  refine SG.bind ?_ (fun _ => ?_) | refine SG.map ?_ | split | dsimp only)

end
end Go.Ev
