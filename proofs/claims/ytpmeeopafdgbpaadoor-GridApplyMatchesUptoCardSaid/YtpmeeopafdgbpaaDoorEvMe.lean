/- Code is sound. -/
import Derived.Test.YtpmeeopafdgbpaaDoorEvMd
import Derived.Orders
import Derived.Deep.LoopGhost
namespace Go.Ev
set_option linter.unusedVariables false
set_option linter.unusedSimpArgs false
theorem ExtW.refl (w : World) : ExtW w w := fun _ _ => rfl
theorem ExtW.size {w w' : World} (h : ExtW w w') : w.heap.size ≤ w'.heap.size := by
  apply Nat.le_of_not_lt
  intro hn
  have h1 := h w'.heap.size hn
  rw [Array.getElem?_eq_none (Nat.le_refl _), Array.getElem?_eq_getElem hn] at h1
  cases h1
theorem ExtW.trans {w w' w'' : World} (h : ExtW w w') (k : ExtW w' w'') : ExtW w w'' := fun b hb => (k b (Nat.lt_of_lt_of_le hb h.size)).trans (h b hb)
section
variable {P : Program} {α β : Type}
/-- Whatever it comes to, nothing that was there is changed. -/
def SG (P : Program) (s : Sem α) : Prop := ∀ w v w', s.run P w = .ok v w' → ExtW w w'
theorem SG.pure (a : α) : SG P (pure a : Sem α) := fun w v w' h => by
  rw [Sem.run_pure] at h
  injection h with h1 h2
  subst h2
  exact .refl _
theorem SG.bind {s : Sem α} {f : α → Sem β} (h : SG P s) (k : ∀ a, SG P (f a)) : SG P (s >>= f) := fun w v w' e => by
  rw [Sem.run_bind] at e
  cases hs : s.run P w with
  | ok a w1 =>
    rw [hs] at e
    exact (h _ _ _ hs).trans (k a _ _ _ e)
  | halt x w1 => rw [hs] at e; cases e
theorem SG.map {s : Sem α} {f : α → β} (h : SG P s) : SG P (f <$> s) := by
  have e : (f <$> s) = s >>= fun a => Pure.pure (f a) := rfl
  rw [e]
  exact h.bind fun a => .pure _
theorem SG.halt (x : Halt) : SG P (Sem.halt x : Sem α) := fun w v w' h => by cases h
theorem SG.stuck (m : String) : SG P (Go.stuck m : Sem α) := SG.halt _
theorem SG.unsupported (u : Unsupported) : SG P (Go.unsupported u : Sem α) := SG.halt _
theorem SG.goPanic (v : Value) : SG P (Go.goPanic v : Sem α) := SG.halt _
theorem SG.program : SG P Go.program := fun w v w' h => by
  simp only [Go.program, Sem.run] at h
  injection h with h1 h2
  subst h2
  exact .refl _
theorem SG.mark (m : Mark) : SG P (Go.mark m) := fun w v w' h => by
  simp only [Go.mark, Sem.run] at h
  injection h with h1 h2
  subst h2
  exact .refl _
theorem SG.choose (q : Question) : SG P (Go.choose q) := fun w v w' h => by
  simp only [Go.choose, Sem.run] at h
  split at h <;> (injection h with h1 h2; subst h2; exact fun _ _ => rfl)
theorem SG.load (a : Addr) : SG P (Go.load a) := fun w v w' h => by
  simp only [Go.load, Sem.run] at h
  split at h
  · injection h with h1 h2; subst h2; exact .refl _
  · split at h
    · injection h with h1 h2; subst h2; exact .refl _
    · cases h
theorem SG.getObj (r : Nat) : SG P (Go.getObj r) := fun w v w' h => by
  simp only [Go.getObj, Sem.run] at h
  split at h
  · cases h
  · injection h with h1 h2; subst h2; exact .refl _
  · cases h
theorem SG.shape (r : Nat) : SG P (Go.shape r) := fun w v w' h => by
  simp only [Go.shape, Sem.run] at h
  injection h with h1 h2
  subst h2
  exact .refl _
theorem SG.listMapM {γ δ : Type} {f : γ → Sem δ} (h : ∀ x, SG P (f x)) : ∀ l : List γ, SG P (l.mapM f)
  | [] => by rw [List.mapM_nil]; exact .pure _
  | x :: l => by rw [List.mapM_cons]; exact (h x).bind fun _ => (SG.listMapM h l).bind fun _ => .pure _
theorem SG.mapM {γ δ : Type} {f : γ → Sem δ} (h : ∀ x, SG P (f x)) (l : Array γ) : SG P (l.mapM f) := by
  rw [Array.mapM_eq_mapM_toList]
  exact .map (.listMapM h _)
theorem SG.newObj (o : Obj) : SG P (Go.newObj o) := fun w v w' h => by
  simp only [Go.newObj, Sem.run] at h
  injection h with h1 h2
  subst h2
  intro b hb
  exact Array.getElem?_push_lt hb |>.trans (Array.getElem?_eq_getElem hb).symm
theorem SG.typeInfo (t : TypeId) : SG P (Go.typeInfo t) := by
  unfold Go.typeInfo
  refine SG.program.bind fun p => ?_
  split
  · exact .pure _
  · exact .stuck _
theorem SG.underlying (t : TypeId) : SG P (Go.underlying t) := by
  unfold Go.underlying
  refine SG.program.bind fun p => ?_
  split
  · exact .pure _
  · exact .stuck _
theorem SG.sizeOf (t : TypeId) : SG P (Go.sizeOf t) := (SG.typeInfo t).bind fun _ => .pure _
theorem SG.zeroValue (t : TypeId) : SG P (Go.zeroValue t) := by
  unfold Go.zeroValue
  refine (SG.typeInfo t).bind fun i => ?_
  split
  · exact .pure _
  · exact .unsupported _
theorem SG.isAgg (t : TypeId) : SG P (Go.isAgg t) := by
  unfold Go.isAgg
  refine (SG.underlying t).bind fun d => ?_
  split <;> exact .pure _
theorem SG.newRow (e : TypeId) (cs : Array Value) : SG P (Go.newRow e cs) := (SG.newObj _).bind fun _ => .pure _
theorem SG.newVar (t : TypeId) (v : Value) : SG P (Go.newVar t v) := SG.newRow _ _
theorem SG.askRoom (n : Nat) : SG P (Go.askRoom n) := by
  unfold Go.askRoom
  split
  · exact .mark _
  · exact .pure _
theorem SG.elemOf (t : TypeId) : SG P (Go.elemOf t) := by
  unfold Go.elemOf
  refine (SG.underlying t).bind fun d => ?_
  split
  · exact .pure _
  · exact .stuck _
theorem SG.runtimePanic (e : RuntimeError) : SG P (Go.runtimePanic e : Sem α) := by
  unfold Go.runtimePanic
  refine SG.program.bind fun p => ?_
  cases e with
  | typeAssertion i c a m => exact (SG.elemOf _).bind fun _ => (SG.newVar _ _).bind fun _ => .goPanic _
  | panicNil => exact (SG.elemOf _).bind fun _ => (SG.newVar _ _).bind fun _ => .goPanic _
  | _ => exact .goPanic _
theorem SG.boundsPanic (k : IntKind) (x y : Int) (c : BoundsCode) : SG P (Go.boundsPanic k x y c : Sem α) := by
  unfold Go.boundsPanic
  split
  · exact (SG.map (.choose _)).bind fun _ => .runtimePanic _
  · exact (SG.pure _).bind fun _ => .runtimePanic _
theorem SG.asIntOf (v : Value) : SG P (Go.asIntOf v) := by
  unfold Go.asIntOf
  split
  · exact .pure _
  · exact .unsupported _
  · exact .stuck _
theorem SG.asInt (v : Value) : SG P (Go.asInt v) := (SG.asIntOf v).bind fun _ => .pure _
theorem SG.sureAddr (v : Value) : SG P (Instr.sureAddr v) := by
  unfold Instr.sureAddr
  split
  · exact .pure _
  · exact .stuck _
theorem SG.loadCellsFrom (a : Addr) : ∀ (n i : Nat) (acc : Array Value), SG P (Go.loadCellsFrom a i n acc)
  | 0, i, acc => .pure _
  | n + 1, i, acc => (SG.load _).bind fun v => SG.loadCellsFrom a n (i + 1) _
theorem SG.loadVar (t : TypeId) (a : Addr) : SG P (Go.loadVar t a) := by
  unfold Go.loadVar
  refine (SG.isAgg t).bind fun b => ?_
  split
  · exact (SG.sizeOf t).bind fun n => (SG.loadCellsFrom a n 0 _).bind fun _ => .pure _
  · exact .load _
theorem SG.loadAt (t : TypeId) (v : Value) : SG P (Instr.loadAt t v) := (SG.sureAddr v).bind fun _ => .loadVar _ _
theorem SG.alloc (t : TypeId) : SG P (Instr.alloc t true (.tuple #[])) := by
  unfold Instr.alloc
  refine (SG.zeroValue t).bind fun z => ?_
  exact (SG.newVar _ _).bind fun _ => .pure _
theorem SG.box (t : TypeId) (v : Value) : SG P (Instr.box t v) := (SG.newVar _ _).bind fun _ => .pure _
theorem SG.buildSlice (t : TypeId) (n : Nat) (ps : Array (Nat × Value)) : SG P (Instr.buildSlice t n ps) := by
  unfold Instr.buildSlice
  repeat' (first | exact SG.pure _ | exact SG.stuck _ | exact SG.unsupported _ | exact SG.goPanic _ | exact SG.typeInfo _ | exact SG.underlying _ | exact SG.sizeOf _ | exact SG.zeroValue _ | exact SG.isAgg _ | exact SG.newRow _ _ | exact SG.newVar _ _ | exact SG.askRoom _ | exact SG.runtimePanic _ | exact SG.boundsPanic _ _ _ _ | exact SG.asIntOf _ | exact SG.asInt _ | exact SG.sureAddr _ | exact SG.load _ | exact SG.loadVar _ _ | exact SG.choose _ | exact SG.mark _ | exact SG.program | exact SG.getObj _ | exact SG.shape _ |  refine SG.bind ?_ (fun _ => ?_) | refine SG.map ?_ | split | dsimp only)
theorem SG.makeSlice (t : TypeId) (x y : Value) : SG P (Instr.makeSlice t x y) := by
  unfold Instr.makeSlice
  repeat' (first | exact SG.pure _ | exact SG.stuck _ | exact SG.unsupported _ | exact SG.goPanic _ | exact SG.typeInfo _ | exact SG.underlying _ | exact SG.sizeOf _ | exact SG.zeroValue _ | exact SG.isAgg _ | exact SG.newRow _ _ | exact SG.newVar _ _ | exact SG.askRoom _ | exact SG.runtimePanic _ | exact SG.boundsPanic _ _ _ _ | exact SG.asIntOf _ | exact SG.asInt _ | exact SG.sureAddr _ | exact SG.load _ | exact SG.loadVar _ _ | exact SG.choose _ | exact SG.mark _ | exact SG.program | exact SG.getObj _ | exact SG.shape _ |  refine SG.bind ?_ (fun _ => ?_) | refine SG.map ?_ | split | dsimp only)
theorem SG.indexAt (t : TypeId) (x y : Value) : SG P (Instr.indexAt t x y) := by
  unfold Instr.indexAt
  repeat' (first | exact SG.pure _ | exact SG.stuck _ | exact SG.unsupported _ | exact SG.goPanic _ | exact SG.typeInfo _ | exact SG.underlying _ | exact SG.sizeOf _ | exact SG.zeroValue _ | exact SG.isAgg _ | exact SG.newRow _ _ | exact SG.newVar _ _ | exact SG.askRoom _ | exact SG.runtimePanic _ | exact SG.boundsPanic _ _ _ _ | exact SG.asIntOf _ | exact SG.asInt _ | exact SG.sureAddr _ | exact SG.load _ | exact SG.loadVar _ _ | exact SG.choose _ | exact SG.mark _ | exact SG.program | exact SG.getObj _ | exact SG.shape _ |  refine SG.bind ?_ (fun _ => ?_) | refine SG.map ?_ | split | dsimp only)
theorem SG.build (t : TypeId) (ps : Array (Nat × Value)) : SG P (Instr.build t ps) := by
  unfold Instr.build
  refine (SG.zeroValue t).bind fun z => (SG.underlying t).bind fun d => ?_
  split
  · refine (SG.mapM (fun (f : Field) => (SG.sizeOf f.type).bind fun _ => .pure _) _).bind fun ps => ?_
    split
    · exact .pure _
    · exact .stuck _
  · refine (SG.sizeOf _).bind fun n => ?_
    split
    · exact .pure _
    · exact .stuck _
  · exact .stuck _
theorem SG.len (ts : Array TypeId) (t : TypeId) (xs : Array Value) : SG P (Builtin.len_ ts t xs) := by
  unfold Builtin.len_
  repeat' (first | exact SG.pure _ | exact SG.stuck _ | exact SG.unsupported _ | exact SG.goPanic _ | exact SG.typeInfo _ | exact SG.underlying _ | exact SG.sizeOf _ | exact SG.zeroValue _ | exact SG.isAgg _ | exact SG.newRow _ _ | exact SG.newVar _ _ | exact SG.askRoom _ | exact SG.runtimePanic _ | exact SG.boundsPanic _ _ _ _ | exact SG.asIntOf _ | exact SG.asInt _ | exact SG.sureAddr _ | exact SG.load _ | exact SG.loadVar _ _ | exact SG.choose _ | exact SG.mark _ | exact SG.program | exact SG.getObj _ | exact SG.shape _ |  refine SG.bind ?_ (fun _ => ?_) | refine SG.map ?_ | split | dsimp only)
end
end Go.Ev
namespace Go.Ev
set_option linter.unusedVariables false
set_option linter.unusedSimpArgs false
/-- Operations that look at no memory. -/
def pureOp (o : Op) : Bool := match o with
  | .move _ | .assign _ | .pick .. | .nilCheck _ | .binOp .. | .unOp .. | .slice .. | .fieldAddr .. | .field .. | .indexAddr .. | .index .. | .makeFunc .. | .extract .. | .build .. => true
  | .convert _ dst _ => Nat.blt dst strId || Nat.blt strId dst
  | .call c => match c.callee with
    | .builtin .len | .builtin .min | .builtin .max => true
    | _ => false
  | _ => false
def loadOp (o : Op) : Bool := match o with
  | .load .. => true
  | .convert _ dst _ => Nat.beq dst strId
  | _ => false
/-- Operations that change nothing that was there. -/
def growOp (o : Op) : Bool := match o with
  | .move _ | .assign _ | .load .. | .alloc _ | .box .. | .build .. | .buildSlice .. | .makeSlice .. | .indexAddr .. => true
  | .call c => match c.callee with
    | .builtin .len => true
    | _ => false
  | _ => false
theorem value_run {P : Program} {s : Sem Value} {w : World} {n : Next} {w' : World} (h : (s >>= fun v => (pure (.value v) : Sem Next)).run P w = .ok n w') : ∃ v, n = .value v ∧ s.run P w = .ok v w' := by
  rw [Sem.run_bind] at h
  cases hs : s.run P w with
  | ok v w1 =>
    rw [hs] at h
    simp only [Result.andThen_ok, Sem.run_pure, Result.ok.injEq] at h
    exact ⟨v, h.1.symm, by rw [h.2]⟩
  | halt x w1 => rw [hs] at h; cases h
theorem grow_run {P : Program} {o : Oper} (ho : growOp o.op = true) {ρ : Operand → Value} {w : World} {n : Next} {w' : World} (h : (execOp ρ o).run P w = .ok n w') : ExtW w w' ∧ ∃ v, n = .value v := by
  obtain ⟨d, op, ty, pos, aft, gd⟩ := o
  have key : ∀ s : Sem Value, SG P s → (s >>= fun v => (pure (.value v) : Sem Next)).run P w = .ok n w' → ExtW w w' ∧ ∃ v, n = .value v := by
    intro s hs h
    obtain ⟨v, h1, h2⟩ := value_run h
    exact ⟨hs _ _ _ h2, v, h1⟩
  cases op <;> simp only [growOp, Bool.false_eq_true] at ho <;> simp only [execOp] at h
  case move x =>
    rw [Sem.run_pure] at h
    injection h with h1 h2
    subst h2
    exact ⟨.refl _, _, h1.symm⟩
  case assign x =>
    rw [Sem.run_pure] at h
    injection h with h1 h2
    subst h2
    exact ⟨.refl _, _, h1.symm⟩
  case alloc t => exact key _ (.alloc _) h
  case box t x => exact key _ (.box _ _) h
  case build t ps => exact key _ (.build _ _) h
  case buildSlice t n ps => exact key _ (.buildSlice _ _ _) h
  case load t x => exact key _ (.loadAt _ _) h
  case makeSlice t l c => exact key _ (.makeSlice _ _ _) h
  case indexAddr t x i => exact key _ (.indexAt _ _ _) h
  case call c =>
    obtain ⟨cal, args, ats⟩ := c
    simp only at ho
    split at ho
    · simp only [resolve, invoke, builtin, Sem.run_bind, Sem.run_pure, Result.andThen_ok] at h
      have h2 : (Builtin.len_ ats ty (args.map ρ) >>= fun v => (pure (.value v) : Sem Next)).run P w = .ok n w' := by
        rw [Sem.run_bind]
        exact h
      exact key _ (.len _ _ _) h2
    · cases ho
theorem holR_form {w : World} {S : Nat → Prop} {te : TypeId} {e : Ty} {xs : List (List e.den)} {i : Int} {u : Option Value} {v : Value} (h : holR w S te e xs i u v) :
    ∃ gb cap cur, v = .slice (some ⟨gb, 0, none⟩) xs.length cap ∧ w.heap[gb]? = some (.cells cur te (0, 0)) ∧ xs.length ≤ cap ∧ cap ≤ maxLen ∧ cur.size = cap ∧ 0 ≤ i ∧ i < (xs.length : Int) ∧
      (∀ (j : Nat) (x : List e.den), j ≠ i.toNat → xs[j]? = some x → ∃ c, cur.toList[j]? = some c ∧ rel w S (.list e) x [c]) ∧ ∀ x, u = some x → cur.toList[i.toNat]? = some x := by
  obtain ⟨h1, h2, vs, h3, h4, h5, ho, hc⟩ := h
  rcases hc with ⟨_, hz⟩ | ⟨gb, cap, cur, rfl, _, hg, k1, k2, k3, k4⟩
  · omega
  · have key : ∀ (j : Nat) (c : Value), vs[j]? = some c → cur.toList[j]? = some c := fun j c hj => by
      rw [← k4, List.getElem?_take] at hj
      split at hj
      · exact hj
      · cases hj
    refine ⟨gb, cap, cur, rfl, hg, k1, k2, by omega, h1, h2, fun j x hj hx => ?_, fun x hx => key _ _ (h5 x hx)⟩
    obtain ⟨c, c1, c2⟩ := h4 j x hj hx
    exact ⟨c, key _ _ c1, c2⟩
section
variable {P : Program} {T : TypeId → Option TI} {env : Env} {X : Ctx} {σ : St} {a : Act} {w : World} {g : Gh} {A : Type} {r : A} {k : St → Option A} {K : Act → World → Prop} {Q : Exit → Act → World → Prop}
  {d : Option Tmp} {ty : TypeId} {pos : String} {aft : Array Edge} {gd : Option (Nat × Bool)}
theorem op_indexAddr1 {t : TypeId} {x ix : Operand} (hT : TOk P T) (h : Rel X σ a w g) (hN : X.N ≤ σ.length) (ho : OpIn X.N ⟨d, .indexAddr t x ix, ty, pos, aft, gd⟩) (hk : opK T env ⟨d, .indexAddr t x ix, ty, pos, aft, gd⟩ σ k = some r) (hK : Nx X σ.length k r K) :
    Oper.wpS P ⟨d, .indexAddr t x ix, ty, pos, aft, gd⟩ a w K := by
  have hx := rd1_ok h hN x (ho.ops x (by simp [Op.operands]))
  have hi := rd1_ok h hN ix (ho.ops ix (by simp [Op.operands]))
  simp only [opK] at hk
  split at hk
  rotate_left
  · split at hk
    rotate_left
    · cases hk
    rename_i gn
    split at hk
    rotate_left
    · cases hk
    rename_i q hq
    split at hk
    rotate_left
    · cases hk
    rename_i kk i hil
    split at hk
    rotate_left
    · cases hk
    rename_i hqt
    split at hk
    rotate_left
    · cases hk
    rename_i hb
    obtain ⟨hm, hg⟩ := vtOf_mem hq
    obtain ⟨hu, ei, hei, het⟩ := hT.tab q hm
    rw [hqt] at hu
    rw [hil] at hi
    have hiv := LR_int hi
    obtain ⟨s1, us, u1, u2⟩ := h.lay q hm
    have run : ∀ w', (execOp a.eval ⟨d, .indexAddr t (.global gn) ix, ty, pos, aft, gd⟩).run P w' = .ok (.value (.pointer (some ⟨gn, 0 + Int.toNat i * q.e.sz, none⟩))) w' := by
      intro w'
      have hxv : a.eval (.global gn) = .pointer (some ⟨gn, 0, none⟩) := rfl
      simp [execOp, Instr.indexAt, Instr.sureAddr, hxv, hiv, asIntOf, run_underlying hu, hb.1, hb.2, hT.sizeOf hei, addr_add, het]
    have hget : q.xs[i.toNat]? = some (at_ q.xs i) := by
      have : Int.toNat i < q.xs.length := by
        have b1 : (0 : Int) ≤ i := hb.1
        have b2 : (i : Int) < (List.length q.xs : Int) := hb.2
        exact (Int.toNat_lt b1).2 b2
      simp [at_, List.getD_eq_getElem?_getD, List.getElem?_eq_getElem this]
    obtain ⟨cs, c1, c2⟩ := rows_get u1 i.toNat _ hget
    exact resL (l := .vpt q.e (at_ q.xs i)) h hN ho run ⟨gn, _, cs, rfl, hg ▸ s1, c1, fun j u hj => by
      rw [← hg, Nat.zero_add]; exact u2 _ u (c2 j u hj)⟩ rfl hk hK
  rename_i ti hti
  split at hk
  rotate_left
  · exact op_indexAddr hT h hN ho hk hK
  split at hk
  rotate_left
  · exact op_indexAddr hT h hN ho hk hK
  rename_i p hpx
  split at hk
  rotate_left
  · exact op_indexAddr hT h hN ho hk hK
  rename_i te e xs j q hg
  split at hk
  rotate_left
  · cases hk
  rename_i ei hei
  split at hk
  rotate_left
  · cases hk
  rename_i kk i hil
  split at hk
  rotate_left
  · cases hk
  rename_i hc
  obtain ⟨hag, hty⟩ := hc
  split at hk
  rotate_left
  · cases hk
  rename_i hb
  have hsc := hT.sca t ti hti hag
  rw [hty] at hsc
  have hee : ei.ty = .list e := hsc.2 ei hei
  rw [hil] at hi
  have hiv := LR_int hi
  rw [hpx] at hx
  have hlp := h.lf p
  rw [hg] at hlp
  obtain ⟨gb, cap, cur, hv, _⟩ := holR_form hlp.1
  have hxv : a.eval x = .slice (some ⟨gb, 0, none⟩) xs.length cap := by rw [hx.1, hv]
  have run : ∀ w', (execOp a.eval ⟨d, .indexAddr t x ix, ty, pos, aft, gd⟩).run P w' = .ok (.value (.pointer (some ⟨gb, 0 + Int.toNat i * (Ty.list e).sz, none⟩))) w' := by
    intro w'
    simp [execOp, Instr.indexAt, hxv, hiv, asIntOf, run_underlying hsc.1, hb.1, hb.2, hT.sizeOf hei, addr_add, hee]
  exact resL (l := .ept p (.list e) i 0) h hN ho run ⟨⟨xs.length, by rw [hg]; rfl, hb.1, hb.2⟩, gb, xs.length, cap, hv, by simp [eptV]⟩ rfl hk hK
theorem op_load1 {t : TypeId} {x : Operand} (hT : TOk P T) (h : Rel X σ a w g) (hN : X.N ≤ σ.length) (ho : OpIn X.N ⟨d, .load t x, ty, pos, aft, gd⟩) (hk : opK T env ⟨d, .load t x, ty, pos, aft, gd⟩ σ k = some r) (hK : Nx X σ.length k r K) :
    Oper.wpE P ⟨d, .load t x, ty, pos, aft, gd⟩ a w K := by
  have hx := rd1_ok h hN x (ho.ops x (by simp [Op.operands]))
  simp only [opK] at hk
  split at hk
  rotate_left
  · exact op_load hT h hN ho hk hK
  rename_i ti hti
  split at hk
  rotate_left
  · exact op_load hT h hN ho hk hK
  split at hk
  rotate_left
  · exact op_load hT h hN ho hk hK
  rename_i p e' i f hpx
  split at hk
  rotate_left
  · exact op_load hT h hN ho hk hK
  rename_i te e xs j oq hg
  split at hk
  rotate_left
  · cases hk
  rename_i hc
  obtain ⟨rfl, hag, hty, rfl⟩ := hc
  rw [hpx] at hx
  obtain ⟨⟨n0, h0, h1, h2⟩, gb, n, cap, h4, h5⟩ := hx
  rw [hg] at h0
  have h0 : some (Ty.list e, List.length xs) = some (Ty.list e, n0) := h0
  injection h0 with h0
  injection h0 with _ h0
  rw [← h0] at h2
  have hlp := h.lf p
  rw [hg] at hlp
  obtain ⟨gb', cap', cur, hv, y1, y2, y3, y4, y5, y6, y7, y8⟩ := holR_form hlp.1
  rw [h4] at hv
  simp only [Value.slice.injEq, Option.some.injEq, Addr.mk.injEq, and_true] at hv
  obtain ⟨rfl, rfl, rfl⟩ := hv
  have hin : i.toNat < xs.length := by omega
  have hbl : gb < w.heap.size := holR_lt hlp.1 (b := gb) (by rw [h4]; rfl)
  have run : ∀ u : Value, cur.toList[i.toNat]? = some u → ∀ w', ExtW w w' → (execOp a.eval ⟨d, .load t x, ty, pos, aft, gd⟩).run P w' = .ok (.value (mkV ti.agg [u])) w' := by
    intro u hu w' he
    have hcell : w'.cell? ⟨gb, i.toNat, none⟩ = some u := by
      rw [← hu, World.cell?_of_block (he gb hbl), cell_of_row w gb _ cur te (0, 0) y1]
      simp
    have hv : a.eval x = .pointer (some ⟨gb, i.toNat, none⟩) := by rw [h5]; simp [eptV, Ty.sz]
    simp [execOp, Instr.loadAt, hv, Instr.sureAddr, run_loadVar hT hti w' gb i.toNat [u] (by rw [hty]; rfl) (fun j v hj => by
      cases j with
      | zero => simp at hj; subst hj; exact hcell
      | succ j => simp at hj)]
  cases hij : decide (i = j) with
  | true =>
    have hij := of_decide_eq_true hij
    subst hij
    rw [hij] at hk
    simp only [bcond] at hk
    cases oq with
    | none => cases hk
    | some q =>
      simp only at hk
      obtain ⟨n, hn⟩ := hlp.2 q rfl
      refine resV h hN ho (ag := ti.agg) (cs := [g.c q]) (run _ (y8 _ rfl)) (ls := [.al q]) rfl (fun _ => rfl) (fun m => ?_) (fun m => ?_) (by rw [hag]; exact hk) hK
      · cases m with
        | zero => exact ⟨rfl, rowTy_own hn⟩
        | succ m => trivial
      · cases m <;> rfl
  | false =>
    rw [hij] at hk
    simp only [bcond] at hk
    have hij := of_decide_eq_false hij
    obtain ⟨c, c1, c2⟩ := y7 i.toNat (at_ (e := .list e) xs i) (by omega) (by simp [at_, List.getD_eq_getElem?_getD, hin])
    refine resV h hN ho (ag := ti.agg) (cs := [c]) (run _ c1) (ls := [.val (.list e) (at_ (e := .list e) xs i)]) rfl (fun _ => rfl) (fun m => ?_) (fun m => ?_) (by rw [hag]; exact hk) hK
    · cases m with
      | zero => exact c2
      | succ m => trivial
    · cases m <;> rfl
theorem rowTy_stl (σ : St) (p : Pl) : rowTy (gl (stl σ p) p) = rowTy (gl σ p) := by
  rcases stl_cases σ p with h | ⟨te, e, xs, i, q, te', ys, hp, hq, h⟩
  · rw [h]
  · have hpq : q ≠ p := by intro e; subst e; rw [hp] at hq; cases hq
    have hv : Vp (frz σ q) p := vp_of_ne (by rw [frz_gl hq, if_neg hpq, hp]; simp [frP])
    rw [h, gl_sl _ _ hv, if_pos rfl, hp]
    simp [rowTy]
/-- A row's element is told by another place from now on. -/
theorem store_hole {t : TypeId} {x y : Operand} {ti : TI} (hT : TOk P T) (h : Rel X σ a w g) (ho : OpIn X.N ⟨none, .store t x y, ty, pos, aft, gd⟩) (hti : T t = some ti) (hag : ti.agg = false) {te : TypeId} {e : Ty} {xs : List (List e.den)} (hty : ti.ty = .list e)
    {p q : Pl} {i : Int} {n gb : Nat} (hp : rowTy (gl σ p) = some (.list e, xs.length)) (hq : rowTy (gl σ q) = some (e, n)) (hpq : q ≠ p) (hx : a.eval x = .pointer (some ⟨gb, i.toNat, none⟩)) (hy : a.eval y = g.c q)
    {cap : Nat} {cur : Array Value} (hcp : g.c p = .slice (some ⟨gb, 0, none⟩) xs.length cap) (y1 : w.heap[gb]? = some (.cells cur te (0, 0))) (y2 : xs.length ≤ cap) (y3 : cap ≤ maxLen) (y4 : cur.size = cap) (hi0 : 0 ≤ i) (hi1 : i < (xs.length : Int))
    (hc : ∀ (j : Nat) (x : List e.den), j ≠ i.toNat → xs[j]? = some x → ∃ c, cur.toList[j]? = some c ∧ rel w g.S (.list e) x [c])
    (hk : k (sl σ p (.hol te e xs i (some q))) = some r) (hK : Nx X σ.length k r K) : Oper.wp P ⟨none, .store t x y, ty, pos, aft, gd⟩ a w K Q := by
  have hone : (g.c q).oneCell' = true := by
    have h1 := rowTy_own hq
    have := h.lf q
    cases hx : gl σ q <;> rw [hx] at this h1 <;> first | exact ownR_one this | exact holR_one this.1 | cases h1
  have hcells : (a.eval y).cells.toList = [g.c q] := by
    rw [hy]
    revert hone
    cases g.c q <;> simp [Value.oneCell', Value.cells]
  have hin : i.toNat < xs.length := by omega
  have hst := run_storeCells_at P gb i.toNat te [g.c q] 0 cur w y1 (by simp; omega) (by simpa using hone)
  simp only [Nat.add_zero] at hst
  have hrun : (execOp a.eval ⟨none, .store t x y, ty, pos, aft, gd⟩).run P w = .ok .skip (w.setRow gb (cur.toList.take i.toNat ++ [g.c q] ++ cur.toList.drop (i.toNat + 1)).toArray) := by
    have hsz : (a.eval y).cells.size = ti.ty.sz := by rw [hty, show (a.eval y).cells.size = (a.eval y).cells.toList.length by simp, hcells]; rfl
    have e1 : (storeVar t ⟨gb, i.toNat, none⟩ (a.eval y)).run P w = .ok () (w.setRow gb (cur.toList.take i.toNat ++ [g.c q] ++ cur.toList.drop (i.toNat + 1)).toArray) := by
      simp only [storeVar, Sem.run_bind, hT.sizeOf hti, Result.andThen_ok, hsz, ne_eq, not_true_eq_false, if_false, hcells]
      exact hst
    simp [execOp, Instr.storeAt, hx, Instr.sureAddr, e1]
  unfold Oper.wp
  rw [hrun]
  have hob : (g.c p).ownBlock = some gb := by rw [hcp]; rfl
  have hS : ∀ b, g.S b → (w.setRow gb (cur.toList.take i.toNat ++ [g.c q] ++ cur.toList.drop (i.toNat + 1)).toArray).heap[b]? = w.heap[b]? := fun b hb => setRow_other w gb b _ (fun e1 => by
    subst e1
    exact (h.fr _ _ (ownBlock_blk (p := p) (rowTy_own hp) hob)).1 hb)
  refine hK _ a _ g (h.setRow (l' := .hol te e xs i (some q)) hp rfl (fun k' hk' => setRow_other w gb k' _ (fun e1 => hk' (by rw [hob, e1]))) rfl rfl rfl (by simp) (Nat.le_refl _) ⟨⟨hi0, hi1, (cur.toList.take i.toNat ++ [g.c q] ++ cur.toList.drop (i.toNat + 1)).take xs.length, by simp; omega, fun j z hj hz => ?_, fun z hz => ?_, by simp; omega, ?_⟩, fun s hs => ?_⟩) (by simp) hk
  · obtain ⟨c, c1, c2⟩ := hc j z hj hz
    have hjl := (List.getElem?_eq_some_iff.1 hz).1
    refine ⟨c, ?_, rel_mono (fun _ h => h) hS c2⟩
    rw [List.getElem?_take, if_pos hjl, ← c1]
    by_cases hlt : j < i.toNat
    · rw [List.append_assoc, List.getElem?_append_left (by simp; omega), List.getElem?_take, if_pos hlt]
    · rw [List.getElem?_append_right (by simp; omega), List.getElem?_drop]
      congr 1
      simp; omega
  · simp only [Option.map_some, Option.some.injEq] at hz
    subst hz
    rw [List.getElem?_take, if_pos hin, List.append_assoc, List.getElem?_append_right (by simp; omega)]
    have e0 : i.toNat - (cur.toList.take i.toNat).length = 0 := by simp; omega
    rw [e0]; rfl
  · rw [hcp]
    exact .inr ⟨gb, cap, _, rfl, Nat.zero_le _, setRow_heap w gb cur _ te _ y1, y2, y3, by simp; omega, by simp⟩
  · injection hs with hs
    subst hs
    exact ⟨n, by rw [gl_sl _ _ (vp_of_ne (by intro e1; rw [e1] at hp; cases hp)), if_neg (Ne.symm hpq)]; exact hq⟩
theorem op_store1 {t : TypeId} {x y : Operand} (hT : TOk P T) (h : Rel X σ a w g) (hN : X.N ≤ σ.length) (ho : OpIn X.N ⟨d, .store t x y, ty, pos, aft, gd⟩) (hk : opK T env ⟨d, .store t x y, ty, pos, aft, gd⟩ σ k = some r) (hK : Nx X σ.length k r K) :
    Oper.wp P ⟨d, .store t x y, ty, pos, aft, gd⟩ a w K Q := by
  simp only [opK] at hk
  split at hk
  rotate_left
  · exact op_store hT h hN ho hk hK
  rename_i ti hti
  split at hk
  rotate_left
  · exact op_store hT h hN ho hk hK
  have hx := rd1_ok h hN x (ho.ops x (by simp [Op.operands]))
  have hy := rd_ok h hN y (ho.ops y (by simp [Op.operands]))
  split at hk
  · rename_i p e' i f q hrx hry
    obtain ⟨g1, h1, h1c, _⟩ := h.stl p
    have hK1 : Nx X (stl σ p).length k r K := by rw [length_stl]; exact hK
    have hN1 : X.N ≤ (stl σ p).length := by rw [length_stl]; exact hN
    rw [hrx] at hx
    rw [hry] at hy
    obtain ⟨l', hl', hyv⟩ := hy.1 rfl
    injection hl' with hl' _
    subst hl'
    have hyv : a.eval y = g1.c q := by rw [h1c]; exact hyv.1
    obtain ⟨_, gb, n, cap, h4, h5⟩ := hx
    rw [← h1c] at h4
    split at hk
    · rename_i te e xs te2 e2 ys hgp hgq
      split at hk
      rotate_left
      · cases hk
      rename_i hc
      obtain ⟨rfl, rfl, hag, hty, rfl, rfl, hne⟩ := hc
      have hlp := h1.lf p
      rw [hgp, h4] at hlp
      rcases ownR_form hlp with ⟨hz, _⟩ | ⟨g', cap', cur, hz, y1, y2, y3, y4, y5⟩
      · cases hz
      simp only [Value.slice.injEq, Option.some.injEq, Addr.mk.injEq, and_true] at hz
      obtain ⟨rfl, rfl, rfl⟩ := hz
      obtain ⟨⟨n0, i1, i2, i3⟩, _⟩ := (show LR σ w g (.ept p (.list e2) i 0) _ from by
        have := rd1_ok h hN x (ho.ops x (by simp [Op.operands])); rw [hrx] at this; exact this)
      have hlen : n0 = xs.length := by
        have hrow : rowTy (gl (stl σ p) p) = rowTy (gl σ p) := rowTy_stl σ p
        rw [i1, hgp] at hrow
        have hrow : some (Ty.list e2, List.length xs) = some (Ty.list e2, n0) := hrow
        injection hrow with hrow
        injection hrow with _ hrow
        exact hrow.symm
      obtain ⟨_, hpt⟩ := rows_pt y5
      refine store_hole hT h1 ho hti hag hty (by rw [hgp]; rfl) (by rw [hgq]; rfl) hne (by rw [h5]; simp [eptV, Ty.sz]) hyv h4 y1 y2 y3 (by rw [y4]; show cap * 1 = cap; omega) i2 (by omega) (fun j z hj hz => ?_) hk hK1
      obtain ⟨c, c1, c2⟩ := hpt j z hz
      rw [List.getElem?_take] at c1
      split at c1
      · exact ⟨c, c1, c2⟩
      · cases c1
    · rename_i te e xs j te2 e2 ys hgp hgq
      split at hk
      rotate_left
      · cases hk
      rename_i hc
      obtain ⟨rfl, rfl, hag, hty, rfl, rfl, hne⟩ := hc
      split at hk
      rotate_left
      · cases hk
      rename_i hij
      subst hij
      have hlp := h1.lf p
      rw [hgp, h4] at hlp
      obtain ⟨gb', cap', cur, hv, y1, y2, y3, y4, y5, y6, y7, y8⟩ := holR_form hlp.1
      simp only [Value.slice.injEq, Option.some.injEq, Addr.mk.injEq, and_true] at hv
      obtain ⟨rfl, rfl, rfl⟩ := hv
      exact store_hole hT h1 ho hti hag hty (by rw [hgp]; rfl) (by rw [hgq]; rfl) hne (by rw [h5]; simp [eptV, Ty.sz]) hyv h4 y1 y2 y3 y4 y5 y6 y7 hk hK1
    · exact op_store hT h1 hN1 ho hk hK1
  · rename_i p _ _ _ _ _
    obtain ⟨g1, h1, _⟩ := h.stl p
    exact op_store hT h1 (by rw [length_stl]; exact hN) ho hk (by rw [length_stl]; exact hK)
  · exact op_store hT h hN ho hk hK
theorem op_append1 {c : Call} (hT : TOk P T) (hb : c.callee = .builtin .append) (h : Rel X σ a w g) (hN : X.N ≤ σ.length) (ho : OpIn X.N ⟨d, .call c, ty, pos, aft, gd⟩) (hk : opK T env ⟨d, .call c, ty, pos, aft, gd⟩ σ k = some r) (hK : Nx X σ.length k r K) :
    Oper.wp P ⟨d, .call c, ty, pos, aft, gd⟩ a w K Q := by
  simp only [opK, hb] at hk
  split at hk
  · rename_i x l t l' _ _
    split at hk
    · split at hk
      · generalize rd1 σ x = lf at hk
        cases lf with
        | al p =>
          obtain ⟨g1, h1, _⟩ := h.stl p
          exact op_append hT hb h1 (by rw [length_stl]; exact hN) ho hk (by rw [length_stl]; exact hK)
        | _ => exact op_append hT hb h hN ho hk hK
      · exact op_append hT hb h hN ho hk hK
    · exact op_append hT hb h hN ho hk hK
  · exact op_append hT hb h hN ho hk hK
/-- A row that is owned stays so, as a part of it; or is read from an element on. -/
theorem op_slice1 {t : TypeId} {x : Operand} {lo hi mx : Option Operand} (hT : TOk P T) (h : Rel X σ a w g) (hN : X.N ≤ σ.length) (ho : OpIn X.N ⟨d, .slice t x lo hi mx, ty, pos, aft, gd⟩) (hk : opK T env ⟨d, .slice t x lo hi mx, ty, pos, aft, gd⟩ σ k = some r) (hK : Nx X σ.length k r K) :
    Oper.wpS P ⟨d, .slice t x lo hi mx, ty, pos, aft, gd⟩ a w K := by
  cases mx with
  | some m => exact op_slice (T := T) (env := env) hT h hN ho hk hK
  | none =>
  simp only [opK] at hk
  split at hk
  rotate_left
  · exact op_slice (T := T) (env := env) hT h hN ho hk hK
  rename_i ti hti
  split at hk
  rotate_left
  · exact op_slice (T := T) (env := env) hT h hN ho hk hK
  have hx := rd1_ok h hN x (ho.ops x (by simp [Op.operands]))
  split at hk
  rotate_left
  · exact op_slice (T := T) (env := env) hT h hN ho hk hK
  rename_i p hp
  rw [hp] at hx
  split at hk
  rotate_left
  · exact op_slice (T := T) (env := env) hT h hN ho hk hK
  rename_i te e xs hg
  split at hk
  rotate_left
  · cases hk
  rename_i hc
  obtain ⟨hag, hty, hel⟩ := hc
  have hsc := hT.sca t ti hti hag
  rw [hty] at hsc
  cases hei : T ti.el with
  | none => rw [hei] at hel; cases hel
  | some ei =>
  have hee : ei.ty = e := hsc.2 ei hei
  have hsz := hT.sizeOf hei
  rw [hee] at hsz
  have hlp := h.lf p
  rw [hg] at hlp
  have hv : a.eval x = g.c p := hx.1
  have hlo : ∀ y, lo = some y → ∀ t, y = .tmp t → t < X.N := fun y hy => ho.ops y (by subst hy; simp [Op.operands])
  have hhi : ∀ y, hi = some y → ∀ t, y = .tmp t → t < X.N := fun y hy => ho.ops y (by subst hy; simp [Op.operands])
  split at hk
  · rename_i y
    split at hk
    rotate_left
    · cases hk
    rename_i l hl
    split at hk
    rotate_left
    · cases hk
    rename_i hb
    obtain ⟨b1, b2⟩ := hb
    rcases ownR_form hlp with ⟨_, hz⟩ | ⟨gb, cap, cur, hz, y1, y2, y3, y4, y5⟩
    · rw [hz] at b2; simp at b2; omega
    obtain ⟨L, rfl⟩ := Int.eq_ofNat_of_zero_le b1
    have hbd := sliceBounds_ok (P := P) (isSlice := true) (len := List.length xs) (cap := cap) (hi := none) (u := (List.length xs : Int)) a.eval (natAt_ok h hN hlo hl) (.inl ⟨rfl, rfl⟩) (by omega) (Int.le_refl _) b1 (by omega) y2
    simp only [Int.toNat_natCast, Option.map_none, Option.map_some] at hbd
    have hrun : ∀ w', (execOp a.eval ⟨d, .slice t x (some y) none none, ty, pos, aft, gd⟩).run P w' = .ok (.value (.slice (some ⟨gb, L * e.sz, none⟩) (xs.length - L) (cap - L))) w' := by
      intro w'
      have hne : ¬ cap = L := by omega
      simp [execOp, Instr.sliceAt, run_underlying hsc.1, hv, hz, Instr.slice, hbd, hsz, hne, addr_add]
    refine resL (l := .ept p e L (e.sz + 1)) h hN ho hrun ?_ rfl hk hK
    refine ⟨⟨xs.length, by rw [hg]; rfl, b1, b2⟩, gb, xs.length, cap, hz, ?_⟩
    unfold eptV
    rw [if_neg (by omega)]
    rfl
  · rename_i y
    split at hk
    rotate_left
    · cases hk
    rename_i u hu
    split at hk
    rotate_left
    · cases hk
    rename_i hb
    obtain ⟨b1, b2⟩ := hb
    obtain ⟨U, rfl⟩ := Int.eq_ofNat_of_zero_le b1
    have hU : U ≤ List.length xs := by omega
    have hvp := vp_of_ne (σ := σ) (p := p) (by rw [hg]; simp)
    have hpo : (gl σ p).isOwn = true := by rw [hg]; rfl
    have hd := h.drop hvp
    have hv1 := vp_mapL (f := killP p) rfl hvp
    have hgone : ∀ b, (g.c p).ownBlock = some b → ∀ o', ob (sl (mapL (killP p) σ) p .und) g o' ≠ some b := by
      intro b hb o' he
      have hbo := ownBlock_blk (g := g) hpo hb
      cases o' with
      | inl t =>
        have : ob σ g (.inl t) = some b := by simpa [ob, shp_sl, shp_mapL (killP p) rfl] using he
        have := h.inj _ _ _ this hbo
        cases this
      | inr q =>
        simp only [ob] at he
        rw [gl_sl q _ hv1, gl_mapL _ rfl] at he
        split at he
        · cases he
        · rename_i hne
          rw [isOwn_killP] at he
          have := h.inj (.inr q) _ _ he hbo
          injection this with this
          exact hne this.symm
    have hres : ∃ v, (∀ w', (execOp a.eval ⟨d, .slice t x none (some y) none, ty, pos, aft, gd⟩).run P w' = .ok (.value v) w') ∧ ownR w g.S te e (List.take U xs) v ∧ (∀ b, v.ownBlock = some b → (g.c p).ownBlock = some b) := by
      rcases ownR_form hlp with ⟨hz, hx0⟩ | ⟨gb, cap, cur, hz, y1, y2, y3, y4, y5⟩
      · subst hx0
        have hU0 : U = 0 := by simpa using hU
        subst hU0
        have hbd := sliceBounds_ok (P := P) (isSlice := true) (len := 0) (cap := 0) (lo := none) (l := 0) a.eval (.inl ⟨rfl, rfl⟩) (natAt_ok h hN hhi hu) (by omega) (by simp) (by omega) (by omega) (Nat.le_refl _)
        refine ⟨.slice none 0 0, fun w' => ?_, ownR_nil _ _ _ _, fun b hb => by cases hb⟩
        simp only [Int.toNat_natCast, Option.map_none, Option.map_some] at hbd
        simp [execOp, Instr.sliceAt, run_underlying hsc.1, hv, hz, Instr.slice, hbd, hsz]
      · have hbd := sliceBounds_ok (P := P) (isSlice := true) (len := List.length xs) (cap := cap) (lo := none) (l := 0) a.eval (.inl ⟨rfl, rfl⟩) (natAt_ok h hN hhi hu) b1 b2 (by omega) b1 y2
        refine ⟨.slice (some ⟨gb, 0, none⟩) U cap, fun w' => ?_, ?_, fun b hb => by rw [hz]; exact hb⟩
        · simp only [Int.toNat_natCast, Option.map_none, Option.map_some] at hbd
          by_cases hc0 : cap = 0
          · rw [hc0] at hbd; simp [execOp, Instr.sliceAt, run_underlying hsc.1, hv, hz, Instr.slice, hbd, hsz, hc0]
          · simp [execOp, Instr.sliceAt, run_underlying hsc.1, hv, hz, Instr.slice, hbd, hsz, hc0, addr_add]
        · obtain ⟨vs, r1, r2, r3⟩ := hlp
          have hl1 : (List.take U xs).length = U := by simp; omega
          have key : ∀ (n : Nat) {xs : List e.den} {us : List Value}, rows w g.S e xs us → n ≤ xs.length → rows w g.S e (xs.take n) (us.take (n * e.sz)) := by
            intro n
            induction n with
            | zero => intro xs us _ _; simp [rows]
            | succ n ih => intro xs us hr hn; cases xs with
              | nil => simp at hn
              | cons x xs =>
                simp only [rows] at hr
                obtain ⟨c, r, rfl, h1, h2⟩ := hr
                have hcl := rel_len h1
                simp only [List.take_succ_cons, rows]
                refine ⟨c, r.take (n * e.sz), ?_, h1, ih h2 (by simpa using hn)⟩
                rw [List.take_append, List.take_of_length_le (by rw [hcl, Nat.add_mul]; omega), hcl, show (n + 1) * e.sz - e.sz = n * e.sz by rw [Nat.add_mul]; omega]
          have hk2 := key U y5 hU
          rw [List.take_take, Nat.min_eq_left (Nat.mul_le_mul_right _ hU)] at hk2
          refine ⟨_, hk2, ?_⟩
          rw [hl1]
          exact ⟨by rw [rows_len hk2, hl1], .inr ⟨gb, cap, cur, rfl, Nat.zero_le _, y1, Nat.le_trans hU y2, y3, y4, rfl⟩⟩
    obtain ⟨v, hrun, hrow, hblk⟩ := hres
    simp only [Int.toNat_natCast] at hk
    refine ⟨v, hrun, ?_⟩
    cases d with
    | none => exact hK _ a w g hd (by simp) hk
    | some d =>
      obtain ⟨g', hr', _⟩ := hd.wrOwn (ho.dst d rfl) (by simpa using hN) (te := te) (xs := List.take U xs) hrow (fun b hb => by
        have hbo := ownBlock_blk (g := g) hpo (hblk b hb)
        obtain ⟨f1, f2, f3⟩ := h.fr _ _ hbo
        exact ⟨f1, f3, hgone b (hblk b hb)⟩)
      exact hK _ _ _ _ hr' (by simp) hk
  · cases hk
theorem zeroCells_eq (z : List Value) (n : Nat) (hz : 0 < z.length) : (Builtin.zeroCells z.toArray n).toList = (List.replicate n z).flatten := by
  apply List.ext_getElem?
  intro i
  rw [flatten_get z n i hz]
  by_cases hi : i < n * z.length
  · rw [if_pos hi]
    have hm : i % z.length < z.length := Nat.mod_lt _ hz
    simp [Builtin.zeroCells, hi, hm]
  · rw [if_neg hi]
    simp [Builtin.zeroCells]; omega
/-- The end of a row is cleared. -/
theorem op_clear {c : Call} (hT : TOk P T) (hb : c.callee = .builtin .clear) (h : Rel X σ a w g) (hN : X.N ≤ σ.length) (ho : OpIn X.N ⟨d, .call c, ty, pos, aft, gd⟩) (hk : opK T env ⟨d, .call c, ty, pos, aft, gd⟩ σ k = some r) (hK : Nx X σ.length k r K) :
    Oper.wp P ⟨d, .call c, ty, pos, aft, gd⟩ a w K Q := by
  obtain ⟨cal, args, ats⟩ := c
  simp only at hb
  subst hb
  obtain ⟨args⟩ := args
  obtain ⟨ats⟩ := ats
  simp only [opK] at hk
  split at hk
  rotate_left
  · cases hk
  rename_i x t
  have hx := rd1_ok h hN x (ho.ops x (by simp [Op.operands, Call.operands]))
  split at hk
  rotate_left
  · cases hk
  rename_i ti hti
  split at hk
  rotate_left
  · cases hk
  rename_i p e i f hp
  rw [hp] at hx
  split at hk
  rotate_left
  · cases hk
  rename_i te e' xs ei hg hei
  split at hk
  rotate_left
  · cases hk
  rename_i he
  subst he
  split at hk
  rotate_left
  · cases hk
  rename_i hc
  obtain ⟨rfl, rfl, hag, hty, hee⟩ := hc
  simp only at hk
  have hsc := hT.sca t ti hti hag
  rw [hty] at hsc
  obtain ⟨inf, z, hi, q1, q2, q3, q4, q5⟩ := hT.info ti.el ei hei
  have hzv : ∀ w', (zeroValue ti.el).run P w' = .ok z w' := fun w' => by simp [zeroValue, typeInfo, hi, q3]
  obtain ⟨⟨n0, x1, x2, x3⟩, gb, n, cap, x4, x5⟩ := hx
  rw [hg] at x1
  injection x1 with x1
  injection x1 with _ x1
  subst x1
  have hpr := h.lf p
  rw [hg, x4] at hpr
  rcases ownR_form hpr with ⟨hz, _⟩ | ⟨g', cap', cur, hz, y1, y2, y3, y4, y5⟩
  · cases hz
  simp only [Value.slice.injEq, Option.some.injEq, Addr.mk.injEq, and_true] at hz
  obtain ⟨rfl, rfl, rfl⟩ := hz
  unfold eptV at x5
  rw [if_neg (by omega)] at x5
  obtain ⟨L, rfl⟩ := Int.eq_ofNat_of_zero_le x2
  simp only [Int.toNat_natCast] at x5 hk
  have hL : L < xs.length := by omega
  have hzc : z.cells = (zcells e').toArray := by rw [← hee, ← q4]
  have hsp := sz_pos e'
  have hus : (Builtin.zeroCells z.cells (xs.length - L)).toList = (List.replicate (xs.length - L) (zcells e')).flatten := by rw [hzc]; exact zeroCells_eq _ _ (by rw [length_zcells]; exact hsp)
  have hrz := rows_zero w g.S e' (xs.length - L)
  have hul := rows_len hrz
  rw [List.length_replicate] at hul
  have hmul : L * e'.sz + (xs.length - L) * e'.sz = xs.length * e'.sz := by rw [← Nat.add_mul]; congr 1; omega
  have hcap : xs.length * e'.sz ≤ cap * e'.sz := Nat.mul_le_mul_right _ y2
  have hst := run_storeCells_at P gb (L * e'.sz) te ((List.replicate (xs.length - L) (zcells e')).flatten) 0 cur w y1 (by rw [hul]; omega) (rows_one hrz)
  simp only [Nat.add_zero] at hst
  rw [hul] at hst
  have hrun : (execOp a.eval ⟨none, .call ⟨.builtin .clear, ⟨[x]⟩, ⟨[t]⟩⟩, ty, pos, aft, gd⟩).run P w = .ok (.value (.tuple #[])) (w.setRow gb (cur.toList.take (L * e'.sz) ++ (List.replicate (xs.length - L) (zcells e')).flatten ++ cur.toList.drop (L * e'.sz + (xs.length - L) * e'.sz)).toArray) := by
    have hne : xs.length - L ≠ 0 := by omega
    obtain ⟨q, hq⟩ : ∃ q, xs.length - L = q + 1 := ⟨xs.length - L - 1, by omega⟩
    rw [hq] at x5 hus hst ⊢
    simp only [execOp, resolve, invoke, builtin, Sem.run_bind, Sem.run_pure, Result.andThen_ok]
    simp [x5, Builtin.clear_, run_underlying hsc.1, hzv, hus, hst]
  have hlen2 : (List.take L xs ++ List.replicate (xs.length - L) e'.zero).length = xs.length := by simp; omega
  have key : ∀ (n : Nat) {xs : List e'.den} {us : List Value}, rows w g.S e' xs us → n ≤ xs.length → rows w g.S e' (xs.take n) (us.take (n * e'.sz)) := by
    intro n
    induction n with
    | zero => intro xs us _ _; simp [rows]
    | succ n ih => intro xs us hr hn; cases xs with
      | nil => simp at hn
      | cons x xs =>
        simp only [rows] at hr
        obtain ⟨c, r, rfl, h1, h2⟩ := hr
        have hcl := rel_len h1
        simp only [List.take_succ_cons, rows]
        refine ⟨c, r.take (n * e'.sz), ?_, h1, ih h2 (by simpa using hn)⟩
        rw [List.take_append, List.take_of_length_le (by rw [hcl, Nat.add_mul]; omega), hcl, show (n + 1) * e'.sz - e'.sz = n * e'.sz by rw [Nat.add_mul]; omega]
  have hk2 := key L y5 (Nat.le_of_lt hL)
  rw [List.take_take, Nat.min_eq_left (Nat.mul_le_mul_right _ (Nat.le_of_lt hL))] at hk2
  have hset := rows_append hk2 hrz
  unfold Oper.wp
  rw [hrun]
  show K (a.put none _) _
  refine hK _ a _ g (h.setOwn (te' := te) (xs' := List.take L xs ++ List.replicate (xs.length - L) e'.zero) hg hlen2 (fun k' hk' => setRow_other w gb k' _ (fun e1 => hk' (by rw [x4]; simp [Value.ownBlock, e1]))) rfl rfl rfl (by simp) (Nat.le_refl _) ?_) (by simp) hk
  rw [x4]
  have hS : ∀ b, g.S b → (w.setRow gb (cur.toList.take (L * e'.sz) ++ (List.replicate (xs.length - L) (zcells e')).flatten ++ cur.toList.drop (L * e'.sz + (xs.length - L) * e'.sz)).toArray).heap[b]? = w.heap[b]? := fun b hb => setRow_other w gb b _ (fun e1 => by
    subst e1
    exact (h.fr _ _ (ownBlock_blk (p := p) (by rw [hg]; rfl) (show (g.c p).ownBlock = some b by rw [x4]; rfl))).1 hb)
  refine ⟨_, rows_mono (fun _ h => h) hS hset, ?_⟩
  rw [hlen2]
  have hcs : cur.toList.length = cap * e'.sz := by simpa using y4
  have hll : ((cur.toList.take (L * e'.sz)) ++ (List.replicate (xs.length - L) (zcells e')).flatten).length = xs.length * e'.sz := by
    rw [List.length_append, hul, List.length_take, hcs]; omega
  refine ⟨hll, .inr ⟨gb, cap, _, rfl, Nat.zero_le _, setRow_heap w gb cur _ te _ y1, y2, y3, ?_, ?_⟩⟩
  · rw [List.size_toArray, List.length_append, hll, List.length_drop, hcs]; omega
  · rw [← hll]
    exact List.take_left' rfl
end
section
variable {P : Program} {T : TypeId → Option TI} {env : Env} {X : Ctx} {σ : St} {a : Act} {w : World} {g : Gh} {A : Type} {r : A} {k : St → Option A} {K : Act → World → Prop} {Q : Exit → Act → World → Prop} {o : Oper}
theorem op_pure (hT : TOk P T) (hp : pureOp o.op = true) (h : Rel X σ a w g) (hN : X.N ≤ σ.length) (ho : OpIn X.N o) (hk : opK T env o σ k = some r) (hK : Nx X σ.length k r K) : Oper.wpS P o a w K := by
  obtain ⟨d, op, ty, pos, aft, gd⟩ := o
  cases op <;> simp only [pureOp, Bool.false_eq_true] at hp
  case move => exact op_move (T := T) (env := env) h hN ho hk hK
  case assign => exact op_assign (T := T) (env := env) h hN ho hk hK
  case pick => exact op_pick (T := T) (env := env) h hN ho hk hK
  case nilCheck => exact op_nilCheck (T := T) (env := env) h hN ho hk hK
  case binOp => exact op_binOp (T := T) (env := env) hT h hN ho hk hK
  case unOp => exact op_unOp (T := T) (env := env) h hN ho hk hK
  case convert => exact (op_convert (T := T) (env := env) hT h hN ho hk hK).1 (fun e => by subst e; simp at hp)
  case slice => exact op_slice1 hT h hN ho hk hK
  case fieldAddr => exact op_fieldAddr (T := T) (env := env) hT h hN ho hk hK
  case field => exact op_field (T := T) (env := env) hT h hN ho hk hK
  case indexAddr => exact op_indexAddr1 hT h hN ho hk hK
  case index => exact op_index (T := T) (env := env) hT h hN ho hk hK
  case makeFunc => exact op_makeFunc (T := T) (env := env) h hN ho hk hK
  case extract => exact op_extract (T := T) (env := env) h hN ho hk hK
  case build => exact op_build (T := T) (env := env) hT h hN ho hk hK
  case call c =>
    split at hp
    · rename_i hc; exact op_len (T := T) (env := env) hT hc h hN ho (by simpa only [opK, hc] using hk) hK
    · rename_i hc; exact op_min (T := T) (env := env) hc h hN ho (by simpa only [opK, hc] using hk) hK
    · rename_i hc; exact op_max (T := T) (env := env) hc h hN ho (by simpa only [opK, hc] using hk) hK
    · cases hp
/-- A new iterator. -/
theorem op_range {d : Option Tmp} {ty : TypeId} {pos : String} {aft : Array Edge} {gd : Option (Nat × Bool)} {t : TypeId} {x : Operand} (hT : TOk P T) (h : Rel X σ a w g) (hN : X.N ≤ σ.length) (ho : OpIn X.N ⟨d, .range t x, ty, pos, aft, gd⟩) (hk : opK T env ⟨d, .range t x, ty, pos, aft, gd⟩ σ k = some r) (hK : Nx X σ.length k r K) :
    Oper.wp P ⟨d, .range t x, ty, pos, aft, gd⟩ a w K Q := by
  have hx := rd1_ok h hN x (ho.ops x (by simp [Op.operands]))
  simp only [opK] at hk
  split at hk
  rotate_left
  · cases hk
  rename_i s hs
  split at hk
  rotate_left
  · cases hk
  rename_i hty
  rw [hs] at hx
  have hv := LR_str hx
  obtain ⟨ti, _, _, _, _, _, hu⟩ := isTy_ok hT hty
  have hrun : (execOp a.eval ⟨d, .range t x, ty, pos, aft, gd⟩).run P w = .ok (.value (.pointer (some ⟨w.heap.size, 0, none⟩))) (w.alloc (.stringIter ⟨s.toArray⟩ 0)) := by
    simp only [execOp, hv, Sem.run_bind, run_range_string w t ⟨s.toArray⟩ (hu rfl), Result.andThen_ok, Sem.run_pure]
    rfl
  unfold Oper.wp
  rw [hrun]
  show K (a.put d _) _
  have hb : Go.RowKit.Below w.heap.size w (w.alloc (.stringIter ⟨s.toArray⟩ 0)) := (Go.RowKit.Below.refl _ _).alloc (Nat.le_refl _) _
  have h1 := h.below hb (Nat.le_refl _)
  cases d with
  | none => exact hK σ a _ g h1 rfl hk
  | some d =>
    refine hK _ _ _ _ (h1.wr (ho.dst d rfl) hN (s := .itr s 0 []) (cs := []) (nb := w.heap.size) rfl ⟨rfl, rfl, rfl, heap_alloc_new w _⟩ (fun i => ?_) (fun o1 o2 b e1 e2 => ?_) (fun o' b e1 => ?_)) (by simp) hk
    · cases i <;> trivial
    · have key : ∀ o, nob (.itr s 0 []) w.heap.size [] o = some b → o = none := by
        intro o he
        cases o with
        | none => rfl
        | some i => cases i <;> cases he
      rw [key o1 e1, key o2 e2]
    · cases o' with
      | some i => cases i <;> cases e1
      | none =>
        simp [nob, Slot.shp, Shp.isBox] at e1
        subst e1
        refine ⟨fun hs => Nat.lt_irrefl _ (h.sb _ hs).1, by simp, .inl h.grow, fun o' he => ?_⟩
        exact Nat.lt_irrefl _ (h.fr o' _ he).2.1
theorem run_next_str (w : World) (b : Nat) (s : ByteArray) (i : Nat) (ty : TypeId) (h : w.heap[b]? = some (.stringIter s i)) (hi : i < s.size) :
    (Instr.next (.pointer (some ⟨b, 0, none⟩)) true ty).run P w = .ok (.tuple #[.bool true, .int .i64 i, .int .i32 (Utf8.decode s i).1]) { w with heap := w.heap.setIfInBounds b (.stringIter s (i + (Utf8.decode s i).2)) } := by
  simp only [Instr.next, getObj, setObj, Sem.run_bind, Sem.run, h, Result.andThen, hi, if_true]
  simp [goInt, Sem.run, h]
theorem run_next_over (w : World) (b : Nat) (s : ByteArray) (i : Nat) (ty : TypeId) (h : w.heap[b]? = some (.stringIter s i)) (hi : ¬ i < s.size) :
    (Instr.next (.pointer (some ⟨b, 0, none⟩)) true ty).run P w = .ok (.tuple #[.bool false]) w := by
  simp [Instr.next, getObj, Sem.run, h, hi]
/-- An iterator goes on. -/
theorem Rel.itr (h : Rel X σ a w g) {t : Nat} {s : List UInt8} {i : Nat} {ls : List Leaf} (ht : gs σ t = .itr s i ls) (i' : Nat) :
    Rel X (ss σ t (.itr s i' [])) a { w with heap := w.heap.setIfInBounds (g.blk t) (.stringIter ⟨s.toArray⟩ i') } g := by
  have hbx : isBox σ t := by unfold isBox; rw [ht]; rfl
  have hlt := isBox_lt hbx
  have hsh := h.sh t hlt
  rw [ht] at hsh
  obtain ⟨hn, hp, hh⟩ := hsh
  obtain rfl : ls = [] := List.eq_nil_of_length_eq_zero hn
  have hB := box_blk (g := g) hbx
  have hgl : ∀ q, gl (ss σ t (.itr s i' [])) q = gl σ q := fun q => by
    simp only [gl, gs_ss]
    split
    · rename_i e; rw [← e.1, ht]; rfl
    · rfl
  have hib : ∀ b, isBox (ss σ t (.itr s i' [])) b ↔ isBox σ b := fun b => by
    simp only [isBox, gs_ss]
    split
    · rename_i e; rw [← e.1, ht]; exact Iff.rfl
    · exact Iff.rfl
  have hob : ∀ o, ob (ss σ t (.itr s i' [])) g o = ob σ g o := fun o => by
    cases o with
    | inr q => simp only [ob, hgl]
    | inl b =>
      simp only [ob, gs_ss]
      split
      · rename_i e; rw [← e.1, ht]; rfl
      · rfl
  have hother : ∀ k, k ≠ g.blk t → ({ w with heap := w.heap.setIfInBounds (g.blk t) (.stringIter ⟨s.toArray⟩ i') } : World).heap[k]? = w.heap[k]? := fun k hk => by
    simp only [Array.getElem?_setIfInBounds]
    rw [if_neg (fun e => hk e.symm)]
  have hsz : (w.heap.setIfInBounds (g.blk t) (.stringIter ⟨s.toArray⟩ i')).size = w.heap.size := by simp
  have hS : ∀ b, g.S b → ({ w with heap := w.heap.setIfInBounds (g.blk t) (.stringIter ⟨s.toArray⟩ i') } : World).heap[b]? = w.heap[b]? := fun b hs => hother b (fun e => (h.fr _ _ hB).1 (e ▸ hs))
  have hcg : ∀ l v, LR σ w g l v → LR (ss σ t (.itr s i' [])) w g l v := fun l v hl => by
    cases l <;> simp only [LR, hgl, hib] at hl ⊢ <;> exact hl
  refine { h with
    sh := fun t' ht' => ?_
    lf := fun p => ?_
    inj := fun o1 o2 b e1 e2 => h.inj o1 o2 b (by rw [← hob]; exact e1) (by rw [← hob]; exact e2)
    fr := fun o b hb => by
      have := h.fr o b (by rw [← hob]; exact hb)
      exact ⟨this.1, by rw [hsz]; exact this.2.1, this.2.2⟩
    sb := fun b hb => by rw [hsz]; exact h.sb b hb
    grow := by rw [hsz]; exact h.grow
    frame := fun b h1 h2 => by
      rw [hother b]
      · exact h.frame b h1 h2
      · intro e
        rcases (h.fr _ _ hB).2.2 with h3 | h3
        · rw [← e] at h3; exact absurd h1 (by omega)
        · rw [← e] at h3; exact h2 h3 }
  · have ht2 : t' < σ.length := by simpa using ht'
    have hsh' := h.sh t' ht2
    by_cases e : t = t'
    · subst e
      rw [gs_ss, if_pos ⟨rfl, hlt⟩]
      refine ⟨rfl, hp, ?_⟩
      have := (Array.getElem?_eq_some_iff.1 hh).1
      simp only [Array.getElem?_setIfInBounds, if_true, if_pos this]
    · rw [gs_ss, if_neg (fun z => e z.1)]
      have hne : (gs σ t').shp.isBox = true → g.blk t' ≠ g.blk t := fun hx e2 => by
        have h1 := box_blk (g := g) (t := t') (σ := σ) hx
        rw [e2] at h1
        have := h.inj _ _ _ h1 hB
        simp at this; exact e this.symm
      revert hsh' hne
      cases (gs σ t').shp with
      | cs ag n => intro hx _; cases ag <;> exact hx
      | box n => intro hx hne; exact ⟨hx.1, by rw [hother _ (hne rfl)]; exact hx.2⟩
      | tup ks n => intro hx _; exact hx
      | itr s2 i2 n2 => intro hx hne; exact ⟨hx.1, hx.2.1, by rw [hother _ (hne rfl)]; exact hx.2.2⟩
      | vb n => intro hx _; exact hx
  · rw [hgl]
    refine LR_world hS (fun hx b hb => hother b (fun e2 => ?_)) (hcg _ _ (h.lf p))
    have h1 := ownBlock_blk (g := g) (σ := σ) (p := p) hx hb
    rw [e2] at h1
    have := h.inj _ _ _ h1 hB
    cases this
theorem op_next {d : Option Tmp} {ty : TypeId} {pos : String} {aft : Array Edge} {gd : Option (Nat × Bool)} {b : Bool} {x : Operand} (h : Rel X σ a w g) (hN : X.N ≤ σ.length) (ho : OpIn X.N ⟨d, .next x b, ty, pos, aft, gd⟩) (hk : opK T env ⟨d, .next x b, ty, pos, aft, gd⟩ σ k = some r) (hK : Nx X σ.length k r K) :
    Oper.wp P ⟨d, .next x b, ty, pos, aft, gd⟩ a w K Q := by
  cases b with
  | false => simp [opK, opK0] at hk
  | true =>
  simp only [opK] at hk
  split at hk
  rotate_left
  · cases hk
  rename_i t d
  split at hk
  rotate_left
  · cases hk
  rename_i s i ls ht
  split at hk
  · cases hk
  rename_i htd
  have htN : t < X.N := ho.ops (.tmp t) (by simp [Op.operands]) t rfl
  have hsh := h.sh t (Nat.lt_of_lt_of_le htN hN)
  rw [ht] at hsh
  obtain ⟨hn, hp, hh⟩ := hsh
  have hev : a.eval (.tmp t) = .pointer (some ⟨g.blk t, 0, none⟩) := hp htN
  have hlen : (⟨s.toArray⟩ : ByteArray).size = s.length := by simp [ByteArray.size]
  by_cases hi : i < s.length
  · have hd1 : decide ((i : Int) < (List.length s : Int)) = true := decide_eq_true (by omega)
    rw [hd1] at hk
    simp only [bcond] at hk
    have hrun : (execOp a.eval ⟨some d, .next (.tmp t) true, ty, pos, aft, gd⟩).run P w = .ok (.value (.tuple #[.bool true, .int .i64 i, .int .i32 (udec s i).1])) { w with heap := w.heap.setIfInBounds (g.blk t) (.stringIter ⟨s.toArray⟩ (i + (udec s i).2)) } := by
      simp only [execOp, hev, Sem.run_bind, run_next_str w (g.blk t) ⟨s.toArray⟩ i ty hh (by rw [hlen]; exact hi), Result.andThen_ok, Sem.run_pure]
      rfl
    unfold Oper.wp
    rw [hrun]
    show K (a.put (some d) _) _
    have h1 := h.itr ht (i + (udec s i).2)
    have hr := h1.wr (ho.dst d rfl) (by simpa using hN) (s := .tup [(false, 1), (false, 1), (false, 1)] [.val .bool true, .val (.int .i64) (i : Int), .val (.int .i32) ((udec s i).1 : Int)]) (cs := [.bool true, .int .i64 i, .int .i32 (udec s i).1]) (nb := 0)
      (v := .tuple #[.bool true, .int .i64 i, .int .i32 (udec s i).1]) rfl ⟨rfl, _, rfl, _, _, _, _, rfl, rfl, rfl, .inr ⟨rfl, rfl⟩, _, _, _, _, rfl, rfl, rfl, .inr ⟨rfl, rfl⟩, _, _, _, _, rfl, rfl, rfl, .inr ⟨rfl, rfl⟩, rfl, rfl⟩
      (fun j => by
        match j with
        | 0 => rfl
        | 1 => rfl
        | 2 => rfl
        | j + 3 => trivial)
      (fun o1 o2 b e1 => by
        match o1 with
        | none => cases e1
        | some 0 => cases e1
        | some 1 => cases e1
        | some 2 => cases e1
        | some (j + 3) => cases e1)
      (fun o1 b e1 => by
        match o1 with
        | none => cases e1
        | some 0 => cases e1
        | some 1 => cases e1
        | some 2 => cases e1
        | some (j + 3) => cases e1)
    exact hK _ _ _ _ hr (by simp) hk
  · have hd1 : decide ((i : Int) < (List.length s : Int)) = false := decide_eq_false (by omega)
    rw [hd1] at hk
    simp only [bcond] at hk
    have hrun : (execOp a.eval ⟨some d, .next (.tmp t) true, ty, pos, aft, gd⟩).run P w = .ok (.value (.tuple #[.bool false])) w := by
      simp only [execOp, hev, Sem.run_bind, run_next_over w (g.blk t) ⟨s.toArray⟩ i ty hh (by rw [hlen]; exact hi), Result.andThen_ok, Sem.run_pure]
    unfold Oper.wp
    rw [hrun]
    show K (a.put (some d) _) _
    have hr := h.wr (ho.dst d rfl) hN (s := .tup [(false, 1)] [.val .bool false]) (cs := [.bool false]) (nb := 0)
      (v := .tuple #[.bool false]) rfl ⟨rfl, _, rfl, _, _, _, _, rfl, rfl, rfl, .inr ⟨rfl, rfl⟩, rfl, rfl⟩
      (fun j => by
        match j with
        | 0 => rfl
        | j + 1 => trivial)
      (fun o1 o2 b e1 => by
        match o1 with
        | none => cases e1
        | some 0 => cases e1
        | some (j + 1) => cases e1)
      (fun o1 b e1 => by
        match o1 with
        | none => cases e1
        | some 0 => cases e1
        | some (j + 1) => cases e1)
    exact hK _ _ _ _ hr (by simp) hk
theorem op_sound (hT : TOk P T) (hE : EnvOk P env) (h : Rel X σ a w g) (hN : X.N ≤ σ.length) (ho : OpIn X.N o) (hk : opK T env o σ k = some r) (hK : Nx X σ.length k r K) : o.wp P a w K Q := by
  cases hp : pureOp o.op with
  | true => exact Oper.wp_of_S (op_pure hT hp h hN ho hk hK)
  | false =>
    obtain ⟨d, op, ty, pos, aft, gd⟩ := o
    cases op <;> simp only [pureOp, reduceCtorEq] at hp
    case alloc => exact op_alloc (T := T) (env := env) hT h hN ho hk hK
    case box => exact op_box (T := T) (env := env) hT h hN ho hk hK
    case buildSlice => exact op_buildSlice (T := T) (env := env) hT h hN ho hk hK
    case load => exact Oper.wp_of_E (op_load1 hT h hN ho hk hK)
    case convert => exact Oper.wp_of_E (op_convert (T := T) (env := env) hT h hN ho hk hK).2
    case store => exact op_store1 hT h hN ho hk hK
    case range => exact op_range hT h hN ho hk hK
    case next => exact op_next h hN ho hk hK
    case makeSlice => exact op_makeSlice (T := T) (env := env) hT h hN ho hk hK
    case call c =>
      obtain ⟨cal, args, ats⟩ := c
      cases cal with
      | value x => exact op_callF (T := T) (env := env) rfl hE h hN ho hk hK
      | invoke x n => simp [opK, opK0] at hk
      | builtin b =>
        cases b <;> first | (simp only [reduceCtorEq] at hp; done) | exact op_append1 hT rfl h hN ho hk hK | exact op_clear hT rfl h hN ho hk hK | (simp [opK, opK0] at hk; done)
    all_goals (simp [opK, opK0] at hk)
end
end Go.Ev
namespace Go.Ev
set_option linter.unusedVariables false
set_option linter.unusedSimpArgs false
section
variable {P : Program} {ops : Array Oper} {Q : Exit → Act → World → Prop} {C : World → Prop}
/-- In state `a`, in each world of the class, operation `o` leaves `v` in its slot, and the world as it is. -/
def YI (P : Program) (ops : Array Oper) (C : World → Prop) (o : Oper) (v : Value) (a : Act) : Prop :=
  (Region.wanted o (yielded ops a.tmps) = true ∧ ∀ w, C w → (execOp a.eval o).run P w = .ok (.value v) w) ∨ (Region.wanted o (yielded ops a.tmps) = false ∧ v = undef)
theorem YI.step {i : Nat} {o : Oper} {v : Value} {a : Act} (hi : ops[i]? = some o) (hy : YI P ops C o v a) {K : Act → World → Prop} {w : World} (hw : C w) (h : K (a.put o.dst v) w) : wpOp P ops Q i K a w := by
  unfold wpOp
  simp only [hi]
  rcases hy with ⟨h1, h2⟩ | ⟨h1, rfl⟩
  · rw [if_pos h1]
    refine .inl ?_
    unfold Oper.wp
    rw [h2 w hw]
    exact h
  · rw [if_neg (by rw [h1]; simp)]
    exact h
theorem YI.same {o : Oper} {v : Value} {a a' : Act} (hy : YI P ops C o v a) (he : execOp a'.eval o = execOp a.eval o) (hw : Region.wanted o (yielded ops a'.tmps) = Region.wanted o (yielded ops a.tmps)) : YI P ops C o v a' := by
  unfold YI at *
  rw [he, hw]
  exact hy
/-- Another operation comes first: nothing is lost. -/
theorem step_put {j : Nat} {oi oj : Oper} {v : Value} (hj : ops[j]? = some oj) (hap : oi.apart ops oj = true) (hsi : ∀ cs b, oi.op ≠ .select cs b) (hsj : ∀ cs b, oj.op ≠ .select cs b)
    (hQ : ∀ c a w, ¬ Q (.panic c) a w) (hC : (∀ w, C w) ∨ (growOp oj.op = true ∧ ∀ w w', C w → ExtW w w' → C w')) {K : Act → World → Prop} {a : Act} {w : World} (hw : C w) (hy : YI P ops C oi v a)
    (h : wpOp P ops Q j K (a.put oi.dst v) w) : wpOp P ops Q j (fun a' w' => YI P ops C oi v a' ∧ C w' ∧ K (a'.put oi.dst v) w') a w := by
  obtain ⟨h1, h2, h3⟩ := Oper.apart_spec hap
  have keep : ∀ u, YI P ops C oi v (a.put oj.dst u) := fun u => hy.same (execOp_put oi hsi a oj.dst u h3) (wanted_put oi a oj.dst u h3)
  have comm : ∀ u, (a.put oi.dst v).put oj.dst u = (a.put oj.dst u).put oi.dst v := fun u => Act.put_comm a v u h2
  unfold wpOp at h ⊢
  rw [hj] at h ⊢
  simp only at h ⊢
  rw [wanted_put oj a oi.dst v h1] at h
  by_cases hwant : Region.wanted oj (yielded ops a.tmps) = true
  · rw [if_pos hwant] at h ⊢
    rcases h with h | ⟨hasks, hlets⟩
    · refine .inl ?_
      unfold Oper.wp at h ⊢
      rw [execOp_put oj hsj a oi.dst v h1] at h
      rcases hC with hC | ⟨hg, hC⟩
      · generalize (execOp a.eval oj).run P w = r at h ⊢
        cases r with
        | halt x w' =>
          cases x <;> simp only [Oper.upon] at h
          exact absurd h (hQ _ _ _)
        | ok n w' =>
          cases n <;> simp only [Oper.upon] at h ⊢
          case value u => exact ⟨keep u, hC _, by rw [← comm]; exact h⟩
          case skip => exact ⟨keep _, hC _, by rw [← comm]; exact h⟩
          case defer d =>
            refine ⟨?_, hC _, ?_⟩
            · have k0 : YI P ops C oi v { a with defers := d :: a.defers } := hy.same rfl rfl
              exact k0.same (execOp_put oi hsi _ oj.dst undef h3) (wanted_put oi _ oj.dst undef h3)
            · rw [← Act.put_comm _ v undef h2, ← Act.put_defers]
              exact h
          case enter f args =>
            refine Calls.mono h fun e w'' he => ?_
            cases e with
            | returned u => exact ⟨keep u, hC _, by rw [← comm]; exact he⟩
            | panicked c => exact absurd he (hQ _ _ _)
            | outgrown => exact he
          case row row args => exact Rows.mono h fun u w'' he => ⟨keep u, hC _, by rw [← comm]; exact he⟩
      · cases hr : (execOp a.eval oj).run P w with
        | halt x w' =>
          rw [hr] at h
          cases x <;> simp only [Oper.upon] at h
          exact absurd h (hQ _ _ _)
        | ok n w' =>
          obtain ⟨g1, u, rfl⟩ := grow_run hg hr
          rw [hr] at h
          exact ⟨keep u, hC _ _ hw g1, by rw [← comm]; exact h⟩
    · refine .inr ⟨?_, hlets⟩
      unfold Oper.asks at hasks ⊢
      rw [execOp_put oj hsj a oi.dst v h1] at hasks
      exact hasks
  · rw [if_neg hwant] at h ⊢
    exact ⟨keep _, hw, by rw [← comm]; exact h⟩
/-- Those that wait for `i`. -/
def depOk (ops : Array Oper) (i : Nat) (D : List Nat) : Bool := D.all fun j => match ops[j]? with
  | some o => o.after.any fun e => Region.binds .any e && (e.on == i || D.contains e.on)
  | none => false
theorem depOk_spec {i : Nat} {D : List Nat} (h : depOk ops i D = true) {j : Nat} (hj : j ∈ D) : ∃ o, ops[j]? = some o ∧ ∃ e ∈ o.after, Region.binds .any e = true ∧ (e.on = i ∨ e.on ∈ D) := by
  have := List.all_eq_true.1 h j hj
  split at this
  · rename_i o ho
    obtain ⟨e, he, hb⟩ := Array.any_eq_true'.1 this
    simp only [Bool.and_eq_true, Bool.or_eq_true, beq_iff_eq, List.contains_iff_mem] at hb
    exact ⟨o, ho, e, he, hb.1, hb.2⟩
  · cases this
theorem unlisted {listed : Array Bool} {i : Nat} (h : listed.getD i true = false) : listed.getD i false = false := by
  simp only [Array.getD_eq_getD_getElem?] at *
  cases hx : listed[i]? with
  | none => rw [hx] at h; cases h
  | some b => rw [hx] at h; simpa using h
/-- An operation may be taken first. -/
theorem any_first {i : Nat} {oi : Oper} {v : Value} {D : List Nat} (hi : ops[i]? = some oi) (hD : depOk ops i D = true) (hsel : ∀ (j : Nat) (o : Oper) cs b, ops[j]? = some o → o.op ≠ .select cs b) (hQ : ∀ c a w, ¬ Q (.panic c) a w) :
    ∀ (fuel : Nat) (listed : Array Bool) (a : Act) (w : World),
      (∀ j oj, ops[j]? = some oj → j ≠ i → j ∉ D → listed.getD j true = false → oi.apart ops oj = true ∧ ((∀ w, C w) ∨ (growOp oj.op = true ∧ ∀ w w', C w → ExtW w w' → C w'))) →
      (∀ j ∈ D, listed.getD j true = false) → i ∈ Region.ready .any ops listed → C w → YI P ops C oi v a →
      wpAny P .any ops Q fuel (listed.setIfInBounds i true) (a.put oi.dst v) w → wpAny P .any ops Q (fuel + 1) listed a w := by
  intro fuel
  induction fuel with
  | zero =>
    intro listed a w hfree hun hr hw hy H
    refine ⟨fun h => (by rw [h] at hr; cases hr), fun j hj => ?_⟩
    by_cases hji : j = i
    · subst hji; exact hy.step hi hw H
    · have := ready_mono hj hji
      rw [H.1] at this
      cases this
  | succ fuel ih =>
    intro listed a w hfree hun hr hw hy H
    refine ⟨fun h => (by rw [h] at hr; cases hr), fun j hj => ?_⟩
    by_cases hji : j = i
    · subst hji; exact hy.step hi hw H
    · have h1 := H.2 j (ready_mono hj hji)
      obtain ⟨hjun, oj, hoj, hall⟩ := mem_ready.1 hj
      have hiun := (mem_ready.1 hr).1
      have hjD : j ∉ D := fun hm => by
        obtain ⟨o, ho, e, he, hb, hc⟩ := depOk_spec hD hm
        rw [hoj] at ho
        injection ho with ho
        subst ho
        have h2 := hall e he hb
        rcases hc with hc | hc
        · rw [hc, unlisted hiun] at h2; cases h2
        · rw [unlisted (hun _ hc)] at h2; cases h2
      obtain ⟨hap, hC⟩ := hfree j oj hoj hji hjD hjun
      have h2 := step_put (C := C) hoj hap (fun cs b => hsel i oi cs b hi) (fun cs b => hsel j oj cs b hoj) hQ hC hw hy h1
      refine wpOp_mono (fun a' w' h3 => ih (listed.setIfInBounds j true) a' w' (fun k ok hk hki hkD hkun => hfree k ok hk hki hkD ?_) (fun k hk => ?_) (ready_mono hr (Ne.symm hji)) h3.2.1 h3.1 ?_) h2
      · by_cases hjk : j = k
        · subst hjk; exact hjun
        · rw [Go.getD_set_ne true hjk] at hkun; exact hkun
      · rw [Go.getD_set_ne true (fun e => hjD (by rw [e]; exact hk))]
        exact hun k hk
      · rw [Array.setIfInBounds_comm _ _ hji]
        exact h3.2.2
/-- The only one that may come up. -/
theorem any_only {i : Nat} {fuel : Nat} {listed : Array Bool} {a : Act} {w : World} {D : List Nat} (hD : depOk ops i D = true) (hr : i ∈ Region.ready .any ops listed) (hun : ∀ j ∈ D, listed.getD j true = false)
    (hall : ∀ j oj, ops[j]? = some oj → j ≠ i → j ∉ D → listed.getD j true = true) (h : wpOp P ops Q i (wpAny P .any ops Q fuel (listed.setIfInBounds i true)) a w) : wpAny P .any ops Q (fuel + 1) listed a w := by
  refine ⟨fun h => (by rw [h] at hr; cases hr), fun j hj => ?_⟩
  by_cases hji : j = i
  · subst hji; exact h
  · exfalso
    obtain ⟨hjun, oj, hoj, hal⟩ := mem_ready.1 hj
    by_cases hm : j ∈ D
    · obtain ⟨o, ho, e, he, hb, hc⟩ := depOk_spec hD hm
      rw [hoj] at ho
      injection ho with ho
      subst ho
      have h2 := hal e he hb
      rcases hc with hc | hc
      · rw [hc, unlisted (mem_ready.1 hr).1] at h2; cases h2
      · rw [unlisted (hun _ hc)] at h2; cases h2
    · rw [hall j oj hoj hji hm] at hjun; cases hjun
end
end Go.Ev
