/- Operations: what they are told is what they do. Part A: reading operands, simple operations. -/
import Derived.Test.YtphlkpahfcainaaEvSt
import Derived.Calls
import Derived.Laws.Tables
namespace Go.Ev
set_option linter.unusedVariables false
set_option linter.unusedSimpArgs false

/-- The cells of a type's zero value. -/
def zcells : Ty → List Value
  | .int k => [.int k 0]
  | .bool => [.bool false]
  | .str => [.string ⟨#[]⟩]
  | .list _ => [.slice none 0 0]
  | .pair a b => zcells a ++ zcells b

/-- What the table tells of the program's types is right. -/
structure TOk (P : Program) (T : TypeId → Option TI) : Prop where
  info : ∀ t ti, T t = some ti → ∃ i z, P.info? t = some i ∧ i.size = ti.ty.sz ∧ i.bytes = ti.bytes ∧ i.zero = some z ∧ z.cells.toList = zcells ti.ty ∧ (ti.agg = true → z = .agg (zcells ti.ty).toArray)
  agg : ∀ t ti, T t = some ti → ti.agg = true → ∃ fs : Array Field, P.underlying t = some (.struct fs) ∧ (∀ (i o : Nat) (ft : TypeId), ti.fs[i]? = some (o, ft) → ∃ f : Field, fs[i]? = some f ∧ f.offset = o ∧ f.type = ft) ∧ fs.size = ti.fs.length
  sca : ∀ t ti, T t = some ti → ti.agg = false → match ti.ty with
    | .int k => P.underlying t = some (.int k)
    | .bool => P.underlying t = some .bool
    | .str => P.underlying t = some .string
    | .list e => P.underlying t = some (.slice ti.el) ∧ (∀ ei, T ti.el = some ei → ei.ty = e)
    | .pair _ _ => False
  cmp : ∀ t ti, T t = some ti → ti.cmp = true → P.stoodInHeld t = false ∧ P.eqGuardType P.depth t = false ∧ ∀ fs : Array Field, P.underlying t = some (.struct fs) → ∀ f ∈ fs.toList, f.name ≠ "_"
  pls : ∀ t ti, T t = some ti → ti.agg = true → ∀ fs : Array Field, P.underlying t = some (.struct fs) → ∃ places, fs.toList.mapM (fun f => (P.info? f.type).map fun i => (f.offset, i.size)) = some places
  nof : ∀ t ti, T t = some ti → ti.agg = false → ∀ (i o : Nat) (ft : TypeId), ti.fs[i]? ≠ some (o, ft)

theorem lget_view (t : Nat) : ∀ (ls : List Leaf) (i j : Nat), lget (view t i ls) j = match lget ls j with | .own .. => .al ⟨t, i + j⟩ | l => l
  | [], i, j => by simp [view, lget]
  | l :: ls, i, 0 => by cases l <;> simp [view, lget]
  | l :: ls, i, j + 1 => by
    have := lget_view t ls (i + 1) j
    rw [show i + 1 + j = i + (j + 1) from by omega] at this
    cases l <;> simpa [view, lget] using this
@[simp] theorem length_view (t : Nat) : ∀ (ls : List Leaf) (i : Nat), (view t i ls).length = ls.length
  | [], _ => rfl
  | l :: ls, i => by cases l <;> simp [view, length_view t ls (i + 1)]

theorem view_own (t i j : Nat) (ls : List Leaf) : (lget (view t i ls) j).isOwn = false := by
  rw [lget_view]
  cases lget ls j <;> rfl

/-- A value that is read tells these leaves. -/
def ArgR (σ : St) (w : World) (g : Gh) (r : Bool × List Leaf) (v : Value) : Prop :=
  (r.1 = false → ∃ l, r.2 = [l] ∧ LR σ w g l v) ∧
  (r.1 = true → ∃ cs : List Value, v = .agg cs.toArray ∧ cs.length = r.2.length ∧ ∀ i, LR σ w g (lget r.2 i) (cs.getD i undef)) ∧ ∀ i, (lget r.2 i).isOwn = false

theorem LR_leafOf (σ : St) (w : World) (g : Gh) (v : Value) : LR σ w g (leafOf v) v ∧ (leafOf v).isOwn = false := by
  unfold leafOf
  split <;> first | exact ⟨rfl, rfl⟩ | exact ⟨trivial, rfl⟩ | (refine ⟨⟨rfl, ?_⟩, rfl⟩; cases v <;> simp_all [Value.oneCell'])

/-- A leaf that is read by its place. -/
theorem LR_view {X : Ctx} {σ : St} {a : Act} {w : World} {g : Gh} (h : Rel X σ a w g) (t i : Nat) :
    LR σ w g (match lget (gs σ t).leaves i with | .own .. => .al ⟨t, i⟩ | l => l) (g.c ⟨t, i⟩) := by
  have := h.lf ⟨t, i⟩
  unfold gl at this
  simp only at this
  cases hl : lget (gs σ t).leaves i with
  | own te e xs => exact ⟨rfl, by unfold gl; simp only; rw [hl]; rfl⟩
  | _ => rw [hl] at this; exact this

theorem cellsL_getD (g : Gh) (t n i : Nat) (h : i < n) : (cellsL g t n).getD i undef = g.c ⟨t, i⟩ := by simp [cellsL, h, List.getD_eq_getElem?_getD]
@[simp] theorem length_cellsL (g : Gh) (t n : Nat) : (cellsL g t n).length = n := by simp [cellsL]

theorem rd_ok {X : Ctx} {σ : St} {a : Act} {w : World} {g : Gh} (h : Rel X σ a w g) (hN : X.N ≤ σ.length) (x : Operand) (hx : ∀ t, x = .tmp t → t < X.N) : ArgR σ w g (rd σ x) (a.eval x) := by
  cases x with
  | tmp t =>
    have ht : t < X.N := hx t rfl
    have hsh := h.sh t (Nat.lt_of_lt_of_le ht hN)
    simp only [rd, Act.eval]
    cases hs : gs σ t with
    | cs ag ls =>
      have hview : ∀ i, LR σ w g (lget (view t 0 ls) i) (g.c ⟨t, i⟩) := fun i => by
        have := LR_view h t i
        rw [hs] at this
        rw [lget_view, Nat.zero_add]; exact this
      refine ⟨fun hf => ?_, fun hf => ?_, fun i => view_own _ _ _ _⟩
      · simp only at hf
        subst hf
        rw [hs] at hsh
        obtain ⟨h1, h2⟩ := hsh
        obtain ⟨l, rfl⟩ := List.length_eq_one_iff.1 h1
        have h3 := hview 0
        have hl : ∃ l', view t 0 [l] = [l'] := List.length_eq_one_iff.1 (by simp)
        obtain ⟨l', hl'⟩ := hl
        refine ⟨l', hl', ?_⟩
        rw [hl'] at h3
        rw [h2]; exact h3
      · simp only at hf
        subst hf
        rw [hs] at hsh
        refine ⟨_, hsh, by simp, fun i => ?_⟩
        by_cases hi : i < ls.length
        · rw [cellsL_getD _ _ _ _ hi]; exact hview i
        · rw [lget_of_le (by simpa using hi)]; trivial
    | box ls =>
      rw [hs] at hsh
      refine ⟨fun _ => ⟨_, rfl, hsh.1 ht, by unfold isBox; rw [hs]; rfl⟩, fun hf => by simp at hf, fun i => ?_⟩
      cases i <;> rfl
    | tup ks ls =>
      refine ⟨fun _ => ⟨_, rfl, trivial⟩, fun hf => by simp at hf, fun i => ?_⟩
      cases i <;> rfl
  | const v =>
    simp only [rd, Act.eval]
    have key : ∀ v : Value, (∀ cs, v ≠ .agg cs) → ArgR σ w g (constSlot v) v := by
      intro v hv
      have e : constSlot v = (false, [leafOf v]) := by
        cases v <;> first | rfl | exact absurd rfl (hv _)
      rw [e]
      refine ⟨fun _ => ⟨_, rfl, (LR_leafOf σ w g v).1⟩, fun hf => by simp at hf, fun i => ?_⟩
      cases i
      · exact (LR_leafOf σ w g v).2
      · rfl
    cases v with
    | agg cs =>
      refine ⟨fun hf => by simp [constSlot] at hf, fun _ => ⟨cs.toList, by simp, by simp [constSlot], fun i => ?_⟩, fun i => ?_⟩
      · simp only [constSlot, lget_eq_getElem?, List.getElem?_map, List.getD_eq_getElem?_getD]
        cases cs.toList[i]? with
        | none => trivial
        | some u => exact (LR_leafOf σ w g u).1
      · simp only [constSlot, lget_eq_getElem?, List.getElem?_map]
        cases cs.toList[i]? with
        | none => rfl
        | some u => exact (LR_leafOf σ w g u).2
    | _ => exact key _ (fun cs hc => by cases hc)
  | func f =>
    simp only [rd, Act.eval]
    refine ⟨fun _ => ⟨_, rfl, rfl, fun b hb => by simp at hb⟩, fun hf => by simp at hf, fun i => ?_⟩
    cases i <;> rfl
  | global n =>
    simp only [rd, Act.eval]
    refine ⟨fun _ => ⟨_, rfl, trivial⟩, fun hf => by simp at hf, fun i => ?_⟩
    cases i <;> rfl

theorem rd1_ok {X : Ctx} {σ : St} {a : Act} {w : World} {g : Gh} (h : Rel X σ a w g) (hN : X.N ≤ σ.length) (x : Operand) (hx : ∀ t, x = .tmp t → t < X.N) : LR σ w g (rd1 σ x) (a.eval x) := by
  have hr := rd_ok h hN x hx
  unfold rd1
  generalize rd σ x = q at hr
  obtain ⟨b, ls⟩ := q
  cases b with
  | true => trivial
  | false =>
    obtain ⟨l, h1, h2⟩ := hr.1 rfl
    simp only at h1
    subst h1
    exact h2
theorem rd1_own {X : Ctx} {σ : St} {a : Act} {w : World} {g : Gh} (h : Rel X σ a w g) (hN : X.N ≤ σ.length) (x : Operand) (hx : ∀ t, x = .tmp t → t < X.N) : (rd1 σ x).isOwn = false := by
  have hr := rd_ok h hN x hx
  unfold rd1
  generalize rd σ x = q at hr
  obtain ⟨b, ls⟩ := q
  cases b with
  | true => rfl
  | false => exact hr.2.2 0

/-! ### The frame of the proofs -/

/-- What follows is met by every state that is told. -/
def Nx {A : Type} (X : Ctx) (n : Nat) (k : St → Option A) (r : A) (K : Act → World → Prop) : Prop :=
  ∀ σ' a' w' g', Rel X σ' a' w' g' → σ'.length = n → k σ' = some r → K a' w'

@[simp] theorem length_wr (σ : St) (d : Option Nat) (s : Slot) : (Ev.wr σ d s).length = σ.length := by cases d <;> simp [Ev.wr]
@[simp] theorem length_wrT (σ : St) (d : Option Nat) (s : Slot) : (wrT σ d s).length = σ.length := by cases d <;> simp [wrT]

/-- An operation's numbers of slots. -/
structure OpIn (N : Nat) (o : Oper) : Prop where
  dst : ∀ d, o.dst = some d → d < N
  ops : ∀ x ∈ o.op.operands, ∀ t, x = .tmp t → t < N

section
variable {P : Program} {X : Ctx} {σ : St} {a : Act} {w : World} {g : Gh} {A : Type} {r : A} {k : St → Option A} {K : Act → World → Prop} {Q : Exit → Act → World → Prop} {o : Oper}

/-- An operation that looks at no memory: its value, in every world. -/
def Oper.wpS (P : Program) (o : Oper) (a : Act) (w : World) (K : Act → World → Prop) : Prop := ∃ v, (∀ w', (execOp a.eval o).run P w' = .ok (.value v) w') ∧ K (a.put o.dst v) w
/-- Nothing that was there is changed. -/
def ExtW (w w' : World) : Prop := ∀ b, b < w.heap.size → w'.heap[b]? = w.heap[b]?
/-- An operation that changes nothing: its value, wherever what is there now is there. -/
def Oper.wpE (P : Program) (o : Oper) (a : Act) (w : World) (K : Act → World → Prop) : Prop := ∃ v, (∀ w', ExtW w w' → (execOp a.eval o).run P w' = .ok (.value v) w') ∧ K (a.put o.dst v) w
theorem Oper.wpE_of_S (h : Oper.wpS P o a w K) : Oper.wpE P o a w K := by
  obtain ⟨v, h1, h2⟩ := h
  exact ⟨v, fun w' _ => h1 w', h2⟩
theorem Oper.wp_of_E (h : Oper.wpE P o a w K) : o.wp P a w K Q := by
  obtain ⟨v, h1, h2⟩ := h
  unfold Oper.wp
  rw [h1 w (fun _ _ => rfl)]
  exact h2
theorem Oper.wp_of_S (h : Oper.wpS P o a w K) : o.wp P a w K Q := by
  obtain ⟨v, h1, h2⟩ := h
  unfold Oper.wp
  rw [h1 w]
  exact h2

/-- A plain slot comes out of memory. -/
theorem resSw (h : Rel X σ a w g) (hN : X.N ≤ σ.length) (ho : OpIn X.N o) {v : Value} (hrun : ∀ w', ExtW w w' → (execOp a.eval o).run P w' = .ok (.value v) w') {s : Slot} {cs : List Value}
    (hlen : cs.length = s.leaves.length) (hv : VR w 0 cs v s.shp) (hb : s.shp.isBox = false) (hlf : ∀ i, LR σ w g (lget s.leaves i) (cs.getD i undef)) (hown : ∀ i, (lget s.leaves i).isOwn = false)
    (hk : k (Ev.wr σ o.dst s) = some r) (hK : Nx X σ.length k r K) : Oper.wpE P o a w K := by
  refine ⟨v, hrun, ?_⟩
  cases hd : o.dst with
  | none => rw [hd] at hk; exact hK σ a w g h rfl hk
  | some d =>
    rw [hd] at hk
    exact hK _ _ _ _ (h.wrPlain (ho.dst d hd) hN hlen hv hb hlf hown) (by simp) hk

/-- A plain slot comes out. -/
theorem resS (h : Rel X σ a w g) (hN : X.N ≤ σ.length) (ho : OpIn X.N o) {v : Value} (hrun : ∀ w', (execOp a.eval o).run P w' = .ok (.value v) w') {s : Slot} {cs : List Value}
    (hlen : cs.length = s.leaves.length) (hv : VR w 0 cs v s.shp) (hb : s.shp.isBox = false) (hlf : ∀ i, LR σ w g (lget s.leaves i) (cs.getD i undef)) (hown : ∀ i, (lget s.leaves i).isOwn = false)
    (hk : k (Ev.wr σ o.dst s) = some r) (hK : Nx X σ.length k r K) : Oper.wpS P o a w K := by
  refine ⟨v, hrun, ?_⟩
  cases hd : o.dst with
  | none => rw [hd] at hk; exact hK σ a w g h rfl hk
  | some d =>
    rw [hd] at hk
    exact hK _ _ _ _ (h.wrPlain (ho.dst d hd) hN hlen hv hb hlf hown) (by simp) hk

/-- A leaf comes out. -/
theorem resL (h : Rel X σ a w g) (hN : X.N ≤ σ.length) (ho : OpIn X.N o) {v : Value} (hrun : ∀ w', (execOp a.eval o).run P w' = .ok (.value v) w') {l : Leaf}
    (hl : LR σ w g l v) (hown : l.isOwn = false) (hk : k (Ev.wr σ o.dst (.cs false [l])) = some r) (hK : Nx X σ.length k r K) : Oper.wpS P o a w K :=
  resS h hN ho hrun (s := .cs false [l]) (cs := [v]) rfl ⟨rfl, rfl⟩ rfl (fun i => by
    cases i with
    | zero => exact hl
    | succ i => trivial) (fun i => by
    cases i with
    | zero => exact hown
    | succ i => rfl) hk hK

/-- A value comes out as it was read. -/
theorem resA (h : Rel X σ a w g) (hN : X.N ≤ σ.length) (ho : OpIn X.N o) {v : Value} (hrun : ∀ w', (execOp a.eval o).run P w' = .ok (.value v) w') {q : Bool × List Leaf} (hq : ArgR σ w g q v)
    (hk : k (Ev.wr σ o.dst (.cs q.1 q.2)) = some r) (hK : Nx X σ.length k r K) : Oper.wpS P o a w K := by
  obtain ⟨b, ls⟩ := q
  cases b with
  | false =>
    obtain ⟨l, h1, h2⟩ := hq.1 rfl
    simp only at h1
    subst h1
    exact resL h hN ho hrun h2 (hq.2.2 0) hk hK
  | true =>
    obtain ⟨cs, h1, h2, h3⟩ := hq.2.1 rfl
    exact resS h hN ho hrun (s := .cs true ls) h2 ⟨h2.symm, h1⟩ rfl h3 hq.2.2 hk hK

/-- The same, and what is read by way of places is taken over. -/
theorem resT (h : Rel X σ a w g) (hN : X.N ≤ σ.length) (ho : OpIn X.N o) {v : Value} (hrun : ∀ w', (execOp a.eval o).run P w' = .ok (.value v) w') {q : Bool × List Leaf} (hq : ArgR σ w g q v)
    (hk : k (wrT σ o.dst (.cs q.1 q.2)) = some r) (hK : Nx X σ.length k r K) : Oper.wpS P o a w K := by
  cases hd : o.dst with
  | none =>
    rw [hd] at hk
    refine ⟨v, hrun, ?_⟩
    rw [hd]
    exact hK σ a w g h rfl hk
  | some d =>
    rw [hd] at hk
    refine resA (k := fun σ1 => k (xfers σ1 d 0 q.2.length)) h hN ho hrun hq (by rw [hd]; exact hk) (fun σ' a' w' g' hr hl hk' => hK _ a' w' g' (hr.xfers d _ _) (by simpa using hl) hk')

end
end Go.Ev
