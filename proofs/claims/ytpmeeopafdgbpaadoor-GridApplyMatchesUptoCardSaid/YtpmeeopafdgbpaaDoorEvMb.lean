/- Operations are sound, first part. -/
import Derived.Test.YtpmeeopafdgbpaaDoorEvMa
import Derived.Calls
import Derived.Laws.Tables
import Derived.Laws.Slices
namespace Go.Ev
set_option linter.unusedVariables false
set_option linter.unusedSimpArgs false
/-- The cells of a type's zero value. -/
def zcells : Ty → List Value
  | .int k => [.int k 0]
  | .bool => [.bool false]
  | .str => [.string ⟨#[]⟩]
  | .list _ => [.slice none 0 0]
  | .pair a b => zcells a ++ zcells b
/-- What the table tells of the program's types is right. -/
structure TOk (P : Program) (T : TypeId → Option TI) : Prop where
  info : ∀ t ti, T t = some ti → ∃ i z, P.info? t = some i ∧ i.size = ti.ty.sz ∧ i.bytes = ti.bytes ∧ i.zero = some z ∧ z.cells.toList = zcells ti.ty ∧ (ti.agg = true → z = .agg (zcells ti.ty).toArray)
  arr : ∀ t ti n, T t = some ti → ti.arr = n + 1 → ti.agg = true ∧ ti.fs = [] ∧ P.underlying t = some (.array (n + 1) ti.el)
  agg : ∀ t ti, T t = some ti → ti.agg = true → ti.arr = 0 → ∃ fs : Array Field, P.underlying t = some (.struct fs) ∧ (∀ (i o : Nat) (ft : TypeId), ti.fs[i]? = some (o, ft) → ∃ f : Field, fs[i]? = some f ∧ f.offset = o ∧ f.type = ft) ∧ fs.size = ti.fs.length
  sca : ∀ t ti, T t = some ti → ti.agg = false → match ti.ty with
    | .int k => P.underlying t = some (.int k)
    | .bool => P.underlying t = some .bool
    | .str => P.underlying t = some .string
    | .list e => P.underlying t = some (.slice ti.el) ∧ (∀ ei, T ti.el = some ei → ei.ty = e)
    | .pair _ _ => False
  cmp : ∀ t ti, T t = some ti → ti.cmp = true → P.stoodInHeld t = false ∧ P.eqGuardType P.depth t = false ∧ ∀ fs : Array Field, P.underlying t = some (.struct fs) → ∀ f ∈ fs.toList, f.name ≠ "_"
  pls : ∀ t ti, T t = some ti → ti.agg = true → ∀ fs : Array Field, P.underlying t = some (.struct fs) → ∃ places, fs.toList.mapM (fun f => (P.info? f.type).map fun i => (f.offset, i.size)) = some places
  nof : ∀ t ti, T t = some ti → ti.agg = false → ∀ (i o : Nat) (ft : TypeId), ti.fs[i]? ≠ some (o, ft)
  tab : ∀ q ∈ lay, P.underlying q.t = some (.array q.xs.length q.el) ∧ ∃ ei, T q.el = some ei ∧ ei.ty = q.e
theorem lget_view (t : Nat) : ∀ (ls : List Leaf) (i j : Nat), lget (view t i ls) j = match lget ls j with | .own .. => .al ⟨t, i + j⟩ | .hol .. => .al ⟨t, i + j⟩ | l => l
  | [], i, j => by simp [view, lget]
  | l :: ls, i, 0 => by cases l <;> simp [view, lget]
  | l :: ls, i, j + 1 => by
    have := lget_view t ls (i + 1) j
    rw [show i + 1 + j = i + (j + 1) from by omega] at this
    cases l <;> simpa [view, lget] using this
@[simp] theorem length_view (t : Nat) : ∀ (ls : List Leaf) (i : Nat), (view t i ls).length = ls.length
  | [], _ => rfl
  | l :: ls, i => by cases l <;> simp [view, length_view t ls (i + 1)]
theorem view_own (t i j : Nat) (ls : List Leaf) : (lget (view t i ls) j).isOwn = false := by
  rw [lget_view]
  cases lget ls j <;> rfl
/-- A value that is read tells these leaves. -/
def ArgR (σ : St) (w : World) (g : Gh) (r : Bool × List Leaf) (v : Value) : Prop :=
  (r.1 = false → ∃ l, r.2 = [l] ∧ LR σ w g l v) ∧
  (r.1 = true → ∃ cs : List Value, v = .agg cs.toArray ∧ cs.length = r.2.length ∧ ∀ i, LR σ w g (lget r.2 i) (cs.getD i undef)) ∧ ∀ i, (lget r.2 i).isOwn = false
theorem LR_leafOf (σ : St) (w : World) (g : Gh) (v : Value) : LR σ w g (leafOf v) v ∧ (leafOf v).isOwn = false := by
  unfold leafOf
  split <;> first | exact ⟨rfl, rfl⟩ | exact ⟨trivial, rfl⟩ | (refine ⟨⟨rfl, ?_⟩, rfl⟩; cases v <;> simp_all [Value.oneCell'])
/-- A leaf that is read by its place. -/
theorem LR_view {X : Ctx} {σ : St} {a : Act} {w : World} {g : Gh} (h : Rel X σ a w g) (t i : Nat) :
    LR σ w g (match lget (gs σ t).leaves i with | .own .. => .al ⟨t, i⟩ | .hol .. => .al ⟨t, i⟩ | l => l) (g.c ⟨t, i⟩) := by
  have := h.lf ⟨t, i⟩
  unfold gl at this
  simp only at this
  cases hl : lget (gs σ t).leaves i with
  | own te e xs => exact ⟨rfl, by unfold gl; simp only; rw [hl]; rfl⟩
  | hol te e xs j q => exact ⟨rfl, by unfold gl; simp only; rw [hl]; rfl⟩
  | _ => rw [hl] at this; exact this
theorem cellsL_getD (g : Gh) (t n i : Nat) (h : i < n) : (cellsL g t n).getD i undef = g.c ⟨t, i⟩ := by simp [cellsL, h, List.getD_eq_getElem?_getD]
@[simp] theorem length_cellsL (g : Gh) (t n : Nat) : (cellsL g t n).length = n := by simp [cellsL]
theorem rd_ok {X : Ctx} {σ : St} {a : Act} {w : World} {g : Gh} (h : Rel X σ a w g) (hN : X.N ≤ σ.length) (x : Operand) (hx : ∀ t, x = .tmp t → t < X.N) : ArgR σ w g (rd σ x) (a.eval x) := by
  cases x with
  | tmp t =>
    have ht : t < X.N := hx t rfl
    have hsh := h.sh t (Nat.lt_of_lt_of_le ht hN)
    simp only [rd, Act.eval]
    cases hs : gs σ t with
    | cs ag ls =>
      have hview : ∀ i, LR σ w g (lget (view t 0 ls) i) (g.c ⟨t, i⟩) := fun i => by
        have := LR_view h t i
        rw [hs] at this
        rw [lget_view, Nat.zero_add]; exact this
      refine ⟨fun hf => ?_, fun hf => ?_, fun i => view_own _ _ _ _⟩
      · simp only at hf
        subst hf
        rw [hs] at hsh
        obtain ⟨h1, h2⟩ := hsh
        obtain ⟨l, rfl⟩ := List.length_eq_one_iff.1 h1
        have h3 := hview 0
        have hl : ∃ l', view t 0 [l] = [l'] := List.length_eq_one_iff.1 (by simp)
        obtain ⟨l', hl'⟩ := hl
        refine ⟨l', hl', ?_⟩
        rw [hl'] at h3
        rw [h2]; exact h3
      · simp only at hf
        subst hf
        rw [hs] at hsh
        refine ⟨_, hsh, by simp, fun i => ?_⟩
        by_cases hi : i < ls.length
        · rw [cellsL_getD _ _ _ _ hi]; exact hview i
        · rw [lget_of_le (by simpa using hi)]; trivial
    | box ls =>
      rw [hs] at hsh
      refine ⟨fun _ => ⟨_, rfl, hsh.1 ht, by unfold isBox; rw [hs]; rfl⟩, fun hf => by simp at hf, fun i => ?_⟩
      cases i <;> rfl
    | tup ks ls =>
      refine ⟨fun _ => ⟨_, rfl, trivial⟩, fun hf => by simp at hf, fun i => ?_⟩
      cases i <;> rfl
    | itr s i ls =>
      refine ⟨fun _ => ⟨_, rfl, trivial⟩, fun hf => by simp at hf, fun i => ?_⟩
      cases i <;> rfl
    | vb ls =>
      refine ⟨fun _ => ⟨_, rfl, trivial⟩, fun hf => by simp at hf, fun i => ?_⟩
      cases i <;> rfl
  | const v =>
    simp only [rd, Act.eval]
    have key : ∀ v : Value, (∀ cs, v ≠ .agg cs) → ArgR σ w g (constSlot v) v := by
      intro v hv
      have e : constSlot v = (false, [leafOf v]) := by
        cases v <;> first | rfl | exact absurd rfl (hv _)
      rw [e]
      refine ⟨fun _ => ⟨_, rfl, (LR_leafOf σ w g v).1⟩, fun hf => by simp at hf, fun i => ?_⟩
      cases i
      · exact (LR_leafOf σ w g v).2
      · rfl
    cases v with
    | agg cs =>
      refine ⟨fun hf => by simp [constSlot] at hf, fun _ => ⟨cs.toList, by simp, by simp [constSlot], fun i => ?_⟩, fun i => ?_⟩
      · simp only [constSlot, lget_eq_getElem?, List.getElem?_map, List.getD_eq_getElem?_getD]
        cases cs.toList[i]? with
        | none => trivial
        | some u => exact (LR_leafOf σ w g u).1
      · simp only [constSlot, lget_eq_getElem?, List.getElem?_map]
        cases cs.toList[i]? with
        | none => rfl
        | some u => exact (LR_leafOf σ w g u).2
    | _ => exact key _ (fun cs hc => by cases hc)
  | func f =>
    simp only [rd, Act.eval]
    refine ⟨fun _ => ⟨_, rfl, rfl, fun b hb => by simp at hb⟩, fun hf => by simp at hf, fun i => ?_⟩
    cases i <;> rfl
  | global n =>
    simp only [rd, Act.eval]
    refine ⟨fun _ => ⟨_, rfl, trivial⟩, fun hf => by simp at hf, fun i => ?_⟩
    cases i <;> rfl
theorem rd1_ok {X : Ctx} {σ : St} {a : Act} {w : World} {g : Gh} (h : Rel X σ a w g) (hN : X.N ≤ σ.length) (x : Operand) (hx : ∀ t, x = .tmp t → t < X.N) : LR σ w g (rd1 σ x) (a.eval x) := by
  have hr := rd_ok h hN x hx
  unfold rd1
  generalize rd σ x = q at hr
  obtain ⟨b, ls⟩ := q
  cases b with
  | true => trivial
  | false =>
    obtain ⟨l, h1, h2⟩ := hr.1 rfl
    simp only at h1
    subst h1
    exact h2
theorem rd1_own {X : Ctx} {σ : St} {a : Act} {w : World} {g : Gh} (h : Rel X σ a w g) (hN : X.N ≤ σ.length) (x : Operand) (hx : ∀ t, x = .tmp t → t < X.N) : (rd1 σ x).isOwn = false := by
  have hr := rd_ok h hN x hx
  unfold rd1
  generalize rd σ x = q at hr
  obtain ⟨b, ls⟩ := q
  cases b with
  | true => rfl
  | false => exact hr.2.2 0
/-- What follows is met by every state that is told. -/
def Nx {A : Type} (X : Ctx) (n : Nat) (k : St → Option A) (r : A) (K : Act → World → Prop) : Prop :=
  ∀ σ' a' w' g', Rel X σ' a' w' g' → σ'.length = n → k σ' = some r → K a' w'
@[simp] theorem length_wr (σ : St) (d : Option Nat) (s : Slot) : (Ev.wr σ d s).length = σ.length := by cases d <;> simp [Ev.wr]
@[simp] theorem length_wrT (σ : St) (d : Option Nat) (s : Slot) : (wrT σ d s).length = σ.length := by cases d <;> simp [wrT]
/-- An operation's numbers of slots. -/
structure OpIn (N : Nat) (o : Oper) : Prop where
  dst : ∀ d, o.dst = some d → d < N
  ops : ∀ x ∈ o.op.operands, ∀ t, x = .tmp t → t < N
section
variable {P : Program} {X : Ctx} {σ : St} {a : Act} {w : World} {g : Gh} {A : Type} {r : A} {k : St → Option A} {K : Act → World → Prop} {Q : Exit → Act → World → Prop} {o : Oper}
/-- An operation that looks at no memory: its value, in every world. -/
def Oper.wpS (P : Program) (o : Oper) (a : Act) (w : World) (K : Act → World → Prop) : Prop := ∃ v, (∀ w', (execOp a.eval o).run P w' = .ok (.value v) w') ∧ K (a.put o.dst v) w
/-- Nothing that was there is changed. -/
def ExtW (w w' : World) : Prop := ∀ b, b < w.heap.size → w'.heap[b]? = w.heap[b]?
/-- An operation that changes nothing: its value, wherever what is there now is there. -/
def Oper.wpE (P : Program) (o : Oper) (a : Act) (w : World) (K : Act → World → Prop) : Prop := ∃ v, (∀ w', ExtW w w' → (execOp a.eval o).run P w' = .ok (.value v) w') ∧ K (a.put o.dst v) w
theorem Oper.wpE_of_S (h : Oper.wpS P o a w K) : Oper.wpE P o a w K := by
  obtain ⟨v, h1, h2⟩ := h
  exact ⟨v, fun w' _ => h1 w', h2⟩
theorem Oper.wp_of_E (h : Oper.wpE P o a w K) : o.wp P a w K Q := by
  obtain ⟨v, h1, h2⟩ := h
  unfold Oper.wp
  rw [h1 w (fun _ _ => rfl)]
  exact h2
theorem Oper.wp_of_S (h : Oper.wpS P o a w K) : o.wp P a w K Q := by
  obtain ⟨v, h1, h2⟩ := h
  unfold Oper.wp
  rw [h1 w]
  exact h2
/-- A plain slot comes out of memory. -/
theorem resSw (h : Rel X σ a w g) (hN : X.N ≤ σ.length) (ho : OpIn X.N o) {v : Value} (hrun : ∀ w', ExtW w w' → (execOp a.eval o).run P w' = .ok (.value v) w') {s : Slot} {cs : List Value}
    (hlen : cs.length = s.leaves.length) (hv : VR w 0 cs v s.shp) (hb : s.shp.isBox = false) (hlf : ∀ i, LR σ w g (lget s.leaves i) (cs.getD i undef)) (hown : ∀ i, (lget s.leaves i).isOwn = false)
    (hk : k (Ev.wr σ o.dst s) = some r) (hK : Nx X σ.length k r K) : Oper.wpE P o a w K := by
  refine ⟨v, hrun, ?_⟩
  cases hd : o.dst with
  | none => rw [hd] at hk; exact hK σ a w g h rfl hk
  | some d =>
    rw [hd] at hk
    exact hK _ _ _ _ (h.wrPlain (ho.dst d hd) hN hlen hv hb hlf hown) (by simp) hk
/-- A plain slot comes out. -/
theorem resS (h : Rel X σ a w g) (hN : X.N ≤ σ.length) (ho : OpIn X.N o) {v : Value} (hrun : ∀ w', (execOp a.eval o).run P w' = .ok (.value v) w') {s : Slot} {cs : List Value}
    (hlen : cs.length = s.leaves.length) (hv : VR w 0 cs v s.shp) (hb : s.shp.isBox = false) (hlf : ∀ i, LR σ w g (lget s.leaves i) (cs.getD i undef)) (hown : ∀ i, (lget s.leaves i).isOwn = false)
    (hk : k (Ev.wr σ o.dst s) = some r) (hK : Nx X σ.length k r K) : Oper.wpS P o a w K := by
  refine ⟨v, hrun, ?_⟩
  cases hd : o.dst with
  | none => rw [hd] at hk; exact hK σ a w g h rfl hk
  | some d =>
    rw [hd] at hk
    exact hK _ _ _ _ (h.wrPlain (ho.dst d hd) hN hlen hv hb hlf hown) (by simp) hk
/-- A leaf comes out. -/
theorem resL (h : Rel X σ a w g) (hN : X.N ≤ σ.length) (ho : OpIn X.N o) {v : Value} (hrun : ∀ w', (execOp a.eval o).run P w' = .ok (.value v) w') {l : Leaf}
    (hl : LR σ w g l v) (hown : l.isOwn = false) (hk : k (Ev.wr σ o.dst (.cs false [l])) = some r) (hK : Nx X σ.length k r K) : Oper.wpS P o a w K :=
  resS h hN ho hrun (s := .cs false [l]) (cs := [v]) rfl ⟨rfl, rfl⟩ rfl (fun i => by
    cases i with
    | zero => exact hl
    | succ i => trivial) (fun i => by
    cases i with
    | zero => exact hown
    | succ i => rfl) hk hK
/-- A value comes out as it was read. -/
theorem resA (h : Rel X σ a w g) (hN : X.N ≤ σ.length) (ho : OpIn X.N o) {v : Value} (hrun : ∀ w', (execOp a.eval o).run P w' = .ok (.value v) w') {q : Bool × List Leaf} (hq : ArgR σ w g q v)
    (hk : k (Ev.wr σ o.dst (.cs q.1 q.2)) = some r) (hK : Nx X σ.length k r K) : Oper.wpS P o a w K := by
  obtain ⟨b, ls⟩ := q
  cases b with
  | false =>
    obtain ⟨l, h1, h2⟩ := hq.1 rfl
    simp only at h1
    subst h1
    exact resL h hN ho hrun h2 (hq.2.2 0) hk hK
  | true =>
    obtain ⟨cs, h1, h2, h3⟩ := hq.2.1 rfl
    exact resS h hN ho hrun (s := .cs true ls) h2 ⟨h2.symm, h1⟩ rfl h3 hq.2.2 hk hK
/-- The same, and what is read by way of places is taken over. -/
theorem resT (h : Rel X σ a w g) (hN : X.N ≤ σ.length) (ho : OpIn X.N o) {v : Value} (hrun : ∀ w', (execOp a.eval o).run P w' = .ok (.value v) w') {q : Bool × List Leaf} (hq : ArgR σ w g q v)
    (hk : k (wrT σ o.dst (.cs q.1 q.2)) = some r) (hK : Nx X σ.length k r K) : Oper.wpS P o a w K := by
  cases hd : o.dst with
  | none =>
    rw [hd] at hk
    refine ⟨v, hrun, ?_⟩
    rw [hd]
    exact hK σ a w g h rfl hk
  | some d =>
    rw [hd] at hk
    refine resA (k := fun σ1 => k (xfers σ1 d 0 q.2.length)) h hN ho hrun hq (by rw [hd]; exact hk) (fun σ' a' w' g' hr hl hk' => hK _ a' w' g' (hr.xfers d _ _) (by simpa using hl) hk')
end
end Go.Ev
namespace Go.Ev
set_option linter.unusedVariables false
set_option linter.unusedSimpArgs false
theorem addr_add (b o j : Nat) : (⟨b, o, none⟩ : Addr).add j = ⟨b, o + j, none⟩ := by unfold Addr.add; split <;> simp_all
theorem LR_int {σ : St} {w : World} {g : Gh} {k : IntKind} {x : Int} {v : Value} (h : LR σ w g (.val (.int k) x) v) : v = .int k x := by
  simpa [LR, rel] using h
theorem LR_bool {σ : St} {w : World} {g : Gh} {x : Bool} {v : Value} (h : LR σ w g (.val .bool x) v) : v = .bool x := by
  simpa [LR, rel] using h
theorem LR_str {σ : St} {w : World} {g : Gh} {x : List UInt8} {v : Value} (h : LR σ w g (.val .str x) v) : v = .string ⟨x.toArray⟩ := by
  simpa [LR, rel] using h
theorem lget_append (ls ms : List Leaf) (i : Nat) : lget (ls ++ ms) i = if i < ls.length then lget ls i else lget ms (i - ls.length) := by
  simp only [lget_eq_getElem?, List.getElem?_append]
  split <;> rfl
theorem getD_append (cs ds : List Value) (i : Nat) : (cs ++ ds).getD i undef = if i < cs.length then cs.getD i undef else ds.getD (i - cs.length) undef := by
  simp only [List.getD_eq_getElem?_getD, List.getElem?_append]
  split <;> rfl
theorem length_explode : ∀ (t : Ty) (x : t.den), (explode t x).length = t.sz
  | .int _, _ => rfl
  | .bool, _ => rfl
  | .str, _ => rfl
  | .list _, _ => rfl
  | .pair a b, x => by simp [explode, Ty.sz, length_explode a x.1, length_explode b x.2]
theorem length_zcells : ∀ (t : Ty), (zcells t).length = t.sz
  | .int _ => rfl
  | .bool => rfl
  | .str => rfl
  | .list _ => rfl
  | .pair a b => by simp [zcells, Ty.sz, length_zcells a, length_zcells b]
/-- The leaves of a plain value tell its cells. -/
theorem LR_explode (σ : St) {w : World} {g : Gh} : ∀ {t : Ty} {x : t.den} {cs : List Value}, rel w g.S t x cs → ∀ i, LR σ w g (lget (explode t x) i) (cs.getD i undef)
  | .int k, x, cs, h, i => by
    simp only [rel] at h; subst h
    cases i <;> first | rfl | trivial
  | .bool, x, cs, h, i => by
    simp only [rel] at h; subst h
    cases i <;> first | rfl | trivial
  | .str, x, cs, h, i => by
    simp only [rel] at h; subst h
    cases i <;> first | rfl | trivial
  | .list e, x, cs, h, i => by
    have hl := rel_len h
    obtain ⟨v, rfl⟩ := List.length_eq_one_iff.1 (show cs.length = 1 from hl)
    cases i with
    | zero => exact h
    | succ i => trivial
  | .pair a b, x, cs, h, i => by
    simp only [rel] at h
    obtain ⟨c1, c2, rfl, h1, h2⟩ := h
    simp only [explode]
    rw [lget_append, getD_append, length_explode, rel_len h1]
    split
    · exact LR_explode σ h1 i
    · exact LR_explode σ h2 _
theorem explode_own (t : Ty) (x : t.den) (i : Nat) : (lget (explode t x) i).isOwn = false := by
  induction t generalizing i with
  | pair a b iha ihb =>
    simp only [explode]
    rw [lget_append]
    split
    · exact iha _ _
    · exact ihb _ _
  | _ => cases i <;> rfl
theorem zeroL_get (σ : St) (w : World) (g : Gh) : ∀ (t : Ty) (i : Nat), LR σ w g (lget (zeroL t) i) ((zcells t).getD i undef) ∧ (lget (zeroL t) i).isOwn = false
  | .int k, i => by cases i <;> exact ⟨by first | rfl | trivial, rfl⟩
  | .bool, i => by cases i <;> exact ⟨by first | rfl | trivial, rfl⟩
  | .str, i => by cases i <;> exact ⟨by first | rfl | trivial, rfl⟩
  | .list e, i => by cases i <;> exact ⟨by first | rfl | trivial, rfl⟩
  | .pair a b, i => by
    have e : zeroL (.pair a b) = zeroL a ++ zeroL b := by simp [zeroL, explode, Ty.zero]
    have l : (zeroL a).length = (zcells a).length := by simp [zeroL, length_explode, length_zcells]
    rw [e, lget_append, show zcells (.pair a b) = zcells a ++ zcells b from rfl, getD_append, l]
    split
    · exact zeroL_get σ w g a i
    · exact zeroL_get σ w g b _
theorem length_zeroL (t : Ty) : (zeroL t).length = t.sz := by simp [zeroL, length_explode]
section
variable {P : Program} {T : TypeId → Option TI} {env : Env} {X : Ctx} {σ : St} {a : Act} {w : World} {g : Gh} {A : Type} {r : A} {k : St → Option A} {K : Act → World → Prop} {Q : Exit → Act → World → Prop}
  {d : Option Tmp} {ty : TypeId} {pos : String} {aft : Array Edge} {gd : Option (Nat × Bool)}
theorem op_move {x : Operand} (h : Rel X σ a w g) (hN : X.N ≤ σ.length) (ho : OpIn X.N ⟨d, .move x, ty, pos, aft, gd⟩) (hk : opK0 T env ⟨d, .move x, ty, pos, aft, gd⟩ σ k = some r) (hK : Nx X σ.length k r K) :
    Oper.wpS P ⟨d, .move x, ty, pos, aft, gd⟩ a w K := by
  have plain : rdS σ x = .cs (rd σ x).1 (rd σ x).2 → Oper.wpS P ⟨d, .move x, ty, pos, aft, gd⟩ a w K := by
    intro e
    simp only [opK0, e] at hk
    exact resA h hN ho (fun _ => rfl) (rd_ok h hN x (ho.ops x (by simp [Op.operands]))) hk hK
  cases x with
  | tmp t =>
    cases hg : gs σ t with
    | tup ks ls =>
      have ht : t < X.N := ho.ops (.tmp t) (by simp [Op.operands]) t rfl
      have hsh := h.sh t (Nat.lt_of_lt_of_le ht hN)
      have hview := fun j => LR_view h t j
      rw [hg] at hsh
      simp only [hg] at hview
      obtain ⟨vs, h1, h2⟩ := hsh
      simp only [opK0, rdS, hg] at hk
      refine resS h hN ho (v := a.tmps.getD t undef) (s := .tup ks (view t 0 ls)) (cs := cellsL g t ls.length) (fun _ => rfl) (by simp [cellsL, Slot.leaves]) ?_ rfl (fun i => ?_) (fun i => view_own _ _ _ _) hk hK
      · exact ⟨by simp [cellsL], vs, h1, h2⟩
      · by_cases hi : i < ls.length
        · rw [cellsL_getD _ _ _ _ hi, show (Slot.tup ks (view t 0 ls)).leaves = view t 0 ls from rfl, lget_view]; have := hview i; simp only [Slot.leaves, Nat.zero_add] at this ⊢; exact this
        · rw [show lget (Slot.tup ks (view t 0 ls)).leaves i = .und from lget_of_le (by simpa [Slot.leaves] using hi)]; trivial
    | cs ag ls => exact plain (by simp [rdS, hg])
    | box ls => exact plain (by simp [rdS, hg])
    | itr s i ls => exact plain (by simp [rdS, hg])
    | vb ls => exact plain (by simp [rdS, hg])
  | _ => exact plain rfl
theorem op_assign {x : Operand} (h : Rel X σ a w g) (hN : X.N ≤ σ.length) (ho : OpIn X.N ⟨d, .assign x, ty, pos, aft, gd⟩) (hk : opK0 T env ⟨d, .assign x, ty, pos, aft, gd⟩ σ k = some r) (hK : Nx X σ.length k r K) :
    Oper.wpS P ⟨d, .assign x, ty, pos, aft, gd⟩ a w K :=
  resT h hN ho (fun _ => rfl) (rd_ok h hN x (ho.ops x (by simp [Op.operands]))) hk hK
theorem op_pick {c x y : Operand} (h : Rel X σ a w g) (hN : X.N ≤ σ.length) (ho : OpIn X.N ⟨d, .pick c x y, ty, pos, aft, gd⟩) (hk : opK0 T env ⟨d, .pick c x y, ty, pos, aft, gd⟩ σ k = some r) (hK : Nx X σ.length k r K) :
    Oper.wpS P ⟨d, .pick c x y, ty, pos, aft, gd⟩ a w K := by
  have hc := rd1_ok h hN c (ho.ops c (by simp [Op.operands]))
  have hx := rd1_ok h hN x (ho.ops x (by simp [Op.operands]))
  have hy := rd1_ok h hN y (ho.ops y (by simp [Op.operands]))
  have ox := rd1_own h hN x (ho.ops x (by simp [Op.operands]))
  have oy := rd1_own h hN y (ho.ops y (by simp [Op.operands]))
  simp only [opK0] at hk
  split at hk
  · rename_i b hb
    rw [hb] at hc
    have hcv := LR_bool hc
    cases b with
    | true => exact resL h hN ho (by simp [execOp, hcv, asBool]) hx ox hk hK
    | false => exact resL h hN ho (by simp [execOp, hcv, asBool]) hy oy hk hK
  · cases hk
/-- A new box. -/
theorem resBox {o : Oper} (h : Rel X σ a w g) (hN : X.N ≤ σ.length) (ho : OpIn X.N o) {te : TypeId} {cs : List Value} (hrun : (execOp a.eval o).run P w = .ok (.value (.pointer (some ⟨w.heap.size, 0, none⟩))) (w.alloc (.cells cs.toArray te)))
    {ls : List Leaf} (hlen : cs.length = ls.length) (hlf : ∀ i, LR σ w g (lget ls i) (cs.getD i undef)) (hown : ∀ i, (lget ls i).isOwn = false) (hk : k (Ev.wr σ o.dst (.box ls)) = some r) (hK : Nx X σ.length k r K) : o.wp P a w K Q := by
  unfold Oper.wp
  rw [hrun]
  show K (a.put o.dst _) _
  have hb : Go.RowKit.Below w.heap.size w (w.alloc (.cells cs.toArray te)) := (Go.RowKit.Below.refl _ _).alloc (Nat.le_refl _) _
  have h1 := h.below hb (Nat.le_refl _)
  cases hd : o.dst with
  | none => rw [hd] at hk; exact hK σ a _ g h1 rfl hk
  | some d =>
    rw [hd] at hk
    refine hK _ _ _ _ (h1.wr (ho.dst d hd) hN (s := .box ls) (cs := cs) (nb := w.heap.size) hlen ⟨hlen.symm, rfl, te, heap_alloc_new w _⟩ (fun i => ?_) (fun o1 o2 b e1 e2 => ?_) (fun o' b e1 => ?_)) (by simp) hk
    · exact LR_world (fun b hS => hb.block b (h.sb b hS).1) (fun hx => by have hx' : (lget ls i).isOwn = true := hx; rw [hown i] at hx'; cases hx') (hlf i)
    · have key : ∀ o, nob (.box ls) w.heap.size cs o = some b → o = none := by
        intro o he
        cases o with
        | none => rfl
        | some i => simp only [nob, Slot.leaves, hown i] at he; cases he
      rw [key o1 e1, key o2 e2]
    · cases o' with
      | some i => simp only [nob, Slot.leaves, hown i] at e1; cases e1
      | none =>
        simp [nob, Slot.shp, Shp.isBox] at e1
        subst e1
        refine ⟨fun hs => Nat.lt_irrefl _ (h.sb _ hs).1, by simp, .inl h.grow, fun o' he => ?_⟩
        exact Nat.lt_irrefl _ (h.fr o' _ he).2.1
theorem run_newVar (t : TypeId) (v : Value) : (newVar t v).run P w = .ok ⟨w.heap.size, 0, none⟩ (w.alloc (.cells v.cells t)) := by
  rfl
theorem op_alloc {t : TypeId} (hT : TOk P T) (h : Rel X σ a w g) (hN : X.N ≤ σ.length) (ho : OpIn X.N ⟨d, .alloc t, ty, pos, aft, gd⟩) (hk : opK0 T env ⟨d, .alloc t, ty, pos, aft, gd⟩ σ k = some r) (hK : Nx X σ.length k r K) :
    Oper.wp P ⟨d, .alloc t, ty, pos, aft, gd⟩ a w K Q := by
  simp only [opK0] at hk
  split at hk
  · rename_i ti hti
    obtain ⟨i, z, hi, h1, h2, h3, h4, h5⟩ := hT.info t ti hti
    refine resBox h hN ho (te := t) (cs := zcells ti.ty) ?_ (by rw [length_zcells, length_zeroL]) (fun i => (zeroL_get σ w g ti.ty i).1) (fun i => (zeroL_get σ w g ti.ty i).2) hk hK
    rw [← h4]
    simp [execOp, Instr.alloc, zeroValue, typeInfo, hi, h3, run_newVar]
  · cases hk
theorem LR_one {l : Leaf} {v : Value} (h : LR σ w g l v) (hown : l.isOwn = false) (hk : l.known = true) (hc : ∀ q, l = .al q → (g.c q).oneCell' = true) : v.oneCell' = true := by
  cases l with
  | val t x => exact rel_one h v (by simp)
  | own te e xs => cases hown
  | hol te e xs i q => cases hown
  | al q => rw [h.1]; exact hc q rfl
  | nils => rw [h]; rfl
  | ptr b o => rw [h.1]; rfl
  | ept q e i o =>
    obtain ⟨_, gb, n, cap, _, hv⟩ := h
    rw [hv]; unfold eptV; split <;> rfl
  | vpt t x =>
    obtain ⟨b, o, cs, hv, _⟩ := h
    rw [hv]; rfl
  | clo f bs => rw [h.1]; rfl
  | cst u => rw [h.1]; exact h.2
  | no => cases hk
  | und => cases hk
theorem ownR_one {te : TypeId} {e : Ty} {xs : List e.den} {v : Value} {S : Nat → Prop} (h : ownR w S te e xs v) : v.oneCell' = true := by
  rcases ownR_form h with ⟨rfl, _⟩ | ⟨_, _, _, rfl, _⟩ <;> rfl
theorem holR_one {te : TypeId} {e : Ty} {xs : List (List e.den)} {i : Int} {u : Option Value} {v : Value} {S : Nat → Prop} (h : holR w S te e xs i u v) : v.oneCell' = true := by
  obtain ⟨_, _, vs, _, _, _, _, hc⟩ := h
  rcases hc with ⟨rfl, _⟩ | ⟨_, _, _, rfl, _⟩ <;> rfl
/-- A known leaf's value is one cell. -/
theorem Rel.one (h : Rel X σ a w g) {l : Leaf} {v : Value} (hl : LR σ w g l v) (hown : l.isOwn = false) (hk : l.known = true) : v.oneCell' = true :=
  LR_one hl hown hk (fun q e => by
    subst e
    have h1 := hl.2
    have := h.lf q
    cases hx : gl σ q <;> rw [hx] at this h1 <;> first | exact ownR_one this | exact holR_one this.1 | cases h1)
theorem known_all {ls : List Leaf} (h : ls.all Leaf.known = true) {i : Nat} (hi : i < ls.length) : (lget ls i).known = true := by
  rw [lget_eq_getElem?, List.getElem?_eq_getElem hi]
  exact List.all_eq_true.1 h _ (List.getElem_mem hi)
/-- The cells of a known value. -/
theorem Rel.cells (h : Rel X σ a w g) {q : Bool × List Leaf} {v : Value} (hq : ArgR σ w g q v) (hk : q.2.all Leaf.known = true) :
    ∃ cs : List Value, v.cells.toList = cs ∧ cs.length = q.2.length ∧ (∀ i, LR σ w g (lget q.2 i) (cs.getD i undef)) ∧ ∀ u ∈ cs, u.oneCell' = true := by
  obtain ⟨b, ls⟩ := q
  have fin : ∀ cs : List Value, cs.length = ls.length → (∀ i, LR σ w g (lget ls i) (cs.getD i undef)) → ∀ u ∈ cs, u.oneCell' = true := by
    intro cs hl hc u hu
    obtain ⟨i, hi, rfl⟩ := List.getElem_of_mem hu
    have := h.one (hc i) (hq.2.2 i) (known_all (ls := ls) hk (by omega))
    simpa [List.getD_eq_getElem?_getD, hi] using this
  cases b with
  | true =>
    obtain ⟨cs, rfl, h2, h3⟩ := hq.2.1 rfl
    exact ⟨cs, by simp [Value.cells], h2, h3, fin cs h2 h3⟩
  | false =>
    obtain ⟨l, h1, h2⟩ := hq.1 rfl
    simp only at h1
    subst h1
    have h1 := h.one h2 (hq.2.2 0) (known_all hk (i := 0) (by simp))
    have e : v.cells = #[v] := by
      cases v with
      | agg cs => cases h1
      | _ => rfl
    have h3 : ∀ i, LR σ w g (lget [l] i) ([v].getD i undef) := fun i => by
      cases i with
      | zero => exact h2
      | succ i => trivial
    exact ⟨[v], by rw [e], rfl, h3, fin [v] rfl h3⟩
theorem op_box {t : TypeId} {x : Operand} (hT : TOk P T) (h : Rel X σ a w g) (hN : X.N ≤ σ.length) (ho : OpIn X.N ⟨d, .box t x, ty, pos, aft, gd⟩) (hk : opK0 T env ⟨d, .box t x, ty, pos, aft, gd⟩ σ k = some r) (hK : Nx X σ.length k r K) :
    Oper.wp P ⟨d, .box t x, ty, pos, aft, gd⟩ a w K Q := by
  simp only [opK0] at hk
  split at hk
  · rename_i ti hti
    split at hk
    · rename_i hc
      have hq := rd_ok h hN x (ho.ops x (by simp [Op.operands]))
      obtain ⟨cs, h1, h2, h3, _⟩ := h.cells hq hc.2.2
      have hrun : (execOp a.eval ⟨d, .box t x, ty, pos, aft, gd⟩).run P w = .ok (.value (.pointer (some ⟨w.heap.size, 0, none⟩))) (w.alloc (.cells cs.toArray t)) := by
        rw [← h1]
        simp [execOp, Instr.box, run_newVar]
      cases hd : d with
      | none =>
        subst hd
        exact resBox h hN ho hrun h2 h3 hq.2.2 hk hK
      | some d' =>
        subst hd
        exact resBox (k := fun σ1 => k (xfers σ1 d' 0 (rd σ x).2.length)) h hN ho hrun h2 h3 hq.2.2 hk (fun σ' a' w' g' hr hl hk' => hK _ a' w' g' (hr.xfers d' _ _) (by simpa using hl) hk')
    · cases hk
  · cases hk
end
end Go.Ev
namespace Go.Ev
set_option linter.unusedVariables false
set_option linter.unusedSimpArgs false
section
variable {P : Program} {T : TypeId → Option TI} {env : Env} {X : Ctx} {σ : St} {a : Act} {w : World} {g : Gh} {A : Type} {r : A} {k : St → Option A} {K : Act → World → Prop} {Q : Exit → Act → World → Prop}
  {d : Option Tmp} {ty : TypeId} {pos : String} {aft : Array Edge} {gd : Option (Nat × Bool)}
theorem TOk.sizeOf (hT : TOk P T) {t : TypeId} {ti : TI} (h : T t = some ti) (w : World) : (Go.sizeOf t).run P w = .ok ti.ty.sz w := by
  obtain ⟨i, z, hi, h1, _⟩ := hT.info t ti h
  simp [Go.sizeOf, typeInfo, hi, h1]
theorem TOk.isAgg (hT : TOk P T) {t : TypeId} {ti : TI} (h : T t = some ti) (w : World) : (Go.isAgg t).run P w = .ok ti.agg w := by
  cases ha : ti.agg with
  | true =>
    cases hr : ti.arr with
    | zero =>
      obtain ⟨fs, h1, _⟩ := hT.agg t ti h ha hr
      simp [Go.isAgg, run_underlying h1]
    | succ n =>
      obtain ⟨_, _, h1⟩ := hT.arr t ti n h hr
      simp [Go.isAgg, run_underlying h1]
  | false =>
    have := hT.sca t ti h ha
    revert this
    cases ti.ty with
    | int k => intro hx; simp [Go.isAgg, run_underlying hx]
    | bool => intro hx; simp [Go.isAgg, run_underlying hx]
    | str => intro hx; simp [Go.isAgg, run_underlying hx]
    | list e => intro hx; simp [Go.isAgg, run_underlying hx.1]
    | pair a b => intro hx; exact hx.elim
theorem TOk.sz1 (hT : TOk P T) {t : TypeId} {ti : TI} (h : T t = some ti) (ha : ti.agg = false) : ti.ty.sz = 1 := by
  have := hT.sca t ti h ha
  revert this
  cases ti.ty <;> intro hx <;> first | rfl | exact hx.elim
/-- A variable of a type whose cells are these. -/
def mkV (agg : Bool) (cs : List Value) : Value := if agg then .agg cs.toArray else cs.getD 0 undef
theorem run_loadVar (hT : TOk P T) {t : TypeId} {ti : TI} (h : T t = some ti) (w : World) (b o : Nat) (cs : List Value) (hl : cs.length = ti.ty.sz) (hc : ∀ j u, cs[j]? = some u → w.cell? ⟨b, o + j, none⟩ = some u) :
    (loadVar t ⟨b, o, none⟩).run P w = .ok (mkV ti.agg cs) w := by
  have hl2 : (loadCells ⟨b, o, none⟩ cs.length).run P w = .ok cs.toArray w := run_loadCells_list (P := P) w ⟨b, o, none⟩ cs (fun j v hv => by rw [addr_add]; exact hc j v hv)
  cases ha : ti.agg with
  | true => simp [loadVar, Sem.run_bind, hT.isAgg h, ha, hT.sizeOf h, ← hl, hl2, mkV]
  | false =>
    have h1 := hT.sz1 h ha
    obtain ⟨u, rfl⟩ := List.length_eq_one_iff.1 (hl.trans h1)
    have hu := hc 0 u rfl
    simp only [Nat.add_zero] at hu
    simp [loadVar, Sem.run_bind, hT.isAgg h, ha, mkV]
    simp [load, Sem.run, hu]
/-- What is loaded comes out. -/
theorem resV {o : Oper} (h : Rel X σ a w g) (hN : X.N ≤ σ.length) (ho : OpIn X.N o) {ag : Bool} {cs : List Value} (hrun : ∀ w', ExtW w w' → (execOp a.eval o).run P w' = .ok (.value (mkV ag cs)) w') {ls : List Leaf} (hlen : cs.length = ls.length) (h1 : ag = false → cs.length = 1)
    (hlf : ∀ i, LR σ w g (lget ls i) (cs.getD i undef)) (hown : ∀ i, (lget ls i).isOwn = false) (hk : k (Ev.wr σ o.dst (.cs ag ls)) = some r) (hK : Nx X σ.length k r K) : Oper.wpE P o a w K := by
  refine resSw h hN ho hrun (s := .cs ag ls) hlen ?_ rfl hlf hown hk hK
  cases ag with
  | true => exact ⟨hlen.symm, rfl⟩
  | false =>
    obtain ⟨u, hu⟩ := List.length_eq_one_iff.1 (h1 rfl)
    subst hu
    exact ⟨hlen.symm, rfl⟩
/-- The same, and no memory is looked at. -/
theorem resVp {o : Oper} (h : Rel X σ a w g) (hN : X.N ≤ σ.length) (ho : OpIn X.N o) {ag : Bool} {cs : List Value} (hrun : ∀ w', (execOp a.eval o).run P w' = .ok (.value (mkV ag cs)) w') {ls : List Leaf} (hlen : cs.length = ls.length) (h1 : ag = false → cs.length = 1)
    (hlf : ∀ i, LR σ w g (lget ls i) (cs.getD i undef)) (hown : ∀ i, (lget ls i).isOwn = false) (hk : k (Ev.wr σ o.dst (.cs ag ls)) = some r) (hK : Nx X σ.length k r K) : Oper.wpS P o a w K := by
  refine resS h hN ho hrun (s := .cs ag ls) hlen ?_ rfl hlf hown hk hK
  cases ag with
  | true => exact ⟨hlen.symm, rfl⟩
  | false =>
    obtain ⟨u, hu⟩ := List.length_eq_one_iff.1 (h1 rfl)
    subst hu
    exact ⟨hlen.symm, rfl⟩
theorem lget_ltake : ∀ (n : Nat) (ls : List Leaf) (i : Nat), lget (ltake n ls) i = if i < n then lget ls i else .und
  | 0, ls, i => by simp [ltake, lget]
  | n + 1, [], i => by simp [ltake, lget]
  | n + 1, l :: ls, 0 => by simp [ltake, lget]
  | n + 1, l :: ls, i + 1 => by simp [ltake, lget, lget_ltake n ls i]
theorem lget_ldrop : ∀ (n : Nat) (ls : List Leaf) (i : Nat), lget (ldrop n ls) i = lget ls (n + i)
  | 0, ls, i => by simp [ldrop]
  | n + 1, [], i => by simp [ldrop, lget]
  | n + 1, l :: ls, i => by rw [ldrop, lget_ldrop n ls i, show n + 1 + i = (n + i) + 1 from by omega]; rfl
theorem length_ltake : ∀ (n : Nat) (ls : List Leaf), (ltake n ls).length = min n ls.length
  | 0, ls => by simp [ltake]
  | n + 1, [] => by simp [ltake]
  | n + 1, l :: ls => by simp [ltake, length_ltake n ls]
theorem length_ldrop : ∀ (n : Nat) (ls : List Leaf), (ldrop n ls).length = ls.length - n
  | 0, ls => by simp [ldrop]
  | n + 1, [] => by simp [ldrop]
  | n + 1, l :: ls => by simp [ldrop, length_ldrop n ls]
/-- Element `i` of an owned row: its cells. -/
theorem own_elem {S : Nat → Prop} {te : TypeId} {e : Ty} {xs : List e.den} {gb n cap : Nat} (h : ownR w S te e xs (.slice (some ⟨gb, 0, none⟩) n cap)) {i : Nat} (hi : i < xs.length) :
    ∃ c, rel w S e (xs.getD i e.zero) c ∧ ∀ j u, c[j]? = some u → w.cell? ⟨gb, i * e.sz + j, none⟩ = some u := by
  rcases ownR_form h with ⟨hv, _⟩ | ⟨g', cap', cur, hv, hg, h1, h2, h3, hr⟩
  · cases hv
  · simp only [Value.slice.injEq, Option.some.injEq, Addr.mk.injEq, and_true] at hv
    obtain ⟨rfl, _, _⟩ := hv
    obtain ⟨c, hc, hcell⟩ := rows_get hr i (xs.getD i e.zero) (by simp [List.getD_eq_getElem?_getD, hi])
    refine ⟨c, hc, fun j u hu => ?_⟩
    have := hcell j u hu
    rw [List.getElem?_take] at this
    split at this
    · rw [cell_of_row w gb _ cur te (0, 0) hg]; simpa using this
    · cases this
theorem box_cell (h : Rel X σ a w g) {b : Nat} (hb : isBox σ b) (hbl : b < σ.length) {i : Nat} (hi : i < (gs σ b).leaves.length) : w.cell? ⟨g.blk b, i, none⟩ = some (g.c ⟨b, i⟩) := by
  have := h.sh b hbl
  have hb' : (gs σ b).shp.isBox = true := hb
  rw [leaves_len] at hi
  revert this hb' hi
  cases (gs σ b).shp with
  | cs ag n => intro _ _ hx; cases hx
  | tup ks n => intro _ _ hx; cases hx
  | box n =>
    rintro hi hsr _
    obtain ⟨_, te, h2⟩ := hsr
    rw [cell_of_row w _ i _ te (0, 0) h2]
    simp only [Shp.len] at hi
    simp [cellsL, hi]
  | itr s j n => rintro hi ⟨h0, _⟩ _; simp only [Shp.len] at hi; omega
  | vb n => intro _ _ hx; cases hx
theorem isBox_lt {b : Nat} (hb : isBox σ b) : b < σ.length := by
  apply Nat.lt_of_not_le
  intro hn
  unfold isBox at hb
  rw [gs_of_le hn] at hb
  cases hb
theorem ltake_len {n : Nat} {ls : List Leaf} (h : n ≤ ls.length) : (ltake n ls).length = n := by rw [length_ltake]; omega
theorem op_load {t : TypeId} {x : Operand} (hT : TOk P T) (h : Rel X σ a w g) (hN : X.N ≤ σ.length) (ho : OpIn X.N ⟨d, .load t x, ty, pos, aft, gd⟩) (hk : opK0 T env ⟨d, .load t x, ty, pos, aft, gd⟩ σ k = some r) (hK : Nx X σ.length k r K) :
    Oper.wpE P ⟨d, .load t x, ty, pos, aft, gd⟩ a w K := by
  have hx := rd1_ok h hN x (ho.ops x (by simp [Op.operands]))
  simp only [opK0] at hk
  cases hti : T t with
  | none => rw [hti] at hk; cases hk
  | some ti =>
  rw [hti] at hk
  simp only at hk
  have run : ∀ (b o : Nat) (cs : List Value), a.eval x = .pointer (some ⟨b, o, none⟩) → cs.length = ti.ty.sz → b < w.heap.size → (∀ j u, cs[j]? = some u → w.cell? ⟨b, o + j, none⟩ = some u) →
      ∀ w', ExtW w w' → (execOp a.eval ⟨d, .load t x, ty, pos, aft, gd⟩).run P w' = .ok (.value (mkV ti.agg cs)) w' := by
    intro b o cs hv hl hbl hc w' he
    simp [execOp, Instr.loadAt, hv, Instr.sureAddr, run_loadVar hT hti w' b o cs hl (fun j u hu => by rw [← hc j u hu]; exact World.cell?_of_block (he b hbl))]
  have sz1 : ∀ cs : List Value, cs.length = ti.ty.sz → ti.agg = false → cs.length = 1 := fun cs hl ha => hl.trans (hT.sz1 hti ha)
  generalize rd1 σ x = l at hx hk
  cases l with
  | ptr b o =>
    simp only at hk
    split at hk
    · rename_i hlen
      obtain ⟨hv, hb⟩ := hx
      have hl1 : (ltake ti.ty.sz (ldrop o (gs σ b).leaves)).length = ti.ty.sz := ltake_len (by rw [length_ldrop]; omega)
      refine resV h hN ho (cs := (List.range ti.ty.sz).map fun i => g.c ⟨b, o + i⟩) (run _ _ _ hv (by simp) (h.fr (.inl b) _ (by simp [ob, show (gs σ b).shp.isBox = true from hb])).2.1 ?_) (by simp [hl1]) (sz1 _ (by simp)) (fun i => ?_) (fun i => view_own _ _ _ _) hk hK
      · intro j u hu
        simp only [List.getElem?_map, Option.map_eq_some_iff] at hu
        obtain ⟨i, hi, rfl⟩ := hu
        obtain ⟨hi2, rfl⟩ := List.getElem?_eq_some_iff.1 hi
        simp only [List.getElem_range, List.length_range] at hi2 ⊢
        exact box_cell h hb (isBox_lt hb) (by omega)
      · rw [lget_view, lget_ltake]
        by_cases hi : i < ti.ty.sz
        · rw [if_pos hi, lget_ldrop]
          have := LR_view h b (o + i)
          simpa [List.getD_eq_getElem?_getD, hi] using this
        · rw [if_neg hi]; trivial
    · cases hk
  | ept p e i o =>
    simp only at hk
    obtain ⟨⟨n0, h0, h2, h3⟩, gb, n, cap, h4, h5⟩ := hx
    cases hr : rowOf σ e (.al p) with
    | none => rw [hr] at hk; cases hk
    | some xs =>
    rw [hr] at hk
    simp only at hk
    obtain ⟨te, h1⟩ : ∃ te, gl σ p = .own te e xs := by
      simp only [rowOf] at hr
      split at hr
      · rename_i te e' xs' hg
        split at hr
        · rename_i he
          subst he
          injection hr with hr
          subst hr
          exact ⟨te, hg⟩
        · cases hr
      · cases hr
    have h3 : i < (List.length xs : Int) := by
      rw [h1] at h0
      have h0 : some (e, List.length xs) = some (e, n0) := h0
      injection h0 with h0
      injection h0 with _ h0
      rw [h0]; exact h3
    split at hk
    · rename_i hlen
      have hown := h.lf p
      rw [h1, h4] at hown
      obtain ⟨c, hc, hcell⟩ := own_elem hown (i := i.toNat) (by omega)
      have hcl := rel_len hc
      have hat : xs.getD i.toNat e.zero = at_ xs i := rfl
      rw [hat] at hc
      refine resV h hN ho (cs := (c.drop o).take ti.ty.sz) (run _ _ _ (by rw [h5, eptV_ptr (by omega)]) (by simp; omega) (h.fr (.inr p) gb (by simp [ob, h1, Leaf.isOwn, h4, Value.ownBlock])).2.1 ?_) ?_ (sz1 _ (by simp; omega)) (fun j => ?_) (fun j => ?_) hk hK
      · intro j u hu
        rw [List.getElem?_take] at hu
        split at hu
        · rw [List.getElem?_drop] at hu
          rw [Nat.add_assoc]
          exact hcell _ u hu
        · cases hu
      · rw [ltake_len (by rw [length_ldrop, length_explode]; omega)]
        simp; omega
      · rw [lget_ltake]
        split
        · rename_i hj
          rw [lget_ldrop]
          have := LR_explode σ hc (o + j)
          simpa [List.getD_eq_getElem?_getD, List.getElem?_take, hj] using this
        · trivial
      · rw [lget_ltake]
        split
        · rw [lget_ldrop]; exact explode_own _ _ _
        · rfl
    · cases hk
  | vpt t' y =>
    simp only at hk
    split at hk
    · rename_i he
      subst he
      obtain ⟨b, o, cs, h1, h2, h3, h4⟩ := hx
      exact resV h hN ho (cs := cs) (run _ _ _ h1 (rel_len h3) (h.sb b h2).1 h4) (by rw [length_explode, rel_len h3]) (sz1 _ (rel_len h3)) (fun i => LR_explode σ h3 i) (fun i => explode_own _ _ _) hk hK
    · cases hk
  | _ => cases hk
end
end Go.Ev
namespace Go.Ev
set_option linter.unusedVariables false
set_option linter.unusedSimpArgs false
/-- What a plain leaf tells. -/
def LRz (w : World) (S : Nat → Prop) : Leaf → Value → Prop
  | .val t x, v => rel w S t x [v]
  | .nils, v => v = .slice none 0 0
  | _, _ => True
/-- What a leaf tells that was read some steps ago. -/
def LRw (σ : St) (w : World) (g : Gh) : Leaf → Value → Prop
  | .al q, v => v = g.c q
  | .ept .., _ => True
  | .own .., _ => True
  | .hol .., _ => True
  | l, v => LR σ w g l v
theorem LRw_of {σ : St} {w : World} {g : Gh} {l : Leaf} {v : Value} (h : LR σ w g l v) : LRw σ w g l v := by
  cases l with
  | al q => exact h.1
  | ept => trivial
  | own => trivial
  | hol => trivial
  | _ => exact h
theorem as_ok {w : World} {S : Nat → Prop} {t : Ty} {l : Leaf} {x : t.den} {v : Value} (h : l.as t = some x) (hl : LRz w S l v) : rel w S t x [v] := by
  cases l with
  | val t' y =>
    simp only [Leaf.as] at h
    split at h
    · rename_i e
      subst e
      injection h with h
      subst h
      exact hl
    · cases h
  | nils =>
    simp only [Leaf.as] at h
    split at h
    · injection h with h
      subst h
      rw [show v = .slice none 0 0 from hl]
      simp only [rel]
      exact ⟨none, 0, rfl, Nat.le_refl _, .inl trivial⟩
    · cases h
  | _ => simp [Leaf.as] at h
theorem implode_ok {w : World} {S : Nat → Prop} : ∀ {t : Ty} {ls : List Leaf} {x : t.den} {cs : List Value}, implode t ls = some x → cs.length = t.sz → (∀ i, i < t.sz → LRz w S (lget ls i) (cs.getD i undef)) → rel w S t x cs
  | .pair a b, ls, x, cs, h, hl, hc => by
    simp only [implode] at h
    split at h
    · rename_i x1 x2 h1 h2
      injection h with h
      subst h
      simp only [Ty.sz] at hl hc
      simp only [rel]
      refine ⟨cs.take a.sz, cs.drop a.sz, (List.take_append_drop _ _).symm, implode_ok h1 (by simp; omega) (fun i hi => ?_), implode_ok h2 (by simp; omega) (fun i hi => ?_)⟩
      · rw [lget_ltake, if_pos hi]
        have := hc i (by omega)
        simpa [List.getD_eq_getElem?_getD, List.getElem?_take, hi] using this
      · rw [lget_ldrop]
        have := hc (a.sz + i) (by omega)
        simpa [List.getD_eq_getElem?_getD] using this
    · cases h
  | .int k, ls, x, cs, h, hl, hc => by
    obtain ⟨v, rfl⟩ := List.length_eq_one_iff.1 (show cs.length = 1 from hl)
    exact as_ok (t := .int k) h (hc 0 (by simp [Ty.sz]))
  | .bool, ls, x, cs, h, hl, hc => by
    obtain ⟨v, rfl⟩ := List.length_eq_one_iff.1 (show cs.length = 1 from hl)
    exact as_ok (t := .bool) h (hc 0 (by simp [Ty.sz]))
  | .str, ls, x, cs, h, hl, hc => by
    obtain ⟨v, rfl⟩ := List.length_eq_one_iff.1 (show cs.length = 1 from hl)
    exact as_ok (t := .str) h (hc 0 (by simp [Ty.sz]))
  | .list e, ls, x, cs, h, hl, hc => by
    obtain ⟨v, rfl⟩ := List.length_eq_one_iff.1 (show cs.length = 1 from hl)
    exact as_ok (t := .list e) h (hc 0 (by simp [Ty.sz]))
theorem LRz_of {σ : St} {w : World} {g : Gh} {l : Leaf} {v : Value} (h : LRw σ w g l v) : LRz w g.S l v := by
  cases l <;> first | exact h | trivial
theorem LRz_mono {w : World} {S S' : Nat → Prop} (hS : ∀ b, S b → S' b) {l : Leaf} {v : Value} (h : LRz w S l v) : LRz w S' l v := by
  cases l with
  | val t x => exact rel_mono hS (fun _ _ => rfl) h
  | nils => exact h
  | _ => trivial
/-- Leaves read some steps ago, after a step that turned leaves alone. -/
theorem LRw_mono {σ σ' : St} {w : World} {g g' : Gh} (hS : ∀ b, g.S b → g'.S b) (hc : g'.c = g.c) (hb : g'.blk = g.blk) (hx : ∀ b, isBox σ b → isBox σ' b) {l : Leaf} {v : Value} (h : LRw σ w g l v) : LRw σ' w g' l v := by
  cases l with
  | val t x => exact rel_mono hS (fun _ _ => rfl) h
  | al q => show _ = _; rw [hc]; exact h
  | nils => exact h
  | ptr b o => exact ⟨by rw [hb]; exact h.1, hx _ h.2⟩
  | vpt t x =>
    obtain ⟨b, o, cs, h1, h2, h3, h4⟩ := h
    exact ⟨b, o, cs, h1, hS b h2, rel_mono hS (fun _ _ => rfl) h3, h4⟩
  | clo f bs => exact ⟨by rw [hb]; exact h.1, fun b hb => hx _ (h.2 b hb)⟩
  | cst u => exact h
  | no => exact h
  | _ => trivial
section
variable {X : Ctx} {a : Act} {w : World}
/-- A state after some rows were frozen. -/
structure Fz (X : Ctx) (a : Act) (w : World) (σ σ' : St) (g g' : Gh) : Prop where
  rel : Rel X σ' a w g'
  S : ∀ b, g.S b → g'.S b
  c : g'.c = g.c
  blk : g'.blk = g.blk
  shp : ∀ t, (gs σ' t).shp = (gs σ t).shp
  len : σ'.length = σ.length
  own : ∀ p te e xs, gl σ' p = .own te e xs → gl σ p = .own te e xs
  owns : ∀ p, (gl σ' p).isOwn = true → (gl σ p).isOwn = true
  new : ∀ b, g'.S b → g.S b ∨ ∃ p, ob σ g (.inr p) = some b
theorem Fz.refl {σ : St} {g : Gh} (h : Rel X σ a w g) : Fz X a w σ σ g g := ⟨h, fun _ h => h, rfl, rfl, fun _ => rfl, rfl, fun _ _ _ _ h => h, fun _ h => h, fun b hb => .inl hb⟩
/-- What is owned afterwards was owned. -/
theorem Fz.ob {σ σ' : St} {g g' : Gh} (h : Fz X a w σ σ' g g') {o : Nat ⊕ Pl} {b : Nat} (hb : Ev.ob σ' g' o = some b) : Ev.ob σ g o = some b := by
  cases o with
  | inl t => simpa [Ev.ob, h.shp, h.blk] using hb
  | inr p =>
    simp only [Ev.ob] at hb ⊢
    split at hb
    · rename_i ho
      rw [h.owns _ ho, ← h.c]
      simpa using hb
    · cases hb
theorem Fz.trans {σ σ' σ'' : St} {g g' g'' : Gh} (h : Fz X a w σ σ' g g') (k : Fz X a w σ' σ'' g' g'') : Fz X a w σ σ'' g g'' :=
  ⟨k.rel, fun b hb => k.S b (h.S b hb), k.c.trans h.c, k.blk.trans h.blk, fun t => (k.shp t).trans (h.shp t), k.len.trans h.len, fun p te e xs hx => h.own _ _ _ _ (k.own _ _ _ _ hx), fun p hp => h.owns _ (k.owns _ hp), fun b hb => by
    rcases k.new b hb with hb | ⟨p, hb⟩
    · exact h.new b hb
    · exact .inr ⟨p, h.ob hb⟩⟩
theorem Fz.box {σ σ' : St} {g g' : Gh} (h : Fz X a w σ σ' g g') (b : Nat) (hb : isBox σ b) : isBox σ' b := by
  unfold isBox; rw [h.shp]; exact hb
theorem Fz.frz {σ : St} {g : Gh} (h : Rel X σ a w g) (p : Pl) : ∃ g', Fz X a w σ (Ev.frz σ p) g g' := by
  by_cases hn : ∀ (te : TypeId) (e : Ty) (xs : List e.den), gl σ p ≠ .own te e xs
  · rw [frz_id hn]; exact ⟨g, .refl h⟩
  · obtain ⟨te', e', xs', hp⟩ : ∃ te, ∃ e : Ty, ∃ xs : List e.den, gl σ p = .own te e xs := by
      refine Classical.byContradiction fun hc => hn fun te e xs he => hc ⟨te, e, xs, he⟩
    have ho : (gl σ p).isOwn = true := by rw [hp]; rfl
    refine ⟨_, h.frz hp, fun b hb => .inl hb, rfl, rfl, fun t => frz_shp σ p t, length_frz σ p, fun q te e xs hx => ?_, fun q hx => ?_, fun b hb => hb.imp id (fun hb => ⟨p, ownBlock_blk ho hb⟩)⟩
    · rw [frz_gl hp] at hx
      split at hx
      · cases hx
      · revert hx
        cases gl σ q with
        | own => exact id
        | al r => simp only [frP]; split <;> (intro hx; cases hx)
        | ept r => simp only [frP]; split <;> (intro hx; cases hx)
        | _ => intro hx; cases hx
    · rw [frz_gl hp] at hx
      split at hx
      · cases hx
      · rw [isOwn_frP] at hx; exact hx
theorem freezeL_ok : ∀ (ls : List Leaf) {σ : St} {g : Gh} (vs : Nat → Value), Rel X σ a w g → (∀ i, LRw σ w g (lget ls i) (vs i)) →
    ∃ g', Fz X a w σ (freezeL ls σ).1 g g' ∧ (∀ i, LRz w g'.S (lget (freezeL ls σ).2 i) (vs i)) ∧ (freezeL ls σ).2.length = ls.length
  | [], σ, g, vs, h, _ => ⟨g, .refl h, fun i => by simp [freezeL, lget, LRz], rfl⟩
  | l :: ls, σ, g, vs, h, hl => by
    by_cases hal : ∃ p, l = .al p
    · obtain ⟨p, rfl⟩ := hal
      obtain ⟨g1, f1⟩ := Fz.frz h p
      obtain ⟨g2, f2, h2, h3⟩ := freezeL_ok ls (fun i => vs (i + 1)) f1.rel (fun i => LRw_mono f1.S f1.c f1.blk f1.box (hl (i + 1)))
      refine ⟨g2, f1.trans f2, fun i => ?_, by simp [freezeL, h3]⟩
      cases i with
      | zero =>
        simp only [freezeL, lget]
        have hp := f1.rel.lf p
        have hv : vs 0 = g1.c p := by rw [f1.c]; exact hl 0
        rw [hv]
        cases hg : gl (Ev.frz σ p) p with
        | val t x => rw [hg] at hp; exact rel_mono f2.S (fun _ _ => rfl) hp
        | _ => trivial
      | succ i => exact h2 i
    · have e : freezeL (l :: ls) σ = ((freezeL ls σ).1, l :: (freezeL ls σ).2) := by
        cases l <;> first | rfl | exact absurd ⟨_, rfl⟩ hal
      rw [e]
      obtain ⟨g2, f2, h2, h3⟩ := freezeL_ok ls (fun i => vs (i + 1)) h (fun i => hl (i + 1))
      refine ⟨g2, f2, fun i => ?_, by simp [h3]⟩
      cases i with
      | zero => exact LRz_mono f2.S (LRz_of (hl 0))
      | succ i => exact h2 i
end
end Go.Ev
namespace Go.Ev
set_option linter.unusedVariables false
set_option linter.unusedSimpArgs false
theorem LRw_wrP {X : Ctx} {σ : St} {a : Act} {w w' : World} {g : Gh} (h : Rel X σ a w g) {p : Pl} (hp : Vp σ p) (l : Leaf) {u : Value} (hS : ∀ b, g.S b → w'.heap[b]? = w.heap[b]?)
    {l' : Leaf} {v : Value} (hl : LRw σ w g l' v) : LRw (xfer (wrP σ p l) p) w' (wrPG g p u) (killP p l') v := by
  have hbox : ∀ b, isBox σ b → isBox (xfer (wrP σ p l) p) b := fun b hb => by unfold isBox; rw [xfer_shp, wrP_shp]; exact hb
  cases l' with
  | al q =>
    by_cases e : q = p
    · simp [killP, e, LRw, LR]
    · simp only [killP, e, if_false]
      show _ = _
      simp [wrPG, e]; exact hl
  | ptr b o => exact ⟨hl.1, hbox b hl.2⟩
  | ept q e' i o =>
    by_cases e : q = p
    · simp [killP, e, LRw, LR]
    · simp only [killP, e, if_false]; trivial
  | clo f bs => exact ⟨hl.1, fun b hb => hbox b (hl.2 b hb)⟩
  | val t x => exact rel_mono (fun _ h => h) hS hl
  | own te e xs => trivial
  | hol te e xs i q => trivial
  | nils => exact hl
  | vpt t x =>
    obtain ⟨b, o, cs, h1, h2, h3, h4⟩ := hl
    exact ⟨b, o, cs, h1, h2, rel_mono (fun _ h => h) hS h3, fun j u hu => by rw [← h4 j u hu]; exact World.cell?_of_block (hS b h2)⟩
  | cst u => exact hl
  | no => exact hl
  | und => trivial
theorem san_ok {σ : St} {w : World} {g : Gh} {l : Leaf} {v : Value} (h : LRw σ w g l v) (ho : l.isOwn = false) : LR σ w g (san σ l) v ∧ (san σ l).isOwn = false := by
  cases l with
  | al q =>
    simp only [san]
    split
    · rename_i hq; exact ⟨⟨h, hq⟩, rfl⟩
    · exact ⟨trivial, rfl⟩
  | own te e xs => cases ho
  | hol te e xs i q => cases ho
  | ept => exact ⟨trivial, rfl⟩
  | _ => exact ⟨h, rfl⟩
section
variable {P : Program} {T : TypeId → Option TI} {env : Env} {X : Ctx} {σ : St} {a : Act} {w : World} {g : Gh} {A : Type} {r : A} {k : St → Option A} {K : Act → World → Prop} {Q : Exit → Act → World → Prop}
  {d : Option Tmp} {ty : TypeId} {pos : String} {aft : Array Edge} {gd : Option (Nat × Bool)}
theorem stL_ok (b : Nat) : ∀ (n : Nat) (ls : List Leaf) (us : List Value) (o j : Nat) {σ : St} {w : World} {g : Gh}, Rel X σ a w g → isBox σ b → o + j + ls.length ≤ (gs σ b).leaves.length → us.length = ls.length → ls.length ≤ n →
    (∀ i, LRw σ w g (lget ls i) (us.getD i undef)) → (∀ i, (lget ls i).isOwn = false) → (∀ u ∈ us, u.oneCell' = true) →
    ∃ w' g', (storeCells ⟨g.blk b, o, none⟩ us j).run P w = .ok () w' ∧ Rel X (stL b n (o + j) ls σ) a w' g' ∧ (stL b n (o + j) ls σ).length = σ.length
  | 0, ls, us, o, j, σ, w, g, h, hb, hlen, hul, hn, hl, ho, h1 => by
    have : ls = [] := List.eq_nil_of_length_eq_zero (by omega)
    subst this
    have : us = [] := List.eq_nil_of_length_eq_zero (by simpa using hul)
    subst this
    exact ⟨w, g, rfl, h, rfl⟩
  | n + 1, [], us, o, j, σ, w, g, h, hb, hlen, hul, hn, hl, ho, h1 => by
    have : us = [] := List.eq_nil_of_length_eq_zero (by simpa using hul)
    subst this
    exact ⟨w, g, rfl, h, rfl⟩
  | n + 1, l :: ls, [], o, j, σ, w, g, h, hb, hlen, hul, hn, hl, ho, h1 => by simp at hul
  | n + 1, l :: ls, u :: us, o, j, σ, w, g, h, hb, hlen, hul, hn, hl, ho, h1 => by
    have hp : Vp σ ⟨b, o + j⟩ := ⟨isBox_lt hb, by simp at hlen ⊢; omega⟩
    obtain ⟨s1, s2⟩ := san_ok (hl 0) (ho 0)
    have hr := h.wrP hp (show isBox σ (Pl.mk b (o + j)).t from hb) (l := san σ l) (u := u) s1 s2
    have hr2 := hr.xfer ⟨b, o + j⟩
    have hcell := box_cell h hb (isBox_lt hb) (i := o + j) hp.2
    have hst : (store ((⟨g.blk b, o, none⟩ : Addr).add j) u).run P w = .ok () (w.setCell ⟨g.blk b, o + j, none⟩ u) := by
      rw [addr_add, run_store P w _ u _ (h1 u (by simp))]
      have hb' : (gs σ b).shp.isBox = true := hb
      have hsh := h.sh b (isBox_lt hb)
      have hfz : w.frozen? ⟨g.blk b, o + j, none⟩ = false := by
        revert hsh hb'
        cases (gs σ b).shp with
        | cs ag n => intro hx _; cases hx
        | tup ks n => intro hx _; cases hx
        | box n =>
          rintro _ ⟨_, te, h2⟩
          exact frozen_of_row w _ _ _ te h2
        | itr s i n =>
          rintro _ ⟨_, _, h2⟩
          unfold World.cell? at hcell
          rw [h2] at hcell
          cases hcell
        | vb n => intro hx _; cases hx
      simp [hcell, hfz]
    have hbox2 : isBox (xfer (wrP σ ⟨b, o + j⟩ (san σ l)) ⟨b, o + j⟩) b := by unfold isBox; rw [xfer_shp, wrP_shp]; exact hb
    have hS : ∀ b', g.S b' → (w.setCell ⟨g.blk b, o + j, none⟩ u).heap[b']? = w.heap[b']? := fun b' hs => heap_setCell_other w _ b' u (fun e => (h.fr _ _ (box_blk (g := g) hb)).1 (by have e' : b' = g.blk b := e; rw [← e']; exact hs))
    obtain ⟨w', g', r1, r2, r3⟩ := stL_ok b n (ls.map (killP ⟨b, o + j⟩)) us o (j + 1) hr2 hbox2
      (by rw [leaves_len, xfer_shp, wrP_shp, ← leaves_len]; simp at hlen ⊢; omega) (by simpa using hul) (by simp at hn ⊢; omega)
      (fun i => by
        rw [lget_map _ rfl]
        exact LRw_wrP h hp _ hS (hl (i + 1)))
      (fun i => by rw [lget_map _ rfl, isOwn_killP]; exact ho (i + 1)) (fun v hv => h1 v (by simp [hv]))
    refine ⟨w', g', ?_, ?_, ?_⟩
    · simp only [storeCells, Sem.run_bind, hst, Result.andThen_ok]
      exact r1
    · exact r2
    · exact r3.trans (by simp)
theorem lget_setAt : ∀ (xs ls : List Leaf) (o i : Nat), o + xs.length ≤ ls.length → lget (setAt ls o xs) i = if o ≤ i ∧ i < o + xs.length then lget xs (i - o) else lget ls i
  | [], ls, o, i, _ => by
    simp only [setAt, List.length_nil, Nat.add_zero]
    rw [if_neg (by omega)]
  | x :: xs, ls, o, i, h => by
    simp only [setAt, List.length_cons] at h ⊢
    rw [lget_setAt xs (lset ls o x) (o + 1) i (by simp; omega)]
    by_cases h1 : o + 1 ≤ i ∧ i < o + 1 + xs.length
    · rw [if_pos h1, if_pos (by omega), show i - o = (i - (o + 1)) + 1 from by omega]
      rfl
    · rw [if_neg h1, lget_lset]
      by_cases h2 : o = i
      · subst h2
        rw [if_pos ⟨rfl, by omega⟩, if_pos (by omega), Nat.sub_self]
        rfl
      · rw [if_neg (by intro e; exact h2 e.1), if_neg (by omega)]
@[simp] theorem length_setAt : ∀ (xs ls : List Leaf) (o : Nat), (setAt ls o xs).length = ls.length
  | [], _, _ => rfl
  | x :: xs, ls, o => by rw [setAt, length_setAt xs]; simp
/-- An element with some leaves replaced. -/
theorem upd_ok {S : Nat → Prop} {e : Ty} {x v : e.den} {o : Nat} {ls : List Leaf} {c us : List Value} (h : upd e x o ls = some v) (hc : rel w S e x c) (hlen : o + ls.length ≤ e.sz) (hul : us.length = ls.length) (hl : ∀ i, LRz w S (lget ls i) (us.getD i undef)) :
    rel w S e v (c.take o ++ us ++ c.drop (o + us.length)) := by
  have hcl := rel_len hc
  refine implode_ok h (by simp; omega) (fun i hi => ?_)
  rw [lget_setAt ls _ o i (by rw [length_explode]; omega)]
  have he : LRz w S (lget (explode e x) i) (c.getD i undef) := by
    have := LR_explode (σ := ⟨0, .e⟩) (w := w) (g := ⟨S, fun _ => undef, fun _ => 0, fun _ => undef⟩) hc i
    exact LRz_of (LRw_of this)
  by_cases h1 : o ≤ i ∧ i < o + ls.length
  · rw [if_pos h1]
    have := hl (i - o)
    have e1 : (c.take o ++ us ++ c.drop (o + us.length)).getD i undef = us.getD (i - o) undef := by
      simp only [List.getD_eq_getElem?_getD]
      rw [List.append_assoc, List.getElem?_append_right (by simp; omega), List.getElem?_append_left (by simp; omega)]
      congr 2
      simp; omega
    rw [e1]; exact this
  · rw [if_neg h1]
    have e1 : (c.take o ++ us ++ c.drop (o + us.length)).getD i undef = c.getD i undef := by
      simp only [List.getD_eq_getElem?_getD]
      by_cases h2 : i < o
      · rw [List.append_assoc, List.getElem?_append_left (by simp; omega), List.getElem?_take, if_pos h2]
      · rw [List.getElem?_append_right (by simp; omega), List.getElem?_drop]
        congr 2
        simp; omega
    rw [e1]; exact he
theorem seg (L c us : List Value) (I s o N : Nat) (hc : ∀ j, j < s → L[I + j]? = c[j]?) (hcl : c.length = s) (ho : o + us.length ≤ s) (h1 : I + s ≤ N) (h2 : N ≤ L.length) :
    (L.take (I + o) ++ us ++ L.drop (I + o + us.length)).take N = (L.take N).take I ++ (c.take o ++ us ++ c.drop (o + us.length)) ++ (L.take N).drop (I + s) := by
  have ec : c = (L.drop I).take s := by
    apply List.ext_getElem?
    intro j
    rw [List.getElem?_take, List.getElem?_drop]
    split
    · rename_i hj; exact (hc j hj).symm
    · rw [List.getElem?_eq_none (by omega)]
  subst ec
  have a1 : L.take (I + o) = L.take I ++ (L.drop I).take o := List.take_add
  have a2 : (L.take N).take I = L.take I := by rw [List.take_take]; congr 1; omega
  have a3 : ((L.drop I).take s).take o = (L.drop I).take o := by rw [List.take_take]; congr 1; omega
  have a4 : ((L.drop I).take s).drop (o + us.length) = (L.drop (I + o + us.length)).take (s - (o + us.length)) := by
    rw [List.drop_take, List.drop_drop]; congr 2; omega
  have a5 : (L.take N).drop (I + s) = (L.drop (I + s)).take (N - (I + s)) := by rw [List.drop_take]
  have a6 : (L.drop (I + o + us.length)).take (N - (I + o + us.length)) = (L.drop (I + o + us.length)).take (s - (o + us.length)) ++ (L.drop (I + s)).take (N - (I + s)) := by
    rw [show N - (I + o + us.length) = (s - (o + us.length)) + (N - (I + s)) from by omega, List.take_add, List.drop_drop]
    congr 3; omega
  rw [a2, a3, a4, a5, List.take_append, List.take_of_length_le (by simp; omega), a1]
  have hl : (L.take I ++ (L.drop I).take o ++ us).length = I + o + us.length := by simp; omega
  rw [hl, a6]
  simp
theorem op_store {t : TypeId} {x y : Operand} (hT : TOk P T) (h : Rel X σ a w g) (hN : X.N ≤ σ.length) (ho : OpIn X.N ⟨d, .store t x y, ty, pos, aft, gd⟩) (hk : opK0 T env ⟨d, .store t x y, ty, pos, aft, gd⟩ σ k = some r) (hK : Nx X σ.length k r K) :
    Oper.wp P ⟨d, .store t x y, ty, pos, aft, gd⟩ a w K Q := by
  have hx := rd1_ok h hN x (ho.ops x (by simp [Op.operands]))
  have hy := rd_ok h hN y (ho.ops y (by simp [Op.operands]))
  simp only [opK0] at hk
  cases d with
  | some d' => cases hk
  | none =>
  simp only [Option.isSome, if_false, Bool.false_eq_true] at hk
  cases hti : T t with
  | none => rw [hti] at hk; cases hk
  | some ti =>
  rw [hti] at hk
  simp only at hk
  have fin : ∀ w' σ' g', (execOp a.eval ⟨none, .store t x y, ty, pos, aft, gd⟩).run P w = .ok .skip w' → Rel X σ' a w' g' → σ'.length = σ.length → k σ' = some r → Oper.wp P ⟨none, .store t x y, ty, pos, aft, gd⟩ a w K Q := by
    intro w' σ' g' hrun hr hl hk'
    unfold Oper.wp
    rw [hrun]
    exact hK σ' a w' g' hr hl hk'
  have run : ∀ (b o : Nat) (us : List Value) w', a.eval x = .pointer (some ⟨b, o, none⟩) → (a.eval y).cells.toList = us → us.length = ti.ty.sz → (storeCells ⟨b, o, none⟩ us 0).run P w = .ok () w' →
      (execOp a.eval ⟨none, .store t x y, ty, pos, aft, gd⟩).run P w = .ok .skip w' := by
    intro b o us w' hv hu hl hs
    have hsz : (a.eval y).cells.size = ti.ty.sz := by rw [← hl, ← hu]; simp
    have e1 : (storeVar t ⟨b, o, none⟩ (a.eval y)).run P w = .ok () w' := by
      simp only [storeVar, Sem.run_bind, hT.sizeOf hti, Result.andThen_ok, hsz, ne_eq, not_true_eq_false, if_false, hu]
      exact hs
    simp [execOp, Instr.storeAt, hv, Instr.sureAddr, e1]
  generalize rd1 σ x = l at hx hk
  cases l with
  | ptr b o =>
    simp only at hk
    split at hk
    · rename_i hc
      obtain ⟨c1, c2, c3, c4⟩ := hc
      obtain ⟨us, u1, u2, u3, u4⟩ := h.cells hy c3
      obtain ⟨hv, hb⟩ := hx
      obtain ⟨w', g', r1, r2, r3⟩ := stL_ok (P := P) b (rd σ y).2.length (rd σ y).2 us o 0 h hb (by omega) u2 (Nat.le_refl _) (fun i => LRw_of (u3 i)) hy.2.2 u4
      exact fin w' _ g' (run _ _ us w' hv u1 (by omega) r1) r2 r3 hk
    · cases hk
  | ept p e i o =>
    simp only at hk
    split at hk
    · rename_i hc
      obtain ⟨c1, c2, c3, c4⟩ := hc
      obtain ⟨us, u1, u2, u3, u4⟩ := h.cells hy c3
      obtain ⟨g1, f1, z1, z2⟩ := freezeL_ok (rd σ y).2 (fun i => us.getD i undef) h (fun i => LRw_of (u3 i))
      split at hk
      rotate_left
      · cases hk
      rename_i te e' xs hg
      split at hk
      rotate_left
      · cases hk
      rename_i he
      subst he
      split at hk
      rotate_left
      · cases hk
      rename_i v hv
      simp only at hv hk
      obtain ⟨⟨n0, x1, x2, x3⟩, gb, n, cap, x4, x5⟩ := hx
      have hg0 := f1.own _ _ _ _ hg
      rw [hg0] at x1
      injection x1 with x1
      injection x1 with _ x1
      subst x1
      have hp := f1.rel.lf p
      rw [hg, f1.c, x4] at hp
      rcases ownR_form hp with ⟨hz, _⟩ | ⟨g', cap', cur, hz, y1, y2, y3, y4, y5⟩
      · cases hz
      simp only [Value.slice.injEq, Option.some.injEq, Addr.mk.injEq, and_true] at hz
      obtain ⟨rfl, rfl, rfl⟩ := hz
      have hi : i.toNat < xs.length := by omega
      obtain ⟨c, b1, b2⟩ := rows_get y5 i.toNat (at_ xs i) (by simp [at_, List.getD_eq_getElem?_getD, hi])
      have hcl := rel_len b1
      have hu := upd_ok hv b1 (by omega) (by omega) z1
      have hset := rows_set y5 i.toNat v _ hi hu
      have hfit : i.toNat * e'.sz + e'.sz ≤ xs.length * e'.sz := by
        have := Nat.mul_le_mul_right e'.sz (show i.toNat + 1 ≤ xs.length from hi)
        rw [Nat.add_mul] at this; omega
      have hcap : xs.length * e'.sz ≤ cap * e'.sz := Nat.mul_le_mul_right _ y2
      have hst := run_storeCells_at P gb (i.toNat * e'.sz + o) te us 0 cur w y1 (by omega) u4
      simp only [Nat.add_zero] at hst
      have hvs : ∀ j, j < xs.length * e'.sz → (cur.toList.take (xs.length * e'.sz))[j]? = cur.toList[j]? := fun j hj => by rw [List.getElem?_take, if_pos hj]
      have hcc : ∀ j, j < e'.sz → cur.toList[i.toNat * e'.sz + j]? = c[j]? := fun j hj => by
        have := b2 j (c[j]'(by omega)) (List.getElem?_eq_getElem (by omega))
        rw [hvs _ (by omega)] at this
        rw [this, List.getElem?_eq_getElem (by omega)]
      refine fin _ _ g1 (run _ _ us _ (by rw [x5, eptV_ptr (by omega)]) u1 (by omega) hst) (f1.rel.setOwn (te' := te) (xs' := xs.set i.toNat v) hg (by simp) (fun k' hk' => setRow_other w gb k' _ (fun e1 => hk' (by rw [f1.c, x4]; simp [Value.ownBlock, e1]))) rfl rfl rfl (by simp) (Nat.le_refl _) ?_) (by simpa using f1.len) hk
      rw [f1.c, x4]
      have hS : ∀ b, g1.S b → (w.setRow gb (cur.toList.take (i.toNat * e'.sz + o) ++ us ++ cur.toList.drop (i.toNat * e'.sz + o + us.length)).toArray).heap[b]? = w.heap[b]? := fun b hb => setRow_other w gb b _ (fun e1 => by
        subst e1
        exact (f1.rel.fr _ _ (ownBlock_blk (p := p) (by rw [hg]; rfl) (show (g1.c p).ownBlock = some b by rw [f1.c, x4]; rfl))).1 hb)
      refine ⟨_, rows_mono (fun _ h => h) hS hset, ?_⟩
      rw [List.length_set]
      refine ⟨by simp; omega, .inr ⟨gb, cap, _, rfl, Nat.zero_le _, setRow_heap w gb cur _ te _ y1, y2, y3, by simp; omega, ?_⟩⟩
      have := seg cur.toList c us (i.toNat * e'.sz) e'.sz o (xs.length * e'.sz) hcc hcl (by omega) hfit (by simp; omega)
      simpa using this
    · cases hk
  | _ => cases hk
end
end Go.Ev
namespace Go.Ev
set_option linter.unusedVariables false
set_option linter.unusedSimpArgs false
section
variable {P : Program} {T : TypeId → Option TI} {env : Env} {X : Ctx} {σ : St} {a : Act} {w : World} {g : Gh} {A : Type} {r : A} {k : St → Option A} {K : Act → World → Prop} {Q : Exit → Act → World → Prop}
  {d : Option Tmp} {ty : TypeId} {pos : String} {aft : Array Edge} {gd : Option (Nat × Bool)}
theorem op_nilCheck {x : Operand} (h : Rel X σ a w g) (hN : X.N ≤ σ.length) (ho : OpIn X.N ⟨d, .nilCheck x, ty, pos, aft, gd⟩) (hk : opK0 T env ⟨d, .nilCheck x, ty, pos, aft, gd⟩ σ k = some r) (hK : Nx X σ.length k r K) :
    Oper.wpS P ⟨d, .nilCheck x, ty, pos, aft, gd⟩ a w K := by
  have hx := rd1_ok h hN x (ho.ops x (by simp [Op.operands]))
  simp only [opK0] at hk
  generalize rd1 σ x = l at hx hk
  have run : ∀ ad, a.eval x = .pointer (some ad) → ∀ w', (execOp a.eval ⟨d, .nilCheck x, ty, pos, aft, gd⟩).run P w' = .ok (.value (a.eval x)) w' := by
    intro ad hv w'; simp [execOp, hv]
  cases l with
  | ptr b o => exact resL h hN ho (run _ hx.1) hx rfl hk hK
  | ept p e i o =>
    obtain ⟨h1, gb, n, cap, h2, h3⟩ := hx
    simp only at hk
    split at hk
    rotate_left
    · cases hk
    rename_i hle
    exact resL (l := .ept p e i o) h hN ho (run _ (by rw [h3, eptV_ptr hle])) ⟨h1, gb, n, cap, h2, h3⟩ rfl hk hK
  | vpt t y =>
    obtain ⟨b, o, cs, h1, h2⟩ := hx
    exact resL (l := .vpt t y) h hN ho (run _ h1) ⟨b, o, cs, h1, h2⟩ rfl hk hK
  | _ => cases hk
theorem subTy_leaf {S : Nat → Prop} {want : Ty} {l : Leaf} {t : Ty} {x : t.den} {o : Nat} {cs : List Value} (h : (if h : t = want then (if o = 0 then some (.vpt want (h ▸ x)) else none) else none) = some l) (hr : rel w S t x cs) :
    ∃ y, l = .vpt want y ∧ rel w S want y ((cs.drop o).take want.sz) := by
  split at h
  · rename_i e
    subst e
    split at h
    · rename_i e0
      subst e0
      injection h with h
      subst h
      refine ⟨x, rfl, ?_⟩
      rw [List.drop_zero, List.take_of_length_le (by rw [rel_len hr]; exact Nat.le_refl _)]
      exact hr
    · cases h
  · cases h
theorem subTy_ok {S : Nat → Prop} {want : Ty} {l : Leaf} : ∀ {t : Ty} {x : t.den} {o : Nat} {cs : List Value}, subTy t x o want = some l → rel w S t x cs → ∃ y, l = .vpt want y ∧ rel w S want y ((cs.drop o).take want.sz)
  | .int k, x, o, cs, h, hr => by unfold subTy at h; exact subTy_leaf h hr
  | .bool, x, o, cs, h, hr => by unfold subTy at h; exact subTy_leaf h hr
  | .str, x, o, cs, h, hr => by unfold subTy at h; exact subTy_leaf h hr
  | .list e, x, o, cs, h, hr => by unfold subTy at h; exact subTy_leaf h hr
  | .pair p q, x, o, cs, h, hr => by
    unfold subTy at h
    split at h
    · rename_i e
      exact subTy_leaf (t := .pair p q) (by rw [dif_pos e]; exact h) hr
    · have hr' := hr
      simp only [rel] at hr'
      obtain ⟨c1, c2, e, h1, h2⟩ := hr'
      have hc1 := rel_len h1
      split at h
      · obtain ⟨y, h3, h4⟩ := subTy_ok h h1
        refine ⟨y, h3, ?_⟩
        have hw := rel_len h4
        simp at hw
        subst e
        rw [List.drop_append_of_le_length (by omega), List.take_append_of_le_length (by simp; omega)]
        exact h4
      · obtain ⟨y, h3, h4⟩ := subTy_ok h h2
        refine ⟨y, h3, ?_⟩
        subst e
        rw [List.drop_append, List.drop_eq_nil_of_le (by omega), hc1]
        simpa using h4
theorem field?_ok (hT : TOk P T) {t : TypeId} {i f : Nat} {fi : TI} (hf : field? T t i = some (f, fi)) : ∃ (fs : Array Field) (fd : Field) (ti : TI), P.underlying t = some (.struct fs) ∧ fs[i]? = some fd ∧ fd.offset = f ∧ T fd.type = some fi ∧ T t = some ti := by
  unfold field? at hf
  split at hf
  · rename_i ti hti
    split at hf
    · rename_i o ft hfs
      split at hf
      · rename_i fi' hfi
        injection hf with hf
        injection hf with h1 h2
        subst h1 h2
        cases ha : ti.agg with
        | true =>
          have hr : ti.arr = 0 := by
            cases hr : ti.arr with
            | zero => rfl
            | succ n =>
              obtain ⟨_, h1, _⟩ := hT.arr t ti n hti hr
              rw [h1] at hfs
              simp at hfs
          obtain ⟨fs, h3, h4, _⟩ := hT.agg t ti hti ha hr
          obtain ⟨fd, h5, h6, h7⟩ := h4 i o ft hfs
          exact ⟨fs, fd, ti, h3, h5, h6, by rw [h7]; exact hfi, hti⟩
        | false => exact absurd hfs (hT.nof t ti hti ha i o ft)
      · cases hf
    · cases hf
  · cases hf
theorem sz_pos : ∀ t : Ty, 0 < t.sz
  | .int _ => Nat.one_pos
  | .bool => Nat.one_pos
  | .str => Nat.one_pos
  | .list _ => Nat.one_pos
  | .pair a b => by have := sz_pos a; simp [Ty.sz]; omega
theorem run_fieldAt (hT : TOk P T) {t : TypeId} {i f : Nat} {fi : TI} (hf : field? T t i = some (f, fi)) (w : World) (b o : Nat) : (Instr.fieldAt t (.pointer (some ⟨b, o, none⟩)) i).run P w = .ok (.pointer (some ⟨b, o + f, none⟩)) w := by
  obtain ⟨fs, fd, ti, h1, h2, h3, h4, _⟩ := field?_ok hT hf
  have hz := hT.sizeOf h4 w
  have hp := sz_pos fi.ty
  have hne : fi.ty.sz ≠ 0 := by omega
  simp [Instr.fieldAt, run_underlying h1, h2, Instr.sureAddr, fieldPlace, Sem.run_bind, hz, hne, h3, addr_add]
theorem op_fieldAddr {t : TypeId} {x : Operand} {i : Nat} (hT : TOk P T) (h : Rel X σ a w g) (hN : X.N ≤ σ.length) (ho : OpIn X.N ⟨d, .fieldAddr t x i, ty, pos, aft, gd⟩) (hk : opK0 T env ⟨d, .fieldAddr t x i, ty, pos, aft, gd⟩ σ k = some r) (hK : Nx X σ.length k r K) :
    Oper.wpS P ⟨d, .fieldAddr t x i, ty, pos, aft, gd⟩ a w K := by
  have hx := rd1_ok h hN x (ho.ops x (by simp [Op.operands]))
  simp only [opK0] at hk
  cases hf : field? T t i with
  | none => rw [hf] at hk; cases hk
  | some ff =>
  obtain ⟨f, fi⟩ := ff
  rw [hf] at hk
  simp only at hk
  generalize rd1 σ x = l at hx hk
  have run : ∀ b o, a.eval x = .pointer (some ⟨b, o, none⟩) → ∀ w', (execOp a.eval ⟨d, .fieldAddr t x i, ty, pos, aft, gd⟩).run P w' = .ok (.value (.pointer (some ⟨b, o + f, none⟩))) w' := by
    intro b o hv w'
    simp [execOp, hv, run_fieldAt hT hf w' b o]
  cases l with
  | ptr b o => exact resL (l := .ptr b (o + f)) h hN ho (run _ _ hx.1) ⟨rfl, hx.2⟩ rfl hk hK
  | ept p e j o =>
    obtain ⟨h1, gb, n, cap, h2, h3⟩ := hx
    simp only at hk
    split at hk
    rotate_left
    · cases hk
    rename_i hle
    rw [eptV_ptr (by omega)] at h3
    exact resL (l := .ept p e j (o + f)) h hN ho (run _ _ h3) ⟨h1, gb, n, cap, h2, by rw [eptV_ptr hle, Nat.add_assoc]⟩ rfl hk hK
  | vpt t' y =>
    simp only at hk
    split at hk
    · rename_i l hl
      obtain ⟨b, o, cs, h1, h2, h3, h4⟩ := hx
      obtain ⟨y', rfl, h6⟩ := subTy_ok hl h3
      refine resL (l := .vpt fi.ty y') h hN ho (run _ _ h1) ⟨b, o + f, _, rfl, h2, h6, fun j u hu => ?_⟩ rfl hk hK
      rw [List.getElem?_take] at hu
      split at hu
      · rw [List.getElem?_drop] at hu
        rw [Nat.add_assoc]
        exact h4 _ u hu
      · cases hu
    · cases hk
  | _ => cases hk
theorem toNat_lt' {i : Int} {n : Nat} (h0 : 0 ≤ i) (h1 : i < n) : i.toNat < n := by omega
theorem op_indexAddr {t : TypeId} {x ix : Operand} (hT : TOk P T) (h : Rel X σ a w g) (hN : X.N ≤ σ.length) (ho : OpIn X.N ⟨d, .indexAddr t x ix, ty, pos, aft, gd⟩) (hk : opK0 T env ⟨d, .indexAddr t x ix, ty, pos, aft, gd⟩ σ k = some r) (hK : Nx X σ.length k r K) :
    Oper.wpS P ⟨d, .indexAddr t x ix, ty, pos, aft, gd⟩ a w K := by
  have hx := rd1_ok h hN x (ho.ops x (by simp [Op.operands]))
  have hi := rd1_ok h hN ix (ho.ops ix (by simp [Op.operands]))
  simp only [opK0] at hk
  cases hti : T t with
  | none => rw [hti] at hk; cases hk
  | some ti =>
  rw [hti] at hk
  simp only at hk
  split at hk
  · cases hk
  rename_i hag
  have hag : ti.agg = false := by simpa using hag
  have hsc := hT.sca t ti hti hag
  split at hk
  rotate_left
  · cases hk
  rename_i et hty
  rw [hty] at hsc
  cases hei : T ti.el with
  | none => rw [hei] at hk; cases hk
  | some ei =>
  rw [hei] at hk
  simp only at hk
  split at hk
  rotate_left
  · cases hk
  rename_i kk i hil
  rw [hil] at hi
  have hiv := LR_int hi
  have hee : ei.ty = et := hsc.2 ei hei
  have run : ∀ (b o n cap : Nat), a.eval x = .slice (some ⟨b, o, none⟩) n cap → (0 : Int) ≤ i → (i : Int) < (n : Int) →
      ∀ w', (execOp a.eval ⟨d, .indexAddr t x ix, ty, pos, aft, gd⟩).run P w' = .ok (.value (.pointer (some ⟨b, o + Int.toNat i * et.sz, none⟩))) w' := by
    intro b o n cap hv h0 h1 w'
    simp [execOp, Instr.indexAt, hv, hiv, asIntOf, run_underlying hsc.1, h0, h1, hT.sizeOf hei, addr_add, hee]
  generalize rd1 σ x = l at hx hk
  cases l with
  | val t' xs =>
    cases t' with
    | list e =>
      simp only at hk
      split at hk
      rotate_left
      · cases hk
      rename_i he
      subst he
      split at hk
      · rename_i hb
        have hlt := toNat_lt' hb.1 hb.2
        simp only [LR, rel] at hx
        obtain ⟨A, cap, h1, h2, h3⟩ := hx
        injection h1 with h1 _
        have hne : xs ≠ [] := by
          intro e; rw [e] at hlt; exact Nat.not_lt_zero _ hlt
        obtain ⟨b, o, rfl, hS, hcell⟩ := h3.resolve_left hne
        obtain ⟨c, hc, hcell⟩ := hcell (Int.toNat i) (at_ xs i) (by
          simp [at_, List.getD_eq_getElem?_getD, hlt])
        refine resL (l := .vpt e (at_ xs i)) h hN ho (run _ _ _ _ h1 hb.1 hb.2) ⟨b, o + Int.toNat i * e.sz, c, rfl, hS, hc, fun j u hu => ?_⟩ rfl hk hK
        rw [Nat.add_assoc]; exact hcell j u hu
      · cases hk
    | _ => cases hk
  | al p =>
    simp only at hk
    split at hk
    rotate_left
    · cases hk
    rename_i te e xs hp
    split at hk
    rotate_left
    · cases hk
    rename_i he
    subst he
    split at hk
    · rename_i hb
      have hlt := toNat_lt' hb.1 hb.2
      have hown := h.lf p
      rw [hp, ← hx.1] at hown
      rcases ownR_form hown with ⟨_, hz⟩ | ⟨gb, cap, cur, hz, _⟩
      · rw [hz] at hlt; exact absurd hlt (Nat.not_lt_zero _)
      · refine resL (l := .ept p e i 0) h hN ho (run _ _ _ _ hz hb.1 hb.2) ⟨⟨xs.length, by rw [hp]; rfl, hb.1, hb.2⟩, gb, xs.length, cap, by rw [← hx.1]; exact hz, by simp [eptV]⟩ rfl hk hK
    · cases hk
  | _ => cases hk
end
end Go.Ev
namespace Go.Ev
set_option linter.unusedVariables false
set_option linter.unusedSimpArgs false
section
variable {P : Program} {T : TypeId → Option TI} {env : Env} {X : Ctx} {σ : St} {a : Act} {w : World} {g : Gh} {A : Type} {r : A} {k : St → Option A} {K : Act → World → Prop} {Q : Exit → Act → World → Prop}
  {d : Option Tmp} {ty : TypeId} {pos : String} {aft : Array Edge} {gd : Option (Nat × Bool)}
theorem op_unOp {u : UnOp} {t : TypeId} {x : Operand} (h : Rel X σ a w g) (hN : X.N ≤ σ.length) (ho : OpIn X.N ⟨d, .unOp u t x, ty, pos, aft, gd⟩) (hk : opK0 T env ⟨d, .unOp u t x, ty, pos, aft, gd⟩ σ k = some r) (hK : Nx X σ.length k r K) :
    Oper.wpS P ⟨d, .unOp u t x, ty, pos, aft, gd⟩ a w K := by
  have hx := rd1_ok h hN x (ho.ops x (by simp [Op.operands]))
  simp only [opK0] at hk
  split at hk
  · rename_i b hb
    rw [hb] at hx
    have hv := LR_bool hx
    exact resL (l := .val .bool (!b)) (v := .bool (!b)) h hN ho (by simp [execOp, hv, Op.unary]) rfl rfl hk hK
  · rename_i kk i hb
    rw [hb] at hx
    have hv := LR_int hx
    exact resL (l := .val (.int kk) (kk.wrap (0 - (i : Int)))) (v := .int kk (kk.wrap (0 - (i : Int)))) h hN ho (by simp [execOp, hv, Op.unary, Op.intArith]) rfl rfl hk hK
  · cases hk
theorem ldrop_add : ∀ (a b : Nat) (ls : List Leaf), ldrop (a + b) ls = ldrop b (ldrop a ls)
  | 0, b, ls => by simp [ldrop]
  | a + 1, b, [] => by
    have : ∀ n, ldrop n [] = [] := fun n => by cases n <;> rfl
    rw [this, this, this]
  | a + 1, b, l :: ls => by rw [show a + 1 + b = (a + b) + 1 from by omega, ldrop, ldrop, ldrop_add a b ls]
theorem imps_get {e : Ty} : ∀ {n : Nat} {ls : List Leaf} {xs : List e.den} {i : Nat}, imps e n ls = some xs → i < n → implode e (ltake e.sz (ldrop (i * e.sz) ls)) = some (xs.getD i e.zero)
  | 0, _, _, _, _, h => by omega
  | n + 1, ls, xs, i, hx, h => by
    simp only [imps] at hx
    split at hx
    · rename_i x xs' h1 h2
      injection hx with hx
      subst hx
      cases i with
      | zero => simpa [ldrop] using h1
      | succ i =>
        have := imps_get h2 (show i < n by omega)
        rw [show (i + 1) * e.sz = e.sz + i * e.sz by rw [Nat.succ_mul, Nat.add_comm], ldrop_add]
        simpa using this
    · cases hx
theorem op_index {t : TypeId} {x ix : Operand} (hT : TOk P T) (h : Rel X σ a w g) (hN : X.N ≤ σ.length) (ho : OpIn X.N ⟨d, .index t x ix, ty, pos, aft, gd⟩) (hk : opK0 T env ⟨d, .index t x ix, ty, pos, aft, gd⟩ σ k = some r) (hK : Nx X σ.length k r K) :
    Oper.wpS P ⟨d, .index t x ix, ty, pos, aft, gd⟩ a w K := by
  have hx := rd1_ok h hN x (ho.ops x (by simp [Op.operands]))
  have hi := rd1_ok h hN ix (ho.ops ix (by simp [Op.operands]))
  simp only [opK0] at hk
  cases hti : T t with
  | none => rw [hti] at hk; cases hk
  | some ti =>
  rw [hti] at hk
  simp only at hk
  cases hr : ti.arr with
  | succ n =>
    rw [hr] at hk
    simp only at hk
    split at hk
    rotate_left
    · cases hk
    rename_i ei s kk i hei hil
    split at hk
    rotate_left
    · cases hk
    rename_i ls hg
    split at hk
    rotate_left
    · cases hk
    rename_i hlen
    split at hk
    rotate_left
    · cases hk
    rename_i xs hxs
    split at hk
    rotate_left
    · cases hk
    rename_i hb
    obtain ⟨_, _, hund⟩ := hT.arr t ti n hti hr
    rw [hil] at hi
    have hiv := LR_int hi
    have hs : s < X.N := ho.ops (.tmp s) (by simp [Op.operands]) s rfl
    have hsh := h.sh s (Nat.lt_of_lt_of_le hs hN)
    have hview := fun j => h.lf ⟨s, j⟩
    rw [hg] at hsh
    have hgl : ∀ j, gl σ ⟨s, j⟩ = lget ls j := fun j => by unfold gl; rw [hg]; rfl
    have hv : a.eval (.tmp s) = .agg (cellsL g s ls.length).toArray := hsh
    have hlt : Int.toNat i < n + 1 := toNat_lt' hb.1 hb.2
    have hlt2 : Int.toNat i * ei.ty.sz + ei.ty.sz ≤ ls.length := by
      rw [hlen]
      have := Nat.mul_le_mul_right ei.ty.sz (Nat.succ_le_of_lt hlt)
      rw [Nat.succ_mul] at this
      exact this
    have hel := imps_get hxs hlt
    have hrel : rel w g.S ei.ty (at_ xs i) ((List.range ei.ty.sz).map fun j => g.c ⟨s, Int.toNat i * ei.ty.sz + j⟩) := by
      refine implode_ok hel (by simp) (fun j hj => ?_)
      rw [lget_ltake, if_pos hj, lget_ldrop]
      have := hview (Int.toNat i * ei.ty.sz + j)
      rw [hgl] at this
      have e : ((List.range ei.ty.sz).map fun j => g.c ⟨s, Int.toNat i * ei.ty.sz + j⟩).getD j undef = g.c ⟨s, Int.toNat i * ei.ty.sz + j⟩ := by simp [List.getD_eq_getElem?_getD, hj]
      rw [e]
      exact LRz_of (LRw_of this)
    have hle := rel_len hrel
    refine resVp h hN ho (ag := ei.agg) (cs := (List.range ei.ty.sz).map fun j => g.c ⟨s, Int.toNat i * ei.ty.sz + j⟩) ?_ (by rw [length_explode]; simp) (fun ha => by simp [hT.sz1 hei ha]) (fun j => LR_explode σ hrel j) (fun j => explode_own _ _ _) hk hK
    intro w'
    have hagr := hT.isAgg hei w'
    have hszr := hT.sizeOf hei w'
    have hpart : (part ti.el (cellsL g s ls.length).toArray (Int.toNat i * ei.ty.sz)).run P w' = .ok (mkV ei.agg ((List.range ei.ty.sz).map fun j => g.c ⟨s, Int.toNat i * ei.ty.sz + j⟩)) w' := by
      cases ha : ei.agg with
      | true =>
        simp only [part, Sem.run_bind, hagr, ha, Result.andThen_ok, if_true, hszr, Sem.run_pure, mkV]
        congr 2
        apply Array.ext'
        apply List.ext_getElem?
        intro j
        simp only [List.extract_toArray, List.extract_eq_take_drop, List.getElem?_take, List.getElem?_drop, List.getElem?_map, cellsL]
        by_cases hj : j < ei.ty.sz
        · rw [if_pos (by omega)]
          have : Int.toNat i * ei.ty.sz + j < ls.length := by omega
          simp [hj, this]
        · rw [if_neg (by omega)]
          simp [hj]
      | false =>
        have s1 := hT.sz1 hei ha
        have : Int.toNat i * ei.ty.sz < ls.length := by rw [s1] at hlt2 ⊢; omega
        rw [s1] at this ⊢
        rw [Nat.mul_one] at this ⊢
        simp [part, Sem.run_bind, hagr, ha, mkV, cellsL, List.getElem?_range, this]
    have hb2 : (0 : Int) ≤ i ∧ i < ((n + 1 : Nat) : Int) := hb
    simp [execOp, hv, hiv, Instr.index, asIntOf, run_underlying hund, hszr, hpart, hb2]
    intro hbad
    exact absurd (show (i : Int) < (n : Int) + 1 from hb2.2) (Int.not_lt.2 hbad)
  | zero =>
  rw [hr] at hk
  simp only at hk
  split at hk
  · cases hk
  rename_i hag
  have hag : ti.agg = false := by simpa using hag
  have hsc := hT.sca t ti hti hag
  split at hk
  rotate_left
  · cases hk
  rename_i s kk i hty hl hil
  rw [hty] at hsc
  rw [hl] at hx
  rw [hil] at hi
  have hv := LR_str hx
  have hiv := LR_int hi
  split at hk
  · rename_i hb
    have hlt := toNat_lt' hb.1 hb.2
    refine resL (l := .val (.int .u8) ((List.getD s (Int.toNat i) 0).toNat : Int)) (v := .int .u8 ((List.getD s (Int.toNat i) 0).toNat : Int)) h hN ho ?_ rfl rfl hk hK
    have hg : (⟨s.toArray⟩ : ByteArray)[Int.toNat i]? = some (s.getD (Int.toNat i) 0) := by
      have hsz : Int.toNat i < (⟨s.toArray⟩ : ByteArray).size := by simpa [ByteArray.size] using hlt
      have e1 : (⟨s.toArray⟩ : ByteArray)[Int.toNat i]? = if hh : Int.toNat i < (⟨s.toArray⟩ : ByteArray).size then some ((⟨s.toArray⟩ : ByteArray)[Int.toNat i]) else none := rfl
      rw [e1, dif_pos hsz]
      have e2 : (⟨s.toArray⟩ : ByteArray)[Int.toNat i] = s.toArray[Int.toNat i]'(by simpa using hlt) := rfl
      rw [e2]
      simp [List.getD_eq_getElem?_getD, hlt]
    simp [execOp, hv, hiv, Instr.index, asIntOf, run_underlying hsc, hb.1, hg]
  · cases hk
theorem op_makeFunc {f : Fn} {first captured : Array Operand} (h : Rel X σ a w g) (hN : X.N ≤ σ.length) (ho : OpIn X.N ⟨d, .makeFunc f first captured, ty, pos, aft, gd⟩) (hk : opK0 T env ⟨d, .makeFunc f first captured, ty, pos, aft, gd⟩ σ k = some r) (hK : Nx X σ.length k r K) :
    Oper.wpS P ⟨d, .makeFunc f first captured, ty, pos, aft, gd⟩ a w K := by
  cases f with
  | func f =>
    simp only [opK0] at hk
    split at hk
    · rename_i hall
      simp only [Bool.and_eq_true] at hall
      obtain ⟨hfirst, hall⟩ := hall
      have hcap : ∀ x ∈ captured.toList, ∃ b, rd1 σ x = .ptr b 0 ∧ a.eval x = .pointer (some ⟨g.blk b, 0, none⟩) ∧ isBox σ b := by
        intro x hx
        have hx1 := rd1_ok h hN x (ho.ops x (by
          have : x ∈ captured := by simpa using hx
          simp [Op.operands, this]))
        have := List.all_eq_true.1 hall (rd1 σ x) (List.mem_map_of_mem hx)
        split at this
        · rename_i b hb
          rw [hb] at hx1
          exact ⟨b, hb, hx1.1, hx1.2⟩
        · cases this
      have hf : first = #[] := by
        have : first.toList = [] := by simpa using hfirst
        exact Array.toList_eq_nil_iff.1 this
      subst hf
      refine resL (l := .clo f _) (v := .func (.func f) #[] (captured.map a.eval)) h hN ho (by simp [execOp, Instr.makeFunc]) ⟨?_, ?_⟩ rfl hk hK
      · congr 1
        apply Array.ext'
        simp only [Array.toList_map, List.map_map, List.toList_toArray]
        apply List.map_congr_left
        intro x hx
        obtain ⟨b, h1, h2, _⟩ := hcap x hx
        simp [h1, h2]
      · intro b hb
        simp only [List.map_map, List.mem_map] at hb
        obtain ⟨x, hx, rfl⟩ := hb
        obtain ⟨b, h1, _, h3⟩ := hcap x hx
        simpa [h1] using h3
    · cases hk
  | _ => simp [opK0] at hk
theorem tupR_get : ∀ {ks : List (Bool × Nat)} {vs cs : List Value} {i : Nat} {ag : Bool} {n : Nat}, tupR ks vs cs → ks[i]? = some (ag, n) →
    ∃ v c, vs[i]? = some v ∧ c = (cs.drop ((ks.take i).map (·.2)).sum).take n ∧ c.length = n ∧ (ag = true ∧ v = .agg c.toArray ∨ ag = false ∧ c = [v])
  | [], _, _, i, _, _, _, hi => by simp at hi
  | (a0, n0) :: ks, vs, cs, 0, ag, n, h, hi => by
    obtain ⟨v, vs', c, cs', rfl, rfl, h3, h4, h5⟩ := h
    simp only [List.getElem?_cons_zero, Option.some.injEq, Prod.mk.injEq] at hi
    obtain ⟨rfl, rfl⟩ := hi
    exact ⟨v, c, rfl, by simp [← h3], h3, h4⟩
  | (a0, n0) :: ks, vs, cs, i + 1, ag, n, h, hi => by
    obtain ⟨v, vs', c, cs', rfl, rfl, h3, h4, h5⟩ := h
    simp only [List.getElem?_cons_succ] at hi
    obtain ⟨v2, c2, h6, h7, h8⟩ := tupR_get h5 hi
    refine ⟨v2, c2, by simpa using h6, ?_, h8⟩
    rw [h7, List.take_succ_cons, List.map_cons, List.sum_cons]
    generalize (List.map (fun x => x.snd) (List.take i ks)).sum = S
    simp only
    have e1 : List.drop (n0 + S) (c ++ cs') = List.drop S cs' := by
      rw [List.drop_append, show List.drop (n0 + S) c = [] from List.drop_eq_nil_of_le (by omega), List.nil_append]
      congr 1
      omega
    rw [e1]
theorem op_extract {x : Operand} {i : Nat} (h : Rel X σ a w g) (hN : X.N ≤ σ.length) (ho : OpIn X.N ⟨d, .extract x i, ty, pos, aft, gd⟩) (hk : opK0 T env ⟨d, .extract x i, ty, pos, aft, gd⟩ σ k = some r) (hK : Nx X σ.length k r K) :
    Oper.wpS P ⟨d, .extract x i, ty, pos, aft, gd⟩ a w K := by
  simp only [opK0] at hk
  cases x with
  | tmp s =>
    have hs : s < X.N := ho.ops (.tmp s) (by simp [Op.operands]) s rfl
    simp only at hk
    have hsh := h.sh s (Nat.lt_of_lt_of_le hs hN)
    have hview := fun j => LR_view h s j
    cases hg : gs σ s with
    | tup ks ls =>
      rw [hg] at hk hsh
      simp only [hg] at hview
      simp only at hk
      cases hki : ks[i]? with
      | none => rw [hki] at hk; cases hk
      | some an =>
      obtain ⟨ag, n⟩ := an
      rw [hki] at hk
      simp only at hk
      obtain ⟨vs, h1, h2⟩ := hsh
      obtain ⟨v, c, h3, h4, h5, h6⟩ := tupR_get h2 hki
      have hv : v = mkV ag c := by
        rcases h6 with ⟨rfl, rfl⟩ | ⟨rfl, rfl⟩ <;> rfl
      generalize hoff : ((ks.take i).map (·.2)).sum = off at *
      have hcs : c.length = min n (ls.length - off) := by
        rw [h4]; simp
      refine resVp h hN ho (ag := ag) (cs := c) ?_ (by simp [length_ltake, length_ldrop]; omega) (fun ha => ?_) (fun j => ?_) (fun j => view_own _ _ _ _) hk hK
      · have : (a.tmps.getD s undef) = .tuple vs.toArray := h1
        rw [← hv]
        simp [execOp, Act.eval, this, Instr.extract, h3]
      · rcases h6 with ⟨rfl, _⟩ | ⟨_, rfl⟩
        · cases ha
        · rfl
      · rw [lget_view, lget_ltake]
        by_cases hj : j < n
        · rw [if_pos hj, lget_ldrop]
          have := hview (off + j)
          have hc : c.getD j undef = g.c ⟨s, off + j⟩ := by
            rw [h4]
            simp only [List.getD_eq_getElem?_getD, List.getElem?_take, hj, if_true, List.getElem?_drop]
            have : off + j < ls.length := by omega
            simp [cellsL, this]
          rw [hc]
          exact this
        · rw [if_neg hj]; trivial
    | _ => rw [hg] at hk; cases hk
  | _ => cases hk
end
end Go.Ev
