/- Operations, part H: operators. -/
import Derived.Test.YtphlkpahfcainaaEvOpG
import Derived.Laws.StructEq
namespace Go.Ev
set_option linter.unusedVariables false
set_option linter.unusedSimpArgs false

section
variable {P : Program} {T : TypeId → Option TI} {env : Env} {X : Ctx} {σ : St} {a : Act} {w : World} {g : Gh} {A : Type} {r : A} {k : St → Option A} {K : Act → World → Prop} {Q : Exit → Act → World → Prop}
  {d : Option Tmp} {ty : TypeId} {pos : String} {aft : Array Edge} {gd : Option (Nat × Bool)}

theorem isTy_ok (hT : TOk P T) {t : TypeId} {ty : Ty} (h : isTy T t ty = true) : ∃ ti, T t = some ti ∧ ti.agg = false ∧ ti.ty = ty ∧ (∀ k, ty = .int k → P.underlying t = some (.int k)) ∧ (ty = .bool → P.underlying t = some .bool) ∧ (ty = .str → P.underlying t = some .string) := by
  unfold isTy at h
  split at h
  · rename_i ti hti
    simp at h
    have hs := hT.sca t ti hti h.2
    rw [h.1] at hs
    refine ⟨ti, hti, h.2, h.1, fun k e => ?_, fun e => ?_, fun e => ?_⟩ <;> (subst e; exact hs)
  · cases h

theorem eqLeaves_cons {t : Ty} {ts : List Ty} {ls ms : List Leaf} {b : Bool} (h : eqLeaves (t :: ts) ls ms = some b) : ∃ l ls' m ms' b', ls = l :: ls' ∧ ms = m :: ms' ∧ eqLeaves ts ls' ms' = some b' ∧
    ((∃ (k : IntKind) (x y : Int), t = .int k ∧ l = .val (.int k) x ∧ m = .val (.int k) y ∧ b = (x == y && b')) ∨ (∃ (x y : Bool), t = .bool ∧ l = .val .bool x ∧ m = .val .bool y ∧ b = (x == y && b')) ∨
      ∃ (x y : List UInt8), t = .str ∧ l = .val .str x ∧ m = .val .str y ∧ b = (x == y && b')) := by
  generalize e : t :: ts = tt at h
  unfold eqLeaves at h
  split at h
  · cases e
  · injection e with e1 e2
    subst e1 e2
    split at h
    · rename_i hk
      obtain ⟨rfl, rfl⟩ := hk
      obtain ⟨b', hb1, rfl⟩ := Option.map_eq_some_iff.1 h
      exact ⟨_, _, _, _, b', rfl, rfl, hb1, .inl ⟨_, _, _, rfl, rfl, rfl, rfl⟩⟩
    · cases h
  · injection e with e1 e2
    subst e1 e2
    obtain ⟨b', hb1, rfl⟩ := Option.map_eq_some_iff.1 h
    exact ⟨_, _, _, _, b', rfl, rfl, hb1, .inr (.inl ⟨_, _, rfl, rfl, rfl, rfl⟩)⟩
  · injection e with e1 e2
    subst e1 e2
    obtain ⟨b', hb1, rfl⟩ := Option.map_eq_some_iff.1 h
    exact ⟨_, _, _, _, b', rfl, rfl, hb1, .inr (.inr ⟨_, _, rfl, rfl, rfl, rfl⟩)⟩
  · cases h

/-- The fields of a flat struct, one by one. -/
theorem eqFields_ok {w0 : World} (hT : TOk P T) (D : Nat) (w : World) (xs ys : List Value) : ∀ (fs : List Field) (ts : List (Nat × TypeId)) (tys : List Ty) (ls ms : List Leaf) (i : Nat) (b : Bool),
    fs.length = ts.length → (∀ (j o : Nat) (ft : TypeId), ts[j]? = some (o, ft) → ∃ f : Field, fs[j]? = some f ∧ f.offset = o ∧ f.type = ft) → (∀ f ∈ fs, f.name ≠ "_") → flatF T i ts tys = true →
    eqLeaves tys ls ms = some b →
    (∀ j, j < ts.length → LRz w0 (fun _ => True) (lget ls j) (xs.getD (i + j) undef) ∧ LRz w0 (fun _ => True) (lget ms j) (ys.getD (i + j) undef) ∧ i + j < xs.length ∧ i + j < ys.length) →
    (Op.eqFields (D + 1) xs.toArray ys.toArray fs).run P w = .ok b w
  | [], [], tys, ls, ms, i, b, _, _, _, h4, hb, _ => by
    cases tys with
    | nil =>
      cases ls <;> cases ms <;> simp only [eqLeaves, Option.some.injEq, reduceCtorEq] at hb
      subst hb
      rfl
    | cons => simp [flatF] at h4
  | f :: fs, (o, ft) :: ts, [], ls, ms, i, b, h1, h2, h3, h4, hb, h7 => by simp [flatF] at h4
  | f :: fs, (o, ft) :: ts, t :: tys, ls, ms, i, b, h1, h2, h3, h4, hb, h7 => by
    simp only [flatF, Bool.and_eq_true, beq_iff_eq] at h4
    obtain ⟨⟨ho, hft⟩, hrest⟩ := h4
    obtain ⟨f', e1, e2, e3⟩ := h2 0 o ft rfl
    simp only [List.getElem?_cons_zero, Option.some.injEq] at e1
    subst e1
    have hname := h3 f (by simp)
    obtain ⟨fi, hfi, hag, hty, hI, hB, hS⟩ := isTy_ok hT hft
    have hagr : ∀ w, (isAgg ft).run P w = .ok fi.agg w := hT.isAgg hfi
    obtain ⟨c1, c2, c3, c4⟩ := h7 0 (by simp)
    simp only [Nat.add_zero] at c1 c2 c3 c4
    have px : (part ft xs.toArray i).run P w = .ok (xs.getD i undef) w := by
      simp [part, Sem.run_bind, hagr, hag, c3, List.getD_eq_getElem?_getD]
    have py : (part ft ys.toArray i).run P w = .ok (ys.getD i undef) w := by
      simp [part, Sem.run_bind, hagr, hag, c4, List.getD_eq_getElem?_getD]
    have fin : ∀ (c b' : Bool) (ls' ms' : List Leaf), (Op.equalIn (D + 1) ft (xs.getD i undef) (ys.getD i undef)).run P w = .ok c w → eqLeaves tys ls' ms' = some b' → (∀ j, lget ls (j + 1) = lget ls' j) → (∀ j, lget ms (j + 1) = lget ms' j) →
        (Op.eqFields (D + 1) xs.toArray ys.toArray (f :: fs)).run P w = .ok (c && b') w := by
      intro c b' ls' ms' hc hb' hl hm
      have ih := eqFields_ok hT D w xs ys fs ts tys ls' ms' (i + 1) b' (by simpa using h1) (fun j o ft hj => by
        have := h2 (j + 1) o ft (by simpa using hj)
        simpa using this) (fun f hf => h3 f (by simp [hf])) hrest hb' (fun j hj => by
        have := h7 (j + 1) (by simpa using hj)
        rw [show i + (j + 1) = i + 1 + j from by omega, hl j, hm j] at this
        exact this)
      subst ho
      simp only [Op.eqFields, hname, ne_eq, not_false_eq_true, if_true, Sem.run_bind, e2, e3, px, Result.andThen_ok, py, hc]
      cases c
      · rfl
      · simpa using ih
    obtain ⟨l, ls', m, ms', b', rfl, rfl, hb1, hc⟩ := eqLeaves_cons hb
    rcases hc with ⟨kk, x, y, rfl, rfl, rfl, rfl⟩ | ⟨x, y, rfl, rfl, rfl, rfl⟩ | ⟨x, y, rfl, rfl, rfl, rfl⟩
    · have v1 : xs.getD i undef = .int kk x := by simpa [LRz, rel, lget] using c1
      have v2 : ys.getD i undef = .int kk y := by simpa [LRz, rel, lget] using c2
      exact fin _ b' ls' ms' (by rw [v1, v2]; exact run_equalIn_int w D ft kk kk x y (hI kk rfl)) hb1 (fun j => rfl) (fun j => rfl)
    · have v1 : xs.getD i undef = .bool x := by simpa [LRz, rel, lget] using c1
      have v2 : ys.getD i undef = .bool y := by simpa [LRz, rel, lget] using c2
      exact fin _ b' ls' ms' (by rw [v1, v2]; exact run_equalIn_bool' w D ft x y (hB rfl)) hb1 (fun j => rfl) (fun j => rfl)
    · have v1 : xs.getD i undef = .string ⟨List.toArray x⟩ := by simpa [LRz, rel, lget] using c1
      have v2 : ys.getD i undef = .string ⟨List.toArray y⟩ := by simpa [LRz, rel, lget] using c2
      exact fin _ b' ls' ms' (by rw [v1, v2]; rw [run_equalIn_string w D ft _ _ (hS rfl)]; simp) hb1 (fun j => rfl) (fun j => rfl)
  | [], _ :: _, _, _, _, _, _, h, _, _, _, _, _ => by simp at h
  | _ :: _, [], _, _, _, _, _, h, _, _, _, _, _ => by simp at h


theorem eqGuard_run (op : BinOp) (t : TypeId) (x y : Operand) {u v : Value} (hu : (∀ cs, u ≠ .agg cs)) (hn : u ≠ .nilIface) : (eqGuard op t x y u v).run P w = .ok () w := by
  cases u <;> first | exact absurd rfl (hu _) | exact absurd rfl hn | (cases op <;> cases v <;> rfl)

theorem flat_ok (hT : TOk P T) {t : TypeId} {ts : List Ty} (h : flat T t = some ts) : ∃ ti, T t = some ti ∧ ti.cmp = true ∧ ti.agg = true ∧ flatF T 0 ti.fs ts = true ∧ ts = ti.ty.leaves := by
  unfold flat at h
  split at h
  · rename_i ti hti
    split at h
    · rename_i hc
      injection h with h
      subst h
      exact ⟨ti, hti, hc.1, hc.2.1, hc.2.2, rfl⟩
    · cases h
  · cases h

theorem length_leaves : ∀ t : Ty, t.leaves.length = t.sz
  | .int _ => rfl
  | .bool => rfl
  | .str => rfl
  | .list _ => rfl
  | .pair a b => by simp [Ty.leaves, Ty.sz, length_leaves a, length_leaves b]
theorem flatF_len : ∀ {i : Nat} {fs : List (Nat × TypeId)} {ts : List Ty}, flatF T i fs ts = true → fs.length = ts.length
  | _, [], [], _ => rfl
  | _, (_, _) :: _, _ :: _, h => by
    simp only [flatF, Bool.and_eq_true] at h
    simp [flatF_len h.2]
  | _, [], _ :: _, h => by simp [flatF] at h
  | _, (_, _) :: _, [], h => by simp [flatF] at h
theorem eqLeaves_len : ∀ {ts : List Ty} {ls ms : List Leaf} {b : Bool}, eqLeaves ts ls ms = some b → ls.length = ts.length ∧ ms.length = ts.length
  | [], ls, ms, b, h => by
    cases ls <;> cases ms <;> simp [eqLeaves] at h ⊢
  | t :: ts, ls, ms, b, h => by
    obtain ⟨l, ls', m, ms', b', rfl, rfl, h1, _⟩ := eqLeaves_cons h
    have := eqLeaves_len h1
    simp [this]

/-- Two structs are compared. -/
theorem eql_ok {w0 : World} (hT : TOk P T) {t : TypeId} {ts : List Ty} (hf : flat T t = some ts) {xs ys : List Value} {ls ms : List Leaf} {b : Bool} (hb : eqLeaves ts ls ms = some b) (hx : xs.length = ls.length) (hy : ys.length = ms.length)
    (hl : ∀ j, LRz w0 (fun _ => True) (lget ls j) (xs.getD j undef)) (hm : ∀ j, LRz w0 (fun _ => True) (lget ms j) (ys.getD j undef)) : (Op.equalIn 10000 t (.agg xs.toArray) (.agg ys.toArray)).run P w = .ok b w := by
  obtain ⟨ti, h1, h2, h3, h4, rfl⟩ := flat_ok hT hf
  obtain ⟨fs, h5, h6, h7⟩ := hT.agg t ti h1 h3
  obtain ⟨c1, c2, c3⟩ := hT.cmp t ti h1 h2
  have hfo : P.fieldsOf t = fs := by simp [Program.fieldsOf, h5]
  obtain ⟨l1, l2⟩ := eqLeaves_len hb
  have l3 := flatF_len h4
  rw [run_equalIn_struct w 9999 t xs.toArray ys.toArray (by rw [hfo]; exact h5) c1, hfo]
  refine eqFields_ok (w0 := w0) hT 9998 w xs ys fs.toList ti.fs ti.ty.leaves ls ms 0 b (by simpa using h7) (fun j o ft hj => ?_) (c3 fs h5) h4 hb (fun j hj => ?_)
  · obtain ⟨f, f1, f2⟩ := h6 j o ft hj
    exact ⟨f, by simpa using f1, f2⟩
  · rw [Nat.zero_add]
    exact ⟨hl j, hm j, by omega, by omega⟩

end
end Go.Ev
