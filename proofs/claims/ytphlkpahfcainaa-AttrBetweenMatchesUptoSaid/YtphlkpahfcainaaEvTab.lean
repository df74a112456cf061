/- The table of types: checked once. -/
import Derived.Test.YtphlkpahfcainaaEvLaw
namespace Go.Ev
set_option linter.unusedVariables false
set_option linter.unusedSimpArgs false

inductive Dsc where
  | int (k : IntKind)
  | bool
  | str
  | slice (e : TypeId)
  | struct (fs : List (Nat × TypeId))
  | other
def dsc : TypeDesc → Dsc
  | .int k => .int k
  | .bool => .bool
  | .string => .str
  | .slice e => .slice e
  | .struct fs => .struct (fs.toList.map fun f => (f.offset, f.type))
  | _ => .other
def dscTI (ti : TI) : Dsc := match ti.agg, ti.ty with
  | true, _ => .struct ti.fs
  | false, .int k => .int k
  | false, .bool => .bool
  | false, .str => .str
  | false, .list _ => .slice ti.el
  | false, .pair _ _ => .other
def zvalTI (ti : TI) : Value := match ti.agg with
  | true => .agg (zcells ti.ty).toArray
  | false => (zcells ti.ty).getD 0 undef

theorem dsc_int {d : TypeDesc} {k : IntKind} (h : dsc d = .int k) : d = .int k := by
  cases d <;> simp only [dsc, reduceCtorEq, Dsc.int.injEq] at h
  rw [h]
theorem dsc_bool {d : TypeDesc} (h : dsc d = .bool) : d = .bool := by
  cases d <;> simp only [dsc, reduceCtorEq] at h
  rfl
theorem dsc_str {d : TypeDesc} (h : dsc d = .str) : d = .string := by
  cases d <;> simp only [dsc, reduceCtorEq] at h
  rfl
theorem dsc_slice {d : TypeDesc} {e : TypeId} (h : dsc d = .slice e) : d = .slice e := by
  cases d <;> simp only [dsc, reduceCtorEq, Dsc.slice.injEq] at h
  rw [h]
theorem dsc_struct {d : TypeDesc} {l : List (Nat × TypeId)} (h : dsc d = .struct l) : ∃ fs : Array Field, d = .struct fs ∧ fs.toList.map (fun f => (f.offset, f.type)) = l := by
  cases d <;> simp only [dsc, reduceCtorEq, Dsc.struct.injEq] at h
  exact ⟨_, rfl, h⟩

abbrev Tab := List (TypeId × TI)
def tabT (tab : Tab) (t : TypeId) : Option TI := tab.lookup t

def infoOf (P : Program) (t : TypeId) : Option (Nat × Nat × Option Value) := (P.info? t).map fun i => (i.size, i.bytes, i.zero)
def infoTI (ti : TI) : Option (Nat × Nat × Option Value) := some (ti.ty.sz, ti.bytes, some (zvalTI ti))
def restB (P : Program) (tab : Tab) (e : TypeId × TI) : Bool :=
  (if e.2.agg then (match P.underlying e.1 with
    | some (.struct fs) => (fs.toList.mapM fun f => (P.info? f.type).map fun i => (f.offset, i.size)).isSome && (!e.2.cmp || (!P.stoodInHeld e.1 && !P.eqGuardType P.depth e.1 && fs.toList.all fun f => f.name != "_"))
    | _ => false) else (e.2.fs.isEmpty && !e.2.cmp && match e.2.ty with
    | .list ty => (match tab.lookup e.2.el with
      | some ei => decide (ei.ty = ty)
      | none => true)
    | .pair _ _ => false
    | _ => true))

theorem lookup_mem' {tab : Tab} {t : TypeId} {ti : TI} (h : tab.lookup t = some ti) : (t, ti) ∈ tab := by
  induction tab with
  | nil => cases h
  | cons q m ih =>
    obtain ⟨b', t'⟩ := q
    simp only [List.lookup] at h
    split at h
    · rename_i e
      simp at e
      injection h with h
      subst e h
      simp
    · exact List.mem_cons_of_mem _ (ih h)

theorem map_mem {α β : Type} {f g : α → β} : ∀ {l : List α}, l.map f = l.map g → ∀ x ∈ l, f x = g x
  | [], _, x, hx => by simp at hx
  | y :: l, h, x, hx => by
    simp only [List.map_cons, List.cons.injEq] at h
    rcases List.mem_cons.1 hx with rfl | hx
    · exact h.1
    · exact map_mem h.2 x hx

theorem tok_of {P : Program} {tab : Tab} (h1 : tab.map (fun e => infoOf P e.1) = tab.map (fun e => infoTI e.2)) (h2 : tab.map (fun e => (P.underlying e.1).map dsc) = tab.map (fun e => some (dscTI e.2))) (h3 : tab.all (restB P tab) = true) : TOk P (tabT tab) := by
  have i1 : ∀ t ti, tabT tab t = some ti → infoOf P t = infoTI ti := fun t ti h => map_mem h1 (t, ti) (lookup_mem' h)
  have i2 : ∀ t ti, tabT tab t = some ti → (P.underlying t).map dsc = some (dscTI ti) := fun t ti h => map_mem h2 (t, ti) (lookup_mem' h)
  have i3 : ∀ t ti, tabT tab t = some ti → restB P tab (t, ti) = true := fun t ti h => List.all_eq_true.1 h3 (t, ti) (lookup_mem' h)
  have und : ∀ t ti, tabT tab t = some ti → ∃ d, P.underlying t = some d ∧ dsc d = dscTI ti := fun t ti h => by
    have := i2 t ti h
    cases hd : P.underlying t with
    | none => rw [hd] at this; cases this
    | some d => rw [hd] at this; exact ⟨d, rfl, by simpa using this⟩
  have str : ∀ t ti, tabT tab t = some ti → ti.agg = true → ∃ fs : Array Field, P.underlying t = some (.struct fs) ∧ fs.toList.map (fun f => (f.offset, f.type)) = ti.fs := fun t ti h ha => by
    obtain ⟨d, d1, d2⟩ := und t ti h
    have d3 : dsc d = .struct ti.fs := by rw [d2]; simp only [dscTI, ha]
    obtain ⟨fs, rfl, f2⟩ := dsc_struct d3
    exact ⟨fs, d1, f2⟩
  have sz0 : ∀ ti : TI, ti.agg = false → (match ti.ty with | .pair _ _ => False | _ => True) → (zvalTI ti).cells.toList = zcells ti.ty := fun ti ha hp => by
    simp only [zvalTI, ha]
    revert hp
    cases ti.ty <;> intro hp <;> first | rfl | exact hp.elim
  have hnp : ∀ t ti, tabT tab t = some ti → ti.agg = false → (match ti.ty with | .pair _ _ => False | _ => True) := fun t ti h ha => by
    have := i3 t ti h
    simp only [restB, ha, Bool.false_eq_true, if_false, Bool.and_eq_true] at this
    have := this.2
    revert this
    cases ti.ty <;> simp
  refine ⟨fun t ti h => ?_, fun t ti h ha => ?_, fun t ti h ha => ?_, fun t ti h hc => ?_, fun t ti h ha fs hfs => ?_, fun t ti h ha i o ft hf => ?_⟩
  · have := i1 t ti h
    unfold infoOf infoTI at this
    cases hi : P.info? t with
    | none => rw [hi] at this; cases this
    | some i =>
      rw [hi] at this
      simp only [Option.map_some, Option.some.injEq, Prod.mk.injEq] at this
      refine ⟨i, zvalTI ti, rfl, this.1, this.2.1, this.2.2, ?_, fun ha => by simp [zvalTI, ha]⟩
      cases ha : ti.agg with
      | true => simp [zvalTI, ha, Value.cells]
      | false => exact sz0 ti ha (hnp t ti h ha)
  · obtain ⟨fs, f1, f2⟩ := str t ti h ha
    refine ⟨fs, f1, fun i o ft hf => ?_, by rw [← f2]; simp⟩
    rw [← f2, List.getElem?_map] at hf
    obtain ⟨f, hf1, hf2⟩ := Option.map_eq_some_iff.1 hf
    simp only [Prod.mk.injEq] at hf2
    exact ⟨f, by simpa using hf1, hf2.1, hf2.2⟩
  · obtain ⟨d, d1, d2⟩ := und t ti h
    have h3 := i3 t ti h
    simp only [restB, ha, Bool.false_eq_true, if_false, Bool.and_eq_true] at h3
    have h4 := h3.2
    have d3 : dsc d = dscTI { ti with agg := false } := by rw [d2]; unfold dscTI; rw [ha]
    revert d3 h4
    unfold dscTI
    simp only
    cases ti.ty with
    | int k => intro _ d3; rw [dsc_int d3] at d1; exact d1
    | bool => intro _ d3; rw [dsc_bool d3] at d1; exact d1
    | str => intro _ d3; rw [dsc_str d3] at d1; exact d1
    | pair a b => intro h4 _; cases h4
    | list e =>
      intro h4 d3
      rw [dsc_slice d3] at d1
      refine ⟨d1, fun ei hei => ?_⟩
      simp only at h4
      rw [show tab.lookup ti.el = some ei from hei] at h4
      simpa using h4
  · have h3 := i3 t ti h
    cases ha : ti.agg with
    | false => simp [restB, ha, hc] at h3
    | true =>
      obtain ⟨fs, f1, f2⟩ := str t ti h ha
      simp only [restB, ha, if_true, f1, hc, Bool.not_true, Bool.false_or, Bool.and_eq_true, Bool.not_eq_true'] at h3
      refine ⟨h3.2.1.1, h3.2.1.2, fun fs' hfs' f hf => ?_⟩
      rw [f1] at hfs'
      injection hfs' with hfs'
      injection hfs' with hfs'
      subst hfs'
      simpa using List.all_eq_true.1 h3.2.2 f hf
  · have h3 := i3 t ti h
    simp only [restB, ha, if_true, hfs, Bool.and_eq_true] at h3
    exact Option.isSome_iff_exists.1 h3.1
  · have h3 := i3 t ti h
    simp only [restB, ha, Bool.false_eq_true, if_false, Bool.and_eq_true, List.isEmpty_iff] at h3
    rw [h3.1.1] at hf
    simp at hf

end Go.Ev
