/- What is handed to a law: plain values. -/
import Derived.Test.YtphlkpahfcainaaEvFunC
import Derived.Test.YtphlkpahfcainaaRows
import Derived.ChangeArms
namespace Go.Ev
set_option linter.unusedVariables false
set_option linter.unusedSimpArgs false
open Go.Proofs.Ytphlkpahfcainaa.Rows (uptoBulk uptoBulkAll)

/-- The whole numbers fit their kinds. -/
def Ty.ok : (t : Ty) → t.den → Prop
  | .int k, x => (Lit.int k x).wf = true
  | .bool, _ => True
  | .str, _ => True
  | .list e, xs => ∀ i, i < List.length xs → ∃ x, xs[i]? = some x ∧ e.ok x
  | .pair a b, x => a.ok x.1 ∧ b.ok x.2
/-- How many values and letters. -/
def Ty.bulk : (t : Ty) → t.den → Nat
  | .int _, _ => 1
  | .bool, _ => 1
  | .str, l => List.length l + 1
  | .list e, xs => (List.map e.bulk xs).sum + 1
  | .pair a b, x => a.bulk x.1 + b.bulk x.2

def nest : List Ty → Ty
  | [] => .bool
  | [t] => t
  | t :: u :: ts => .pair t (nest (u :: ts))
def tyT (T : TypeId → Option TI) (q : Nat × TypeId) : Ty := match T q.2 with
  | some ti => ti.ty
  | none => .bool
def chainB (T : TypeId → Option TI) : Nat → List (Nat × TypeId) → Bool
  | _, [] => true
  | o, q :: qs => q.1 == o && (T q.2).isSome && chainB T (o + (tyT T q).sz) qs
/-- A type's parts are told, too. -/
def partsB (T : TypeId → Option TI) (t : TypeId) : Bool := match T t with
  | none => true
  | some ti => if ti.agg then !ti.fs.isEmpty && chainB T 0 ti.fs && decide (ti.ty = nest (ti.fs.map (tyT T))) else match ti.ty with
    | .list _ => (T ti.el).isSome
    | _ => true

section
variable {P : Program} {T : TypeId → Option TI} {H : Type} {enc : TypeId × Value → H} {w : World} {base : Nat} {sp : Nat → Bool} {held : Bool}

def Told (P : Program) (T : TypeId → Option TI) (enc : TypeId × Value → H) (w : World) (t : TypeId) (ti : TI) (cs : List Value) (d : DataW H) : Prop :=
  ∃ v : ti.ty.den, rel w (fun b => b < w.heap.size) ti.ty v cs ∧ ti.ty.ok v ∧ ti.ty.bulk v ≤ uptoBulk d

theorem cells_of (hT : TOk P T) {t : TypeId} {ti : TI} (h : T t = some ti) : P.cellsOf t = ti.ty.sz := by
  obtain ⟨i, z, hi, h1, _⟩ := hT.info t ti h
  simp [Program.cellsOf, hi, h1]

theorem fields_rel (hT : TOk P T) {cs : List Value} : ∀ (tl : List (Nat × TypeId)) (o : Nat) (ds : List (DataW H)), tl ≠ [] → chainB T o tl = true → ds.length = tl.length → o + ((tl.map (tyT T)).map Ty.sz).sum ≤ cs.length →
    (∀ (i : Nat) (q : Nat × TypeId) ti, tl[i]? = some q → T q.2 = some ti → ∃ d, ds[i]? = some d ∧ Told P T enc w q.2 ti ((cs.drop q.1).take ti.ty.sz) d) →
    ∃ v : (nest (tl.map (tyT T))).den, rel w (fun b => b < w.heap.size) (nest (tl.map (tyT T))) v ((cs.drop o).take ((tl.map (tyT T)).map Ty.sz).sum) ∧ (nest (tl.map (tyT T))).ok v ∧ (nest (tl.map (tyT T))).bulk v ≤ uptoBulkAll ds
  | [], o, ds, h, _, _, _, _ => absurd rfl h
  | [q], o, ds, _, hc, hl, hlen, hf => by
    simp only [chainB, Bool.and_eq_true, beq_iff_eq] at hc
    obtain ⟨⟨h1, h2⟩, _⟩ := hc
    obtain ⟨ti, hti⟩ := Option.isSome_iff_exists.1 h2
    have hty : tyT T q = ti.ty := by simp [tyT, hti]
    obtain ⟨d, hd, hv⟩ := hf 0 q ti rfl hti
    rw [h1] at hv
    have hq : ∃ v : (tyT T q).den, rel w (fun b => b < w.heap.size) (tyT T q) v ((cs.drop o).take (tyT T q).sz) ∧ (tyT T q).ok v ∧ (tyT T q).bulk v ≤ uptoBulk d := by rw [hty]; exact hv
    obtain ⟨v, v1, v2, v3⟩ := hq
    match ds, hl, hd with
    | [d'], hl, hd =>
      simp only [List.getElem?_cons_zero, Option.some.injEq] at hd
      subst hd
      simp only [List.map_cons, List.map_nil, nest, List.sum_cons, List.sum_nil, Nat.add_zero]
      refine ⟨v, v1, v2, ?_⟩
      show (tyT T q).bulk v ≤ _
      simp only [uptoBulkAll, Nat.add_zero]
      exact v3
  | q :: q2 :: qs, o, ds, _, hc, hl, hlen, hf => by
    simp only [chainB, Bool.and_eq_true, beq_iff_eq] at hc
    obtain ⟨⟨h1, h2⟩, h3⟩ := hc
    obtain ⟨ti, hti⟩ := Option.isSome_iff_exists.1 h2
    have hty : tyT T q = ti.ty := by simp [tyT, hti]
    obtain ⟨d, hd, hv⟩ := hf 0 q ti rfl hti
    rw [h1] at hv
    have hq : ∃ v : (tyT T q).den, rel w (fun b => b < w.heap.size) (tyT T q) v ((cs.drop o).take (tyT T q).sz) ∧ (tyT T q).ok v ∧ (tyT T q).bulk v ≤ uptoBulk d := by rw [hty]; exact hv
    obtain ⟨v, v1, v2, v3⟩ := hq
    have hrest : chainB T (o + (tyT T q).sz) (q2 :: qs) = true := by
      simp only [chainB, Bool.and_eq_true, beq_iff_eq]; exact h3
    simp only [List.map_cons, List.sum_cons] at hlen
    obtain ⟨d', ds, rfl⟩ : ∃ d' ds', ds = d' :: ds' := by
      cases ds with
      | nil => simp at hl
      | cons d' ds' => exact ⟨_, _, rfl⟩
    simp only [List.getElem?_cons_zero, Option.some.injEq] at hd
    subst hd
    obtain ⟨u, u1, u2, u3⟩ := fields_rel hT (cs := cs) (q2 :: qs) (o + (tyT T q).sz) ds (by simp) hrest (by simpa using hl) (by simp only [List.map_cons, List.sum_cons]; omega) (fun i q' ti' hi hti' => by
      obtain ⟨d, hd, ht⟩ := hf (i + 1) q' ti' (by simpa using hi) hti'
      exact ⟨d, by simpa using hd, ht⟩)
    have e0 : nest ((q :: q2 :: qs).map (tyT T)) = .pair (tyT T q) (nest ((q2 :: qs).map (tyT T))) := rfl
    rw [e0]
    refine ⟨(v, u), ⟨_, _, ?_, v1, u1⟩, ⟨v2, u2⟩, ?_⟩
    · rw [List.map_cons, List.map_cons, List.sum_cons, List.take_add, List.drop_drop]
    · simp only [Ty.bulk, uptoBulkAll]
      omega

theorem sum_nest : ∀ tl : List Ty, tl ≠ [] → (nest tl).sz = (tl.map Ty.sz).sum
  | [], h => absurd rfl h
  | [t], _ => by simp [nest]
  | t :: u :: ts, _ => by
    have := sum_nest (u :: ts) (by simp)
    simp only [nest, Ty.sz, List.map_cons, List.sum_cons] at this ⊢
    omega

theorem bulkAll_map {γ : Type} (f : γ → DataW H) : ∀ l : List γ, uptoBulkAll (l.map f) = (l.map fun x => uptoBulk (f x)).sum
  | [] => rfl
  | x :: l => by simp [uptoBulkAll, bulkAll_map f l]

theorem cells?_get {a : Addr} {n : Nat} {cs : List Value} (h : w.cells? base a n = some cs) : cs.length = n ∧ ∀ j, j < n → w.cell? (a.add j) = cs[j]? := by
  unfold World.cells? at h
  split at h
  · exact ⟨by simpa using mapM_some_length h, fun j hj => mapM_some_get h j j (by simp [hj])⟩
  · cases h

/-- What is handed to a law is a plain value. -/
theorem trod_told (hT : TOk P T) (hp : ∀ t ti, T t = some ti → partsB T t = true) : ∀ (n : Nat) (t : TypeId) (ti : TI) (cs : List Value) (x : DataW H × List MemPlace), T t = some ti → DataW.trod enc P w base sp held n t cs = some x → Told P T enc w t ti cs x.1
  | 0, t, ti, cs, x, hti, h => by simp [DataW.trod] at h
  | n + 1, t, ti, cs, x, hti, h => by
    have hpt := hp t ti hti
    simp only [partsB, hti] at hpt
    cases hag : ti.agg with
    | true =>
      rw [hag] at hpt
      simp only [if_true, Bool.and_eq_true, Bool.not_eq_true', List.isEmpty_eq_false_iff, decide_eq_true_eq] at hpt
      obtain ⟨⟨p1, p2⟩, p3⟩ := hpt
      obtain ⟨fs, f1, f2, f3⟩ := hT.agg t ti hti hag
      obtain ⟨xs, m, hm, rfl, hlen, hxl, hx⟩ := DataW.trod_struct f1 h
      have hm' : m = n := by omega
      subst hm'
      have hne : ti.fs.map (tyT T) ≠ [] := by simpa using p1
      have hsz := sum_nest _ hne
      have hcl : cs.length = ti.ty.sz := by rw [hlen, cells_of hT hti]
      have key := fields_rel (w := w) (enc := enc) hT (cs := cs) ti.fs 0 (xs.map (·.1)) p1 p2 (by simp [hxl, f3]) (by rw [Nat.zero_add, ← hsz, ← p3, hcl]; exact Nat.le_refl _) (fun i q tq hi hq => by
        obtain ⟨f, g1, g2, g3⟩ := f2 i q.1 q.2 hi
        have := hx i f g1
        rw [g2, g3, cells_of hT hq] at this
        have hi2 : i < xs.length := by
          have := (List.getElem?_eq_some_iff.1 hi).1
          omega
        rw [List.getElem?_eq_getElem hi2] at this
        exact ⟨xs[i].1, by simp [hi2], trod_told hT hp m q.2 tq _ _ hq this⟩)
      obtain ⟨v, v1, v2, v3⟩ := key
      have hall : (cs.drop 0).take ((ti.fs.map (tyT T)).map Ty.sz).sum = cs := by
        rw [List.drop_zero, List.take_of_length_le]
        rw [← hsz, ← p3, hcl]; exact Nat.le_refl _
      rw [hall] at v1
      unfold Told
      rw [p3]
      exact ⟨v, v1, v2, by simp only [uptoBulk]; omega⟩
    | false =>
      have hsc := hT.sca t ti hti hag
      rw [hag] at hpt
      unfold Told
      revert hsc hpt
      cases hty : ti.ty with
      | int k =>
        intro _ hsc
        obtain ⟨i, rfl, rfl, hw⟩ := DataW.trod_int hsc h
        exact ⟨i, rfl, hw, by simp [Ty.bulk, uptoBulk]⟩
      | bool =>
        intro _ hsc
        obtain ⟨b, rfl, rfl⟩ := DataW.trod_bool hsc h
        exact ⟨b, rfl, trivial, by simp [Ty.bulk, uptoBulk]⟩
      | str =>
        intro _ hsc
        obtain ⟨s, rfl, rfl, hs⟩ := DataW.trod_string hsc h
        exact ⟨s.data.toList, rfl, trivial, by simp [Ty.bulk, uptoBulk]⟩
      | pair a b => intro _ hsc; exact hsc.elim
      | list e =>
        intro hpt hsc
        simp only [Bool.false_eq_true, if_false] at hpt
        obtain ⟨ei, hei⟩ := Option.isSome_iff_exists.1 hpt
        have hee : ei.ty = e := hsc.2 ei hei
        subst hee
        rcases DataW.trod_slice hsc.1 h with ⟨rfl, rfl⟩ | ⟨a, len, cap, elems, rest, m, hm, rfl, rfl, hb, hl, hmx, hlen, hel, _⟩
        · exact ⟨[], ⟨none, 0, rfl, Nat.le_refl _, .inl rfl⟩, fun i hi => by simp at hi, by simp [Ty.bulk, uptoBulk]⟩
        · have hm' : m = n := by omega
          subst hm'
          have hsz := cells_of hT hei
          have hp0 := sz_pos ei.ty
          -- each element
          have each : ∀ i, i < len → ∃ c y, elems[i]? = some y ∧ w.cells? base (a.add (i * ei.ty.sz)) ei.ty.sz = some c ∧ Told P T enc w ti.el ei c y.1 := fun i hi => by
            have h1 := hel i hi
            rw [hsz, List.getElem?_eq_getElem (by omega)] at h1
            obtain ⟨c, c1, c2⟩ := Option.bind_eq_some_iff.1 h1
            exact ⟨c, elems[i], List.getElem?_eq_getElem (by omega), c1, trod_told hT hp m ti.el ei c _ hei c2⟩
          have hvs : ∃ vs : List ei.ty.den, vs.length = len ∧ (∀ i v, vs[i]? = some v → ∃ c y, elems[i]? = some y ∧ w.cells? base (a.add (i * ei.ty.sz)) ei.ty.sz = some c ∧ rel w (fun b => b < w.heap.size) ei.ty v c ∧ ei.ty.ok v ∧ ei.ty.bulk v ≤ uptoBulk y.1) ∧ (vs.map ei.ty.bulk).sum ≤ (elems.map fun y => uptoBulk y.1).sum := by
            have gen : ∀ k, k ≤ len → ∃ vs : List ei.ty.den, vs.length = k ∧ (∀ i v, vs[i]? = some v → ∃ c y, elems[i]? = some y ∧ w.cells? base (a.add (i * ei.ty.sz)) ei.ty.sz = some c ∧ rel w (fun b => b < w.heap.size) ei.ty v c ∧ ei.ty.ok v ∧ ei.ty.bulk v ≤ uptoBulk y.1) ∧ (vs.map ei.ty.bulk).sum ≤ ((elems.take k).map fun y => uptoBulk y.1).sum := by
              intro k
              induction k with
              | zero => intro _; exact ⟨[], rfl, fun i v h => by simp at h, by simp⟩
              | succ k ih =>
                intro hk
                obtain ⟨vs, l1, l2, l3⟩ := ih (by omega)
                obtain ⟨c, y, y1, y2, v, y3, y4, y5⟩ := each k (by omega)
                refine ⟨vs ++ [v], by simp [l1], fun i u hu => ?_, ?_⟩
                · by_cases hi : i < vs.length
                  · rw [List.getElem?_append_left hi] at hu; exact l2 i u hu
                  · have hik : i = k := by
                      have := (List.getElem?_eq_some_iff.1 hu).1
                      simp at this; omega
                    subst hik
                    rw [List.getElem?_append_right (by omega), l1, Nat.sub_self] at hu
                    simp only [List.getElem?_cons_zero, Option.some.injEq] at hu
                    subst hu
                    exact ⟨c, y, y1, y2, y3, y4, y5⟩
                · have hkl : k < elems.length := by omega
                  rw [List.take_succ_eq_append_getElem hkl]
                  have : elems[k] = y := by rw [List.getElem?_eq_getElem hkl] at y1; injection y1
                  simp only [List.map_append, List.map_cons, List.map_nil, List.sum_append, List.sum_cons, List.sum_nil, this]
                  omega
            obtain ⟨vs, l1, l2, l3⟩ := gen len (Nat.le_refl _)
            rw [List.take_of_length_le (by omega)] at l3
            exact ⟨vs, l1, l2, l3⟩
          obtain ⟨vs, l1, l2, l3⟩ := hvs
          refine ⟨vs, ⟨some a, cap, by rw [l1], by rw [l1]; exact hl, ?_⟩, fun i hi => ?_, ?_⟩
          · by_cases h0 : len = 0
            · exact .inl (List.eq_nil_of_length_eq_zero (by rw [l1, h0]))
            · obtain ⟨c, y, y1, y2, _⟩ := each 0 (by omega)
              obtain ⟨q1, q2⟩ := cells?_get y2
              have hc0 := q2 0 hp0
              rw [Nat.zero_mul, Addr.add, if_pos rfl, Addr.add, if_pos rfl] at hc0
              have hsome : (w.cell? a).isSome = true := by rw [hc0, List.getElem?_eq_getElem (by omega)]; rfl
              obtain ⟨ab, ao, asp⟩ := a
              have hspot : asp = none ∧ ab < w.heap.size := by
                unfold World.cell? at hsome
                cases hh : w.heap[ab]? with
                | none => rw [hh] at hsome; simp at hsome
                | some o =>
                  refine ⟨?_, (Array.getElem?_eq_some_iff.1 hh).1⟩
                  rw [hh] at hsome
                  cases asp with
                  | none => rfl
                  | some s => cases o <;> simp at hsome
              obtain ⟨rfl, hlt⟩ := hspot
              refine .inr ⟨ab, ao, rfl, hlt, fun i v hv => ?_⟩
              obtain ⟨c, y, _, c2, c3, _⟩ := l2 i v hv
              obtain ⟨r1, r2⟩ := cells?_get c2
              refine ⟨c, c3, fun j u hu => ?_⟩
              have hj := (List.getElem?_eq_some_iff.1 hu).1
              have := r2 j (by omega)
              rw [addr_add, addr_add] at this
              rw [hu] at this
              rw [← this]
              congr 2
              omega
          · have hi' : i < vs.length := hi
            obtain ⟨c, y, _, _, _, y4, _⟩ := l2 i vs[i] (List.getElem?_eq_getElem hi')
            exact ⟨vs[i], List.getElem?_eq_getElem hi', y4⟩
          · simp only [Ty.bulk, uptoBulk, bulkAll_map]
            omega

end
end Go.Ev
