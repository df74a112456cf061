/- Package variables that a row lists: the tables lie in memory as told. -/
import Derived.Test.YtpmeeopafdgbpaaDoorEvGot
import Derived.Lib.LaidTab
namespace Go.Ev
set_option linter.unusedVariables false
set_option linter.unusedSimpArgs false
theorem flat_of {α : Type} {s : Nat} {C : α → List Value} (hC : ∀ z, (C z).length = s) : ∀ (zs : List α) (cs : List Value), cs.length = zs.length * s → (∀ (i : Nat) z, zs[i]? = some z → (cs.drop (i * s)).take s = C z) → cs = zs.flatMap C
  | [], cs, hl, _ => by simpa using hl
  | z :: zs, cs, hl, h => by
    have h0 := h 0 z rfl
    simp only [Nat.zero_mul, List.drop_zero] at h0
    have ih := flat_of hC zs (cs.drop s) (by rw [List.length_drop, hl, List.length_cons, Nat.add_mul]; omega) (fun i y hy => by
      have := h (i + 1) y (by simpa using hy)
      rw [List.drop_drop, ← this]
      congr 2
      rw [Nat.add_mul]; omega)
    rw [List.flatMap_cons, ← h0, ← ih, List.take_append_drop]
section
variable {P : Program} {w : World} {H : Type} {enc : TypeId × Value → H} {base : Nat} {sp : Nat → Bool} {held : Bool}
theorem cells_arr {α : Type} {t e : TypeId} {n s : Nat} {D : α → DataW H} {C : α → List Value} {fuel : Nat} {cs : List Value} {zs : List α} {p : List MemPlace} (ht : P.underlying t = some (.array n e)) (hce : P.cellsOf e = s) (hct : P.cellsOf t = n * s) (hC : ∀ z, (C z).length = s)
    (hel : ∀ fuel cs z p, DataW.trod enc P w base sp held fuel e cs = some (D z, p) → cs = C z) (h : DataW.trod enc P w base sp held fuel t cs = some (.agg (zs.map D), p)) : cs = zs.flatMap C := by
  cases fuel with
  | zero => simp [DataW.trod] at h
  | succ fuel =>
    simp only [DataW.trod, ht, hce, hct] at h
    split at h
    · rename_i hl
      obtain ⟨xs, hm, hx⟩ := Option.map_eq_some_iff.1 h
      have hxs : xs.map (·.1) = zs.map D := by
        have := congrArg Prod.fst hx
        simpa using this
      have hxl : xs.length = n := by simpa using Lib.mapM_length hm
      have hzl : zs.length = n := by
        have := congrArg List.length hxs
        simp at this
        omega
      refine flat_of hC zs cs (by rw [hl, hzl]) (fun i z hz => ?_)
      have hi : i < n := by
        have := (List.getElem?_eq_some_iff.1 hz).1
        omega
      obtain ⟨b, hb, hf⟩ := Lib.mapM_at hm i i (by simp [hi])
      have h2 : (xs.map (·.1))[i]? = some b.1 := by simp [hb]
      rw [hxs] at h2
      simp only [List.getElem?_map, hz, Option.map_some, Option.some.injEq] at h2
      exact hel fuel _ z b.2 (by rw [hf, h2])
    · cases h
theorem cells_int {e : TypeId} {k : IntKind} (he : P.underlying e = some (.int k)) (fuel : Nat) (cs : List Value) (z : Int) (p : List MemPlace) (h : DataW.trod enc P w base sp held fuel e cs = some (.lit (.int k z), p)) : cs = [.int k z] := by
  obtain ⟨n, rfl, h2, _⟩ := DataW.trod_int he h
  simp only [Prod.mk.injEq, DataW.lit.injEq, Lit.int.injEq, true_and] at h2
  rw [h2.1]
theorem cells_two {e : TypeId} {k : IntKind} {fs : Array Field} {f0 f1 : Field} (he : P.underlying e = some (.struct fs)) (hfs : fs.toList = [f0, f1]) (o0 : f0.offset = 0) (o1 : f1.offset = 1) (t0 : P.underlying f0.type = some (.int k)) (t1 : P.underlying f1.type = some (.int k))
    (c0 : P.cellsOf f0.type = 1) (c1 : P.cellsOf f1.type = 1) (hc : P.cellsOf e = 2) (fuel : Nat) (cs : List Value) (z : Int × Int) (p : List MemPlace) (h : DataW.trod enc P w base sp held fuel e cs = some (.agg [.lit (.int k z.1), .lit (.int k z.2)], p)) : cs = [.int k z.1, .int k z.2] := by
  cases fuel with
  | zero => simp [DataW.trod] at h
  | succ fuel =>
    simp only [DataW.trod, he, hc] at h
    split at h
    · rename_i hl
      obtain ⟨xs, hm, hx⟩ := Option.map_eq_some_iff.1 h
      rw [hfs] at hm
      simp only [List.mapM_cons, List.mapM_nil, Option.bind_eq_bind, Option.bind_eq_some_iff, Option.pure_def, Option.some.injEq] at hm
      obtain ⟨a, ha, r, ⟨b, hb, r', rfl, rfl⟩, rfl⟩ := hm
      simp only [List.map_cons, List.map_nil, Prod.mk.injEq, DataW.agg.injEq, List.cons.injEq, and_true] at hx
      obtain ⟨⟨x1, x2⟩, _⟩ := hx
      rw [o0, c0] at ha
      rw [o1, c1] at hb
      have q0 := cells_int t0 fuel _ z.1 a.2 (by rw [ha, ← x1])
      have q1 := cells_int t1 fuel _ z.2 b.2 (by rw [hb, ← x2])
      match cs, hl with
      | [u, v], _ => simp at q0 q1; rw [q0, q1]
    · cases h
theorem rows_flat {S : Nat → Prop} {e : Ty} {C : e.den → List Value} (hr : ∀ x, rel w S e x (C x)) : ∀ xs : List e.den, rows w S e xs (xs.flatMap C)
  | [] => rfl
  | x :: xs => ⟨C x, xs.flatMap C, by rw [List.flatMap_cons], hr x, rows_flat hr xs⟩
/-- A listed table lies in its variable's block. -/
theorem tab_lies {name : String} {g : Nat} {cs : Array Value} (hg : P.globalNamed name = some g) (hv : w.var? P name = some cs) {S : Nat → Prop} {e : Ty} {xs : List e.den} {C : e.den → List Value} (hr : ∀ x, rel w S e x (C x)) (hcs : cs.toList = xs.flatMap C) :
    g < w.heap.size ∧ ∃ us, rows w S e xs us ∧ ∀ j u, us[j]? = some u → w.cell? ⟨g, j, none⟩ = some u := by
  refine ⟨?_, xs.flatMap C, rows_flat hr xs, fun j u hu => ?_⟩
  · simp only [World.var?, hg, Option.bind_some] at hv
    cases hh : w.heap[g]? with
    | none => rw [hh] at hv; cases hv
    | some o => exact (Array.getElem?_eq_some_iff.1 hh).1
  · rw [World.var?_cell hg hv j, ← hu, ← hcs]
    simp
end
end Go.Ev
