/- A law's arguments, all at once; what is told of plain values. -/
import Derived.Test.YtpmeeopafdgbpaaDoorEvPure
namespace Go.Ev
set_option linter.unusedVariables false
set_option linter.unusedSimpArgs false
open Go.ChangeShapes Go.WideShapes Go.ChangeAt Go.RowKit
/-- Plain arguments lie in memory as told. -/
def Got (w : World) : (ps : List PK) → HL (ps.flatMap PK.lk) → List Value → List Value → Prop
  | [], _, vs, cs => vs = [] ∧ cs = []
  | .v ag t :: ps, x, vs, cs => ∃ v vs' c cs', vs = v :: vs' ∧ cs = c ++ cs' ∧ rel w (fun b => b < w.heap.size) t x.1 c ∧ (ag = true ∧ v = .agg c.toArray ∨ ag = false ∧ c = [v]) ∧ Got w ps x.2 vs' cs'
  | _ :: _, _, _, _ => False
theorem got_all {w : World} : ∀ (ps : List PK) (x : HL (ps.flatMap PK.lk)) (vs cs : List Value), Got w ps x vs cs →
    cs.length = (outL (ps.flatMap PK.lk) x).length ∧ (∀ j, LO w (fun b => b < w.heap.size) (lget (outL (ps.flatMap PK.lk) x) j) (cs.getD j undef)) ∧ (∀ j, (lget (outL (ps.flatMap PK.lk) x) j).isOwn = false) ∧ ArgShape (fun _ => 0) ps vs cs
  | [], x, vs, cs, h => by
    obtain ⟨rfl, rfl⟩ := h
    exact ⟨rfl, fun j => trivial, fun j => rfl, rfl, rfl⟩
  | .v ag t :: ps, x, vs, cs, h => by
    obtain ⟨v, vs', c, cs', rfl, rfl, h1, h2, h3⟩ := h
    obtain ⟨q1, q2, q3, q4⟩ := got_all ps x.2 vs' cs' h3
    have hl := rel_len h1
    have e : outL ((PK.v ag t :: ps).flatMap PK.lk) x = explode t x.1 ++ outL (ps.flatMap PK.lk) x.2 := rfl
    have le : (explode t x.1).length = c.length := by rw [length_explode, hl]
    refine ⟨?_, fun j => ?_, fun j => ?_, v, vs', c, cs', rfl, rfl, hl, h2, q4⟩
    · rw [e, List.length_append, List.length_append, le, q1]
    · rw [e, lget_append, getD_append, le]
      split
      · exact LO_explode h1 j
      · exact q2 _
    · rw [e, lget_append]
      split
      · exact explode_own _ _ _
      · exact q3 _
  | .o _ _ :: _, _, _, _, h => h.elim
  | .p _ :: _, _, _, _, h => h.elim
  | .f _ _ :: _, _, _, _, h => h.elim
theorem law_got {f : FuncId} {ps : List PK} {F : Sig.Fn ⟨ps, [], [(false, [.fr .bool])]⟩} (hs : Sound P f ⟨⟨ps, [], [(false, [.fr .bool])]⟩, F⟩) {x : HL (Sig.ins ⟨ps, [], [(false, [.fr .bool])]⟩)} {z : BL ([] ++ Sig.ws ⟨ps, [], [(false, [.fr .bool])]⟩)} (hx : F x () = some (((true, ()), ()), z))
    {vs cs : List Value} {w : World} (hg : Got w ps x vs cs) (hL : Lay w (fun b => b < w.heap.size)) : Calls P f vs.toArray w fun e w' => e = .returned (.bool true) ∧ Below w.heap.size w w' := by
  obtain ⟨q1, q2, q3, q4⟩ := got_all ps x vs cs hg
  exact law_calls hs hx q1 q2 q3 q4 hL
theorem bulk_pos : ∀ (t : Ty) (x : t.den), 1 ≤ t.bulk x
  | .int k, _ => Nat.le_refl _
  | .bool, _ => Nat.le_refl _
  | .str, _ => by simp [Ty.bulk]
  | .list e, _ => by simp [Ty.bulk]
  | .pair a b, x => by have := bulk_pos a x.1; simp [Ty.bulk]; omega
theorem bulk_len {e : Ty} : ∀ (xs : List e.den), xs.length + 1 ≤ (Ty.list e).bulk xs
  | [] => by simp [Ty.bulk]
  | x :: xs => by
    have h1 := bulk_pos e x
    have h2 := bulk_len xs
    simp only [Ty.bulk, List.map_cons, List.sum_cons, List.length_cons] at *
    omega
theorem bulk_mem {e : Ty} : ∀ (xs : List e.den) (x : e.den), x ∈ xs → e.bulk x ≤ (Ty.list e).bulk xs
  | y :: xs, x, h => by
    simp only [Ty.bulk, List.map_cons, List.sum_cons]
    rcases List.mem_cons.1 h with rfl | h
    · omega
    · have := bulk_mem xs x h
      simp only [Ty.bulk] at this
      omega
end Go.Ev
