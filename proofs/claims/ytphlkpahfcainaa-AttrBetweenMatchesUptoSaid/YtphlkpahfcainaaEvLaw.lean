/- Laws: from a function of plain values to the given row. -/
import Derived.Test.YtphlkpahfcainaaEvRow
import Derived.WalkKit
import Derived.ProofKit
import Derived.OpenShut
import Derived.JoinedCond
import Derived.ChangeMaps5
import Derived.Carry
namespace Go.Ev
set_option linter.unusedVariables false
set_option linter.unusedSimpArgs false
open Go.ChangeShapes Go.WideShapes Go.ChangeAt Go.RowKit
open Go.Proofs.Ytphlkpahfcainaa.Rows (uptoBulk uptoBulkAll)

section
variable {P : Program} {T : TypeId → Option TI} {H : Type} {enc : TypeId × Value → H} {w : World} {base b0 : Nat} {sp : Nat → Bool} {held : Bool}

theorem arg_told (hT : TOk P T) (hp : ∀ t ti, T t = some ti → partsB T t = true) {t : TypeId} {ti : TI} (hti : T t = some ti) {v : Value} {d : DataW H} {ps : List MemPlace} {r : Reach}
    (hval : Value.okWide P w r b0 t v) (hd : DataW.Trod enc P w base sp held t v d ps) :
    ∃ (x : ti.ty.den) (cs : List Value), rel w (fun b => b < w.heap.size) ti.ty x cs ∧ ti.ty.ok x ∧ ti.ty.bulk x ≤ uptoBulk d ∧ (ti.agg = true ∧ v = .agg cs.toArray ∨ ti.agg = false ∧ cs = [v]) := by
  obtain ⟨fuel, hf⟩ := hd
  obtain ⟨x, x1, x2, x3⟩ := trod_told hT hp fuel t ti _ _ hti hf
  cases hag : ti.agg with
  | true =>
    obtain ⟨fs, f1, _⟩ := hT.agg t ti hti hag
    obtain ⟨cs, rfl, _⟩ := okWide_struct f1 hval
    exact ⟨x, cs.toList, x1, x2, x3, .inl ⟨rfl, by simp⟩⟩
  | false =>
    refine ⟨x, [v], ?_, x2, x3, .inr ⟨rfl, rfl⟩⟩
    have hsc := hT.sca t ti hti hag
    have one : v.cells.toList = [v] := by
      revert hsc
      cases ti.ty with
      | int k => intro hsc; obtain ⟨n, rfl⟩ := okWide_int hsc hval; rfl
      | bool => intro hsc; obtain ⟨n, rfl⟩ := okWide_bool hsc hval; rfl
      | str => intro hsc; obtain ⟨n, rfl⟩ := okWide_string hsc hval; rfl
      | list e => intro hsc; obtain ⟨a, l, c, rfl⟩ := okWide_slice hsc.1 hval; rfl
      | pair a b => intro hsc; exact hsc.elim
    rw [one] at x1
    exact x1

/-- A law: what it is handed, as plain values, and one truth that comes back. -/
theorem law_calls {f : FuncId} {ps : List PK} {F : Sig.Fn ⟨ps, [], [(false, [.fr .bool])]⟩} (hs : Sound P f ⟨⟨ps, [], [(false, [.fr .bool])]⟩, F⟩) {x : HL (Sig.ins ⟨ps, [], [(false, [.fr .bool])]⟩)} (hx : F x () = some (((true, ()), ()), ()))
    {vs cs : List Value} (hl : cs.length = (outL (ps.flatMap PK.lk) x).length) (hr : ∀ j, LO w (fun b => b < w.heap.size) (lget (outL (ps.flatMap PK.lk) x) j) (cs.getD j undef)) (ho : ∀ j, (lget (outL (ps.flatMap PK.lk) x) j).isOwn = false)
    (ha : ArgShape (fun _ => 0) ps vs cs) : Calls P f vs.toArray w fun e w' => e = .returned (.bool true) ∧ Below w.heap.size w w' := by
  have hno : ∀ o b, pob (outL (ps.flatMap PK.lk) x) cs 0 (fun _ => []) (fun _ => []) (fun _ => 0) o ≠ some b := by
    intro o b hb
    cases o with
    | arg j =>
      have hb : own1 (outL (ps.flatMap PK.lk) x) cs j = some b := hb
      unfold own1 at hb
      rw [ho j] at hb
      simp at hb
    | box j => simp [pob] at hb
    | leaf j q => simp [pob] at hb
  have hh : Hand w (fun b => b < w.heap.size) (outL (ps.flatMap PK.lk) x) cs 0 (fun _ => []) (fun _ => []) (fun _ => 0) :=
    ⟨hl, hr, fun i hi => by omega, fun o1 o2 b e1 => absurd e1 (hno o1 b), fun o b e => absurd e (hno o b), fun b hb => hb⟩
  refine (hs.call x () _ hx w _ vs cs (fun _ => []) (fun _ => 0) hh ha).mono fun e w' hR => ?_
  obtain ⟨v, rfl, ⟨⟨S', rc, bc, rh, rv, _⟩, hos, htape, hout, hgrow, hframe⟩⟩ := hR
  have hv : v = .bool true := by
    obtain ⟨q1, q2⟩ := rv
    have h0 := rh.rel 0
    subst q2
    exact (by simpa [LO, outSlot, outR, outL, explode, Slot.leaves, lget, rel] using h0)
  exact ⟨by rw [hv], hos, htape, hout, hgrow, fun b hb => hframe b hb (fun ⟨o, he⟩ => hno o b he)⟩

end
end Go.Ev
