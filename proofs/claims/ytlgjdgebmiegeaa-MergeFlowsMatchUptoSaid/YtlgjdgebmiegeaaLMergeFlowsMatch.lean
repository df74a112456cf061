/- Proved: chancerylaw1.MergeFlowsMatch returns true for every three flows whose values number at most 1048576 in all, and it reads them afterwards as before; no further condition. -/
import Derived.Test.YtlgjdgebmiegeaaRows
import Derived.Test.YtlgjdgebmiegeaaEvGot
import Derived.Test.YtlgjdgebmiegeaaPMrgD
import Derived.WalkKit
import Derived.ProofKit
import Derived.OpenShut
import Derived.JoinedCond
import Derived.Carry
import Derived.Below
namespace Go.Proofs.Ytlgjdgebmiegeaa.mergeFlowsMatch
open Go.ChangeShapes Go.WideShapes Go.ChangeAt Go.RowKit
set_option linter.unusedVariables false
set_option maxRecDepth 100000
theorem own : ownKnob Try.prog.godebug = none := by kernel_rfl
theorem laidOut : laidOutB Try.prog = true := by kernel_rfl
/-- What the walk gives, for every argument of this bulk. -/
theorem contract (H : Type) (enc : TypeId × Value → H) (W : World) (base : Nat) (args : Array Value) (ds gs : List (DataW H)) (before : List MemPlace)
    (hval : ∀ (j : Nat) t v, Try.f14.params[j]? = some t → args[j]? = some v → Value.okWide Try.prog W .any base t v)
    (hW : DataW.Whole enc Try.prog Try.f14.params.toList Rows.mergeFlowsMatchSpec.vars false W args.toList ds gs before) (hk : Rows.uptoSmall H (ds ++ gs) = true) :
    Calls Try.prog 14 args W fun e W' => ∃ v, e = .returned v ∧ Rows.mergeFlowsMatchSpec.post enc Try.prog Try.f14 false true false false W args v W' := by
  have hW' := hW
  obtain ⟨p, q, hA0, hV, rfl, hfz, hnd⟩ := hW
  have hA : DataW.TrodAll enc Try.prog W 0 (fun _ => true) true Try.f14.params.toList args.toList ds p := hA0
  rw [Try.params14] at hA hval
  obtain ⟨v0, vs0, d0, ds0, p0, q0, hargs, rfl, rfl, h0, r0⟩ := trodAll_cons hA
  obtain ⟨v1, vs1, d1, ds1, p1, q1, rfl, rfl, rfl, h1, r1⟩ := trodAll_cons r0
  obtain ⟨v2, vs2, d2, ds2, p2, q2, rfl, rfl, rfl, h2, r2⟩ := trodAll_cons r1
  obtain ⟨rfl, rfl, rfl⟩ := trodAll_nil r2
  obtain rfl : args = #[v0, v1, v2] := by cases args; simp_all
  obtain ⟨rfl, rfl⟩ := trodVars_none hV
  have lt0 : ∀ x ∈ p0, x.block < W.heap.size := by obtain ⟨m, hm⟩ := h0; exact DataW.trod_lt m _ _ _ hm
  obtain ⟨x0, c0, l0, o0, b0, s0⟩ := Go.Ev.arg_told Go.Ev.T0_ok Go.Ev.T0_parts (t := 28) (ti := ⟨(.list Go.Ev.YElem), false, [], 113, 24, false, 0, false, []⟩) (by kernel_rfl) (hval 0 28 v0 rfl rfl) h0
  have lt1 : ∀ x ∈ p1, x.block < W.heap.size := by obtain ⟨m, hm⟩ := h1; exact DataW.trod_lt m _ _ _ hm
  obtain ⟨x1, c1, l1, o1, b1, s1⟩ := Go.Ev.arg_told Go.Ev.T0_ok Go.Ev.T0_parts (t := 28) (ti := ⟨(.list Go.Ev.YElem), false, [], 113, 24, false, 0, false, []⟩) (by kernel_rfl) (hval 1 28 v1 rfl rfl) h1
  have lt2 : ∀ x ∈ p2, x.block < W.heap.size := by obtain ⟨m, hm⟩ := h2; exact DataW.trod_lt m _ _ _ hm
  obtain ⟨x2, c2, l2, o2, b2, s2⟩ := Go.Ev.arg_told Go.Ev.T0_ok Go.Ev.T0_parts (t := 28) (ti := ⟨(.list Go.Ev.YElem), false, [], 113, 24, false, 0, false, []⟩) (by kernel_rfl) (hval 2 28 v2 rfl rfl) h2
  clear hA0
  have hk2 : Rows.uptoBulkAll ([d0, d1, d2] ++ []) ≤ 1048576 := of_decide_eq_true hk
  simp only [List.append_nil, Rows.uptoBulkAll] at hk2
  have got : Go.Ev.Got W Go.Ev.sig_law_MergeFlowsMatch.ps (x0, x1, x2, ()) [v0, v1, v2] (c0 ++ (c1 ++ (c2 ++ []))) := ⟨_, _, _, _, rfl, rfl, l0, s0, ⟨_, _, _, _, rfl, rfl, l1, s1, ⟨_, _, _, _, rfl, rfl, l2, s2, rfl, rfl⟩⟩⟩
  refine (Go.Ev.law_got Go.Ev.S_law_MergeFlowsMatch (Go.Ev.Diff.holdsMerge x0 x1 x2 o0 o1 o2 (Nat.le_trans (Nat.add_le_add (Nat.add_le_add b0 b1) b2) (by omega))) got).mono fun e W' ⟨he, bel⟩ => ?_
  subst he
  exact ⟨_, rfl, _, _, _, [], _, [], hW', trodAll_mk1 (shut_bool Try.underlying4 _), (trodAll_cons_mk (Below.trod laidOut (by kernel_rfl) (of_decide_eq_true (by kernel_rfl)) h0 bel lt0) (trodAll_cons_mk (Below.trod laidOut (by kernel_rfl) (of_decide_eq_true (by kernel_rfl)) h1 bel lt1) (trodAll_cons_mk (Below.trod laidOut (by kernel_rfl) (of_decide_eq_true (by kernel_rfl)) h2 bel lt2) trodAll_mk0))), rfl, bel.frame _, fun h => by cases h⟩
set_option maxRecDepth 100000 in
theorem lifted (os : Os) (started : os.Started) (H : Type) (enc : TypeId × Value → H) (F : Stop.Interp) :
    ReturnsInHanded {} Try.checked os 14 .any ((Rows.OpenSpec.upto Rows.mergeFlowsMatchSpec).pre6 enc Try.prog Try.f14 Rows.mergeFlowsMatchUptoRow.domain false) (((Rows.OpenSpec.upto Rows.mergeFlowsMatchSpec).at F).post enc Try.prog Try.f14 false true false false) := by
  refine returnsInHanded_of_cond (C := Try.checked) (s := Rows.OpenSpec.upto Rows.mergeFlowsMatchSpec) (k := Rows.uptoSmall) rfl own started (by kernel_rfl) Try.func14
    (OpenSpec.witness (enc := enc) (C := Try.checked) (s := Rows.OpenSpec.upto Rows.mergeFlowsMatchSpec) (k := Rows.uptoSmall) rfl false ⟨#[], #[.slice none 0 0, .slice none 0 0, .slice none 0 0], []⟩ 8 (by kernel_rfl) (by kernel_rfl) (by kernel_rfl)
      (x := ([.nil, .nil, .nil], [], [])) (by kernel_rfl) rfl (by kernel_rfl)) ?_
  intro W base args ds gs before hval hW _ hk _
  exact contract H enc W base args ds gs before hval hW hk
theorem over : Rows.mergeFlowsMatchUptoRow.holds Try.pinned (Rows.OpenSpec.upto Rows.mergeFlowsMatchSpec) :=
  OpenClaim.holds_of_cond 14 Try.f14 rfl rfl rfl rfl rfl rfl rfl ⟨rfl, rfl, rfl, rfl, rfl⟩ rfl rfl rfl rfl rfl (by kernel_rfl) Try.func14 (by kernel_rfl)
    (of_decide_eq_true (by kernel_rfl)) (by unfold Func.isWrapper; first | (rw [if_pos (by decide +kernel)]; kernel_rfl) | (rw [if_neg (by decide +kernel)]; exact ⟨rfl, rfl⟩))
    (fun os started H enc _ F => lifted os started H enc F)
theorem proved : Rows.MergeFlowsMatchUptoSaid := over
end Go.Proofs.Ytlgjdgebmiegeaa.mergeFlowsMatch
namespace Go.Proofs.Ytlgjdgebmiegeaa
/-- The row, under a short name, for the claim. -/
theorem mergeFlowsMatch_upto : Rows.MergeFlowsMatchUptoSaid := mergeFlowsMatch.proved
#print axioms mergeFlowsMatch_upto
end Go.Proofs.Ytlgjdgebmiegeaa
