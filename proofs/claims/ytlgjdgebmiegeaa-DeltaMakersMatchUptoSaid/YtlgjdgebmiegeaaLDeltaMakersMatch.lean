/- Proved: chancerylaw1.DeltaMakersMatch returns true for every three numbers, every list of elements, every list of attributes and every list of steps whose values number at most 1048576 in all, and it reads them afterwards as before; no further condition. -/
import Derived.Test.YtlgjdgebmiegeaaRows
import Derived.Test.YtlgjdgebmiegeaaEvGot
import Derived.Test.YtlgjdgebmiegeaaPMake
import Derived.WalkKit
import Derived.ProofKit
import Derived.OpenShut
import Derived.JoinedCond
import Derived.Carry
import Derived.Below
namespace Go.Proofs.Ytlgjdgebmiegeaa.deltaMakersMatch
open Go.ChangeShapes Go.WideShapes Go.ChangeAt Go.RowKit
set_option linter.unusedVariables false
set_option maxRecDepth 100000
theorem own : ownKnob Try.prog.godebug = none := by kernel_rfl
theorem laidOut : laidOutB Try.prog = true := by kernel_rfl
/-- What the walk gives, for every argument of this bulk. -/
theorem contract (H : Type) (enc : TypeId × Value → H) (W : World) (base : Nat) (args : Array Value) (ds gs : List (DataW H)) (before : List MemPlace)
    (hval : ∀ (j : Nat) t v, Try.f5.params[j]? = some t → args[j]? = some v → Value.okWide Try.prog W .any base t v)
    (hW : DataW.Whole enc Try.prog Try.f5.params.toList Rows.deltaMakersMatchSpec.vars false W args.toList ds gs before) (hk : Rows.uptoSmall H (ds ++ gs) = true) :
    Calls Try.prog 5 args W fun e W' => ∃ v, e = .returned v ∧ Rows.deltaMakersMatchSpec.post enc Try.prog Try.f5 false true false false W args v W' := by
  have hW' := hW
  obtain ⟨p, q, hA0, hV, rfl, hfz, hnd⟩ := hW
  have hA : DataW.TrodAll enc Try.prog W 0 (fun _ => true) true Try.f5.params.toList args.toList ds p := hA0
  rw [Try.params5] at hA hval
  obtain ⟨v0, vs0, d0, ds0, p0, q0, hargs, rfl, rfl, h0, r0⟩ := trodAll_cons hA
  obtain ⟨v1, vs1, d1, ds1, p1, q1, rfl, rfl, rfl, h1, r1⟩ := trodAll_cons r0
  obtain ⟨v2, vs2, d2, ds2, p2, q2, rfl, rfl, rfl, h2, r2⟩ := trodAll_cons r1
  obtain ⟨v3, vs3, d3, ds3, p3, q3, rfl, rfl, rfl, h3, r3⟩ := trodAll_cons r2
  obtain ⟨v4, vs4, d4, ds4, p4, q4, rfl, rfl, rfl, h4, r4⟩ := trodAll_cons r3
  obtain ⟨v5, vs5, d5, ds5, p5, q5, rfl, rfl, rfl, h5, r5⟩ := trodAll_cons r4
  obtain ⟨rfl, rfl, rfl⟩ := trodAll_nil r5
  obtain rfl : args = #[v0, v1, v2, v3, v4, v5] := by cases args; simp_all
  obtain ⟨rfl, rfl⟩ := trodVars_none hV
  have lt0 : ∀ x ∈ p0, x.block < W.heap.size := by obtain ⟨m, hm⟩ := h0; exact DataW.trod_lt m _ _ _ hm
  obtain ⟨x0, c0, l0, o0, b0, s0⟩ := Go.Ev.arg_told Go.Ev.T0_ok Go.Ev.T0_parts (t := 3) (ti := ⟨(.int .i64), false, [], 0, 8, false, 0⟩) (by kernel_rfl) (hval 0 3 v0 rfl rfl) h0
  have lt1 : ∀ x ∈ p1, x.block < W.heap.size := by obtain ⟨m, hm⟩ := h1; exact DataW.trod_lt m _ _ _ hm
  obtain ⟨x1, c1, l1, o1, b1, s1⟩ := Go.Ev.arg_told Go.Ev.T0_ok Go.Ev.T0_parts (t := 3) (ti := ⟨(.int .i64), false, [], 0, 8, false, 0⟩) (by kernel_rfl) (hval 1 3 v1 rfl rfl) h1
  have lt2 : ∀ x ∈ p2, x.block < W.heap.size := by obtain ⟨m, hm⟩ := h2; exact DataW.trod_lt m _ _ _ hm
  obtain ⟨x2, c2, l2, o2, b2, s2⟩ := Go.Ev.arg_told Go.Ev.T0_ok Go.Ev.T0_parts (t := 3) (ti := ⟨(.int .i64), false, [], 0, 8, false, 0⟩) (by kernel_rfl) (hval 2 3 v2 rfl rfl) h2
  have lt3 : ∀ x ∈ p3, x.block < W.heap.size := by obtain ⟨m, hm⟩ := h3; exact DataW.trod_lt m _ _ _ hm
  obtain ⟨x3, c3, l3, o3, b3, s3⟩ := Go.Ev.arg_told Go.Ev.T0_ok Go.Ev.T0_parts (t := 28) (ti := ⟨(.list Go.Ev.YElem), false, [], 113, 24, false, 0⟩) (by kernel_rfl) (hval 3 28 v3 rfl rfl) h3
  have lt4 : ∀ x ∈ p4, x.block < W.heap.size := by obtain ⟨m, hm⟩ := h4; exact DataW.trod_lt m _ _ _ hm
  obtain ⟨x4, c4, l4, o4, b4, s4⟩ := Go.Ev.arg_told Go.Ev.T0_ok Go.Ev.T0_parts (t := 27) (ti := ⟨(.list Go.Ev.YAttr), false, [], 123, 24, false, 0⟩) (by kernel_rfl) (hval 4 27 v4 rfl rfl) h4
  have lt5 : ∀ x ∈ p5, x.block < W.heap.size := by obtain ⟨m, hm⟩ := h5; exact DataW.trod_lt m _ _ _ hm
  obtain ⟨x5, c5, l5, o5, b5, s5⟩ := Go.Ev.arg_told Go.Ev.T0_ok Go.Ev.T0_parts (t := 22) (ti := ⟨(.list Go.Ev.YStep), false, [], 30, 24, false, 0⟩) (by kernel_rfl) (hval 5 22 v5 rfl rfl) h5
  clear hA0
  have hk2 : Rows.uptoBulkAll ([d0, d1, d2, d3, d4, d5] ++ []) ≤ 1048576 := of_decide_eq_true hk
  simp only [List.append_nil, Rows.uptoBulkAll] at hk2
  have got : Go.Ev.Got W Go.Ev.sig_law_DeltaMakersMatch.ps (x0, x1, x2, x3, x4, x5, ()) [v0, v1, v2, v3, v4, v5] (c0 ++ (c1 ++ (c2 ++ (c3 ++ (c4 ++ (c5 ++ [])))))) := ⟨_, _, _, _, rfl, rfl, l0, s0, ⟨_, _, _, _, rfl, rfl, l1, s1, ⟨_, _, _, _, rfl, rfl, l2, s2, ⟨_, _, _, _, rfl, rfl, l3, s3, ⟨_, _, _, _, rfl, rfl, l4, s4, ⟨_, _, _, _, rfl, rfl, l5, s5, rfl, rfl⟩⟩⟩⟩⟩⟩
  refine (Go.Ev.law_got Go.Ev.S_law_DeltaMakersMatch (Go.Ev.AxisP.holdsMake x0 x1 x2 x3 x4 x5 o0 o1 o2 o3 o4 o5 (Nat.le_trans (Nat.add_le_add (Nat.add_le_add (Nat.add_le_add (Nat.add_le_add (Nat.add_le_add b0 b1) b2) b3) b4) b5) (by omega))) got).mono fun e W' ⟨he, bel⟩ => ?_
  subst he
  exact ⟨_, rfl, _, _, _, [], _, [], hW', trodAll_mk1 (shut_bool Try.underlying4 _), (trodAll_cons_mk (Below.trod laidOut (by kernel_rfl) (of_decide_eq_true (by kernel_rfl)) h0 bel lt0) (trodAll_cons_mk (Below.trod laidOut (by kernel_rfl) (of_decide_eq_true (by kernel_rfl)) h1 bel lt1) (trodAll_cons_mk (Below.trod laidOut (by kernel_rfl) (of_decide_eq_true (by kernel_rfl)) h2 bel lt2) (trodAll_cons_mk (Below.trod laidOut (by kernel_rfl) (of_decide_eq_true (by kernel_rfl)) h3 bel lt3) (trodAll_cons_mk (Below.trod laidOut (by kernel_rfl) (of_decide_eq_true (by kernel_rfl)) h4 bel lt4) (trodAll_cons_mk (Below.trod laidOut (by kernel_rfl) (of_decide_eq_true (by kernel_rfl)) h5 bel lt5) trodAll_mk0)))))), rfl, bel.frame _, fun h => by cases h⟩
set_option maxRecDepth 100000 in
theorem lifted (os : Os) (started : os.Started) (H : Type) (enc : TypeId × Value → H) (F : Stop.Interp) :
    ReturnsInHanded {} Try.checked os 5 .any ((Rows.OpenSpec.upto Rows.deltaMakersMatchSpec).pre6 enc Try.prog Try.f5 Rows.deltaMakersMatchUptoRow.domain false) (((Rows.OpenSpec.upto Rows.deltaMakersMatchSpec).at F).post enc Try.prog Try.f5 false true false false) := by
  refine returnsInHanded_of_cond (C := Try.checked) (s := Rows.OpenSpec.upto Rows.deltaMakersMatchSpec) (k := Rows.uptoSmall) rfl own started (by kernel_rfl) Try.func5
    (OpenSpec.witness (enc := enc) (C := Try.checked) (s := Rows.OpenSpec.upto Rows.deltaMakersMatchSpec) (k := Rows.uptoSmall) rfl false ⟨#[], #[.int .i64 0, .int .i64 0, .int .i64 0, .slice none 0 0, .slice none 0 0, .slice none 0 0], []⟩ 8 (by kernel_rfl) (by kernel_rfl) (by kernel_rfl)
      (x := ([.lit (.int .i64 0), .lit (.int .i64 0), .lit (.int .i64 0), .nil, .nil, .nil], [], [])) (by kernel_rfl) rfl (by kernel_rfl)) ?_
  intro W base args ds gs before hval hW _ hk _
  exact contract H enc W base args ds gs before hval hW hk
theorem over : Rows.deltaMakersMatchUptoRow.holds Try.pinned (Rows.OpenSpec.upto Rows.deltaMakersMatchSpec) :=
  OpenClaim.holds_of_cond 5 Try.f5 rfl rfl rfl rfl rfl rfl rfl ⟨rfl, rfl, rfl, rfl, rfl⟩ rfl rfl rfl rfl rfl (by kernel_rfl) Try.func5 (by kernel_rfl)
    (of_decide_eq_true (by kernel_rfl)) (by unfold Func.isWrapper; first | (rw [if_pos (by decide +kernel)]; kernel_rfl) | (rw [if_neg (by decide +kernel)]; exact ⟨rfl, rfl⟩))
    (fun os started H enc _ F => lifted os started H enc F)
theorem proved : Rows.DeltaMakersMatchUptoSaid := over
end Go.Proofs.Ytlgjdgebmiegeaa.deltaMakersMatch
namespace Go.Proofs.Ytlgjdgebmiegeaa
/-- The row, under a short name, for the claim. -/
theorem deltaMakersMatch_upto : Rows.DeltaMakersMatchUptoSaid := deltaMakersMatch.proved
#print axioms deltaMakersMatch_upto
end Go.Proofs.Ytlgjdgebmiegeaa
