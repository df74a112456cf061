/- Functions, step by step. -/
import Derived.Test.YtlgjdgebmiegeaaGAct
namespace Go.Ev
set_option linter.unusedVariables false
set_option maxRecDepth 100000
open Go.Proofs
def sig_delta_reader_take : Sig := ⟨[.p 0, .v false (.int .i64)], [[.fr (.list YStep), .fr (.int .i64)]], [(true, [.fr YStep])]⟩
def C_delta_reader_take (F : sig_delta_reader_take.Fn) (a1 : Int) (b0_0 : List YStep.den) (b0_1 : Int) : Option sig_delta_reader_take.Out := F (a1, ()) ((b0_0, b0_1, ()), ())
def ret_delta_reader_take (v0 : YStep.den) (v1 : List YStep.den) (v2 : Int) : sig_delta_reader_take.Out := (((v0, ()), ()), ((v1, v2, ()), ()))
def os_delta_reader_take : RegT := ⟨[(3, .st 0 (.st 2 (.st 3 (.st 4 (.st 6 (.st 7 (.st 8 (.st 10 (.st 9 (.st 11 (.st 1 (.st 5 (.st 12 (.st 13 (.st 14 (.nil)))))))))))))))), (6, .st 0 (.st 1 (.st 2 (.st 4 (.st 5 (.st 6 (.st 7 (.st 8 (.st 9 (.grp [3, 10] (.st 11 (.nil))))))))))))], []⟩
def hs_delta_reader_take : List Keep := []
@[reducible] noncomputable def env_delta_reader_take : Env := [(95, ⟨sig_delta_size, F_delta_size⟩)]
noncomputable def F_delta_reader_take : sig_delta_reader_take.Fn := fun x y => run T (env_delta_reader_take) os_delta_reader_take sig_delta_reader_take Try.f99 hs_delta_reader_take big x y
theorem e_delta_reader_take (a1 : Int) (b0_0 : List YStep.den) (b0_1 : Int) : C_delta_reader_take F_delta_reader_take a1 b0_0 b0_1 =
  (if 0 ≤ (0 : Int) ∧ (0 : Int) < (List.length b0_0 : Int) then
   (bcond (((at_ (e := YStep) b0_0 0).1 : Int) == 1)
    (if 0 ≤ ((IntKind.i64.wrap (b0_1 + a1)) : Int) ∧ ((IntKind.i64.wrap (b0_1 + a1)) : Int) ≤ (List.length (at_ (e := YStep) b0_0 0).2.2.2 : Int) ∧ 0 ≤ (b0_1 : Int) ∧ (b0_1 : Int) ≤ (IntKind.i64.wrap (b0_1 + a1)) then
     (if 0 ≤ (0 : Int) ∧ (0 : Int) < (List.length b0_0 : Int) then
      ((C_delta_size F_delta_size (at_ (e := YStep) b0_0 0)).bind fun r1 =>
       (bcond (((IntKind.i64.wrap (b0_1 + a1)) : Int) == (res_delta_size_0 r1))
        (if 0 ≤ ((List.length b0_0 : Int) : Int) ∧ ((List.length b0_0 : Int) : Int) ≤ (List.length b0_0 : Int) ∧ 0 ≤ (1 : Int) ∧ (1 : Int) ≤ (List.length b0_0 : Int) then
         (some (ret_delta_reader_take ((at_ (e := YStep) b0_0 0).1, ((at_ (e := YStep) b0_0 0).2.1, ((at_ (e := YStep) b0_0 0).2.2.1, (List.drop (Int.toNat b0_1) (List.take (Int.toNat (IntKind.i64.wrap (b0_1 + a1))) (at_ (e := YStep) b0_0 0).2.2.2))))) (List.drop (Int.toNat 1) (List.take (Int.toNat (List.length b0_0 : Int)) b0_0)) 0))
        else none)
        (some (ret_delta_reader_take ((at_ (e := YStep) b0_0 0).1, ((at_ (e := YStep) b0_0 0).2.1, ((at_ (e := YStep) b0_0 0).2.2.1, (List.drop (Int.toNat b0_1) (List.take (Int.toNat (IntKind.i64.wrap (b0_1 + a1))) (at_ (e := YStep) b0_0 0).2.2.2))))) b0_0 (IntKind.i64.wrap (b0_1 + a1))))))
     else none)
    else none)
    (if 0 ≤ (0 : Int) ∧ (0 : Int) < (List.length b0_0 : Int) then
     ((C_delta_size F_delta_size (at_ (e := YStep) b0_0 0)).bind fun r1 =>
      (bcond (((IntKind.i64.wrap (b0_1 + a1)) : Int) == (res_delta_size_0 r1))
       (if 0 ≤ ((List.length b0_0 : Int) : Int) ∧ ((List.length b0_0 : Int) : Int) ≤ (List.length b0_0 : Int) ∧ 0 ≤ (1 : Int) ∧ (1 : Int) ≤ (List.length b0_0 : Int) then
        (some (ret_delta_reader_take ((at_ (e := YStep) b0_0 0).1, (a1, (at_ (e := YStep) b0_0 0).2.2)) (List.drop (Int.toNat 1) (List.take (Int.toNat (List.length b0_0 : Int)) b0_0)) 0))
       else none)
       (some (ret_delta_reader_take ((at_ (e := YStep) b0_0 0).1, (a1, (at_ (e := YStep) b0_0 0).2.2)) b0_0 (IntKind.i64.wrap (b0_1 + a1))))))
    else none))
  else none) := by kernel_rfl
end Go.Ev
