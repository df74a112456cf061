/- Functions, step by step. -/
import Derived.Test.YtlgjdgebmiegeaaGAct
namespace Go.Ev
set_option linter.unusedVariables false
set_option maxRecDepth 100000
open Go.Proofs
def sig_delta_reader_kind : Sig := ⟨[.p 0], [[.fr (.list YStep), .fr (.int .i64)]], [(false, [.fr (.int .i64)])]⟩
def C_delta_reader_kind (F : sig_delta_reader_kind.Fn) (b0_0 : List YStep.den) (b0_1 : Int) : Option sig_delta_reader_kind.Out := F () ((b0_0, b0_1, ()), ())
def ret_delta_reader_kind (v0 : Int) (v1 : List YStep.den) (v2 : Int) : sig_delta_reader_kind.Out := (((v0, ()), ()), ((v1, v2, ()), ()))
def res_delta_reader_kind_0 (r : sig_delta_reader_kind.Out) : Int := r.1.1.1
@[simp] theorem res_delta_reader_kind_0_ret (v0 : Int) (v1 : List YStep.den) (v2 : Int) : res_delta_reader_kind_0 (ret_delta_reader_kind v0 v1 v2) = v0 := rfl
def res_delta_reader_kind_1 (r : sig_delta_reader_kind.Out) : List YStep.den := r.2.1.1
@[simp] theorem res_delta_reader_kind_1_ret (v0 : Int) (v1 : List YStep.den) (v2 : Int) : res_delta_reader_kind_1 (ret_delta_reader_kind v0 v1 v2) = v1 := rfl
def res_delta_reader_kind_2 (r : sig_delta_reader_kind.Out) : Int := r.2.1.2.1
@[simp] theorem res_delta_reader_kind_2_ret (v0 : Int) (v1 : List YStep.den) (v2 : Int) : res_delta_reader_kind_2 (ret_delta_reader_kind v0 v1 v2) = v2 := rfl
def os_delta_reader_kind : RegT := ⟨[], [], false⟩
def hs_delta_reader_kind : List Keep := []
@[reducible] noncomputable def env_delta_reader_kind : Env := []
noncomputable def F_delta_reader_kind : sig_delta_reader_kind.Fn := fun x y => run T (env_delta_reader_kind) os_delta_reader_kind sig_delta_reader_kind Try.f98 hs_delta_reader_kind big x y
theorem e_delta_reader_kind (b0_0 : List YStep.den) (b0_1 : Int) : C_delta_reader_kind F_delta_reader_kind b0_0 b0_1 =
  (bcond (((List.length b0_0 : Int) : Int) == 0)
   (some (ret_delta_reader_kind (-1) b0_0 b0_1))
   (if 0 ≤ (0 : Int) ∧ (0 : Int) < (List.length b0_0 : Int) then
    (some (ret_delta_reader_kind (at_ (e := YStep) b0_0 0).1 b0_0 b0_1))
   else none)) := by kernel_rfl
def sig_delta_reader_left : Sig := ⟨[.p 0], [[.fr (.list YStep), .fr (.int .i64)]], [(false, [.fr (.int .i64)])]⟩
def C_delta_reader_left (F : sig_delta_reader_left.Fn) (b0_0 : List YStep.den) (b0_1 : Int) : Option sig_delta_reader_left.Out := F () ((b0_0, b0_1, ()), ())
def ret_delta_reader_left (v0 : Int) (v1 : List YStep.den) (v2 : Int) : sig_delta_reader_left.Out := (((v0, ()), ()), ((v1, v2, ()), ()))
def res_delta_reader_left_0 (r : sig_delta_reader_left.Out) : Int := r.1.1.1
@[simp] theorem res_delta_reader_left_0_ret (v0 : Int) (v1 : List YStep.den) (v2 : Int) : res_delta_reader_left_0 (ret_delta_reader_left v0 v1 v2) = v0 := rfl
def res_delta_reader_left_1 (r : sig_delta_reader_left.Out) : List YStep.den := r.2.1.1
@[simp] theorem res_delta_reader_left_1_ret (v0 : Int) (v1 : List YStep.den) (v2 : Int) : res_delta_reader_left_1 (ret_delta_reader_left v0 v1 v2) = v1 := rfl
def res_delta_reader_left_2 (r : sig_delta_reader_left.Out) : Int := r.2.1.2.1
@[simp] theorem res_delta_reader_left_2_ret (v0 : Int) (v1 : List YStep.den) (v2 : Int) : res_delta_reader_left_2 (ret_delta_reader_left v0 v1 v2) = v2 := rfl
def os_delta_reader_left : RegT := ⟨[(1, .st 0 (.st 1 (.st 2 (.st 7 (.st 8 (.st 9 (.st 3 (.st 4 (.st 5 (.grp [10, 6] (.st 11 (.st 12 (.nil)))))))))))))], [], false⟩
def hs_delta_reader_left : List Keep := []
@[reducible] noncomputable def env_delta_reader_left : Env := [(95, ⟨sig_delta_size, F_delta_size⟩)]
noncomputable def F_delta_reader_left : sig_delta_reader_left.Fn := fun x y => run T (env_delta_reader_left) os_delta_reader_left sig_delta_reader_left Try.f100 hs_delta_reader_left big x y
theorem e_delta_reader_left (b0_0 : List YStep.den) (b0_1 : Int) : C_delta_reader_left F_delta_reader_left b0_0 b0_1 =
  (if 0 ≤ (0 : Int) ∧ (0 : Int) < (List.length b0_0 : Int) then
   ((C_delta_size F_delta_size (at_ (e := YStep) b0_0 0)).bind fun r1 =>
    (some (ret_delta_reader_left (IntKind.i64.wrap ((res_delta_size_0 r1) - b0_1)) b0_0 b0_1)))
  else none) := by kernel_rfl
def sig_delta_reader_take : Sig := ⟨[.p 0, .v false (.int .i64)], [[.fr (.list YStep), .fr (.int .i64)]], [(true, [.fr YStep])]⟩
def C_delta_reader_take (F : sig_delta_reader_take.Fn) (a1 : Int) (b0_0 : List YStep.den) (b0_1 : Int) : Option sig_delta_reader_take.Out := F (a1, ()) ((b0_0, b0_1, ()), ())
def ret_delta_reader_take (v0 : YStep.den) (v1 : List YStep.den) (v2 : Int) : sig_delta_reader_take.Out := (((v0, ()), ()), ((v1, v2, ()), ()))
def res_delta_reader_take_0 (r : sig_delta_reader_take.Out) : YStep.den := r.1.1.1
@[simp] theorem res_delta_reader_take_0_ret (v0 : YStep.den) (v1 : List YStep.den) (v2 : Int) : res_delta_reader_take_0 (ret_delta_reader_take v0 v1 v2) = v0 := rfl
def res_delta_reader_take_1 (r : sig_delta_reader_take.Out) : List YStep.den := r.2.1.1
@[simp] theorem res_delta_reader_take_1_ret (v0 : YStep.den) (v1 : List YStep.den) (v2 : Int) : res_delta_reader_take_1 (ret_delta_reader_take v0 v1 v2) = v1 := rfl
def res_delta_reader_take_2 (r : sig_delta_reader_take.Out) : Int := r.2.1.2.1
@[simp] theorem res_delta_reader_take_2_ret (v0 : YStep.den) (v1 : List YStep.den) (v2 : Int) : res_delta_reader_take_2 (ret_delta_reader_take v0 v1 v2) = v2 := rfl
def os_delta_reader_take : RegT := ⟨[(3, .st 0 (.st 2 (.st 3 (.st 4 (.st 6 (.st 7 (.st 8 (.st 10 (.st 9 (.st 11 (.st 1 (.st 5 (.st 12 (.st 13 (.st 14 (.nil)))))))))))))))), (6, .st 0 (.st 1 (.st 2 (.st 4 (.st 5 (.st 6 (.st 7 (.st 8 (.st 9 (.grp [3, 10] (.st 11 (.nil))))))))))))], [], false⟩
def hs_delta_reader_take : List Keep := []
@[reducible] noncomputable def env_delta_reader_take : Env := [(95, ⟨sig_delta_size, F_delta_size⟩)]
noncomputable def F_delta_reader_take : sig_delta_reader_take.Fn := fun x y => run T (env_delta_reader_take) os_delta_reader_take sig_delta_reader_take Try.f99 hs_delta_reader_take big x y
theorem e_delta_reader_take (a1 : Int) (b0_0 : List YStep.den) (b0_1 : Int) : C_delta_reader_take F_delta_reader_take a1 b0_0 b0_1 =
  (if 0 ≤ (0 : Int) ∧ (0 : Int) < (List.length b0_0 : Int) then
   (bcond (((at_ (e := YStep) b0_0 0).1 : Int) == 1)
    (if 0 ≤ ((IntKind.i64.wrap (b0_1 + a1)) : Int) ∧ ((IntKind.i64.wrap (b0_1 + a1)) : Int) ≤ (List.length (at_ (e := YStep) b0_0 0).2.2.2 : Int) ∧ 0 ≤ (b0_1 : Int) ∧ (b0_1 : Int) ≤ (IntKind.i64.wrap (b0_1 + a1)) then
     (if 0 ≤ (0 : Int) ∧ (0 : Int) < (List.length b0_0 : Int) then
      ((C_delta_size F_delta_size (at_ (e := YStep) b0_0 0)).bind fun r1 =>
       (bcond (((IntKind.i64.wrap (b0_1 + a1)) : Int) == (res_delta_size_0 r1))
        (if 0 ≤ ((List.length b0_0 : Int) : Int) ∧ ((List.length b0_0 : Int) : Int) ≤ (List.length b0_0 : Int) ∧ 0 ≤ (1 : Int) ∧ (1 : Int) ≤ (List.length b0_0 : Int) then
         (some (ret_delta_reader_take ((at_ (e := YStep) b0_0 0).1, ((at_ (e := YStep) b0_0 0).2.1, ((at_ (e := YStep) b0_0 0).2.2.1, (List.drop (Int.toNat b0_1) (List.take (Int.toNat (IntKind.i64.wrap (b0_1 + a1))) (at_ (e := YStep) b0_0 0).2.2.2))))) (List.drop (Int.toNat 1) (List.take (Int.toNat (List.length b0_0 : Int)) b0_0)) 0))
        else none)
        (some (ret_delta_reader_take ((at_ (e := YStep) b0_0 0).1, ((at_ (e := YStep) b0_0 0).2.1, ((at_ (e := YStep) b0_0 0).2.2.1, (List.drop (Int.toNat b0_1) (List.take (Int.toNat (IntKind.i64.wrap (b0_1 + a1))) (at_ (e := YStep) b0_0 0).2.2.2))))) b0_0 (IntKind.i64.wrap (b0_1 + a1))))))
     else none)
    else none)
    (if 0 ≤ (0 : Int) ∧ (0 : Int) < (List.length b0_0 : Int) then
     ((C_delta_size F_delta_size (at_ (e := YStep) b0_0 0)).bind fun r1 =>
      (bcond (((IntKind.i64.wrap (b0_1 + a1)) : Int) == (res_delta_size_0 r1))
       (if 0 ≤ ((List.length b0_0 : Int) : Int) ∧ ((List.length b0_0 : Int) : Int) ≤ (List.length b0_0 : Int) ∧ 0 ≤ (1 : Int) ∧ (1 : Int) ≤ (List.length b0_0 : Int) then
        (some (ret_delta_reader_take ((at_ (e := YStep) b0_0 0).1, (a1, (at_ (e := YStep) b0_0 0).2.2)) (List.drop (Int.toNat 1) (List.take (Int.toNat (List.length b0_0 : Int)) b0_0)) 0))
       else none)
       (some (ret_delta_reader_take ((at_ (e := YStep) b0_0 0).1, (a1, (at_ (e := YStep) b0_0 0).2.2)) b0_0 (IntKind.i64.wrap (b0_1 + a1))))))
    else none))
  else none) := by kernel_rfl
end Go.Ev
