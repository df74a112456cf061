/- Functions, step by step. -/
import Derived.Test.YteojfhgljknmiaaDoorGGridK
namespace Go.Ev
set_option linter.unusedVariables false
set_option maxRecDepth 100000
open Go.Proofs
def sig_replica_Place : Sig := ⟨[.v false .str], [], [(false, [.fr .bool])]⟩
def os_replica_Place : RegT := ⟨[], [], false⟩
def hs_replica_Place : List Keep := [[(0, []), (20, []), (21, [])]]
@[reducible] noncomputable def env_replica_Place : Env := []
theorem ok_replica_Place : fnOk os_replica_Place sig_replica_Place Tryd.f125 = true := by kernel_rfl
theorem fn_replica_Place : P.funcs[125]? = some Tryd.f125 := by kernel_rfl
noncomputable def F_replica_Place : sig_replica_Place.Fn := fun x y => run T (env_replica_Place) os_replica_Place sig_replica_Place Tryd.f125 hs_replica_Place big x y
theorem S_replica_Place : Sound P 125 ⟨sig_replica_Place, F_replica_Place⟩ := sound_of (os := os_replica_Place) (hs := hs_replica_Place) (env_nil) fn_replica_Place ok_replica_Place (fun x y out h => ⟨big, h⟩)
def sig_replica_op : Sig := ⟨[.v true YDrawOp], [], [(false, [.fr (.int .i64)])]⟩
def os_replica_op : RegT := ⟨[], [], false⟩
def hs_replica_op : List Keep := []
@[reducible] noncomputable def env_replica_op : Env := [(125, ⟨sig_replica_Place, F_replica_Place⟩), (114, ⟨sig_attr_Name, F_attr_Name⟩), (115, ⟨sig_attr_Value, F_attr_Value⟩)]
theorem ok_replica_op : fnOk os_replica_op sig_replica_op Tryd.f107 = true := by kernel_rfl
theorem fn_replica_op : P.funcs[107]? = some Tryd.f107 := by kernel_rfl
noncomputable def F_replica_op : sig_replica_op.Fn := fun x y => run T (env_replica_op) os_replica_op sig_replica_op Tryd.f107 hs_replica_op big x y
theorem S_replica_op : Sound P 107 ⟨sig_replica_op, F_replica_op⟩ := sound_of (os := os_replica_op) (hs := hs_replica_op) (env_cons S_replica_Place (env_cons S_attr_Name (env_cons S_attr_Value (env_nil)))) fn_replica_op ok_replica_op (fun x y out h => ⟨big, h⟩)
def sig_replica_stamps : Sig := ⟨[.v true YDrawOp, .v true YDrawOp], [], [(false, [.fr (.int .i64)])]⟩
def os_replica_stamps : RegT := ⟨[(1, .st 0 (.st 2 (.st 5 (.st 7 (.st 1 (.st 3 (.grp [6, 8, 4] (.st 9 (.st 10 (.st 11 (.st 12 (.nil))))))))))))], [], false⟩
def hs_replica_stamps : List Keep := []
@[reducible] noncomputable def env_replica_stamps : Env := [(127, ⟨sig_cmp_Compare_int, F_cmp_Compare_int⟩), (126, ⟨sig_cmp_Or_int, F_cmp_Or_int⟩)]
theorem ok_replica_stamps : fnOk os_replica_stamps sig_replica_stamps Tryd.f108 = true := by kernel_rfl
theorem fn_replica_stamps : P.funcs[108]? = some Tryd.f108 := by kernel_rfl
noncomputable def F_replica_stamps : sig_replica_stamps.Fn := fun x y => run T (env_replica_stamps) os_replica_stamps sig_replica_stamps Tryd.f108 hs_replica_stamps big x y
theorem S_replica_stamps : Sound P 108 ⟨sig_replica_stamps, F_replica_stamps⟩ := sound_of (os := os_replica_stamps) (hs := hs_replica_stamps) (env_cons S_cmp_Compare_int (env_cons S_cmp_Or_int (env_nil))) fn_replica_stamps ok_replica_stamps (fun x y out h => ⟨big, h⟩)
def sig_replica_Check : Sig := ⟨[.v false (.list YDrawOp)], [], [(false, [.fr (.int .i64)])]⟩
def C_replica_Check (F : sig_replica_Check.Fn) (a0 : List YDrawOp.den) : Option sig_replica_Check.Out := F (a0, ()) ()
def res_replica_Check_0 (r : sig_replica_Check.Out) : Int := r.1.1.1
def os_replica_Check : RegT := ⟨[(7, .st 0 (.st 1 (.st 2 (.st 3 (.st 4 (.st 5 (.st 6 (.st 7 (.st 8 (.st 9 (.st 10 (.st 11 (.nil)))))))))))))], [], false⟩
def hs_replica_Check : List Keep := [[(0, []), (6, []), (7, []), (8, [])]]
@[reducible] noncomputable def env_replica_Check : Env := [(107, ⟨sig_replica_op, F_replica_op⟩), (108, ⟨sig_replica_stamps, F_replica_stamps⟩)]
theorem ok_replica_Check : fnOk os_replica_Check sig_replica_Check Tryd.f79 = true := by kernel_rfl
theorem fn_replica_Check : P.funcs[79]? = some Tryd.f79 := by kernel_rfl
noncomputable def F_replica_Check : sig_replica_Check.Fn := fun x y => run T (env_replica_Check) os_replica_Check sig_replica_Check Tryd.f79 hs_replica_Check big x y
theorem S_replica_Check : Sound P 79 ⟨sig_replica_Check, F_replica_Check⟩ := sound_of (os := os_replica_Check) (hs := hs_replica_Check) (env_cons S_replica_op (env_cons S_replica_stamps (env_nil))) fn_replica_Check ok_replica_Check (fun x y out h => ⟨big, h⟩)
end Go.Ev
