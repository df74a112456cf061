/- Functions, step by step. -/
import Derived.Test.YtlgjdgebmiegeaaGDelta
namespace Go.Ev
set_option linter.unusedVariables false
set_option maxRecDepth 100000
open Go.Proofs
def sig_delta_writer_flush : Sig := ⟨[.p 0], [[.ow 30 YStep, .ow 113 YElem, .fr (.int .i64)]], []⟩
def os_delta_writer_flush : RegT := ⟨[(1, .st 0 (.st 1 (.st 2 (.st 3 (.st 5 (.st 6 (.st 7 (.st 8 (.st 9 (.st 4 (.st 10 (.st 11 (.st 12 (.st 13 (.st 14 (.nil)))))))))))))))), (3, .st 0 (.st 1 (.st 2 (.st 3 (.st 5 (.st 6 (.st 7 (.st 8 (.st 9 (.st 4 (.st 10 (.st 11 (.st 12 (.st 13 (.st 14 (.nil))))))))))))))))], []⟩
def hs_delta_writer_flush : List Keep := []
@[reducible] noncomputable def env_delta_writer_flush : Env := []
noncomputable def F_delta_writer_flush : sig_delta_writer_flush.Fn := fun x y => run T (env_delta_writer_flush) os_delta_writer_flush sig_delta_writer_flush Try.f133 hs_delta_writer_flush big x y
def sig_delta_writer_done : Sig := ⟨[.p 0], [[.oo 30 YStep, .ow 113 YElem, .fr (.int .i64)]], [(false, [.fr (.list YStep)]), (false, [.fr (.int .i64)])]⟩
def C_delta_writer_done (F : sig_delta_writer_done.Fn) (b0_0 : List YStep.den) (b0_1 : List YElem.den) (b0_2 : Int) : Option sig_delta_writer_done.Out := F () (((some b0_0), b0_1, b0_2, ()), ())
def res_delta_writer_done_0 (r : sig_delta_writer_done.Out) : List YStep.den := r.1.1.1
def res_delta_writer_done_1 (r : sig_delta_writer_done.Out) : Int := r.1.2.1.1
def os_delta_writer_done : RegT := ⟨[], []⟩
def hs_delta_writer_done : List Keep := []
@[reducible] noncomputable def env_delta_writer_done : Env := [(133, ⟨sig_delta_writer_flush, F_delta_writer_flush⟩), (94, ⟨sig_delta_Check, F_delta_Check⟩)]
noncomputable def F_delta_writer_done : sig_delta_writer_done.Fn := fun x y => run T (env_delta_writer_done) os_delta_writer_done sig_delta_writer_done Try.f82 hs_delta_writer_done big x y
end Go.Ev
