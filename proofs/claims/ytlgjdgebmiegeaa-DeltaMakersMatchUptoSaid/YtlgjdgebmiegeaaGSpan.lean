/- Functions, step by step. -/
import Derived.Test.YtlgjdgebmiegeaaGAxis
import Derived.Test.YtlgjdgebmiegeaaGDaxis
namespace Go.Ev
set_option linter.unusedVariables false
set_option maxRecDepth 100000
open Go.Proofs
def sig_span_Check : Sig := ⟨[.v false (.list YSpan)], [], [(false, [.fr (.int .i64)])]⟩
def C_span_Check (F : sig_span_Check.Fn) (a0 : List YSpan.den) : Option sig_span_Check.Out := F (a0, ()) ()
def ret_span_Check (v0 : Int) : sig_span_Check.Out := (((v0, ()), ()), ())
def os_span_Check : RegT := ⟨[(6, .st 0 (.st 1 (.st 2 (.st 3 (.st 5 (.st 6 (.st 7 (.st 8 (.st 9 (.st 4 (.st 10 (.st 11 (.st 12 (.nil))))))))))))))], []⟩
def hs_span_Check : List Keep := [[(0, []), (5, []), (6, []), (7, [])]]
@[reducible] noncomputable def env_span_Check : Env := []
noncomputable def L_span_Check_0 (n m1 : Nat) (x0 : List YSpan.den) (x5 : List YSpan.den) (x6 : Int) (x7 : Int) : Option sig_span_Check.Out :=
  loopAt T (env_span_Check) os_span_Check sig_span_Check Try.f122 hs_span_Check n [.sr, .sl, .sr, .bl] m1 (mk 41 [(0, .cs false [.val (.list YSpan) x0]), (5, .cs false [.val (.list YSpan) x5]), (6, .cs false [.val (.int .i64) x6]), (7, .cs false [.val (.int .i64) x7])])
theorem L_span_Check_0_step (n m1 : Nat) (x0 : List YSpan.den) (x5 : List YSpan.den) (x6 : Int) (x7 : Int) : L_span_Check_0 n (m1 + 1) x0 x5 x6 x7 =
  (bcond (decide ((x7 : Int) < x6))
   (if 0 ≤ (x7 : Int) ∧ (x7 : Int) < (List.length x5 : Int) then
    (bcond ((decide (((at_ (e := YSpan) x5 x7).1 : Int) < 0)) == false)
     (bcond ((decide (((at_ (e := YSpan) x5 x7).2 : Int) ≤ (at_ (e := YSpan) x5 x7).1)) == false)
      (bcond (decide (((at_ (e := YSpan) x5 x7).2 : Int) > 2147483647))
       (some (ret_span_Check 2))
       (bcond ((decide ((x7 : Int) > 0)) == true)
        (if 0 ≤ ((IntKind.i64.wrap (x7 - 1)) : Int) ∧ ((IntKind.i64.wrap (x7 - 1)) : Int) < (List.length x0 : Int) then
         (bcond (decide (((at_ (e := YSpan) x5 x7).1 : Int) ≤ (at_ (e := YSpan) x0 (IntKind.i64.wrap (x7 - 1))).2))
          (some (ret_span_Check 5))
          (L_span_Check_0 n m1 x0 x5 x6 (IntKind.i64.wrap (x7 + 1))))
        else none)
        (L_span_Check_0 n m1 x0 x5 x6 (IntKind.i64.wrap (x7 + 1)))))
      (some (ret_span_Check 2)))
     (some (ret_span_Check 2)))
   else none)
   (some (ret_span_Check 0))) := by kernel_rfl
noncomputable def F_span_Check : sig_span_Check.Fn := fun x y => run T (env_span_Check) os_span_Check sig_span_Check Try.f122 hs_span_Check big x y
theorem e_span_Check (a0 : List YSpan.den) : C_span_Check F_span_Check a0 =
  (L_span_Check_0 big big a0 a0 (List.length a0 : Int) 0) := by kernel_rfl
def sig_law_setError : Sig := ⟨[.v false (.list YSpan)], [], [(false, [.fr (.int .i64)])]⟩
def C_law_setError (F : sig_law_setError.Fn) (a0 : List YSpan.den) : Option sig_law_setError.Out := F (a0, ()) ()
def ret_law_setError (v0 : Int) : sig_law_setError.Out := (((v0, ()), ()), ())
def os_law_setError : RegT := ⟨[(4, .st 0 (.st 1 (.st 2 (.st 3 (.st 4 (.st 5 (.st 6 (.st 7 (.st 8 (.st 9 (.st 10 (.st 12 (.st 13 (.st 14 (.st 15 (.st 11 (.st 16 (.st 17 (.st 18 (.st 19 (.st 20 (.st 21 (.st 22 (.st 23 (.st 24 (.st 25 (.st 26 (.nil)))))))))))))))))))))))))))), (6, .st 0 (.st 1 (.st 2 (.st 3 (.st 4 (.st 5 (.st 6 (.st 8 (.st 9 (.st 10 (.st 11 (.st 12 (.st 7 (.st 13 (.st 14 (.st 15 (.nil)))))))))))))))))], []⟩
def hs_law_setError : List Keep := [[(0, []), (5, []), (6, [])]]
@[reducible] noncomputable def env_law_setError : Env := []
noncomputable def L_law_setError_0 (n m1 : Nat) (x0 : List YSpan.den) (x5 : Int) (x6 : Int) : Option sig_law_setError.Out :=
  loopAt T (env_law_setError) os_law_setError sig_law_setError Try.f61 hs_law_setError n [.sr, .sl, .sr, .bl] m1 (mk 53 [(0, .cs false [.val (.list YSpan) x0]), (5, .cs false [.val (.int .i64) x5]), (6, .cs false [.val (.int .i64) x6])])
theorem L_law_setError_0_step (n m1 : Nat) (x0 : List YSpan.den) (x5 : Int) (x6 : Int) : L_law_setError_0 n (m1 + 1) x0 x5 x6 =
  (bcond (decide ((x6 : Int) < x5))
   (if 0 ≤ (x6 : Int) ∧ (x6 : Int) < (List.length x0 : Int) then
    (bcond ((decide (((at_ (e := YSpan) x0 x6).1 : Int) < 0)) == false)
     (if 0 ≤ (x6 : Int) ∧ (x6 : Int) < (List.length x0 : Int) then
      (if 0 ≤ (x6 : Int) ∧ (x6 : Int) < (List.length x0 : Int) then
       (bcond ((decide (((at_ (e := YSpan) x0 x6).2 : Int) ≤ (at_ (e := YSpan) x0 x6).1)) == false)
        (if 0 ≤ (x6 : Int) ∧ (x6 : Int) < (List.length x0 : Int) then
         (bcond (decide (((at_ (e := YSpan) x0 x6).2 : Int) > 2147483647))
          (some (ret_law_setError 2))
          (bcond ((decide ((x6 : Int) > 0)) == true)
           (if 0 ≤ (x6 : Int) ∧ (x6 : Int) < (List.length x0 : Int) then
            (if 0 ≤ ((IntKind.i64.wrap (x6 - 1)) : Int) ∧ ((IntKind.i64.wrap (x6 - 1)) : Int) < (List.length x0 : Int) then
             (bcond (decide (((at_ (e := YSpan) x0 x6).1 : Int) ≤ (at_ (e := YSpan) x0 (IntKind.i64.wrap (x6 - 1))).2))
              (some (ret_law_setError 5))
              (L_law_setError_0 n m1 x0 x5 (IntKind.i64.wrap (x6 + 1))))
            else none)
           else none)
           (L_law_setError_0 n m1 x0 x5 (IntKind.i64.wrap (x6 + 1)))))
        else none)
        (some (ret_law_setError 2)))
      else none)
     else none)
     (some (ret_law_setError 2)))
   else none)
   (some (ret_law_setError 0))) := by kernel_rfl
noncomputable def F_law_setError : sig_law_setError.Fn := fun x y => run T (env_law_setError) os_law_setError sig_law_setError Try.f61 hs_law_setError big x y
theorem e_law_setError (a0 : List YSpan.den) : C_law_setError F_law_setError a0 =
  (L_law_setError_0 big big a0 (List.length a0 : Int) 0) := by kernel_rfl
end Go.Ev
