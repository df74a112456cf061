/- Functions, step by step. -/
import Derived.Test.YteojfhgljknmiaaDoorGDocK
namespace Go.Ev
set_option linter.unusedVariables false
set_option maxRecDepth 100000
open Go.Proofs
def sig_R_Find : Sig := ⟨[.v true YDoc, .v false (.int .i64)], [], [(false, [.fr (.int .i64)])]⟩
def C_R_Find (F : sig_R_Find.Fn) (a0 : List YNode.den) (a1 : Int) : Option sig_R_Find.Out := F (a0, a1, ()) ()
def ret_R_Find (v0 : Int) : sig_R_Find.Out := (((v0, ()), ()), ())
def res_R_Find_0 (r : sig_R_Find.Out) : Int := r.1.1.1
@[simp] theorem res_R_Find_0_ret (v0 : Int) : res_R_Find_0 (ret_R_Find v0) = v0 := rfl
def os_R_Find : RegT := ⟨[], [], false⟩
def hs_R_Find : List Keep := [[(1, []), (2, []), (8, []), (9, [])]]
@[reducible] noncomputable def env_R_Find : Env := []
noncomputable def L_R_Find_0 (n m1 : Nat) (x1 : Int) (x2 : List YNode.den) (x8 : Int) (x9 : Int) : Option sig_R_Find.Out :=
  loopAt T (env_R_Find) os_R_Find sig_R_Find Tryd.f32 hs_R_Find n [.sr, .sl, .sr, .bl] m1 (mk 22 [(1, .cs false [.val (.int .i64) x1]), (2, .box [.val YDoc x2]), (8, .cs false [.val (.int .i64) x8]), (9, .cs false [.val (.int .i64) x9])])
theorem L_R_Find_0_step (n m1 : Nat) (x1 : Int) (x2 : List YNode.den) (x8 : Int) (x9 : Int) : L_R_Find_0 n (m1 + 1) x1 x2 x8 x9 =
  (bcond (decide ((x9 : Int) < x8))
   (if 0 ≤ (x9 : Int) ∧ (x9 : Int) < (List.length x2 : Int) then
    (bcond (((at_ (e := YNode) x2 x9).1 : Int) == x1)
     (some (ret_R_Find x9))
     (L_R_Find_0 n m1 x1 x2 x8 (IntKind.i64.wrap (x9 + 1))))
   else none)
   (some (ret_R_Find (-1)))) := by kernel_rfl
theorem ok_R_Find : fnOk os_R_Find sig_R_Find Tryd.f32 = true := by kernel_rfl
theorem fn_R_Find : P.funcs[32]? = some Tryd.f32 := by kernel_rfl
noncomputable def F_R_Find : sig_R_Find.Fn := fun x y => run T (env_R_Find) os_R_Find sig_R_Find Tryd.f32 hs_R_Find big x y
theorem S_R_Find : Sound P 32 ⟨sig_R_Find, F_R_Find⟩ := sound_of (os := os_R_Find) (hs := hs_R_Find) (env_nil) fn_R_Find ok_R_Find (fun x y out h => ⟨big, h⟩)
theorem e_R_Find (a0 : List YNode.den) (a1 : Int) : C_R_Find F_R_Find a0 a1 =
  (L_R_Find_0 big big a1 a0 (List.length a0 : Int) 0) := by kernel_rfl
end Go.Ev
