/- Functions, step by step. -/
import Derived.Test.YtlgjdgebmiegeaaGAct
namespace Go.Ev
set_option linter.unusedVariables false
set_option maxRecDepth 100000
open Go.Proofs
def sig_R_Done : Sig := ⟨[.v false (.list YElem), .v true YAct], [], [(false, [.fr (.list YElem)])]⟩
def C_R_Done (F : sig_R_Done.Fn) (a0 : List YElem.den) (a1 : YAct.den) : Option sig_R_Done.Out := F (a0, a1, ()) ()
def ret_R_Done (v0 : List YElem.den) : sig_R_Done.Out := (((v0, ()), ()), ())
def res_R_Done_0 (r : sig_R_Done.Out) : List YElem.den := r.1.1.1
@[simp] theorem res_R_Done_0_ret (v0 : List YElem.den) : res_R_Done_0 (ret_R_Done v0) = v0 := rfl
def os_R_Done : RegT := ⟨[(8, .st 0 (.st 2 (.st 4 (.st 3 (.st 5 (.st 1 (.st 6 (.st 7 (.st 8 (.st 9 (.nil)))))))))))], [], false⟩
def hs_R_Done : List Keep := [[(0, []), (3, []), (5, [(0, 113, YElem)]), (9, []), (10, [])]]
@[reducible] noncomputable def env_R_Done : Env := [(90, ⟨sig_R_Changed, F_R_Changed⟩)]
noncomputable def L_R_Done_0 (n m1 : Nat) (x0 : List YElem.den) (x3_0 : List (List YElem.den)) (x3_1 : List (Bool)) (x3_2 : List (List YAttr.den)) (x5 : List YElem.den) (x9 : Int) (x10 : Int) : Option sig_R_Done.Out :=
  loopAt T (env_R_Done) os_R_Done sig_R_Done Try.f26 hs_R_Done n [.sr, .sr, .sl, .sr, .bl] m1 (mk 52 [(0, .cs false [.val (.list YElem) x0]), (3, .box [.val (.list (.list YElem)) x3_0, .val (.list .bool) x3_1, .val (.list (.list YAttr)) x3_2]), (5, .cs false [.own 113 YElem x5]), (9, .cs false [.val (.int .i64) x9]), (10, .cs false [.val (.int .i64) x10])])
theorem L_R_Done_0_step (n m1 : Nat) (x0 : List YElem.den) (x3_0 : List (List YElem.den)) (x3_1 : List (Bool)) (x3_2 : List (List YAttr.den)) (x5 : List YElem.den) (x9 : Int) (x10 : Int) : L_R_Done_0 n (m1 + 1) x0 x3_0 x3_1 x3_2 x5 x9 x10 =
  (bcond (decide ((x10 : Int) < x9))
   (if 0 ≤ (x10 : Int) ∧ (x10 : Int) < (List.length x3_0 : Int) then
    (if (List.length (x5 : List YElem.den) + List.length ((at_ (e := (.list YElem)) x3_0 x10) : List YElem.den)) * 40 ≤ 140737488355328 then
     (if 0 ≤ (x10 : Int) ∧ (x10 : Int) < (List.length x3_1 : Int) then
      (bcond (!(at_ (e := .bool) x3_1 x10))
       (if 0 ≤ (x10 : Int) ∧ (x10 : Int) < (List.length x0 : Int) then
        (if 0 ≤ (x10 : Int) ∧ (x10 : Int) < (List.length x3_2 : Int) then
         ((C_R_Changed F_R_Changed (at_ (e := YElem) x0 x10).2.2 (at_ (e := (.list YAttr)) x3_2 x10)).bind fun r1 =>
          (if (List.length ((x5 ++ (at_ (e := (.list YElem)) x3_0 x10)) : List YElem.den) + List.length ([((at_ (e := YElem) x0 x10).1, ((at_ (e := YElem) x0 x10).2.1, (res_R_Changed_0 r1)))] : List YElem.den)) * 40 ≤ 140737488355328 then
           (L_R_Done_0 n m1 x0 x3_0 x3_1 x3_2 ((x5 ++ (at_ (e := (.list YElem)) x3_0 x10)) ++ [((at_ (e := YElem) x0 x10).1, ((at_ (e := YElem) x0 x10).2.1, (res_R_Changed_0 r1)))]) x9 (IntKind.i64.wrap (x10 + 1)))
          else none))
        else none)
       else none)
       (L_R_Done_0 n m1 x0 x3_0 x3_1 x3_2 (x5 ++ (at_ (e := (.list YElem)) x3_0 x10)) x9 (IntKind.i64.wrap (x10 + 1))))
     else none)
    else none)
   else none)
   (if 0 ≤ ((List.length x0 : Int) : Int) ∧ ((List.length x0 : Int) : Int) < (List.length x3_0 : Int) then
    (if (List.length (x5 : List YElem.den) + List.length ((at_ (e := (.list YElem)) x3_0 (List.length x0 : Int)) : List YElem.den)) * 40 ≤ 140737488355328 then
     (some (ret_R_Done (x5 ++ (at_ (e := (.list YElem)) x3_0 (List.length x0 : Int)))))
    else none)
   else none)) := by kernel_rfl
theorem ok_R_Done : fnOk os_R_Done sig_R_Done Try.f26 = true := by kernel_rfl
theorem fn_R_Done : P.funcs[26]? = some Try.f26 := by kernel_rfl
noncomputable def F_R_Done : sig_R_Done.Fn := fun x y => run T (env_R_Done) os_R_Done sig_R_Done Try.f26 hs_R_Done big x y
theorem S_R_Done : Sound P 26 ⟨sig_R_Done, F_R_Done⟩ := sound_of (os := os_R_Done) (hs := hs_R_Done) (env_cons S_R_Changed (env_nil)) fn_R_Done ok_R_Done (fun x y out h => ⟨big, h⟩)
theorem e_R_Done (a0 : List YElem.den) (a1 : YAct.den) : C_R_Done F_R_Done a0 a1 =
  (L_R_Done_0 big big a0 a1.1 a1.2.1 a1.2.2 [] (List.length a0 : Int) 0) := by kernel_rfl
end Go.Ev
