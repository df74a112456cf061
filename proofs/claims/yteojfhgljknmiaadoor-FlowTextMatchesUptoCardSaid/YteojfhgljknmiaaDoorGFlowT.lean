/- Functions, step by step. -/
import Derived.Test.YteojfhgljknmiaaDoorGFlows
namespace Go.Ev
set_option linter.unusedVariables false
set_option maxRecDepth 100000
open Go.Proofs
def sig_flow_Text : Sig := ⟨[.v false (.list YElem)], [], [(false, [.fr .str]), (false, [.fr (.int .i64)])]⟩
def C_flow_Text (F : sig_flow_Text.Fn) (a0 : List YElem.den) : Option sig_flow_Text.Out := F (a0, ()) ()
def ret_flow_Text (v0 : List UInt8) (v1 : Int) : sig_flow_Text.Out := (((v0, ()), (v1, ()), ()), ())
def res_flow_Text_0 (r : sig_flow_Text.Out) : List UInt8 := r.1.1.1
@[simp] theorem res_flow_Text_0_ret (v0 : List UInt8) (v1 : Int) : res_flow_Text_0 (ret_flow_Text v0 v1) = v0 := rfl
def res_flow_Text_1 (r : sig_flow_Text.Out) : Int := r.1.2.1.1
@[simp] theorem res_flow_Text_1_ret (v0 : List UInt8) (v1 : Int) : res_flow_Text_1 (ret_flow_Text v0 v1) = v1 := rfl
def os_flow_Text : RegT := ⟨[], [], false⟩
def hs_flow_Text : List Keep := [[(5, [(0, 5, (.int .u8))]), (14, []), (15, []), (16, [])]]
@[reducible] noncomputable def env_flow_Text : Env := [(15, ⟨sig_flow_CheckPart, F_flow_CheckPart⟩), (51, ⟨sig_unicode_utf8_AppendRune, F_unicode_utf8_AppendRune⟩)]
noncomputable def L_flow_Text_0 (n m1 : Nat) (x5 : List (Int)) (x14 : List YElem.den) (x15 : Int) (x16 : Int) : Option sig_flow_Text.Out :=
  loopAt T (env_flow_Text) os_flow_Text sig_flow_Text Tryd.f22 hs_flow_Text n [.sr, .sr, .sr, .sl, .sr, .bl] m1 (mk 32 [(5, .cs false [.own 5 (.int .u8) x5]), (14, .cs false [.val (.list YElem) x14]), (15, .cs false [.val (.int .i64) x15]), (16, .cs false [.val (.int .i64) x16])])
theorem L_flow_Text_0_step (n m1 : Nat) (x5 : List (Int)) (x14 : List YElem.den) (x15 : Int) (x16 : Int) : L_flow_Text_0 n (m1 + 1) x5 x14 x15 x16 =
  (bcond (decide ((x16 : Int) < x15))
   (if 0 ≤ (x16 : Int) ∧ (x16 : Int) < (List.length x14 : Int) then
    (bcond (((at_ (e := YElem) x14 x16).2.1 : Int) != 0)
     ((C_unicode_utf8_AppendRune F_unicode_utf8_AppendRune x5 (IntKind.i32.wrap 65532)).bind fun r1 =>
      (L_flow_Text_0 n m1 (res_unicode_utf8_AppendRune_0 r1) x14 x15 (IntKind.i64.wrap (x16 + 1))))
     ((C_unicode_utf8_AppendRune F_unicode_utf8_AppendRune x5 (IntKind.i32.wrap (at_ (e := YElem) x14 x16).1)).bind fun r1 =>
      (L_flow_Text_0 n m1 (res_unicode_utf8_AppendRune_0 r1) x14 x15 (IntKind.i64.wrap (x16 + 1)))))
   else none)
   (some (ret_flow_Text (List.map byte x5) 0))) := by kernel_rfl
theorem ok_flow_Text : fnOk os_flow_Text sig_flow_Text Tryd.f22 = true := by kernel_rfl
theorem fn_flow_Text : P.funcs[22]? = some Tryd.f22 := by kernel_rfl
noncomputable def F_flow_Text : sig_flow_Text.Fn := fun x y => run T (env_flow_Text) os_flow_Text sig_flow_Text Tryd.f22 hs_flow_Text big x y
theorem S_flow_Text : Sound P 22 ⟨sig_flow_Text, F_flow_Text⟩ := sound_of (os := os_flow_Text) (hs := hs_flow_Text) (env_cons S_flow_CheckPart (env_cons S_unicode_utf8_AppendRune (env_nil))) fn_flow_Text ok_flow_Text (fun x y out h => ⟨big, h⟩)
theorem e_flow_Text (a0 : List YElem.den) : C_flow_Text F_flow_Text a0 =
  ((C_flow_CheckPart F_flow_CheckPart a0).bind fun r1 =>
   (bcond (((res_flow_CheckPart_0 r1) : Int) != 0)
    (some (ret_flow_Text [] (res_flow_CheckPart_0 r1)))
    (L_flow_Text_0 big big [] a0 (List.length a0 : Int) 0))) := by kernel_rfl
def sig_flow_Slice : Sig := ⟨[.v false (.list YElem), .v false (.int .i64), .v false (.int .i64)], [], [(false, [.fr (.list YElem)]), (false, [.fr (.int .i64)])]⟩
def C_flow_Slice (F : sig_flow_Slice.Fn) (a0 : List YElem.den) (a1 : Int) (a2 : Int) : Option sig_flow_Slice.Out := F (a0, a1, a2, ()) ()
def ret_flow_Slice (v0 : List YElem.den) (v1 : Int) : sig_flow_Slice.Out := (((v0, ()), (v1, ()), ()), ())
def res_flow_Slice_0 (r : sig_flow_Slice.Out) : List YElem.den := r.1.1.1
@[simp] theorem res_flow_Slice_0_ret (v0 : List YElem.den) (v1 : Int) : res_flow_Slice_0 (ret_flow_Slice v0 v1) = v0 := rfl
def res_flow_Slice_1 (r : sig_flow_Slice.Out) : Int := r.1.2.1.1
@[simp] theorem res_flow_Slice_1_ret (v0 : List YElem.den) (v1 : Int) : res_flow_Slice_1 (ret_flow_Slice v0 v1) = v1 := rfl
def os_flow_Slice : RegT := ⟨[], [], false⟩
def hs_flow_Slice : List Keep := []
@[reducible] noncomputable def env_flow_Slice : Env := [(15, ⟨sig_flow_CheckPart, F_flow_CheckPart⟩), (52, ⟨sig_flow_Copy, F_flow_Copy⟩)]
theorem ok_flow_Slice : fnOk os_flow_Slice sig_flow_Slice Tryd.f23 = true := by kernel_rfl
theorem fn_flow_Slice : P.funcs[23]? = some Tryd.f23 := by kernel_rfl
noncomputable def F_flow_Slice : sig_flow_Slice.Fn := fun x y => run T (env_flow_Slice) os_flow_Slice sig_flow_Slice Tryd.f23 hs_flow_Slice big x y
theorem S_flow_Slice : Sound P 23 ⟨sig_flow_Slice, F_flow_Slice⟩ := sound_of (os := os_flow_Slice) (hs := hs_flow_Slice) (env_cons S_flow_CheckPart (env_cons S_flow_Copy (env_nil))) fn_flow_Slice ok_flow_Slice (fun x y out h => ⟨big, h⟩)
theorem e_flow_Slice (a0 : List YElem.den) (a1 : Int) (a2 : Int) : C_flow_Slice F_flow_Slice a0 a1 a2 =
  ((C_flow_CheckPart F_flow_CheckPart a0).bind fun r1 =>
   (bcond (((res_flow_CheckPart_0 r1) : Int) != 0)
    (some (ret_flow_Slice [] (res_flow_CheckPart_0 r1)))
    (bcond ((decide ((a1 : Int) < 0)) == false)
     (bcond ((decide ((a2 : Int) < a1)) == false)
      (bcond (decide ((a2 : Int) > (List.length a0 : Int)))
       (some (ret_flow_Slice [] 2))
       (if 0 ≤ (a2 : Int) ∧ (a2 : Int) ≤ (List.length a0 : Int) ∧ 0 ≤ (a1 : Int) ∧ (a1 : Int) ≤ a2 then
        ((C_flow_Copy F_flow_Copy (List.drop (Int.toNat a1) (List.take (Int.toNat a2) a0))).bind fun r2 =>
         (some (ret_flow_Slice (res_flow_Copy_0 r2) 0)))
       else none))
      (some (ret_flow_Slice [] 2)))
     (some (ret_flow_Slice [] 2))))) := by kernel_rfl
def sig_R_Utf8 : Sig := ⟨[.v false (.list YElem), .v false (.int .i64)], [], [(false, [.fr .str])]⟩
def C_R_Utf8 (F : sig_R_Utf8.Fn) (a0 : List YElem.den) (a1 : Int) : Option sig_R_Utf8.Out := F (a0, a1, ()) ()
def ret_R_Utf8 (v0 : List UInt8) : sig_R_Utf8.Out := (((v0, ()), ()), ())
def res_R_Utf8_0 (r : sig_R_Utf8.Out) : List UInt8 := r.1.1.1
@[simp] theorem res_R_Utf8_0_ret (v0 : List UInt8) : res_R_Utf8_0 (ret_R_Utf8 v0) = v0 := rfl
def os_R_Utf8 : RegT := ⟨[], [], false⟩
def hs_R_Utf8 : List Keep := [[(0, []), (1, []), (5, [(0, 5, (.int .u8))]), (9, []), (10, [])]]
@[reducible] noncomputable def env_R_Utf8 : Env := [(51, ⟨sig_unicode_utf8_AppendRune, F_unicode_utf8_AppendRune⟩)]
noncomputable def L_R_Utf8_0 (n m1 : Nat) (x0 : List YElem.den) (x1 : Int) (x5 : List (Int)) (x9 : Int) (x10 : Int) : Option sig_R_Utf8.Out :=
  loopAt T (env_R_Utf8) os_R_Utf8 sig_R_Utf8 Tryd.f24 hs_R_Utf8 n [.sr, .sr, .sl, .sr, .bl] m1 (mk 34 [(0, .cs false [.val (.list YElem) x0]), (1, .cs false [.val (.int .i64) x1]), (5, .cs false [.own 5 (.int .u8) x5]), (9, .cs false [.val (.int .i64) x9]), (10, .cs false [.val (.int .i64) x10])])
theorem L_R_Utf8_0_step (n m1 : Nat) (x0 : List YElem.den) (x1 : Int) (x5 : List (Int)) (x9 : Int) (x10 : Int) : L_R_Utf8_0 n (m1 + 1) x0 x1 x5 x9 x10 =
  (bcond (decide ((x10 : Int) < x9))
   (if 0 ≤ (x10 : Int) ∧ (x10 : Int) < (List.length x0 : Int) then
    (if 0 ≤ (x10 : Int) ∧ (x10 : Int) < (List.length x0 : Int) then
     (bcond (((at_ (e := YElem) x0 x10).2.1 : Int) != 0)
      (bcond (decide ((x1 : Int) ≥ 0))
       ((C_unicode_utf8_AppendRune F_unicode_utf8_AppendRune x5 (IntKind.i32.wrap x1)).bind fun r1 =>
        (L_R_Utf8_0 n m1 x0 x1 (res_unicode_utf8_AppendRune_0 r1) x9 (IntKind.i64.wrap (x10 + 1))))
       (L_R_Utf8_0 n m1 x0 x1 x5 x9 (IntKind.i64.wrap (x10 + 1))))
      (bcond (decide (((at_ (e := YElem) x0 x10).1 : Int) ≥ 0))
       ((C_unicode_utf8_AppendRune F_unicode_utf8_AppendRune x5 (IntKind.i32.wrap (at_ (e := YElem) x0 x10).1)).bind fun r1 =>
        (L_R_Utf8_0 n m1 x0 x1 (res_unicode_utf8_AppendRune_0 r1) x9 (IntKind.i64.wrap (x10 + 1))))
       (L_R_Utf8_0 n m1 x0 x1 x5 x9 (IntKind.i64.wrap (x10 + 1)))))
    else none)
   else none)
   (some (ret_R_Utf8 (List.map byte x5)))) := by kernel_rfl
theorem ok_R_Utf8 : fnOk os_R_Utf8 sig_R_Utf8 Tryd.f24 = true := by kernel_rfl
theorem fn_R_Utf8 : P.funcs[24]? = some Tryd.f24 := by kernel_rfl
noncomputable def F_R_Utf8 : sig_R_Utf8.Fn := fun x y => run T (env_R_Utf8) os_R_Utf8 sig_R_Utf8 Tryd.f24 hs_R_Utf8 big x y
theorem S_R_Utf8 : Sound P 24 ⟨sig_R_Utf8, F_R_Utf8⟩ := sound_of (os := os_R_Utf8) (hs := hs_R_Utf8) (env_cons S_unicode_utf8_AppendRune (env_nil)) fn_R_Utf8 ok_R_Utf8 (fun x y out h => ⟨big, h⟩)
theorem e_R_Utf8 (a0 : List YElem.den) (a1 : Int) : C_R_Utf8 F_R_Utf8 a0 a1 =
  (L_R_Utf8_0 big big a0 a1 [] (List.length a0 : Int) 0) := by kernel_rfl
def sig_law_FlowTextMatches : Sig := ⟨[.v false (.list YElem), .v false (.int .i64), .v false (.int .i64)], [], [(false, [.fr .bool])]⟩
def C_law_FlowTextMatches (F : sig_law_FlowTextMatches.Fn) (a0 : List YElem.den) (a1 : Int) (a2 : Int) : Option sig_law_FlowTextMatches.Out := F (a0, a1, a2, ()) ()
def ret_law_FlowTextMatches (v0 : Bool) : sig_law_FlowTextMatches.Out := (((v0, ()), ()), ())
def os_law_FlowTextMatches : RegT := ⟨[], [], false⟩
def hs_law_FlowTextMatches : List Keep := []
@[reducible] noncomputable def env_law_FlowTextMatches : Env := [(9, ⟨sig_law_flows, F_law_flows⟩), (22, ⟨sig_flow_Text, F_flow_Text⟩), (23, ⟨sig_flow_Slice, F_flow_Slice⟩), (16, ⟨sig_R_PartError, F_R_PartError⟩), (24, ⟨sig_R_Utf8, F_R_Utf8⟩), (12, ⟨sig_R_SameFlow, F_R_SameFlow⟩)]
theorem ok_law_FlowTextMatches : fnOk os_law_FlowTextMatches sig_law_FlowTextMatches Tryd.f5 = true := by kernel_rfl
theorem fn_law_FlowTextMatches : P.funcs[5]? = some Tryd.f5 := by kernel_rfl
noncomputable def F_law_FlowTextMatches : sig_law_FlowTextMatches.Fn := fun x y => run T (env_law_FlowTextMatches) os_law_FlowTextMatches sig_law_FlowTextMatches Tryd.f5 hs_law_FlowTextMatches big x y
theorem S_law_FlowTextMatches : Sound P 5 ⟨sig_law_FlowTextMatches, F_law_FlowTextMatches⟩ := sound_of (os := os_law_FlowTextMatches) (hs := hs_law_FlowTextMatches) (env_cons S_law_flows (env_cons S_flow_Text (env_cons S_flow_Slice (env_cons S_R_PartError (env_cons S_R_Utf8 (env_cons S_R_SameFlow (env_nil))))))) fn_law_FlowTextMatches ok_law_FlowTextMatches (fun x y out h => ⟨big, h⟩)
theorem e_law_FlowTextMatches (a0 : List YElem.den) (a1 : Int) (a2 : Int) : C_law_FlowTextMatches F_law_FlowTextMatches a0 a1 a2 =
  ((C_law_flows F_law_flows ).bind fun r1 =>
   (bcond (!(res_law_flows_0 r1))
    (some (ret_law_FlowTextMatches false))
    ((C_flow_Text F_flow_Text a0).bind fun r2 =>
     ((C_flow_Slice F_flow_Slice a0 a1 a2).bind fun r3 =>
      ((C_R_PartError F_R_PartError a0).bind fun r4 =>
       (bcond (((res_R_PartError_0 r4) : Int) != 0)
        (bcond ((((res_flow_Text_1 r2) : Int) == (res_R_PartError_0 r4)) == true)
         (bcond ((((res_flow_Slice_1 r3) : Int) == (res_R_PartError_0 r4)) == true)
          (bcond ((((res_flow_Text_0 r2) : List UInt8) == []) == true)
           (some (ret_law_FlowTextMatches (((List.length (res_flow_Slice_0 r3) : Int) : Int) == 0)))
           (some (ret_law_FlowTextMatches false)))
          (some (ret_law_FlowTextMatches false)))
         (some (ret_law_FlowTextMatches false)))
        (bcond ((((res_flow_Text_1 r2) : Int) != 0) == false)
         ((C_R_Utf8 F_R_Utf8 a0 65532).bind fun r5 =>
          (bcond (!(((res_flow_Text_0 r2) : List UInt8) == (res_R_Utf8_0 r5)))
           (some (ret_law_FlowTextMatches false))
           (bcond ((decide ((a1 : Int) < 0)) == false)
            (bcond ((decide ((a2 : Int) < a1)) == false)
             (bcond (decide ((a2 : Int) > (List.length a0 : Int)))
              (bcond ((((res_flow_Slice_1 r3) : Int) == 2) == true)
               (some (ret_law_FlowTextMatches (((List.length (res_flow_Slice_0 r3) : Int) : Int) == 0)))
               (some (ret_law_FlowTextMatches false)))
              (bcond ((((res_flow_Slice_1 r3) : Int) == 0) == true)
               (if 0 ≤ (a2 : Int) ∧ (a2 : Int) ≤ (List.length a0 : Int) ∧ 0 ≤ (a1 : Int) ∧ (a1 : Int) ≤ a2 then
                ((C_R_SameFlow F_R_SameFlow (res_flow_Slice_0 r3) (List.drop (Int.toNat a1) (List.take (Int.toNat a2) a0))).bind fun r6 =>
                 (some (ret_law_FlowTextMatches (res_R_SameFlow_0 r6))))
               else none)
               (some (ret_law_FlowTextMatches false))))
             (bcond ((((res_flow_Slice_1 r3) : Int) == 2) == true)
              (some (ret_law_FlowTextMatches (((List.length (res_flow_Slice_0 r3) : Int) : Int) == 0)))
              (some (ret_law_FlowTextMatches false))))
            (bcond ((((res_flow_Slice_1 r3) : Int) == 2) == true)
             (some (ret_law_FlowTextMatches (((List.length (res_flow_Slice_0 r3) : Int) : Int) == 0)))
             (some (ret_law_FlowTextMatches false))))))
         (some (ret_law_FlowTextMatches false))))))))) := by kernel_rfl
end Go.Ev
