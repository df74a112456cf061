/- Functions, step by step. -/
import Derived.Test.YtpmeeopafdgbpaaDoorGFlow
namespace Go.Ev
set_option linter.unusedVariables false
set_option maxRecDepth 100000
open Go.Proofs
def sig_unicode_utf8_decodeRuneInStringSlow : Sig := ⟨[.v false .str], [], [(false, [.fr (.int .i32)]), (false, [.fr (.int .i64)])]⟩
def C_unicode_utf8_decodeRuneInStringSlow (F : sig_unicode_utf8_decodeRuneInStringSlow.Fn) (a0 : List UInt8) : Option sig_unicode_utf8_decodeRuneInStringSlow.Out := F (a0, ()) ()
def ret_unicode_utf8_decodeRuneInStringSlow (v0 : Int) (v1 : Int) : sig_unicode_utf8_decodeRuneInStringSlow.Out := (((v0, ()), (v1, ()), ()), ())
def res_unicode_utf8_decodeRuneInStringSlow_0 (r : sig_unicode_utf8_decodeRuneInStringSlow.Out) : Int := r.1.1.1
@[simp] theorem res_unicode_utf8_decodeRuneInStringSlow_0_ret (v0 : Int) (v1 : Int) : res_unicode_utf8_decodeRuneInStringSlow_0 (ret_unicode_utf8_decodeRuneInStringSlow v0 v1) = v0 := rfl
def res_unicode_utf8_decodeRuneInStringSlow_1 (r : sig_unicode_utf8_decodeRuneInStringSlow.Out) : Int := r.1.2.1.1
@[simp] theorem res_unicode_utf8_decodeRuneInStringSlow_1_ret (v0 : Int) (v1 : Int) : res_unicode_utf8_decodeRuneInStringSlow_1 (ret_unicode_utf8_decodeRuneInStringSlow v0 v1) = v1 := rfl
def os_unicode_utf8_decodeRuneInStringSlow : RegT := ⟨[], [], false⟩
def hs_unicode_utf8_decodeRuneInStringSlow : List Keep := []
@[reducible] noncomputable def env_unicode_utf8_decodeRuneInStringSlow : Env := []
theorem ok_unicode_utf8_decodeRuneInStringSlow : fnOk os_unicode_utf8_decodeRuneInStringSlow sig_unicode_utf8_decodeRuneInStringSlow Tryd.f66 = true := by kernel_rfl
theorem fn_unicode_utf8_decodeRuneInStringSlow : P.funcs[66]? = some Tryd.f66 := by kernel_rfl
noncomputable def F_unicode_utf8_decodeRuneInStringSlow : sig_unicode_utf8_decodeRuneInStringSlow.Fn := fun x y => run T (env_unicode_utf8_decodeRuneInStringSlow) os_unicode_utf8_decodeRuneInStringSlow sig_unicode_utf8_decodeRuneInStringSlow Tryd.f66 hs_unicode_utf8_decodeRuneInStringSlow big x y
theorem S_unicode_utf8_decodeRuneInStringSlow : Sound P 66 ⟨sig_unicode_utf8_decodeRuneInStringSlow, F_unicode_utf8_decodeRuneInStringSlow⟩ := sound_of (os := os_unicode_utf8_decodeRuneInStringSlow) (hs := hs_unicode_utf8_decodeRuneInStringSlow) (env_nil) fn_unicode_utf8_decodeRuneInStringSlow ok_unicode_utf8_decodeRuneInStringSlow (fun x y out h => ⟨big, h⟩)
theorem e_unicode_utf8_decodeRuneInStringSlow (a0 : List UInt8) : C_unicode_utf8_decodeRuneInStringSlow F_unicode_utf8_decodeRuneInStringSlow a0 =
  (bcond (decide (((List.length a0 : Int) : Int) < 1))
   (some (ret_unicode_utf8_decodeRuneInStringSlow 65533 0))
   (if 0 ≤ (0 : Int) ∧ (0 : Int) < (List.length a0 : Int) then
    (if 0 ≤ (((List.getD (a0 : List UInt8) (Int.toNat 0) 0).toNat : Int) : Int) ∧ (((List.getD (a0 : List UInt8) (Int.toNat 0) 0).toNat : Int) : Int) < (List.length vtabF : Int) then
     (bcond (decide (((at_ (e := (.int .u8)) vtabF ((List.getD (a0 : List UInt8) (Int.toNat 0) 0).toNat : Int)) : Int) ≥ 240))
      (if 0 ≤ (0 : Int) ∧ (0 : Int) < (List.length a0 : Int) then
       (some (ret_unicode_utf8_decodeRuneInStringSlow (orI .i32 (clrI .i32 (IntKind.i32.wrap ((List.getD (a0 : List UInt8) (Int.toNat 0) 0).toNat : Int)) (shrI .i32 (shlI .i32 (IntKind.i32.wrap (at_ (e := (.int .u8)) vtabF ((List.getD (a0 : List UInt8) (Int.toNat 0) 0).toNat : Int))) 31) 31)) (andI .i32 65533 (shrI .i32 (shlI .i32 (IntKind.i32.wrap (at_ (e := (.int .u8)) vtabF ((List.getD (a0 : List UInt8) (Int.toNat 0) 0).toNat : Int))) 31) 31))) 1))
      else none)
      (if 0 ≤ ((shrI .u8 (at_ (e := (.int .u8)) vtabF ((List.getD (a0 : List UInt8) (Int.toNat 0) 0).toNat : Int)) 4) : Int) ∧ ((shrI .u8 (at_ (e := (.int .u8)) vtabF ((List.getD (a0 : List UInt8) (Int.toNat 0) 0).toNat : Int)) 4) : Int) < (List.length vtabA : Int) then
       (bcond (decide (((List.length a0 : Int) : Int) < (IntKind.i64.wrap (andI .u8 (at_ (e := (.int .u8)) vtabF ((List.getD (a0 : List UInt8) (Int.toNat 0) 0).toNat : Int)) 7))))
        (some (ret_unicode_utf8_decodeRuneInStringSlow 65533 1))
        (if 0 ≤ (1 : Int) ∧ (1 : Int) < (List.length a0 : Int) then
         (bcond ((decide ((((List.getD (a0 : List UInt8) (Int.toNat 1) 0).toNat : Int) : Int) < (at_ (e := YAccept) vtabA (shrI .u8 (at_ (e := (.int .u8)) vtabF ((List.getD (a0 : List UInt8) (Int.toNat 0) 0).toNat : Int)) 4)).1)) == false)
          (bcond (decide (((at_ (e := YAccept) vtabA (shrI .u8 (at_ (e := (.int .u8)) vtabF ((List.getD (a0 : List UInt8) (Int.toNat 0) 0).toNat : Int)) 4)).2 : Int) < ((List.getD (a0 : List UInt8) (Int.toNat 1) 0).toNat : Int)))
           (some (ret_unicode_utf8_decodeRuneInStringSlow 65533 1))
           (bcond (decide (((IntKind.i64.wrap (andI .u8 (at_ (e := (.int .u8)) vtabF ((List.getD (a0 : List UInt8) (Int.toNat 0) 0).toNat : Int)) 7)) : Int) ≤ 2))
            (some (ret_unicode_utf8_decodeRuneInStringSlow (orI .i32 (shlI .i32 (IntKind.i32.wrap (andI .u8 ((List.getD (a0 : List UInt8) (Int.toNat 0) 0).toNat : Int) 31)) 6) (IntKind.i32.wrap (andI .u8 ((List.getD (a0 : List UInt8) (Int.toNat 1) 0).toNat : Int) 63))) 2))
            (if 0 ≤ (2 : Int) ∧ (2 : Int) < (List.length a0 : Int) then
             (bcond ((decide ((((List.getD (a0 : List UInt8) (Int.toNat 2) 0).toNat : Int) : Int) < 128)) == false)
              (bcond (decide ((191 : Int) < ((List.getD (a0 : List UInt8) (Int.toNat 2) 0).toNat : Int)))
               (some (ret_unicode_utf8_decodeRuneInStringSlow 65533 1))
               (bcond (decide (((IntKind.i64.wrap (andI .u8 (at_ (e := (.int .u8)) vtabF ((List.getD (a0 : List UInt8) (Int.toNat 0) 0).toNat : Int)) 7)) : Int) ≤ 3))
                (some (ret_unicode_utf8_decodeRuneInStringSlow (orI .i32 (orI .i32 (shlI .i32 (IntKind.i32.wrap (andI .u8 ((List.getD (a0 : List UInt8) (Int.toNat 0) 0).toNat : Int) 15)) 12) (shlI .i32 (IntKind.i32.wrap (andI .u8 ((List.getD (a0 : List UInt8) (Int.toNat 1) 0).toNat : Int) 63)) 6)) (IntKind.i32.wrap (andI .u8 ((List.getD (a0 : List UInt8) (Int.toNat 2) 0).toNat : Int) 63))) 3))
                (if 0 ≤ (3 : Int) ∧ (3 : Int) < (List.length a0 : Int) then
                 (bcond ((decide ((((List.getD (a0 : List UInt8) (Int.toNat 3) 0).toNat : Int) : Int) < 128)) == false)
                  (bcond (decide ((191 : Int) < ((List.getD (a0 : List UInt8) (Int.toNat 3) 0).toNat : Int)))
                   (some (ret_unicode_utf8_decodeRuneInStringSlow 65533 1))
                   (some (ret_unicode_utf8_decodeRuneInStringSlow (orI .i32 (orI .i32 (orI .i32 (shlI .i32 (IntKind.i32.wrap (andI .u8 ((List.getD (a0 : List UInt8) (Int.toNat 0) 0).toNat : Int) 7)) 18) (shlI .i32 (IntKind.i32.wrap (andI .u8 ((List.getD (a0 : List UInt8) (Int.toNat 1) 0).toNat : Int) 63)) 12)) (shlI .i32 (IntKind.i32.wrap (andI .u8 ((List.getD (a0 : List UInt8) (Int.toNat 2) 0).toNat : Int) 63)) 6)) (IntKind.i32.wrap (andI .u8 ((List.getD (a0 : List UInt8) (Int.toNat 3) 0).toNat : Int) 63))) 4)))
                  (some (ret_unicode_utf8_decodeRuneInStringSlow 65533 1)))
                else none)))
              (some (ret_unicode_utf8_decodeRuneInStringSlow 65533 1)))
            else none)))
          (some (ret_unicode_utf8_decodeRuneInStringSlow 65533 1)))
        else none))
      else none))
    else none)
   else none)) := by kernel_rfl
def sig_unicode_utf8_DecodeRuneInString : Sig := ⟨[.v false .str], [], [(false, [.fr (.int .i32)]), (false, [.fr (.int .i64)])]⟩
def C_unicode_utf8_DecodeRuneInString (F : sig_unicode_utf8_DecodeRuneInString.Fn) (a0 : List UInt8) : Option sig_unicode_utf8_DecodeRuneInString.Out := F (a0, ()) ()
def ret_unicode_utf8_DecodeRuneInString (v0 : Int) (v1 : Int) : sig_unicode_utf8_DecodeRuneInString.Out := (((v0, ()), (v1, ()), ()), ())
def res_unicode_utf8_DecodeRuneInString_0 (r : sig_unicode_utf8_DecodeRuneInString.Out) : Int := r.1.1.1
@[simp] theorem res_unicode_utf8_DecodeRuneInString_0_ret (v0 : Int) (v1 : Int) : res_unicode_utf8_DecodeRuneInString_0 (ret_unicode_utf8_DecodeRuneInString v0 v1) = v0 := rfl
def res_unicode_utf8_DecodeRuneInString_1 (r : sig_unicode_utf8_DecodeRuneInString.Out) : Int := r.1.2.1.1
@[simp] theorem res_unicode_utf8_DecodeRuneInString_1_ret (v0 : Int) (v1 : Int) : res_unicode_utf8_DecodeRuneInString_1 (ret_unicode_utf8_DecodeRuneInString v0 v1) = v1 := rfl
def os_unicode_utf8_DecodeRuneInString : RegT := ⟨[], [], false⟩
def hs_unicode_utf8_DecodeRuneInString : List Keep := []
@[reducible] noncomputable def env_unicode_utf8_DecodeRuneInString : Env := [(66, ⟨sig_unicode_utf8_decodeRuneInStringSlow, F_unicode_utf8_decodeRuneInStringSlow⟩)]
theorem ok_unicode_utf8_DecodeRuneInString : fnOk os_unicode_utf8_DecodeRuneInString sig_unicode_utf8_DecodeRuneInString Tryd.f38 = true := by kernel_rfl
theorem fn_unicode_utf8_DecodeRuneInString : P.funcs[38]? = some Tryd.f38 := by kernel_rfl
noncomputable def F_unicode_utf8_DecodeRuneInString : sig_unicode_utf8_DecodeRuneInString.Fn := fun x y => run T (env_unicode_utf8_DecodeRuneInString) os_unicode_utf8_DecodeRuneInString sig_unicode_utf8_DecodeRuneInString Tryd.f38 hs_unicode_utf8_DecodeRuneInString big x y
theorem S_unicode_utf8_DecodeRuneInString : Sound P 38 ⟨sig_unicode_utf8_DecodeRuneInString, F_unicode_utf8_DecodeRuneInString⟩ := sound_of (os := os_unicode_utf8_DecodeRuneInString) (hs := hs_unicode_utf8_DecodeRuneInString) (env_cons S_unicode_utf8_decodeRuneInStringSlow (env_nil)) fn_unicode_utf8_DecodeRuneInString ok_unicode_utf8_DecodeRuneInString (fun x y out h => ⟨big, h⟩)
theorem e_unicode_utf8_DecodeRuneInString (a0 : List UInt8) : C_unicode_utf8_DecodeRuneInString F_unicode_utf8_DecodeRuneInString a0 =
  (bcond ((!((a0 : List UInt8) == [])) == true)
   (if 0 ≤ (0 : Int) ∧ (0 : Int) < (List.length a0 : Int) then
    (bcond (decide ((((List.getD (a0 : List UInt8) (Int.toNat 0) 0).toNat : Int) : Int) < 128))
     (if 0 ≤ (0 : Int) ∧ (0 : Int) < (List.length a0 : Int) then
      (some (ret_unicode_utf8_DecodeRuneInString (IntKind.i32.wrap ((List.getD (a0 : List UInt8) (Int.toNat 0) 0).toNat : Int)) 1))
     else none)
     ((C_unicode_utf8_decodeRuneInStringSlow F_unicode_utf8_decodeRuneInStringSlow a0).bind fun r1 =>
      (some (ret_unicode_utf8_DecodeRuneInString (res_unicode_utf8_decodeRuneInStringSlow_0 r1) (res_unicode_utf8_decodeRuneInStringSlow_1 r1)))))
   else none)
   ((C_unicode_utf8_decodeRuneInStringSlow F_unicode_utf8_decodeRuneInStringSlow a0).bind fun r1 =>
    (some (ret_unicode_utf8_DecodeRuneInString (res_unicode_utf8_decodeRuneInStringSlow_0 r1) (res_unicode_utf8_decodeRuneInStringSlow_1 r1))))) := by kernel_rfl
end Go.Ev
