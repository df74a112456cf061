/- Functions, step by step. -/
import Derived.Test.YtpmeeopafdgbpaaDoorGUtf
namespace Go.Ev
set_option linter.unusedVariables false
set_option maxRecDepth 100000
open Go.Proofs
def sig_unicode_utf8_word_string : Sig := ⟨[.v false .str], [], [(false, [.fr (.int .u64)])]⟩
def C_unicode_utf8_word_string (F : sig_unicode_utf8_word_string.Fn) (a0 : List UInt8) : Option sig_unicode_utf8_word_string.Out := F (a0, ()) ()
def ret_unicode_utf8_word_string (v0 : Int) : sig_unicode_utf8_word_string.Out := (((v0, ()), ()), ())
def res_unicode_utf8_word_string_0 (r : sig_unicode_utf8_word_string.Out) : Int := r.1.1.1
@[simp] theorem res_unicode_utf8_word_string_0_ret (v0 : Int) : res_unicode_utf8_word_string_0 (ret_unicode_utf8_word_string v0) = v0 := rfl
def os_unicode_utf8_word_string : RegT := ⟨[(1, .st 0 (.st 1 (.st 2 (.st 3 (.st 4 (.st 5 (.st 6 (.st 7 (.st 8 (.st 9 (.st 10 (.st 11 (.st 12 (.st 13 (.st 14 (.st 15 (.st 16 (.st 17 (.st 18 (.nil)))))))))))))))))))), (2, .st 0 (.st 1 (.st 2 (.st 3 (.st 4 (.st 5 (.st 6 (.st 7 (.st 8 (.st 9 (.st 10 (.st 11 (.st 12 (.st 13 (.st 14 (.st 15 (.st 16 (.st 17 (.st 18 (.st 19 (.st 20 (.st 21 (.st 22 (.st 23 (.st 24 (.st 25 (.st 26 (.st 27 (.st 28 (.st 29 (.st 30 (.st 31 (.st 32 (.st 33 (.st 34 (.st 35 (.st 36 (.st 37 (.st 38 (.nil))))))))))))))))))))))))))))))))))))))))], [], false⟩
def hs_unicode_utf8_word_string : List Keep := []
@[reducible] noncomputable def env_unicode_utf8_word_string : Env := []
theorem ok_unicode_utf8_word_string : fnOk os_unicode_utf8_word_string sig_unicode_utf8_word_string Tryd.f67 = true := by kernel_rfl
theorem fn_unicode_utf8_word_string : P.funcs[67]? = some Tryd.f67 := by kernel_rfl
noncomputable def F_unicode_utf8_word_string : sig_unicode_utf8_word_string.Fn := fun x y => run T (env_unicode_utf8_word_string) os_unicode_utf8_word_string sig_unicode_utf8_word_string Tryd.f67 hs_unicode_utf8_word_string big x y
theorem S_unicode_utf8_word_string : Sound P 67 ⟨sig_unicode_utf8_word_string, F_unicode_utf8_word_string⟩ := sound_of (os := os_unicode_utf8_word_string) (hs := hs_unicode_utf8_word_string) (env_nil) fn_unicode_utf8_word_string ok_unicode_utf8_word_string (fun x y out h => ⟨big, h⟩)
theorem e_unicode_utf8_word_string (a0 : List UInt8) : C_unicode_utf8_word_string F_unicode_utf8_word_string a0 =
  (if 0 ≤ (0 : Int) ∧ (0 : Int) < (List.length a0 : Int) then
   (if 0 ≤ (1 : Int) ∧ (1 : Int) < (List.length a0 : Int) then
    (if 0 ≤ (2 : Int) ∧ (2 : Int) < (List.length a0 : Int) then
     (if 0 ≤ (3 : Int) ∧ (3 : Int) < (List.length a0 : Int) then
      (if 0 ≤ (4 : Int) ∧ (4 : Int) < (List.length a0 : Int) then
       (if 0 ≤ (5 : Int) ∧ (5 : Int) < (List.length a0 : Int) then
        (if 0 ≤ (6 : Int) ∧ (6 : Int) < (List.length a0 : Int) then
         (if 0 ≤ (7 : Int) ∧ (7 : Int) < (List.length a0 : Int) then
          (some (ret_unicode_utf8_word_string (orI .u64 (orI .u64 (orI .u64 (orI .u64 (orI .u64 (orI .u64 (orI .u64 (IntKind.u64.wrap ((List.getD (a0 : List UInt8) (Int.toNat 0) 0).toNat : Int)) (shlI .u64 (IntKind.u64.wrap ((List.getD (a0 : List UInt8) (Int.toNat 1) 0).toNat : Int)) 8)) (shlI .u64 (IntKind.u64.wrap ((List.getD (a0 : List UInt8) (Int.toNat 2) 0).toNat : Int)) 16)) (shlI .u64 (IntKind.u64.wrap ((List.getD (a0 : List UInt8) (Int.toNat 3) 0).toNat : Int)) 24)) (shlI .u64 (IntKind.u64.wrap ((List.getD (a0 : List UInt8) (Int.toNat 4) 0).toNat : Int)) 32)) (shlI .u64 (IntKind.u64.wrap ((List.getD (a0 : List UInt8) (Int.toNat 5) 0).toNat : Int)) 40)) (shlI .u64 (IntKind.u64.wrap ((List.getD (a0 : List UInt8) (Int.toNat 6) 0).toNat : Int)) 48)) (shlI .u64 (IntKind.u64.wrap ((List.getD (a0 : List UInt8) (Int.toNat 7) 0).toNat : Int)) 56))))
         else none)
        else none)
       else none)
      else none)
     else none)
    else none)
   else none)
  else none) := by kernel_rfl
def sig_unicode_utf8_ValidString : Sig := ⟨[.v false .str], [], [(false, [.fr .bool])]⟩
def C_unicode_utf8_ValidString (F : sig_unicode_utf8_ValidString.Fn) (a0 : List UInt8) : Option sig_unicode_utf8_ValidString.Out := F (a0, ()) ()
def ret_unicode_utf8_ValidString (v0 : Bool) : sig_unicode_utf8_ValidString.Out := (((v0, ()), ()), ())
def res_unicode_utf8_ValidString_0 (r : sig_unicode_utf8_ValidString.Out) : Bool := r.1.1.1
@[simp] theorem res_unicode_utf8_ValidString_0_ret (v0 : Bool) : res_unicode_utf8_ValidString_0 (ret_unicode_utf8_ValidString v0) = v0 := rfl
def os_unicode_utf8_ValidString : RegT := ⟨[(7, .st 0 (.st 1 (.st 2 (.st 3 (.st 4 (.st 6 (.st 7 (.st 5 (.st 8 (.st 9 (.st 10 (.st 11 (.st 12 (.nil)))))))))))))), (9, .st 0 (.st 1 (.st 2 (.st 3 (.st 4 (.st 6 (.st 7 (.st 10 (.st 11 (.st 13 (.st 14 (.st 5 (.st 8 (.st 9 (.st 12 (.st 15 (.st 16 (.st 17 (.st 18 (.st 19 (.st 20 (.nil)))))))))))))))))))))), (17, .st 0 (.st 1 (.st 2 (.st 3 (.st 4 (.st 5 (.st 6 (.st 7 (.st 8 (.st 9 (.st 10 (.st 11 (.st 13 (.st 14 (.st 12 (.st 15 (.st 16 (.nil)))))))))))))))))), (21, .st 0 (.st 1 (.st 2 (.st 3 (.st 4 (.st 5 (.st 6 (.st 7 (.st 8 (.st 9 (.st 10 (.st 11 (.st 13 (.st 14 (.st 12 (.st 15 (.st 16 (.st 17 (.st 18 (.st 19 (.st 20 (.st 21 (.st 22 (.st 23 (.st 24 (.st 25 (.st 26 (.nil)))))))))))))))))))))))))))), (25, .st 0 (.st 1 (.st 2 (.st 3 (.st 4 (.st 5 (.st 6 (.st 7 (.st 8 (.st 9 (.st 10 (.st 11 (.st 13 (.st 14 (.st 12 (.st 15 (.st 16 (.st 17 (.st 18 (.st 19 (.st 20 (.st 21 (.st 22 (.st 23 (.st 24 (.st 25 (.st 26 (.st 27 (.st 28 (.st 29 (.st 30 (.st 31 (.st 32 (.st 33 (.st 34 (.st 35 (.st 36 (.nil))))))))))))))))))))))))))))))))))))))], [], false⟩
def hs_unicode_utf8_ValidString : List Keep := [[(0, [])], [(0, [])]]
@[reducible] noncomputable def env_unicode_utf8_ValidString : Env := [(67, ⟨sig_unicode_utf8_word_string, F_unicode_utf8_word_string⟩)]
noncomputable def L_unicode_utf8_ValidString_0 (n m1 : Nat) (x0 : List UInt8) : Option sig_unicode_utf8_ValidString.Out :=
  loopAt T (env_unicode_utf8_ValidString) os_unicode_utf8_ValidString sig_unicode_utf8_ValidString Tryd.f40 hs_unicode_utf8_ValidString n [.sr, .sl, .bl] m1 (mk 169 [(0, .cs false [.val .str x0])])
noncomputable def L_unicode_utf8_ValidString_1 (n m1 m2 : Nat) (x0 : List UInt8) : Option sig_unicode_utf8_ValidString.Out :=
  loopAt T (env_unicode_utf8_ValidString) os_unicode_utf8_ValidString sig_unicode_utf8_ValidString Tryd.f40 hs_unicode_utf8_ValidString n [.sr, .sl, .bl, .lp m1, .sr, .bl, .sr, .sl, .sr, .ct, .sr, .sl, .sr, .ct, .sr, .sr, .ct, .sr, .bl] m2 (mk 169 [(0, .cs false [.val .str x0])])
theorem L_unicode_utf8_ValidString_0_step (n m1 : Nat) (x0 : List UInt8) : L_unicode_utf8_ValidString_0 n (m1 + 1) x0 =
  (bcond (decide (((List.length x0 : Int) : Int) > 0))
   (if 0 ≤ (0 : Int) ∧ (0 : Int) < (List.length x0 : Int) then
    (bcond (decide ((((List.getD (x0 : List UInt8) (Int.toNat 0) 0).toNat : Int) : Int) < 128))
     (if 0 ≤ ((List.length x0 : Int) : Int) ∧ ((List.length x0 : Int) : Int) ≤ (List.length x0 : Int) ∧ 0 ≤ (1 : Int) ∧ (1 : Int) ≤ (List.length x0 : Int) then
      (bcond ((decide (((List.length (List.drop (Int.toNat 1) (List.take (Int.toNat (List.length x0 : Int)) x0)) : Int) : Int) > 8)) == true)
       ((C_unicode_utf8_word_string F_unicode_utf8_word_string (List.drop (Int.toNat 1) (List.take (Int.toNat (List.length x0 : Int)) x0))).bind fun r1 =>
        (bcond (((andI .u64 (res_unicode_utf8_word_string_0 r1) 9259542123273814144) : Int) == 0)
         (if 0 ≤ ((List.length (List.drop (Int.toNat 1) (List.take (Int.toNat (List.length x0 : Int)) x0)) : Int) : Int) ∧ ((List.length (List.drop (Int.toNat 1) (List.take (Int.toNat (List.length x0 : Int)) x0)) : Int) : Int) ≤ (List.length (List.drop (Int.toNat 1) (List.take (Int.toNat (List.length x0 : Int)) x0)) : Int) ∧ 0 ≤ (8 : Int) ∧ (8 : Int) ≤ (List.length (List.drop (Int.toNat 1) (List.take (Int.toNat (List.length x0 : Int)) x0)) : Int) then
          (bcond ((decide (((List.length (List.drop (Int.toNat 8) (List.take (Int.toNat (List.length (List.drop (Int.toNat 1) (List.take (Int.toNat (List.length x0 : Int)) x0)) : Int)) (List.drop (Int.toNat 1) (List.take (Int.toNat (List.length x0 : Int)) x0)))) : Int) : Int) > 16)) == true)
           (if 0 ≤ ((List.length (List.drop (Int.toNat 8) (List.take (Int.toNat (List.length (List.drop (Int.toNat 1) (List.take (Int.toNat (List.length x0 : Int)) x0)) : Int)) (List.drop (Int.toNat 1) (List.take (Int.toNat (List.length x0 : Int)) x0)))) : Int) : Int) ∧ ((List.length (List.drop (Int.toNat 8) (List.take (Int.toNat (List.length (List.drop (Int.toNat 1) (List.take (Int.toNat (List.length x0 : Int)) x0)) : Int)) (List.drop (Int.toNat 1) (List.take (Int.toNat (List.length x0 : Int)) x0)))) : Int) : Int) ≤ (List.length (List.drop (Int.toNat 8) (List.take (Int.toNat (List.length (List.drop (Int.toNat 1) (List.take (Int.toNat (List.length x0 : Int)) x0)) : Int)) (List.drop (Int.toNat 1) (List.take (Int.toNat (List.length x0 : Int)) x0)))) : Int) ∧ 0 ≤ (8 : Int) ∧ (8 : Int) ≤ (List.length (List.drop (Int.toNat 8) (List.take (Int.toNat (List.length (List.drop (Int.toNat 1) (List.take (Int.toNat (List.length x0 : Int)) x0)) : Int)) (List.drop (Int.toNat 1) (List.take (Int.toNat (List.length x0 : Int)) x0)))) : Int) then
            ((C_unicode_utf8_word_string F_unicode_utf8_word_string (List.drop (Int.toNat 8) (List.take (Int.toNat (List.length (List.drop (Int.toNat 1) (List.take (Int.toNat (List.length x0 : Int)) x0)) : Int)) (List.drop (Int.toNat 1) (List.take (Int.toNat (List.length x0 : Int)) x0))))).bind fun r2 =>
             ((C_unicode_utf8_word_string F_unicode_utf8_word_string (List.drop (Int.toNat 8) (List.take (Int.toNat (List.length (List.drop (Int.toNat 8) (List.take (Int.toNat (List.length (List.drop (Int.toNat 1) (List.take (Int.toNat (List.length x0 : Int)) x0)) : Int)) (List.drop (Int.toNat 1) (List.take (Int.toNat (List.length x0 : Int)) x0)))) : Int)) (List.drop (Int.toNat 8) (List.take (Int.toNat (List.length (List.drop (Int.toNat 1) (List.take (Int.toNat (List.length x0 : Int)) x0)) : Int)) (List.drop (Int.toNat 1) (List.take (Int.toNat (List.length x0 : Int)) x0))))))).bind fun r3 =>
              (bcond (((andI .u64 (orI .u64 (res_unicode_utf8_word_string_0 r2) (res_unicode_utf8_word_string_0 r3)) 9259542123273814144) : Int) == 0)
               (if 0 ≤ ((List.length (List.drop (Int.toNat 8) (List.take (Int.toNat (List.length (List.drop (Int.toNat 1) (List.take (Int.toNat (List.length x0 : Int)) x0)) : Int)) (List.drop (Int.toNat 1) (List.take (Int.toNat (List.length x0 : Int)) x0)))) : Int) : Int) ∧ ((List.length (List.drop (Int.toNat 8) (List.take (Int.toNat (List.length (List.drop (Int.toNat 1) (List.take (Int.toNat (List.length x0 : Int)) x0)) : Int)) (List.drop (Int.toNat 1) (List.take (Int.toNat (List.length x0 : Int)) x0)))) : Int) : Int) ≤ (List.length (List.drop (Int.toNat 8) (List.take (Int.toNat (List.length (List.drop (Int.toNat 1) (List.take (Int.toNat (List.length x0 : Int)) x0)) : Int)) (List.drop (Int.toNat 1) (List.take (Int.toNat (List.length x0 : Int)) x0)))) : Int) ∧ 0 ≤ (16 : Int) ∧ (16 : Int) ≤ (List.length (List.drop (Int.toNat 8) (List.take (Int.toNat (List.length (List.drop (Int.toNat 1) (List.take (Int.toNat (List.length x0 : Int)) x0)) : Int)) (List.drop (Int.toNat 1) (List.take (Int.toNat (List.length x0 : Int)) x0)))) : Int) then
                (L_unicode_utf8_ValidString_1 n m1 n (List.drop (Int.toNat 16) (List.take (Int.toNat (List.length (List.drop (Int.toNat 8) (List.take (Int.toNat (List.length (List.drop (Int.toNat 1) (List.take (Int.toNat (List.length x0 : Int)) x0)) : Int)) (List.drop (Int.toNat 1) (List.take (Int.toNat (List.length x0 : Int)) x0)))) : Int)) (List.drop (Int.toNat 8) (List.take (Int.toNat (List.length (List.drop (Int.toNat 1) (List.take (Int.toNat (List.length x0 : Int)) x0)) : Int)) (List.drop (Int.toNat 1) (List.take (Int.toNat (List.length x0 : Int)) x0)))))))
               else none)
               (L_unicode_utf8_ValidString_0 n m1 (List.drop (Int.toNat 8) (List.take (Int.toNat (List.length (List.drop (Int.toNat 1) (List.take (Int.toNat (List.length x0 : Int)) x0)) : Int)) (List.drop (Int.toNat 1) (List.take (Int.toNat (List.length x0 : Int)) x0))))))))
           else none)
           (L_unicode_utf8_ValidString_0 n m1 (List.drop (Int.toNat 8) (List.take (Int.toNat (List.length (List.drop (Int.toNat 1) (List.take (Int.toNat (List.length x0 : Int)) x0)) : Int)) (List.drop (Int.toNat 1) (List.take (Int.toNat (List.length x0 : Int)) x0))))))
         else none)
         (L_unicode_utf8_ValidString_0 n m1 (List.drop (Int.toNat 1) (List.take (Int.toNat (List.length x0 : Int)) x0)))))
       (L_unicode_utf8_ValidString_0 n m1 (List.drop (Int.toNat 1) (List.take (Int.toNat (List.length x0 : Int)) x0))))
     else none)
     (if 0 ≤ (((List.getD (x0 : List UInt8) (Int.toNat 0) 0).toNat : Int) : Int) ∧ (((List.getD (x0 : List UInt8) (Int.toNat 0) 0).toNat : Int) : Int) < (List.length vtabF : Int) then
      (if 0 ≤ ((shrI .u8 (at_ (e := (.int .u8)) vtabF ((List.getD (x0 : List UInt8) (Int.toNat 0) 0).toNat : Int)) 4) : Int) ∧ ((shrI .u8 (at_ (e := (.int .u8)) vtabF ((List.getD (x0 : List UInt8) (Int.toNat 0) 0).toNat : Int)) 4) : Int) < (List.length vtabA : Int) then
       (bcond (((IntKind.i64.wrap (andI .u8 (at_ (e := (.int .u8)) vtabF ((List.getD (x0 : List UInt8) (Int.toNat 0) 0).toNat : Int)) 7)) : Int) == 2)
        (bcond ((decide (((List.length x0 : Int) : Int) < 2)) == false)
         (if 0 ≤ (1 : Int) ∧ (1 : Int) < (List.length x0 : Int) then
          (bcond ((decide ((((List.getD (x0 : List UInt8) (Int.toNat 1) 0).toNat : Int) : Int) < (at_ (e := YAccept) vtabA (shrI .u8 (at_ (e := (.int .u8)) vtabF ((List.getD (x0 : List UInt8) (Int.toNat 0) 0).toNat : Int)) 4)).1)) == false)
           (if 0 ≤ (1 : Int) ∧ (1 : Int) < (List.length x0 : Int) then
            (bcond (decide (((at_ (e := YAccept) vtabA (shrI .u8 (at_ (e := (.int .u8)) vtabF ((List.getD (x0 : List UInt8) (Int.toNat 0) 0).toNat : Int)) 4)).2 : Int) < ((List.getD (x0 : List UInt8) (Int.toNat 1) 0).toNat : Int)))
             (some (ret_unicode_utf8_ValidString false))
             (if 0 ≤ ((List.length x0 : Int) : Int) ∧ ((List.length x0 : Int) : Int) ≤ (List.length x0 : Int) ∧ 0 ≤ (2 : Int) ∧ (2 : Int) ≤ (List.length x0 : Int) then
              (L_unicode_utf8_ValidString_0 n m1 (List.drop (Int.toNat 2) (List.take (Int.toNat (List.length x0 : Int)) x0)))
             else none))
           else none)
           (some (ret_unicode_utf8_ValidString false)))
         else none)
         (some (ret_unicode_utf8_ValidString false)))
        (bcond (((IntKind.i64.wrap (andI .u8 (at_ (e := (.int .u8)) vtabF ((List.getD (x0 : List UInt8) (Int.toNat 0) 0).toNat : Int)) 7)) : Int) == 3)
         (bcond ((decide (((List.length x0 : Int) : Int) < 3)) == false)
          (if 0 ≤ (1 : Int) ∧ (1 : Int) < (List.length x0 : Int) then
           (bcond ((decide ((((List.getD (x0 : List UInt8) (Int.toNat 1) 0).toNat : Int) : Int) < (at_ (e := YAccept) vtabA (shrI .u8 (at_ (e := (.int .u8)) vtabF ((List.getD (x0 : List UInt8) (Int.toNat 0) 0).toNat : Int)) 4)).1)) == false)
            (if 0 ≤ (1 : Int) ∧ (1 : Int) < (List.length x0 : Int) then
             (bcond ((decide (((at_ (e := YAccept) vtabA (shrI .u8 (at_ (e := (.int .u8)) vtabF ((List.getD (x0 : List UInt8) (Int.toNat 0) 0).toNat : Int)) 4)).2 : Int) < ((List.getD (x0 : List UInt8) (Int.toNat 1) 0).toNat : Int))) == false)
              (if 0 ≤ (2 : Int) ∧ (2 : Int) < (List.length x0 : Int) then
               (bcond ((decide ((((List.getD (x0 : List UInt8) (Int.toNat 2) 0).toNat : Int) : Int) < 128)) == false)
                (if 0 ≤ (2 : Int) ∧ (2 : Int) < (List.length x0 : Int) then
                 (bcond (decide ((191 : Int) < ((List.getD (x0 : List UInt8) (Int.toNat 2) 0).toNat : Int)))
                  (some (ret_unicode_utf8_ValidString false))
                  (if 0 ≤ ((List.length x0 : Int) : Int) ∧ ((List.length x0 : Int) : Int) ≤ (List.length x0 : Int) ∧ 0 ≤ (3 : Int) ∧ (3 : Int) ≤ (List.length x0 : Int) then
                   (L_unicode_utf8_ValidString_0 n m1 (List.drop (Int.toNat 3) (List.take (Int.toNat (List.length x0 : Int)) x0)))
                  else none))
                else none)
                (some (ret_unicode_utf8_ValidString false)))
              else none)
              (some (ret_unicode_utf8_ValidString false)))
            else none)
            (some (ret_unicode_utf8_ValidString false)))
          else none)
          (some (ret_unicode_utf8_ValidString false)))
         (bcond (((IntKind.i64.wrap (andI .u8 (at_ (e := (.int .u8)) vtabF ((List.getD (x0 : List UInt8) (Int.toNat 0) 0).toNat : Int)) 7)) : Int) == 4)
          (bcond ((decide (((List.length x0 : Int) : Int) < 4)) == false)
           (if 0 ≤ (1 : Int) ∧ (1 : Int) < (List.length x0 : Int) then
            (bcond ((decide ((((List.getD (x0 : List UInt8) (Int.toNat 1) 0).toNat : Int) : Int) < (at_ (e := YAccept) vtabA (shrI .u8 (at_ (e := (.int .u8)) vtabF ((List.getD (x0 : List UInt8) (Int.toNat 0) 0).toNat : Int)) 4)).1)) == false)
             (if 0 ≤ (1 : Int) ∧ (1 : Int) < (List.length x0 : Int) then
              (bcond ((decide (((at_ (e := YAccept) vtabA (shrI .u8 (at_ (e := (.int .u8)) vtabF ((List.getD (x0 : List UInt8) (Int.toNat 0) 0).toNat : Int)) 4)).2 : Int) < ((List.getD (x0 : List UInt8) (Int.toNat 1) 0).toNat : Int))) == false)
               (if 0 ≤ (2 : Int) ∧ (2 : Int) < (List.length x0 : Int) then
                (bcond ((decide ((((List.getD (x0 : List UInt8) (Int.toNat 2) 0).toNat : Int) : Int) < 128)) == false)
                 (if 0 ≤ (2 : Int) ∧ (2 : Int) < (List.length x0 : Int) then
                  (bcond ((decide ((191 : Int) < ((List.getD (x0 : List UInt8) (Int.toNat 2) 0).toNat : Int))) == false)
                   (if 0 ≤ (3 : Int) ∧ (3 : Int) < (List.length x0 : Int) then
                    (bcond ((decide ((((List.getD (x0 : List UInt8) (Int.toNat 3) 0).toNat : Int) : Int) < 128)) == false)
                     (if 0 ≤ (3 : Int) ∧ (3 : Int) < (List.length x0 : Int) then
                      (bcond (decide ((191 : Int) < ((List.getD (x0 : List UInt8) (Int.toNat 3) 0).toNat : Int)))
                       (some (ret_unicode_utf8_ValidString false))
                       (if 0 ≤ ((List.length x0 : Int) : Int) ∧ ((List.length x0 : Int) : Int) ≤ (List.length x0 : Int) ∧ 0 ≤ (4 : Int) ∧ (4 : Int) ≤ (List.length x0 : Int) then
                        (L_unicode_utf8_ValidString_0 n m1 (List.drop (Int.toNat 4) (List.take (Int.toNat (List.length x0 : Int)) x0)))
                       else none))
                     else none)
                     (some (ret_unicode_utf8_ValidString false)))
                   else none)
                   (some (ret_unicode_utf8_ValidString false)))
                 else none)
                 (some (ret_unicode_utf8_ValidString false)))
               else none)
               (some (ret_unicode_utf8_ValidString false)))
             else none)
             (some (ret_unicode_utf8_ValidString false)))
           else none)
           (some (ret_unicode_utf8_ValidString false)))
          (some (ret_unicode_utf8_ValidString false)))))
      else none)
     else none))
   else none)
   (some (ret_unicode_utf8_ValidString true))) := by kernel_rfl
theorem L_unicode_utf8_ValidString_1_step (n m1 m2 : Nat) (x0 : List UInt8) : L_unicode_utf8_ValidString_1 n m1 (m2 + 1) x0 =
  (bcond ((decide (((List.length x0 : Int) : Int) > 32)) == true)
   (if 0 ≤ ((List.length x0 : Int) : Int) ∧ ((List.length x0 : Int) : Int) ≤ (List.length x0 : Int) ∧ 0 ≤ (8 : Int) ∧ (8 : Int) ≤ (List.length x0 : Int) then
    (if 0 ≤ ((List.length x0 : Int) : Int) ∧ ((List.length x0 : Int) : Int) ≤ (List.length x0 : Int) ∧ 0 ≤ (16 : Int) ∧ (16 : Int) ≤ (List.length x0 : Int) then
     (if 0 ≤ ((List.length x0 : Int) : Int) ∧ ((List.length x0 : Int) : Int) ≤ (List.length x0 : Int) ∧ 0 ≤ (24 : Int) ∧ (24 : Int) ≤ (List.length x0 : Int) then
      ((C_unicode_utf8_word_string F_unicode_utf8_word_string x0).bind fun r1 =>
       ((C_unicode_utf8_word_string F_unicode_utf8_word_string (List.drop (Int.toNat 8) (List.take (Int.toNat (List.length x0 : Int)) x0))).bind fun r2 =>
        ((C_unicode_utf8_word_string F_unicode_utf8_word_string (List.drop (Int.toNat 16) (List.take (Int.toNat (List.length x0 : Int)) x0))).bind fun r3 =>
         ((C_unicode_utf8_word_string F_unicode_utf8_word_string (List.drop (Int.toNat 24) (List.take (Int.toNat (List.length x0 : Int)) x0))).bind fun r4 =>
          (bcond (((andI .u64 (orI .u64 (orI .u64 (res_unicode_utf8_word_string_0 r1) (res_unicode_utf8_word_string_0 r2)) (orI .u64 (res_unicode_utf8_word_string_0 r3) (res_unicode_utf8_word_string_0 r4))) 9259542123273814144) : Int) == 0)
           (if 0 ≤ ((List.length x0 : Int) : Int) ∧ ((List.length x0 : Int) : Int) ≤ (List.length x0 : Int) ∧ 0 ≤ (32 : Int) ∧ (32 : Int) ≤ (List.length x0 : Int) then
            (L_unicode_utf8_ValidString_1 n m1 m2 (List.drop (Int.toNat 32) (List.take (Int.toNat (List.length x0 : Int)) x0)))
           else none)
           (L_unicode_utf8_ValidString_0 n m1 x0))))))
     else none)
    else none)
   else none)
   (L_unicode_utf8_ValidString_0 n m1 x0)) := by kernel_rfl
theorem ok_unicode_utf8_ValidString : fnOk os_unicode_utf8_ValidString sig_unicode_utf8_ValidString Tryd.f40 = true := by kernel_rfl
theorem fn_unicode_utf8_ValidString : P.funcs[40]? = some Tryd.f40 := by kernel_rfl
noncomputable def F_unicode_utf8_ValidString : sig_unicode_utf8_ValidString.Fn := fun x y => run T (env_unicode_utf8_ValidString) os_unicode_utf8_ValidString sig_unicode_utf8_ValidString Tryd.f40 hs_unicode_utf8_ValidString big x y
theorem S_unicode_utf8_ValidString : Sound P 40 ⟨sig_unicode_utf8_ValidString, F_unicode_utf8_ValidString⟩ := sound_of (os := os_unicode_utf8_ValidString) (hs := hs_unicode_utf8_ValidString) (env_cons S_unicode_utf8_word_string (env_nil)) fn_unicode_utf8_ValidString ok_unicode_utf8_ValidString (fun x y out h => ⟨big, h⟩)
theorem e_unicode_utf8_ValidString (a0 : List UInt8) : C_unicode_utf8_ValidString F_unicode_utf8_ValidString a0 =
  (L_unicode_utf8_ValidString_0 big big a0) := by kernel_rfl
def sig_R_CellText : Sig := ⟨[.v false .str], [], [(false, [.fr .bool])]⟩
def C_R_CellText (F : sig_R_CellText.Fn) (a0 : List UInt8) : Option sig_R_CellText.Out := F (a0, ()) ()
def ret_R_CellText (v0 : Bool) : sig_R_CellText.Out := (((v0, ()), ()), ())
def res_R_CellText_0 (r : sig_R_CellText.Out) : Bool := r.1.1.1
@[simp] theorem res_R_CellText_0_ret (v0 : Bool) : res_R_CellText_0 (ret_R_CellText v0) = v0 := rfl
def os_R_CellText : RegT := ⟨[], [], false⟩
def hs_R_CellText : List Keep := [[(9, [])]]
@[reducible] noncomputable def env_R_CellText : Env := [(40, ⟨sig_unicode_utf8_ValidString, F_unicode_utf8_ValidString⟩), (41, ⟨sig_R_Char, F_R_Char⟩)]
noncomputable def L_R_CellText_0 (n m1 : Nat) (x9s : List UInt8) (x9i : Nat) : Option sig_R_CellText.Out :=
  loopAt T (env_R_CellText) os_R_CellText sig_R_CellText Tryd.f15 hs_R_CellText n [.sr, .sr, .sl, .sr, .bl] m1 (mk 21 [(9, .itr x9s x9i [])])
theorem L_R_CellText_0_step (n m1 : Nat) (x9s : List UInt8) (x9i : Nat) : L_R_CellText_0 n (m1 + 1) x9s x9i =
  (bcond (decide (((x9i : Nat) : Int) < (List.length x9s : Int)))
   (bcond (((((udec x9s x9i).1 : Int) : Int) == 10) == false)
    ((C_R_Char F_R_Char (IntKind.i64.wrap ((udec x9s x9i).1 : Int))).bind fun r1 =>
     (bcond (!(res_R_Char_0 r1))
      (some (ret_R_CellText false))
      (L_R_CellText_0 n m1 x9s (x9i + (udec x9s x9i).2))))
    (some (ret_R_CellText false)))
   (some (ret_R_CellText true))) := by kernel_rfl
theorem ok_R_CellText : fnOk os_R_CellText sig_R_CellText Tryd.f15 = true := by kernel_rfl
theorem fn_R_CellText : P.funcs[15]? = some Tryd.f15 := by kernel_rfl
noncomputable def F_R_CellText : sig_R_CellText.Fn := fun x y => run T (env_R_CellText) os_R_CellText sig_R_CellText Tryd.f15 hs_R_CellText big x y
theorem S_R_CellText : Sound P 15 ⟨sig_R_CellText, F_R_CellText⟩ := sound_of (os := os_R_CellText) (hs := hs_R_CellText) (env_cons S_unicode_utf8_ValidString (env_cons S_R_Char (env_nil))) fn_R_CellText ok_R_CellText (fun x y out h => ⟨big, h⟩)
theorem e_R_CellText (a0 : List UInt8) : C_R_CellText F_R_CellText a0 =
  ((C_unicode_utf8_ValidString F_unicode_utf8_ValidString a0).bind fun r1 =>
   (bcond (!(res_unicode_utf8_ValidString_0 r1))
    (some (ret_R_CellText false))
    (L_R_CellText_0 big big a0 0))) := by kernel_rfl
end Go.Ev
