/- Functions, step by step. -/
import Derived.Test.YteojfhgljknmiaaDoorGFlow
namespace Go.Ev
set_option linter.unusedVariables false
set_option maxRecDepth 100000
open Go.Proofs
def sig_unicode_utf8_decodeRuneInStringSlow : Sig := ⟨[.v false .str], [], [(false, [.fr (.int .i32)]), (false, [.fr (.int .i64)])]⟩
def os_unicode_utf8_decodeRuneInStringSlow : RegT := ⟨[], [], false⟩
def hs_unicode_utf8_decodeRuneInStringSlow : List Keep := []
@[reducible] noncomputable def env_unicode_utf8_decodeRuneInStringSlow : Env := []
theorem ok_unicode_utf8_decodeRuneInStringSlow : fnOk os_unicode_utf8_decodeRuneInStringSlow sig_unicode_utf8_decodeRuneInStringSlow Tryd.f88 = true := by kernel_rfl
theorem fn_unicode_utf8_decodeRuneInStringSlow : P.funcs[88]? = some Tryd.f88 := by kernel_rfl
noncomputable def F_unicode_utf8_decodeRuneInStringSlow : sig_unicode_utf8_decodeRuneInStringSlow.Fn := fun x y => run T (env_unicode_utf8_decodeRuneInStringSlow) os_unicode_utf8_decodeRuneInStringSlow sig_unicode_utf8_decodeRuneInStringSlow Tryd.f88 hs_unicode_utf8_decodeRuneInStringSlow big x y
theorem S_unicode_utf8_decodeRuneInStringSlow : Sound P 88 ⟨sig_unicode_utf8_decodeRuneInStringSlow, F_unicode_utf8_decodeRuneInStringSlow⟩ := sound_of (os := os_unicode_utf8_decodeRuneInStringSlow) (hs := hs_unicode_utf8_decodeRuneInStringSlow) (env_nil) fn_unicode_utf8_decodeRuneInStringSlow ok_unicode_utf8_decodeRuneInStringSlow (fun x y out h => ⟨big, h⟩)
def sig_unicode_utf8_DecodeRuneInString : Sig := ⟨[.v false .str], [], [(false, [.fr (.int .i32)]), (false, [.fr (.int .i64)])]⟩
def os_unicode_utf8_DecodeRuneInString : RegT := ⟨[], [], false⟩
def hs_unicode_utf8_DecodeRuneInString : List Keep := []
@[reducible] noncomputable def env_unicode_utf8_DecodeRuneInString : Env := [(88, ⟨sig_unicode_utf8_decodeRuneInStringSlow, F_unicode_utf8_decodeRuneInStringSlow⟩)]
theorem ok_unicode_utf8_DecodeRuneInString : fnOk os_unicode_utf8_DecodeRuneInString sig_unicode_utf8_DecodeRuneInString Tryd.f44 = true := by kernel_rfl
theorem fn_unicode_utf8_DecodeRuneInString : P.funcs[44]? = some Tryd.f44 := by kernel_rfl
noncomputable def F_unicode_utf8_DecodeRuneInString : sig_unicode_utf8_DecodeRuneInString.Fn := fun x y => run T (env_unicode_utf8_DecodeRuneInString) os_unicode_utf8_DecodeRuneInString sig_unicode_utf8_DecodeRuneInString Tryd.f44 hs_unicode_utf8_DecodeRuneInString big x y
theorem S_unicode_utf8_DecodeRuneInString : Sound P 44 ⟨sig_unicode_utf8_DecodeRuneInString, F_unicode_utf8_DecodeRuneInString⟩ := sound_of (os := os_unicode_utf8_DecodeRuneInString) (hs := hs_unicode_utf8_DecodeRuneInString) (env_cons S_unicode_utf8_decodeRuneInStringSlow (env_nil)) fn_unicode_utf8_DecodeRuneInString ok_unicode_utf8_DecodeRuneInString (fun x y out h => ⟨big, h⟩)
end Go.Ev
