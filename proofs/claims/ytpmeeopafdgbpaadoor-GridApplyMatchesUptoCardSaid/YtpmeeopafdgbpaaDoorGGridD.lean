/- Functions, step by step. -/
import Derived.Test.YtpmeeopafdgbpaaDoorGSort
namespace Go.Ev
set_option linter.unusedVariables false
set_option maxRecDepth 100000
open Go.Proofs
def sig_grid_Raw_c1 : Sig := ⟨[.v true YRect, .p 0], [[.fr (.int .i64), .fr (.int .i64), .fr (.int .i64), .fr (.int .i64)]], [(false, [.fr .bool])]⟩
def C_grid_Raw_c1 (F : sig_grid_Raw_c1.Fn) (a0 : YRect.den) (b0_0 : Int) (b0_1 : Int) (b0_2 : Int) (b0_3 : Int) : Option sig_grid_Raw_c1.Out := F (a0, ()) ((b0_0, b0_1, b0_2, b0_3, ()), ())
def ret_grid_Raw_c1 (v0 : Bool) (v1 : Int) (v2 : Int) (v3 : Int) (v4 : Int) : sig_grid_Raw_c1.Out := (((v0, ()), ()), ((v1, v2, v3, v4, ()), ()))
def res_grid_Raw_c1_0 (r : sig_grid_Raw_c1.Out) : Bool := r.1.1.1
@[simp] theorem res_grid_Raw_c1_0_ret (v0 : Bool) (v1 : Int) (v2 : Int) (v3 : Int) (v4 : Int) : res_grid_Raw_c1_0 (ret_grid_Raw_c1 v0 v1 v2 v3 v4) = v0 := rfl
def res_grid_Raw_c1_1 (r : sig_grid_Raw_c1.Out) : Int := r.2.1.1
@[simp] theorem res_grid_Raw_c1_1_ret (v0 : Bool) (v1 : Int) (v2 : Int) (v3 : Int) (v4 : Int) : res_grid_Raw_c1_1 (ret_grid_Raw_c1 v0 v1 v2 v3 v4) = v1 := rfl
def res_grid_Raw_c1_2 (r : sig_grid_Raw_c1.Out) : Int := r.2.1.2.1
@[simp] theorem res_grid_Raw_c1_2_ret (v0 : Bool) (v1 : Int) (v2 : Int) (v3 : Int) (v4 : Int) : res_grid_Raw_c1_2 (ret_grid_Raw_c1 v0 v1 v2 v3 v4) = v2 := rfl
def res_grid_Raw_c1_3 (r : sig_grid_Raw_c1.Out) : Int := r.2.1.2.2.1
@[simp] theorem res_grid_Raw_c1_3_ret (v0 : Bool) (v1 : Int) (v2 : Int) (v3 : Int) (v4 : Int) : res_grid_Raw_c1_3 (ret_grid_Raw_c1 v0 v1 v2 v3 v4) = v3 := rfl
def res_grid_Raw_c1_4 (r : sig_grid_Raw_c1.Out) : Int := r.2.1.2.2.2.1
@[simp] theorem res_grid_Raw_c1_4_ret (v0 : Bool) (v1 : Int) (v2 : Int) (v3 : Int) (v4 : Int) : res_grid_Raw_c1_4 (ret_grid_Raw_c1 v0 v1 v2 v3 v4) = v4 := rfl
def os_grid_Raw_c1 : RegT := ⟨[], [], false⟩
def hs_grid_Raw_c1 : List Keep := []
@[reducible] noncomputable def env_grid_Raw_c1 : Env := [(47, ⟨sig_grid_meets, F_grid_meets⟩)]
theorem ok_grid_Raw_c1 : fnOk os_grid_Raw_c1 sig_grid_Raw_c1 Tryd.f58 = true := by kernel_rfl
theorem fn_grid_Raw_c1 : P.funcs[58]? = some Tryd.f58 := by kernel_rfl
noncomputable def F_grid_Raw_c1 : sig_grid_Raw_c1.Fn := fun x y => run T (env_grid_Raw_c1) os_grid_Raw_c1 sig_grid_Raw_c1 Tryd.f58 hs_grid_Raw_c1 big x y
theorem S_grid_Raw_c1 : Sound P 58 ⟨sig_grid_Raw_c1, F_grid_Raw_c1⟩ := sound_of (os := os_grid_Raw_c1) (hs := hs_grid_Raw_c1) (env_cons S_grid_meets (env_nil)) fn_grid_Raw_c1 ok_grid_Raw_c1 (fun x y out h => ⟨big, h⟩)
theorem e_grid_Raw_c1 (a0 : YRect.den) (b0_0 : Int) (b0_1 : Int) (b0_2 : Int) (b0_3 : Int) : C_grid_Raw_c1 F_grid_Raw_c1 a0 b0_0 b0_1 b0_2 b0_3 =
  ((C_grid_meets F_grid_meets a0 (b0_0, (b0_1, (b0_2, b0_3)))).bind fun r1 =>
   (some (ret_grid_Raw_c1 (res_grid_meets_0 r1) b0_0 b0_1 b0_2 b0_3))) := by kernel_rfl
def sig_slices_IndexFunc_Rect_grid_Raw_c1 : Sig := ⟨[.w 46 YRect, .f 58 [0]], [[.fr (.int .i64), .fr (.int .i64), .fr (.int .i64), .fr (.int .i64)]], [(false, [.fr (.int .i64)])]⟩
def C_slices_IndexFunc_Rect_grid_Raw_c1 (F : sig_slices_IndexFunc_Rect_grid_Raw_c1.Fn) (a0 : List YRect.den) (b0_0 : Int) (b0_1 : Int) (b0_2 : Int) (b0_3 : Int) : Option sig_slices_IndexFunc_Rect_grid_Raw_c1.Out := F (a0, ()) ((b0_0, b0_1, b0_2, b0_3, ()), ())
def ret_slices_IndexFunc_Rect_grid_Raw_c1 (v0 : Int) (v1 : Int) (v2 : Int) (v3 : Int) (v4 : Int) (v5 : List YRect.den) : sig_slices_IndexFunc_Rect_grid_Raw_c1.Out := (((v0, ()), ()), ((v1, v2, v3, v4, ()), (v5, ()), ()))
def res_slices_IndexFunc_Rect_grid_Raw_c1_0 (r : sig_slices_IndexFunc_Rect_grid_Raw_c1.Out) : Int := r.1.1.1
@[simp] theorem res_slices_IndexFunc_Rect_grid_Raw_c1_0_ret (v0 : Int) (v1 : Int) (v2 : Int) (v3 : Int) (v4 : Int) (v5 : List YRect.den) : res_slices_IndexFunc_Rect_grid_Raw_c1_0 (ret_slices_IndexFunc_Rect_grid_Raw_c1 v0 v1 v2 v3 v4 v5) = v0 := rfl
def res_slices_IndexFunc_Rect_grid_Raw_c1_1 (r : sig_slices_IndexFunc_Rect_grid_Raw_c1.Out) : Int := r.2.1.1
@[simp] theorem res_slices_IndexFunc_Rect_grid_Raw_c1_1_ret (v0 : Int) (v1 : Int) (v2 : Int) (v3 : Int) (v4 : Int) (v5 : List YRect.den) : res_slices_IndexFunc_Rect_grid_Raw_c1_1 (ret_slices_IndexFunc_Rect_grid_Raw_c1 v0 v1 v2 v3 v4 v5) = v1 := rfl
def res_slices_IndexFunc_Rect_grid_Raw_c1_2 (r : sig_slices_IndexFunc_Rect_grid_Raw_c1.Out) : Int := r.2.1.2.1
@[simp] theorem res_slices_IndexFunc_Rect_grid_Raw_c1_2_ret (v0 : Int) (v1 : Int) (v2 : Int) (v3 : Int) (v4 : Int) (v5 : List YRect.den) : res_slices_IndexFunc_Rect_grid_Raw_c1_2 (ret_slices_IndexFunc_Rect_grid_Raw_c1 v0 v1 v2 v3 v4 v5) = v2 := rfl
def res_slices_IndexFunc_Rect_grid_Raw_c1_3 (r : sig_slices_IndexFunc_Rect_grid_Raw_c1.Out) : Int := r.2.1.2.2.1
@[simp] theorem res_slices_IndexFunc_Rect_grid_Raw_c1_3_ret (v0 : Int) (v1 : Int) (v2 : Int) (v3 : Int) (v4 : Int) (v5 : List YRect.den) : res_slices_IndexFunc_Rect_grid_Raw_c1_3 (ret_slices_IndexFunc_Rect_grid_Raw_c1 v0 v1 v2 v3 v4 v5) = v3 := rfl
def res_slices_IndexFunc_Rect_grid_Raw_c1_4 (r : sig_slices_IndexFunc_Rect_grid_Raw_c1.Out) : Int := r.2.1.2.2.2.1
@[simp] theorem res_slices_IndexFunc_Rect_grid_Raw_c1_4_ret (v0 : Int) (v1 : Int) (v2 : Int) (v3 : Int) (v4 : Int) (v5 : List YRect.den) : res_slices_IndexFunc_Rect_grid_Raw_c1_4 (ret_slices_IndexFunc_Rect_grid_Raw_c1 v0 v1 v2 v3 v4 v5) = v4 := rfl
def res_slices_IndexFunc_Rect_grid_Raw_c1_5 (r : sig_slices_IndexFunc_Rect_grid_Raw_c1.Out) : List YRect.den := r.2.2.1.1
@[simp] theorem res_slices_IndexFunc_Rect_grid_Raw_c1_5_ret (v0 : Int) (v1 : Int) (v2 : Int) (v3 : Int) (v4 : Int) (v5 : List YRect.den) : res_slices_IndexFunc_Rect_grid_Raw_c1_5 (ret_slices_IndexFunc_Rect_grid_Raw_c1 v0 v1 v2 v3 v4 v5) = v5 := rfl
def os_slices_IndexFunc_Rect_grid_Raw_c1 : RegT := ⟨[], [], false⟩
def hs_slices_IndexFunc_Rect_grid_Raw_c1 : List Keep := [[(0, []), (1, []), (7, []), (8, []), (19, []), (20, [(0, 46, YRect)])]]
@[reducible] noncomputable def env_slices_IndexFunc_Rect_grid_Raw_c1 : Env := [(58, ⟨sig_grid_Raw_c1, F_grid_Raw_c1⟩)]
noncomputable def L_slices_IndexFunc_Rect_grid_Raw_c1_0 (n m1 : Nat) (x7 : Int) (x8 : Int) (x19_0 : Int) (x19_1 : Int) (x19_2 : Int) (x19_3 : Int) (x20 : List YRect.den) : Option sig_slices_IndexFunc_Rect_grid_Raw_c1.Out :=
  loopAt T (env_slices_IndexFunc_Rect_grid_Raw_c1) os_slices_IndexFunc_Rect_grid_Raw_c1 sig_slices_IndexFunc_Rect_grid_Raw_c1 Tryd.f71 hs_slices_IndexFunc_Rect_grid_Raw_c1 n [.sr, .sl, .sr, .bl] m1 (mk 21 [(0, .cs false [.al ⟨20, 0⟩]), (1, .cs false [.clo 58 [19]]), (7, .cs false [.val (.int .i64) x7]), (8, .cs false [.val (.int .i64) x8]), (19, .box [.val (.int .i64) x19_0, .val (.int .i64) x19_1, .val (.int .i64) x19_2, .val (.int .i64) x19_3]), (20, .vb [.own 46 YRect x20])])
theorem L_slices_IndexFunc_Rect_grid_Raw_c1_0_step (n m1 : Nat) (x7 : Int) (x8 : Int) (x19_0 : Int) (x19_1 : Int) (x19_2 : Int) (x19_3 : Int) (x20 : List YRect.den) : L_slices_IndexFunc_Rect_grid_Raw_c1_0 n (m1 + 1) x7 x8 x19_0 x19_1 x19_2 x19_3 x20 =
  (bcond (decide ((x8 : Int) < x7))
   (if 0 ≤ (x8 : Int) ∧ (x8 : Int) < (List.length x20 : Int) then
    ((C_grid_Raw_c1 F_grid_Raw_c1 (at_ (e := YRect) x20 x8) x19_0 x19_1 x19_2 x19_3).bind fun r1 =>
     (bcond (res_grid_Raw_c1_0 r1)
      (some (ret_slices_IndexFunc_Rect_grid_Raw_c1 x8 (res_grid_Raw_c1_1 r1) (res_grid_Raw_c1_2 r1) (res_grid_Raw_c1_3 r1) (res_grid_Raw_c1_4 r1) x20))
      (L_slices_IndexFunc_Rect_grid_Raw_c1_0 n m1 x7 (IntKind.i64.wrap (x8 + 1)) (res_grid_Raw_c1_1 r1) (res_grid_Raw_c1_2 r1) (res_grid_Raw_c1_3 r1) (res_grid_Raw_c1_4 r1) x20)))
   else none)
   (some (ret_slices_IndexFunc_Rect_grid_Raw_c1 (-1) x19_0 x19_1 x19_2 x19_3 x20))) := by kernel_rfl
theorem ok_slices_IndexFunc_Rect_grid_Raw_c1 : fnOk os_slices_IndexFunc_Rect_grid_Raw_c1 sig_slices_IndexFunc_Rect_grid_Raw_c1 Tryd.f71 = true := by kernel_rfl
theorem fn_slices_IndexFunc_Rect_grid_Raw_c1 : P.funcs[71]? = some Tryd.f71 := by kernel_rfl
noncomputable def F_slices_IndexFunc_Rect_grid_Raw_c1 : sig_slices_IndexFunc_Rect_grid_Raw_c1.Fn := fun x y => run T (env_slices_IndexFunc_Rect_grid_Raw_c1) os_slices_IndexFunc_Rect_grid_Raw_c1 sig_slices_IndexFunc_Rect_grid_Raw_c1 Tryd.f71 hs_slices_IndexFunc_Rect_grid_Raw_c1 big x y
theorem S_slices_IndexFunc_Rect_grid_Raw_c1 : Sound P 71 ⟨sig_slices_IndexFunc_Rect_grid_Raw_c1, F_slices_IndexFunc_Rect_grid_Raw_c1⟩ := sound_of (os := os_slices_IndexFunc_Rect_grid_Raw_c1) (hs := hs_slices_IndexFunc_Rect_grid_Raw_c1) (env_cons S_grid_Raw_c1 (env_nil)) fn_slices_IndexFunc_Rect_grid_Raw_c1 ok_slices_IndexFunc_Rect_grid_Raw_c1 (fun x y out h => ⟨big, h⟩)
theorem e_slices_IndexFunc_Rect_grid_Raw_c1 (a0 : List YRect.den) (b0_0 : Int) (b0_1 : Int) (b0_2 : Int) (b0_3 : Int) : C_slices_IndexFunc_Rect_grid_Raw_c1 F_slices_IndexFunc_Rect_grid_Raw_c1 a0 b0_0 b0_1 b0_2 b0_3 =
  (L_slices_IndexFunc_Rect_grid_Raw_c1_0 big big (List.length a0 : Int) 0 b0_0 b0_1 b0_2 b0_3 a0) := by kernel_rfl
def sig_slices_DeleteFunc_Rect_grid_Raw_c1 : Sig := ⟨[.o 46 YRect, .f 58 [0]], [[.fr (.int .i64), .fr (.int .i64), .fr (.int .i64), .fr (.int .i64)]], [(false, [.ow 46 YRect])]⟩
def C_slices_DeleteFunc_Rect_grid_Raw_c1 (F : sig_slices_DeleteFunc_Rect_grid_Raw_c1.Fn) (a0 : List YRect.den) (b0_0 : Int) (b0_1 : Int) (b0_2 : Int) (b0_3 : Int) : Option sig_slices_DeleteFunc_Rect_grid_Raw_c1.Out := F (a0, ()) ((b0_0, b0_1, b0_2, b0_3, ()), ())
def ret_slices_DeleteFunc_Rect_grid_Raw_c1 (v0 : List YRect.den) (v1 : Int) (v2 : Int) (v3 : Int) (v4 : Int) : sig_slices_DeleteFunc_Rect_grid_Raw_c1.Out := (((v0, ()), ()), ((v1, v2, v3, v4, ()), ()))
def res_slices_DeleteFunc_Rect_grid_Raw_c1_0 (r : sig_slices_DeleteFunc_Rect_grid_Raw_c1.Out) : List YRect.den := r.1.1.1
@[simp] theorem res_slices_DeleteFunc_Rect_grid_Raw_c1_0_ret (v0 : List YRect.den) (v1 : Int) (v2 : Int) (v3 : Int) (v4 : Int) : res_slices_DeleteFunc_Rect_grid_Raw_c1_0 (ret_slices_DeleteFunc_Rect_grid_Raw_c1 v0 v1 v2 v3 v4) = v0 := rfl
def res_slices_DeleteFunc_Rect_grid_Raw_c1_1 (r : sig_slices_DeleteFunc_Rect_grid_Raw_c1.Out) : Int := r.2.1.1
@[simp] theorem res_slices_DeleteFunc_Rect_grid_Raw_c1_1_ret (v0 : List YRect.den) (v1 : Int) (v2 : Int) (v3 : Int) (v4 : Int) : res_slices_DeleteFunc_Rect_grid_Raw_c1_1 (ret_slices_DeleteFunc_Rect_grid_Raw_c1 v0 v1 v2 v3 v4) = v1 := rfl
def res_slices_DeleteFunc_Rect_grid_Raw_c1_2 (r : sig_slices_DeleteFunc_Rect_grid_Raw_c1.Out) : Int := r.2.1.2.1
@[simp] theorem res_slices_DeleteFunc_Rect_grid_Raw_c1_2_ret (v0 : List YRect.den) (v1 : Int) (v2 : Int) (v3 : Int) (v4 : Int) : res_slices_DeleteFunc_Rect_grid_Raw_c1_2 (ret_slices_DeleteFunc_Rect_grid_Raw_c1 v0 v1 v2 v3 v4) = v2 := rfl
def res_slices_DeleteFunc_Rect_grid_Raw_c1_3 (r : sig_slices_DeleteFunc_Rect_grid_Raw_c1.Out) : Int := r.2.1.2.2.1
@[simp] theorem res_slices_DeleteFunc_Rect_grid_Raw_c1_3_ret (v0 : List YRect.den) (v1 : Int) (v2 : Int) (v3 : Int) (v4 : Int) : res_slices_DeleteFunc_Rect_grid_Raw_c1_3 (ret_slices_DeleteFunc_Rect_grid_Raw_c1 v0 v1 v2 v3 v4) = v3 := rfl
def res_slices_DeleteFunc_Rect_grid_Raw_c1_4 (r : sig_slices_DeleteFunc_Rect_grid_Raw_c1.Out) : Int := r.2.1.2.2.2.1
@[simp] theorem res_slices_DeleteFunc_Rect_grid_Raw_c1_4_ret (v0 : List YRect.den) (v1 : Int) (v2 : Int) (v3 : Int) (v4 : Int) : res_slices_DeleteFunc_Rect_grid_Raw_c1_4 (ret_slices_DeleteFunc_Rect_grid_Raw_c1 v0 v1 v2 v3 v4) = v4 := rfl
def os_slices_DeleteFunc_Rect_grid_Raw_c1 : RegT := ⟨[], [], true⟩
def hs_slices_DeleteFunc_Rect_grid_Raw_c1 : List Keep := [[(0, [(0, 46, YRect)]), (1, []), (5, []), (6, []), (42, [])]]
@[reducible] noncomputable def env_slices_DeleteFunc_Rect_grid_Raw_c1 : Env := [(71, ⟨sig_slices_IndexFunc_Rect_grid_Raw_c1, F_slices_IndexFunc_Rect_grid_Raw_c1⟩), (58, ⟨sig_grid_Raw_c1, F_grid_Raw_c1⟩)]
noncomputable def L_slices_DeleteFunc_Rect_grid_Raw_c1_0 (n m1 : Nat) (x0 : List YRect.den) (x5 : Int) (x6 : Int) (x42_0 : Int) (x42_1 : Int) (x42_2 : Int) (x42_3 : Int) : Option sig_slices_DeleteFunc_Rect_grid_Raw_c1.Out :=
  loopAt T1 (env_slices_DeleteFunc_Rect_grid_Raw_c1) os_slices_DeleteFunc_Rect_grid_Raw_c1 sig_slices_DeleteFunc_Rect_grid_Raw_c1 Tryd.f57 hs_slices_DeleteFunc_Rect_grid_Raw_c1 n [.sr, .sr, .sr, .sl, .sr, .bl] m1 (mk 43 [(0, .cs false [.own 46 YRect x0]), (1, .cs false [.clo 58 [42]]), (5, .cs false [.val (.int .i64) x5]), (6, .cs false [.val (.int .i64) x6]), (42, .box [.val (.int .i64) x42_0, .val (.int .i64) x42_1, .val (.int .i64) x42_2, .val (.int .i64) x42_3])])
theorem L_slices_DeleteFunc_Rect_grid_Raw_c1_0_step (n m1 : Nat) (x0 : List YRect.den) (x5 : Int) (x6 : Int) (x42_0 : Int) (x42_1 : Int) (x42_2 : Int) (x42_3 : Int) : L_slices_DeleteFunc_Rect_grid_Raw_c1_0 n (m1 + 1) x0 x5 x6 x42_0 x42_1 x42_2 x42_3 =
  (bcond (decide ((x6 : Int) < (List.length x0 : Int)))
   (if 0 ≤ (x6 : Int) ∧ (x6 : Int) < (List.length x0 : Int) then
    ((C_grid_Raw_c1 F_grid_Raw_c1 (at_ (e := YRect) x0 x6) x42_0 x42_1 x42_2 x42_3).bind fun r1 =>
     (bcond (!(res_grid_Raw_c1_0 r1))
      (if 0 ≤ (x5 : Int) ∧ (x5 : Int) < (List.length x0 : Int) then
       (L_slices_DeleteFunc_Rect_grid_Raw_c1_0 n m1 (List.set x0 (Int.toNat x5) (at_ (e := YRect) x0 x6)) (IntKind.i64.wrap (x5 + 1)) (IntKind.i64.wrap (x6 + 1)) (res_grid_Raw_c1_1 r1) (res_grid_Raw_c1_2 r1) (res_grid_Raw_c1_3 r1) (res_grid_Raw_c1_4 r1))
      else none)
      (L_slices_DeleteFunc_Rect_grid_Raw_c1_0 n m1 x0 x5 (IntKind.i64.wrap (x6 + 1)) (res_grid_Raw_c1_1 r1) (res_grid_Raw_c1_2 r1) (res_grid_Raw_c1_3 r1) (res_grid_Raw_c1_4 r1))))
   else none)
   (if 0 ≤ (x5 : Int) ∧ (x5 : Int) < (List.length x0 : Int) then
    (if 0 ≤ (x5 : Int) ∧ (x5 : Int) ≤ (List.length (List.take (Int.toNat x5) x0 ++ List.replicate (List.length x0 - Int.toNat x5) ((0, (0, (0, 0))) : YRect.den)) : Int) then
     (some (ret_slices_DeleteFunc_Rect_grid_Raw_c1 (List.take (Int.toNat x5) (List.take (Int.toNat x5) x0 ++ List.replicate (List.length x0 - Int.toNat x5) ((0, (0, (0, 0))) : YRect.den))) x42_0 x42_1 x42_2 x42_3))
    else none)
   else none)) := by kernel_rfl
theorem ok_slices_DeleteFunc_Rect_grid_Raw_c1 : fnOk os_slices_DeleteFunc_Rect_grid_Raw_c1 sig_slices_DeleteFunc_Rect_grid_Raw_c1 Tryd.f57 = true := by kernel_rfl
theorem fn_slices_DeleteFunc_Rect_grid_Raw_c1 : P.funcs[57]? = some Tryd.f57 := by kernel_rfl
noncomputable def F_slices_DeleteFunc_Rect_grid_Raw_c1 : sig_slices_DeleteFunc_Rect_grid_Raw_c1.Fn := fun x y => run T1 (env_slices_DeleteFunc_Rect_grid_Raw_c1) os_slices_DeleteFunc_Rect_grid_Raw_c1 sig_slices_DeleteFunc_Rect_grid_Raw_c1 Tryd.f57 hs_slices_DeleteFunc_Rect_grid_Raw_c1 big x y
theorem S_slices_DeleteFunc_Rect_grid_Raw_c1 : Sound P 57 ⟨sig_slices_DeleteFunc_Rect_grid_Raw_c1, F_slices_DeleteFunc_Rect_grid_Raw_c1⟩ := sound_of1 (os := os_slices_DeleteFunc_Rect_grid_Raw_c1) (hs := hs_slices_DeleteFunc_Rect_grid_Raw_c1) (env_cons S_slices_IndexFunc_Rect_grid_Raw_c1 (env_cons S_grid_Raw_c1 (env_nil))) fn_slices_DeleteFunc_Rect_grid_Raw_c1 ok_slices_DeleteFunc_Rect_grid_Raw_c1 (fun x y out h => ⟨big, h⟩)
theorem e_slices_DeleteFunc_Rect_grid_Raw_c1 (a0 : List YRect.den) (b0_0 : Int) (b0_1 : Int) (b0_2 : Int) (b0_3 : Int) : C_slices_DeleteFunc_Rect_grid_Raw_c1 F_slices_DeleteFunc_Rect_grid_Raw_c1 a0 b0_0 b0_1 b0_2 b0_3 =
  ((C_slices_IndexFunc_Rect_grid_Raw_c1 F_slices_IndexFunc_Rect_grid_Raw_c1 a0 b0_0 b0_1 b0_2 b0_3).bind fun r1 =>
   (bcond (((res_slices_IndexFunc_Rect_grid_Raw_c1_0 r1) : Int) == (-1))
    (some (ret_slices_DeleteFunc_Rect_grid_Raw_c1 (res_slices_IndexFunc_Rect_grid_Raw_c1_5 r1) (res_slices_IndexFunc_Rect_grid_Raw_c1_1 r1) (res_slices_IndexFunc_Rect_grid_Raw_c1_2 r1) (res_slices_IndexFunc_Rect_grid_Raw_c1_3 r1) (res_slices_IndexFunc_Rect_grid_Raw_c1_4 r1)))
    (L_slices_DeleteFunc_Rect_grid_Raw_c1_0 big big (res_slices_IndexFunc_Rect_grid_Raw_c1_5 r1) (res_slices_IndexFunc_Rect_grid_Raw_c1_0 r1) (IntKind.i64.wrap ((res_slices_IndexFunc_Rect_grid_Raw_c1_0 r1) + 1)) (res_slices_IndexFunc_Rect_grid_Raw_c1_1 r1) (res_slices_IndexFunc_Rect_grid_Raw_c1_2 r1) (res_slices_IndexFunc_Rect_grid_Raw_c1_3 r1) (res_slices_IndexFunc_Rect_grid_Raw_c1_4 r1)))) := by kernel_rfl
def sig_slices_Index_Rect : Sig := ⟨[.v false (.list YRect), .v true YRect], [], [(false, [.fr (.int .i64)])]⟩
def C_slices_Index_Rect (F : sig_slices_Index_Rect.Fn) (a0 : List YRect.den) (a1 : YRect.den) : Option sig_slices_Index_Rect.Out := F (a0, a1, ()) ()
def ret_slices_Index_Rect (v0 : Int) : sig_slices_Index_Rect.Out := (((v0, ()), ()), ())
def res_slices_Index_Rect_0 (r : sig_slices_Index_Rect.Out) : Int := r.1.1.1
@[simp] theorem res_slices_Index_Rect_0_ret (v0 : Int) : res_slices_Index_Rect_0 (ret_slices_Index_Rect v0) = v0 := rfl
def os_slices_Index_Rect : RegT := ⟨[(4, .st 1 (.st 2 (.st 3 (.st 0 (.st 4 (.st 5 (.nil)))))))], [], false⟩
def hs_slices_Index_Rect : List Keep := [[(0, []), (3, []), (7, []), (8, [])]]
@[reducible] noncomputable def env_slices_Index_Rect : Env := []
noncomputable def L_slices_Index_Rect_0 (n m1 : Nat) (x0 : List YRect.den) (x3_0 : Int) (x3_1 : Int) (x3_2 : Int) (x3_3 : Int) (x7 : Int) (x8 : Int) : Option sig_slices_Index_Rect.Out :=
  loopAt T (env_slices_Index_Rect) os_slices_Index_Rect sig_slices_Index_Rect Tryd.f76 hs_slices_Index_Rect n [.sr, .sl, .sr, .bl] m1 (mk 19 [(0, .cs false [.val (.list YRect) x0]), (3, .box [.val (.int .i64) x3_0, .val (.int .i64) x3_1, .val (.int .i64) x3_2, .val (.int .i64) x3_3]), (7, .cs false [.val (.int .i64) x7]), (8, .cs false [.val (.int .i64) x8])])
theorem L_slices_Index_Rect_0_step (n m1 : Nat) (x0 : List YRect.den) (x3_0 : Int) (x3_1 : Int) (x3_2 : Int) (x3_3 : Int) (x7 : Int) (x8 : Int) : L_slices_Index_Rect_0 n (m1 + 1) x0 x3_0 x3_1 x3_2 x3_3 x7 x8 =
  (bcond (decide ((x8 : Int) < x7))
   (if 0 ≤ (x8 : Int) ∧ (x8 : Int) < (List.length x0 : Int) then
    (bcond (((x3_0 : Int) == (at_ (e := YRect) x0 x8).1) && (((x3_1 : Int) == (at_ (e := YRect) x0 x8).2.1) && (((x3_2 : Int) == (at_ (e := YRect) x0 x8).2.2.1) && (((x3_3 : Int) == (at_ (e := YRect) x0 x8).2.2.2) && true))))
     (some (ret_slices_Index_Rect x8))
     (L_slices_Index_Rect_0 n m1 x0 x3_0 x3_1 x3_2 x3_3 x7 (IntKind.i64.wrap (x8 + 1))))
   else none)
   (some (ret_slices_Index_Rect (-1)))) := by kernel_rfl
theorem ok_slices_Index_Rect : fnOk os_slices_Index_Rect sig_slices_Index_Rect Tryd.f76 = true := by kernel_rfl
theorem fn_slices_Index_Rect : P.funcs[76]? = some Tryd.f76 := by kernel_rfl
noncomputable def F_slices_Index_Rect : sig_slices_Index_Rect.Fn := fun x y => run T (env_slices_Index_Rect) os_slices_Index_Rect sig_slices_Index_Rect Tryd.f76 hs_slices_Index_Rect big x y
theorem S_slices_Index_Rect : Sound P 76 ⟨sig_slices_Index_Rect, F_slices_Index_Rect⟩ := sound_of (os := os_slices_Index_Rect) (hs := hs_slices_Index_Rect) (env_nil) fn_slices_Index_Rect ok_slices_Index_Rect (fun x y out h => ⟨big, h⟩)
theorem e_slices_Index_Rect (a0 : List YRect.den) (a1 : YRect.den) : C_slices_Index_Rect F_slices_Index_Rect a0 a1 =
  (L_slices_Index_Rect_0 big big a0 a1.1 a1.2.1 a1.2.2.1 a1.2.2.2 (List.length a0 : Int) 0) := by kernel_rfl
def sig_slices_Contains_Rect : Sig := ⟨[.v false (.list YRect), .v true YRect], [], [(false, [.fr .bool])]⟩
def C_slices_Contains_Rect (F : sig_slices_Contains_Rect.Fn) (a0 : List YRect.den) (a1 : YRect.den) : Option sig_slices_Contains_Rect.Out := F (a0, a1, ()) ()
def ret_slices_Contains_Rect (v0 : Bool) : sig_slices_Contains_Rect.Out := (((v0, ()), ()), ())
def res_slices_Contains_Rect_0 (r : sig_slices_Contains_Rect.Out) : Bool := r.1.1.1
@[simp] theorem res_slices_Contains_Rect_0_ret (v0 : Bool) : res_slices_Contains_Rect_0 (ret_slices_Contains_Rect v0) = v0 := rfl
def os_slices_Contains_Rect : RegT := ⟨[], [], false⟩
def hs_slices_Contains_Rect : List Keep := []
@[reducible] noncomputable def env_slices_Contains_Rect : Env := [(76, ⟨sig_slices_Index_Rect, F_slices_Index_Rect⟩)]
theorem ok_slices_Contains_Rect : fnOk os_slices_Contains_Rect sig_slices_Contains_Rect Tryd.f56 = true := by kernel_rfl
theorem fn_slices_Contains_Rect : P.funcs[56]? = some Tryd.f56 := by kernel_rfl
noncomputable def F_slices_Contains_Rect : sig_slices_Contains_Rect.Fn := fun x y => run T (env_slices_Contains_Rect) os_slices_Contains_Rect sig_slices_Contains_Rect Tryd.f56 hs_slices_Contains_Rect big x y
theorem S_slices_Contains_Rect : Sound P 56 ⟨sig_slices_Contains_Rect, F_slices_Contains_Rect⟩ := sound_of (os := os_slices_Contains_Rect) (hs := hs_slices_Contains_Rect) (env_cons S_slices_Index_Rect (env_nil)) fn_slices_Contains_Rect ok_slices_Contains_Rect (fun x y out h => ⟨big, h⟩)
theorem e_slices_Contains_Rect (a0 : List YRect.den) (a1 : YRect.den) : C_slices_Contains_Rect F_slices_Contains_Rect a0 a1 =
  ((C_slices_Index_Rect F_slices_Index_Rect a0 a1).bind fun r1 =>
   (some (ret_slices_Contains_Rect (decide (((res_slices_Index_Rect_0 r1) : Int) ≥ 0))))) := by kernel_rfl
end Go.Ev
