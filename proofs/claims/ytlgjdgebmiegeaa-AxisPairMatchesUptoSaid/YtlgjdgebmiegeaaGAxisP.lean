/- Functions, step by step. -/
import Derived.Test.YtlgjdgebmiegeaaGAxis
import Derived.Test.YtlgjdgebmiegeaaGBehind
namespace Go.Ev
set_option linter.unusedVariables false
set_option maxRecDepth 100000
open Go.Proofs
def sig_axis_Pair : Sig := ⟨[.v false (.list YSpan), .v false (.list YSpan)], [], [(false, [.fr (.list YSpan)]), (false, [.fr (.list YSpan)]), (false, [.fr (.int .i64)])]⟩
def C_axis_Pair (F : sig_axis_Pair.Fn) (a0 : List YSpan.den) (a1 : List YSpan.den) : Option sig_axis_Pair.Out := F (a0, a1, ()) ()
def ret_axis_Pair (v0 : List YSpan.den) (v1 : List YSpan.den) (v2 : Int) : sig_axis_Pair.Out := (((v0, ()), (v1, ()), (v2, ()), ()), ())
def res_axis_Pair_0 (r : sig_axis_Pair.Out) : List YSpan.den := r.1.1.1
@[simp] theorem res_axis_Pair_0_ret (v0 : List YSpan.den) (v1 : List YSpan.den) (v2 : Int) : res_axis_Pair_0 (ret_axis_Pair v0 v1 v2) = v0 := rfl
def res_axis_Pair_1 (r : sig_axis_Pair.Out) : List YSpan.den := r.1.2.1.1
@[simp] theorem res_axis_Pair_1_ret (v0 : List YSpan.den) (v1 : List YSpan.den) (v2 : Int) : res_axis_Pair_1 (ret_axis_Pair v0 v1 v2) = v1 := rfl
def res_axis_Pair_2 (r : sig_axis_Pair.Out) : Int := r.1.2.2.1.1
@[simp] theorem res_axis_Pair_2_ret (v0 : List YSpan.den) (v1 : List YSpan.den) (v2 : Int) : res_axis_Pair_2 (ret_axis_Pair v0 v1 v2) = v2 := rfl
def os_axis_Pair : RegT := ⟨[], []⟩
def hs_axis_Pair : List Keep := [[(13, [(0, 128, YSpan)]), (14, [(0, 128, YSpan)]), (15, []), (16, []), (47, []), (50, [])]]
@[reducible] noncomputable def env_axis_Pair : Env := [(108, ⟨sig_axis_Check, F_axis_Check⟩), (109, ⟨sig_axis_lengths, F_axis_lengths⟩), (110, ⟨sig_axis_reader_kind, F_axis_reader_kind⟩), (112, ⟨sig_axis_reader_left, F_axis_reader_left⟩), (111, ⟨sig_axis_writer_put, F_axis_writer_put⟩), (113, ⟨sig_axis_reader_take, F_axis_reader_take⟩), (114, ⟨sig_axis_writer_done, F_axis_writer_done⟩)]
noncomputable def L_axis_Pair_0 (n m1 : Nat) (x13_0 : List YSpan.den) (x13_1 : Int) (x13_2 : Int) (x14_0 : List YSpan.den) (x14_1 : Int) (x14_2 : Int) (x47_0 : List YSpan.den) (x47_1 : Int) (x50_0 : List YSpan.den) (x50_1 : Int) : Option sig_axis_Pair.Out :=
  loopAt T (env_axis_Pair) os_axis_Pair sig_axis_Pair Try.f43 hs_axis_Pair n [.sr, .sr, .sr, .sr, .sr, .sr, .sr, .sl, .bl] m1 (mk 128 [(13, .box [.own 128 YSpan x13_0, .val (.int .i64) x13_1, .val (.int .i64) x13_2]), (14, .box [.own 128 YSpan x14_0, .val (.int .i64) x14_1, .val (.int .i64) x14_2]), (15, .cs false [.ptr 47 0]), (16, .cs false [.ptr 50 0]), (47, .box [.val (.list YSpan) x47_0, .val (.int .i64) x47_1]), (50, .box [.val (.list YSpan) x50_0, .val (.int .i64) x50_1])])
noncomputable def J_axis_Pair_0 (n m1 : Nat) (y13_0 : List YSpan.den) (y13_1 : Int) (y13_2 : Int) (y14_0 : List YSpan.den) (y14_1 : Int) (y14_2 : Int) (y17 : Int) (y47 : YReader.den) (y50 : YReader.den) : Option sig_axis_Pair.Out :=
  ((C_axis_reader_kind F_axis_reader_kind y47.1 y47.2).bind fun r10 =>
   (bcond (((res_axis_reader_kind_0 r10) : Int) == 0)
    ((C_axis_reader_kind F_axis_reader_kind y50.1 y50.2).bind fun r11 =>
     ((C_axis_writer_put F_axis_writer_put (res_axis_reader_kind_0 r11) y17 y14_0 y14_1 y14_2).bind fun r12 =>
      ((C_axis_reader_take F_axis_reader_take y17 (res_axis_reader_kind_1 r10) (res_axis_reader_kind_2 r10)).bind fun r13 =>
       ((C_axis_reader_take F_axis_reader_take y17 (res_axis_reader_kind_1 r11) (res_axis_reader_kind_2 r11)).bind fun r14 =>
        (L_axis_Pair_0 n m1 y13_0 y13_1 y13_2 (res_axis_writer_put_0 r12) (res_axis_writer_put_1 r12) (res_axis_writer_put_2 r12) (res_axis_reader_take_0 r13) (res_axis_reader_take_1 r13) (res_axis_reader_take_0 r14) (res_axis_reader_take_1 r14))))))
    ((C_axis_reader_take F_axis_reader_take y17 (res_axis_reader_kind_1 r10) (res_axis_reader_kind_2 r10)).bind fun r11 =>
     ((C_axis_reader_take F_axis_reader_take y17 y50.1 y50.2).bind fun r12 =>
      (L_axis_Pair_0 n m1 y13_0 y13_1 y13_2 y14_0 y14_1 y14_2 (res_axis_reader_take_0 r11) (res_axis_reader_take_1 r11) (res_axis_reader_take_0 r12) (res_axis_reader_take_1 r12))))))
theorem L_axis_Pair_0_step (n m1 : Nat) (x13_0 : List YSpan.den) (x13_1 : Int) (x13_2 : Int) (x14_0 : List YSpan.den) (x14_1 : Int) (x14_2 : Int) (x47_0 : List YSpan.den) (x47_1 : Int) (x50_0 : List YSpan.den) (x50_1 : Int) : L_axis_Pair_0 n (m1 + 1) x13_0 x13_1 x13_2 x14_0 x14_1 x14_2 x47_0 x47_1 x50_0 x50_1 =
  ((C_axis_reader_kind F_axis_reader_kind x47_0 x47_1).bind fun r1 =>
   (bcond ((decide (((res_axis_reader_kind_0 r1) : Int) ≥ 0)) == false)
    ((C_axis_reader_kind F_axis_reader_kind x50_0 x50_1).bind fun r2 =>
     (bcond (decide (((res_axis_reader_kind_0 r2) : Int) ≥ 0))
      ((C_axis_reader_kind F_axis_reader_kind (res_axis_reader_kind_1 r1) (res_axis_reader_kind_2 r1)).bind fun r3 =>
       (bcond (((res_axis_reader_kind_0 r3) : Int) == 1)
        ((C_axis_reader_left F_axis_reader_left (res_axis_reader_kind_1 r3) (res_axis_reader_kind_2 r3)).bind fun r4 =>
         ((C_axis_writer_put F_axis_writer_put 1 (res_axis_reader_left_0 r4) x13_0 x13_1 x13_2).bind fun r5 =>
          ((C_axis_reader_left F_axis_reader_left (res_axis_reader_left_1 r4) (res_axis_reader_left_2 r4)).bind fun r6 =>
           ((C_axis_writer_put F_axis_writer_put 0 (res_axis_reader_left_0 r6) x14_0 x14_1 x14_2).bind fun r7 =>
            ((C_axis_reader_left F_axis_reader_left (res_axis_reader_left_1 r6) (res_axis_reader_left_2 r6)).bind fun r8 =>
             ((C_axis_reader_take F_axis_reader_take (res_axis_reader_left_0 r8) (res_axis_reader_left_1 r8) (res_axis_reader_left_2 r8)).bind fun r9 =>
              (L_axis_Pair_0 n m1 (res_axis_writer_put_0 r5) (res_axis_writer_put_1 r5) (res_axis_writer_put_2 r5) (res_axis_writer_put_0 r7) (res_axis_writer_put_1 r7) (res_axis_writer_put_2 r7) (res_axis_reader_take_0 r9) (res_axis_reader_take_1 r9) (res_axis_reader_kind_1 r2) (res_axis_reader_kind_2 r2))))))))
        ((C_axis_reader_kind F_axis_reader_kind (res_axis_reader_kind_1 r2) (res_axis_reader_kind_2 r2)).bind fun r4 =>
         (bcond (((res_axis_reader_kind_0 r4) : Int) == 1)
          ((C_axis_reader_left F_axis_reader_left (res_axis_reader_kind_1 r4) (res_axis_reader_kind_2 r4)).bind fun r5 =>
           ((C_axis_writer_put F_axis_writer_put 0 (res_axis_reader_left_0 r5) x13_0 x13_1 x13_2).bind fun r6 =>
            ((C_axis_reader_left F_axis_reader_left (res_axis_reader_left_1 r5) (res_axis_reader_left_2 r5)).bind fun r7 =>
             ((C_axis_writer_put F_axis_writer_put 1 (res_axis_reader_left_0 r7) x14_0 x14_1 x14_2).bind fun r8 =>
              ((C_axis_reader_left F_axis_reader_left (res_axis_reader_left_1 r7) (res_axis_reader_left_2 r7)).bind fun r9 =>
               ((C_axis_reader_take F_axis_reader_take (res_axis_reader_left_0 r9) (res_axis_reader_left_1 r9) (res_axis_reader_left_2 r9)).bind fun r10 =>
                (L_axis_Pair_0 n m1 (res_axis_writer_put_0 r6) (res_axis_writer_put_1 r6) (res_axis_writer_put_2 r6) (res_axis_writer_put_0 r8) (res_axis_writer_put_1 r8) (res_axis_writer_put_2 r8) (res_axis_reader_kind_1 r3) (res_axis_reader_kind_2 r3) (res_axis_reader_take_0 r10) (res_axis_reader_take_1 r10))))))))
          ((C_axis_reader_left F_axis_reader_left (res_axis_reader_kind_1 r3) (res_axis_reader_kind_2 r3)).bind fun r5 =>
           ((C_axis_reader_left F_axis_reader_left (res_axis_reader_kind_1 r4) (res_axis_reader_kind_2 r4)).bind fun r6 =>
            ((C_axis_reader_kind F_axis_reader_kind (res_axis_reader_left_1 r6) (res_axis_reader_left_2 r6)).bind fun r7 =>
             (bcond (((res_axis_reader_kind_0 r7) : Int) == 0)
              ((C_axis_reader_kind F_axis_reader_kind (res_axis_reader_left_1 r5) (res_axis_reader_left_2 r5)).bind fun r8 =>
               ((C_axis_writer_put F_axis_writer_put (res_axis_reader_kind_0 r8) (if ((res_axis_reader_left_0 r6) : Int) < (res_axis_reader_left_0 r5) then (res_axis_reader_left_0 r6) else (res_axis_reader_left_0 r5)) x13_0 x13_1 x13_2).bind fun r9 =>
                (J_axis_Pair_0 n m1 (res_axis_writer_put_0 r9) (res_axis_writer_put_1 r9) (res_axis_writer_put_2 r9) x14_0 x14_1 x14_2 (if ((res_axis_reader_left_0 r6) : Int) < (res_axis_reader_left_0 r5) then (res_axis_reader_left_0 r6) else (res_axis_reader_left_0 r5)) ((res_axis_reader_kind_1 r8), (res_axis_reader_kind_2 r8)) ((res_axis_reader_kind_1 r7), (res_axis_reader_kind_2 r7)))))
              (J_axis_Pair_0 n m1 x13_0 x13_1 x13_2 x14_0 x14_1 x14_2 (if ((res_axis_reader_left_0 r6) : Int) < (res_axis_reader_left_0 r5) then (res_axis_reader_left_0 r6) else (res_axis_reader_left_0 r5)) ((res_axis_reader_left_1 r5), (res_axis_reader_left_2 r5)) ((res_axis_reader_kind_1 r7), (res_axis_reader_kind_2 r7)))))))))))
      ((C_axis_writer_done F_axis_writer_done x13_0 x13_1 x13_2).bind fun r3 =>
       ((C_axis_writer_done F_axis_writer_done x14_0 x14_1 x14_2).bind fun r4 =>
        (bcond ((((res_axis_writer_done_1 r3) : Int) != 0) == false)
         (bcond (((res_axis_writer_done_1 r4) : Int) != 0)
          (some (ret_axis_Pair [] [] 3))
          (some (ret_axis_Pair (res_axis_writer_done_0 r3) (res_axis_writer_done_0 r4) 0)))
         (some (ret_axis_Pair [] [] 3)))))))
    ((C_axis_reader_kind F_axis_reader_kind (res_axis_reader_kind_1 r1) (res_axis_reader_kind_2 r1)).bind fun r2 =>
     (bcond (((res_axis_reader_kind_0 r2) : Int) == 1)
      ((C_axis_reader_left F_axis_reader_left (res_axis_reader_kind_1 r2) (res_axis_reader_kind_2 r2)).bind fun r3 =>
       ((C_axis_writer_put F_axis_writer_put 1 (res_axis_reader_left_0 r3) x13_0 x13_1 x13_2).bind fun r4 =>
        ((C_axis_reader_left F_axis_reader_left (res_axis_reader_left_1 r3) (res_axis_reader_left_2 r3)).bind fun r5 =>
         ((C_axis_writer_put F_axis_writer_put 0 (res_axis_reader_left_0 r5) x14_0 x14_1 x14_2).bind fun r6 =>
          ((C_axis_reader_left F_axis_reader_left (res_axis_reader_left_1 r5) (res_axis_reader_left_2 r5)).bind fun r7 =>
           ((C_axis_reader_take F_axis_reader_take (res_axis_reader_left_0 r7) (res_axis_reader_left_1 r7) (res_axis_reader_left_2 r7)).bind fun r8 =>
            (L_axis_Pair_0 n m1 (res_axis_writer_put_0 r4) (res_axis_writer_put_1 r4) (res_axis_writer_put_2 r4) (res_axis_writer_put_0 r6) (res_axis_writer_put_1 r6) (res_axis_writer_put_2 r6) (res_axis_reader_take_0 r8) (res_axis_reader_take_1 r8) x50_0 x50_1)))))))
      ((C_axis_reader_kind F_axis_reader_kind x50_0 x50_1).bind fun r3 =>
       (bcond (((res_axis_reader_kind_0 r3) : Int) == 1)
        ((C_axis_reader_left F_axis_reader_left (res_axis_reader_kind_1 r3) (res_axis_reader_kind_2 r3)).bind fun r4 =>
         ((C_axis_writer_put F_axis_writer_put 0 (res_axis_reader_left_0 r4) x13_0 x13_1 x13_2).bind fun r5 =>
          ((C_axis_reader_left F_axis_reader_left (res_axis_reader_left_1 r4) (res_axis_reader_left_2 r4)).bind fun r6 =>
           ((C_axis_writer_put F_axis_writer_put 1 (res_axis_reader_left_0 r6) x14_0 x14_1 x14_2).bind fun r7 =>
            ((C_axis_reader_left F_axis_reader_left (res_axis_reader_left_1 r6) (res_axis_reader_left_2 r6)).bind fun r8 =>
             ((C_axis_reader_take F_axis_reader_take (res_axis_reader_left_0 r8) (res_axis_reader_left_1 r8) (res_axis_reader_left_2 r8)).bind fun r9 =>
              (L_axis_Pair_0 n m1 (res_axis_writer_put_0 r5) (res_axis_writer_put_1 r5) (res_axis_writer_put_2 r5) (res_axis_writer_put_0 r7) (res_axis_writer_put_1 r7) (res_axis_writer_put_2 r7) (res_axis_reader_kind_1 r2) (res_axis_reader_kind_2 r2) (res_axis_reader_take_0 r9) (res_axis_reader_take_1 r9))))))))
        ((C_axis_reader_left F_axis_reader_left (res_axis_reader_kind_1 r2) (res_axis_reader_kind_2 r2)).bind fun r4 =>
         ((C_axis_reader_left F_axis_reader_left (res_axis_reader_kind_1 r3) (res_axis_reader_kind_2 r3)).bind fun r5 =>
          ((C_axis_reader_kind F_axis_reader_kind (res_axis_reader_left_1 r5) (res_axis_reader_left_2 r5)).bind fun r6 =>
           (bcond (((res_axis_reader_kind_0 r6) : Int) == 0)
            ((C_axis_reader_kind F_axis_reader_kind (res_axis_reader_left_1 r4) (res_axis_reader_left_2 r4)).bind fun r7 =>
             ((C_axis_writer_put F_axis_writer_put (res_axis_reader_kind_0 r7) (if ((res_axis_reader_left_0 r5) : Int) < (res_axis_reader_left_0 r4) then (res_axis_reader_left_0 r5) else (res_axis_reader_left_0 r4)) x13_0 x13_1 x13_2).bind fun r8 =>
              (J_axis_Pair_0 n m1 (res_axis_writer_put_0 r8) (res_axis_writer_put_1 r8) (res_axis_writer_put_2 r8) x14_0 x14_1 x14_2 (if ((res_axis_reader_left_0 r5) : Int) < (res_axis_reader_left_0 r4) then (res_axis_reader_left_0 r5) else (res_axis_reader_left_0 r4)) ((res_axis_reader_kind_1 r7), (res_axis_reader_kind_2 r7)) ((res_axis_reader_kind_1 r6), (res_axis_reader_kind_2 r6)))))
            (J_axis_Pair_0 n m1 x13_0 x13_1 x13_2 x14_0 x14_1 x14_2 (if ((res_axis_reader_left_0 r5) : Int) < (res_axis_reader_left_0 r4) then (res_axis_reader_left_0 r5) else (res_axis_reader_left_0 r4)) ((res_axis_reader_left_1 r4), (res_axis_reader_left_2 r4)) ((res_axis_reader_kind_1 r6), (res_axis_reader_kind_2 r6))))))))))))) := by kernel_rfl
theorem ok_axis_Pair : fnOk os_axis_Pair sig_axis_Pair Try.f43 = true := by kernel_rfl
theorem fn_axis_Pair : P.funcs[43]? = some Try.f43 := by kernel_rfl
noncomputable def F_axis_Pair : sig_axis_Pair.Fn := fun x y => run T (env_axis_Pair) os_axis_Pair sig_axis_Pair Try.f43 hs_axis_Pair big x y
theorem S_axis_Pair : Sound P 43 ⟨sig_axis_Pair, F_axis_Pair⟩ := sound_of (os := os_axis_Pair) (hs := hs_axis_Pair) (env_cons S_axis_Check (env_cons S_axis_lengths (env_cons S_axis_reader_kind (env_cons S_axis_reader_left (env_cons S_axis_writer_put (env_cons S_axis_reader_take (env_cons S_axis_writer_done (env_nil)))))))) fn_axis_Pair ok_axis_Pair (fun x y out h => ⟨big, h⟩)
theorem e_axis_Pair (a0 : List YSpan.den) (a1 : List YSpan.den) : C_axis_Pair F_axis_Pair a0 a1 =
  ((C_axis_Check F_axis_Check a0).bind fun r1 =>
   (bcond (((res_axis_Check_0 r1) : Int) != 0)
    (some (ret_axis_Pair [] [] (res_axis_Check_0 r1)))
    ((C_axis_Check F_axis_Check a1).bind fun r2 =>
     (bcond (((res_axis_Check_0 r2) : Int) != 0)
      (some (ret_axis_Pair [] [] (res_axis_Check_0 r2)))
      ((C_axis_lengths F_axis_lengths a0).bind fun r3 =>
       ((C_axis_lengths F_axis_lengths a1).bind fun r4 =>
        (bcond (((res_axis_lengths_0 r3) : Int) != (res_axis_lengths_0 r4))
         (some (ret_axis_Pair [] [] 14))
         (L_axis_Pair_0 big big [] 0 0 [] 0 0 a0 0 a1 0)))))))) := by kernel_rfl
def sig_law_AxisPairMatches : Sig := ⟨[.v false (.list YSpan), .v false (.list YSpan)], [], [(false, [.fr .bool])]⟩
def C_law_AxisPairMatches (F : sig_law_AxisPairMatches.Fn) (a0 : List YSpan.den) (a1 : List YSpan.den) : Option sig_law_AxisPairMatches.Out := F (a0, a1, ()) ()
def ret_law_AxisPairMatches (v0 : Bool) : sig_law_AxisPairMatches.Out := (((v0, ()), ()), ())
def os_law_AxisPairMatches : RegT := ⟨[], []⟩
def hs_law_AxisPairMatches : List Keep := []
@[reducible] noncomputable def env_law_AxisPairMatches : Env := [(42, ⟨sig_law_axes, F_law_axes⟩), (43, ⟨sig_axis_Pair, F_axis_Pair⟩), (44, ⟨sig_R_AxisError, F_R_AxisError⟩), (45, ⟨sig_law_few, F_law_few⟩), (46, ⟨sig_law_act, F_law_act⟩), (41, ⟨sig_R_Behind, F_R_Behind⟩), (34, ⟨sig_law_steps, F_law_steps⟩), (33, ⟨sig_R_SameSteps, F_R_SameSteps⟩)]
noncomputable def J_law_AxisPairMatches_0 (n : Nat) (y0 : List YSpan.den) (y1 : List YSpan.den) (y5 : List YSpan.den) (y6 : List YSpan.den) (y7 : Int) (y8 : Int) : Option sig_law_AxisPairMatches.Out :=
  (bcond ((y8 : Int) != 0)
   (bcond (((y7 : Int) == y8) == true)
    (some (ret_law_AxisPairMatches (((IntKind.i64.wrap ((List.length y5 : Int) + (List.length y6 : Int))) : Int) == 0)))
    (some (ret_law_AxisPairMatches false)))
   ((C_law_few F_law_few y0).bind fun r5 =>
    (bcond ((!(res_law_few_0 r5)) == false)
     ((C_law_few F_law_few y1).bind fun r6 =>
      (bcond (!(res_law_few_0 r6))
       (bcond (((y7 : Int) == 0) == false)
        (some (ret_law_AxisPairMatches (((IntKind.i64.wrap ((List.length y5 : Int) + (List.length y6 : Int))) : Int) == 0)))
        (some (ret_law_AxisPairMatches true)))
       ((C_law_act F_law_act y0).bind fun r7 =>
        ((C_law_act F_law_act y1).bind fun r8 =>
         (bcond (((List.length (res_law_act_0 r7).2.1 : Int) : Int) != (List.length (res_law_act_0 r8).2.1 : Int))
          (bcond (((y7 : Int) == 14) == true)
           (some (ret_law_AxisPairMatches (((IntKind.i64.wrap ((List.length y5 : Int) + (List.length y6 : Int))) : Int) == 0)))
           (some (ret_law_AxisPairMatches false)))
          (bcond (((y7 : Int) == 0) == true)
           ((C_R_Behind F_R_Behind (res_law_act_0 r7) (res_law_act_0 r8) true).bind fun r9 =>
            ((C_law_steps F_law_steps (res_R_Behind_0 r9)).bind fun r10 =>
             ((C_R_SameSteps F_R_SameSteps y5 (res_law_steps_0 r10)).bind fun r11 =>
              (bcond ((res_R_SameSteps_0 r11) == true)
               ((C_R_Behind F_R_Behind (res_law_act_0 r8) (res_law_act_0 r7) false).bind fun r12 =>
                ((C_law_steps F_law_steps (res_R_Behind_0 r12)).bind fun r13 =>
                 ((C_R_SameSteps F_R_SameSteps y6 (res_law_steps_0 r13)).bind fun r14 =>
                  (some (ret_law_AxisPairMatches (res_R_SameSteps_0 r14))))))
               (some (ret_law_AxisPairMatches false))))))
           (some (ret_law_AxisPairMatches false))))))))
     (bcond (((y7 : Int) == 0) == false)
      (some (ret_law_AxisPairMatches (((IntKind.i64.wrap ((List.length y5 : Int) + (List.length y6 : Int))) : Int) == 0)))
      (some (ret_law_AxisPairMatches true))))))
theorem ok_law_AxisPairMatches : fnOk os_law_AxisPairMatches sig_law_AxisPairMatches Try.f8 = true := by kernel_rfl
theorem fn_law_AxisPairMatches : P.funcs[8]? = some Try.f8 := by kernel_rfl
noncomputable def F_law_AxisPairMatches : sig_law_AxisPairMatches.Fn := fun x y => run T (env_law_AxisPairMatches) os_law_AxisPairMatches sig_law_AxisPairMatches Try.f8 hs_law_AxisPairMatches big x y
theorem S_law_AxisPairMatches : Sound P 8 ⟨sig_law_AxisPairMatches, F_law_AxisPairMatches⟩ := sound_of (os := os_law_AxisPairMatches) (hs := hs_law_AxisPairMatches) (env_cons S_law_axes (env_cons S_axis_Pair (env_cons S_R_AxisError (env_cons S_law_few (env_cons S_law_act (env_cons S_R_Behind (env_cons S_law_steps (env_cons S_R_SameSteps (env_nil))))))))) fn_law_AxisPairMatches ok_law_AxisPairMatches (fun x y out h => ⟨big, h⟩)
theorem e_law_AxisPairMatches (a0 : List YSpan.den) (a1 : List YSpan.den) : C_law_AxisPairMatches F_law_AxisPairMatches a0 a1 =
  ((C_law_axes F_law_axes ).bind fun r1 =>
   (bcond (!(res_law_axes_0 r1))
    (some (ret_law_AxisPairMatches false))
    ((C_axis_Pair F_axis_Pair a0 a1).bind fun r2 =>
     ((C_R_AxisError F_R_AxisError a0).bind fun r3 =>
      (bcond (((res_R_AxisError_0 r3) : Int) == 0)
       ((C_R_AxisError F_R_AxisError a1).bind fun r4 =>
        (J_law_AxisPairMatches_0 big a0 a1 (res_axis_Pair_0 r2) (res_axis_Pair_1 r2) (res_axis_Pair_2 r2) (res_R_AxisError_0 r4)))
       (J_law_AxisPairMatches_0 big a0 a1 (res_axis_Pair_0 r2) (res_axis_Pair_1 r2) (res_axis_Pair_2 r2) (res_R_AxisError_0 r3))))))) := by kernel_rfl
end Go.Ev
