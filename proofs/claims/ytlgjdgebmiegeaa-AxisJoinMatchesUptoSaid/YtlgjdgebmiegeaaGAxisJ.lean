/- Functions, step by step. -/
import Derived.Test.YtlgjdgebmiegeaaGAxis
import Derived.Test.YtlgjdgebmiegeaaGUndo
import Derived.Test.YtlgjdgebmiegeaaGBoth
namespace Go.Ev
set_option linter.unusedVariables false
set_option maxRecDepth 100000
open Go.Proofs
def sig_axis_Join : Sig := ⟨[.v false (.list YSpan), .v false (.list YSpan)], [], [(false, [.fr (.list YSpan)]), (false, [.fr (.int .i64)])]⟩
def C_axis_Join (F : sig_axis_Join.Fn) (a0 : List YSpan.den) (a1 : List YSpan.den) : Option sig_axis_Join.Out := F (a0, a1, ()) ()
def ret_axis_Join (v0 : List YSpan.den) (v1 : Int) : sig_axis_Join.Out := (((v0, ()), (v1, ()), ()), ())
def res_axis_Join_0 (r : sig_axis_Join.Out) : List YSpan.den := r.1.1.1
@[simp] theorem res_axis_Join_0_ret (v0 : List YSpan.den) (v1 : Int) : res_axis_Join_0 (ret_axis_Join v0 v1) = v0 := rfl
def res_axis_Join_1 (r : sig_axis_Join.Out) : Int := r.1.2.1.1
@[simp] theorem res_axis_Join_1_ret (v0 : List YSpan.den) (v1 : Int) : res_axis_Join_1 (ret_axis_Join v0 v1) = v1 := rfl
def os_axis_Join : RegT := ⟨[], [], false⟩
def hs_axis_Join : List Keep := [[(12, [(0, 128, YSpan)]), (13, []), (14, []), (41, []), (44, [])]]
@[reducible] noncomputable def env_axis_Join : Env := [(108, ⟨sig_axis_Check, F_axis_Check⟩), (109, ⟨sig_axis_lengths, F_axis_lengths⟩), (110, ⟨sig_axis_reader_kind, F_axis_reader_kind⟩), (112, ⟨sig_axis_reader_left, F_axis_reader_left⟩), (111, ⟨sig_axis_writer_put, F_axis_writer_put⟩), (113, ⟨sig_axis_reader_take, F_axis_reader_take⟩), (114, ⟨sig_axis_writer_done, F_axis_writer_done⟩)]
noncomputable def L_axis_Join_0 (n m1 : Nat) (x12_0 : List YSpan.den) (x12_1 : Int) (x12_2 : Int) (x41_0 : List YSpan.den) (x41_1 : Int) (x44_0 : List YSpan.den) (x44_1 : Int) : Option sig_axis_Join.Out :=
  loopAt T (env_axis_Join) os_axis_Join sig_axis_Join Try.f47 hs_axis_Join n [.sr, .sr, .sr, .sr, .sr, .sr, .sr, .sl, .bl] m1 (mk 103 [(12, .box [.own 128 YSpan x12_0, .val (.int .i64) x12_1, .val (.int .i64) x12_2]), (13, .cs false [.ptr 41 0]), (14, .cs false [.ptr 44 0]), (41, .box [.val (.list YSpan) x41_0, .val (.int .i64) x41_1]), (44, .box [.val (.list YSpan) x44_0, .val (.int .i64) x44_1])])
theorem L_axis_Join_0_step (n m1 : Nat) (x12_0 : List YSpan.den) (x12_1 : Int) (x12_2 : Int) (x41_0 : List YSpan.den) (x41_1 : Int) (x44_0 : List YSpan.den) (x44_1 : Int) : L_axis_Join_0 n (m1 + 1) x12_0 x12_1 x12_2 x41_0 x41_1 x44_0 x44_1 =
  ((C_axis_reader_kind F_axis_reader_kind x41_0 x41_1).bind fun r1 =>
   (bcond ((decide (((res_axis_reader_kind_0 r1) : Int) ≥ 0)) == false)
    ((C_axis_reader_kind F_axis_reader_kind x44_0 x44_1).bind fun r2 =>
     (bcond (decide (((res_axis_reader_kind_0 r2) : Int) ≥ 0))
      ((C_axis_reader_kind F_axis_reader_kind (res_axis_reader_kind_1 r1) (res_axis_reader_kind_2 r1)).bind fun r3 =>
       (bcond (((res_axis_reader_kind_0 r3) : Int) == 2)
        ((C_axis_reader_left F_axis_reader_left (res_axis_reader_kind_1 r3) (res_axis_reader_kind_2 r3)).bind fun r4 =>
         ((C_axis_writer_put F_axis_writer_put 2 (res_axis_reader_left_0 r4) x12_0 x12_1 x12_2).bind fun r5 =>
          ((C_axis_reader_left F_axis_reader_left (res_axis_reader_left_1 r4) (res_axis_reader_left_2 r4)).bind fun r6 =>
           ((C_axis_reader_take F_axis_reader_take (res_axis_reader_left_0 r6) (res_axis_reader_left_1 r6) (res_axis_reader_left_2 r6)).bind fun r7 =>
            (L_axis_Join_0 n m1 (res_axis_writer_put_0 r5) (res_axis_writer_put_1 r5) (res_axis_writer_put_2 r5) (res_axis_reader_take_0 r7) (res_axis_reader_take_1 r7) (res_axis_reader_kind_1 r2) (res_axis_reader_kind_2 r2))))))
        ((C_axis_reader_kind F_axis_reader_kind (res_axis_reader_kind_1 r2) (res_axis_reader_kind_2 r2)).bind fun r4 =>
         (bcond (((res_axis_reader_kind_0 r4) : Int) == 1)
          ((C_axis_reader_left F_axis_reader_left (res_axis_reader_kind_1 r4) (res_axis_reader_kind_2 r4)).bind fun r5 =>
           ((C_axis_writer_put F_axis_writer_put 1 (res_axis_reader_left_0 r5) x12_0 x12_1 x12_2).bind fun r6 =>
            ((C_axis_reader_left F_axis_reader_left (res_axis_reader_left_1 r5) (res_axis_reader_left_2 r5)).bind fun r7 =>
             ((C_axis_reader_take F_axis_reader_take (res_axis_reader_left_0 r7) (res_axis_reader_left_1 r7) (res_axis_reader_left_2 r7)).bind fun r8 =>
              (L_axis_Join_0 n m1 (res_axis_writer_put_0 r6) (res_axis_writer_put_1 r6) (res_axis_writer_put_2 r6) (res_axis_reader_kind_1 r3) (res_axis_reader_kind_2 r3) (res_axis_reader_take_0 r8) (res_axis_reader_take_1 r8))))))
          ((C_axis_reader_left F_axis_reader_left (res_axis_reader_kind_1 r3) (res_axis_reader_kind_2 r3)).bind fun r5 =>
           ((C_axis_reader_left F_axis_reader_left (res_axis_reader_kind_1 r4) (res_axis_reader_kind_2 r4)).bind fun r6 =>
            ((C_axis_reader_kind F_axis_reader_kind (res_axis_reader_left_1 r5) (res_axis_reader_left_2 r5)).bind fun r7 =>
             (bcond (((res_axis_reader_kind_0 r7) : Int) == 0)
              ((C_axis_reader_kind F_axis_reader_kind (res_axis_reader_left_1 r6) (res_axis_reader_left_2 r6)).bind fun r8 =>
               ((C_axis_writer_put F_axis_writer_put (res_axis_reader_kind_0 r8) (if ((res_axis_reader_left_0 r6) : Int) < (res_axis_reader_left_0 r5) then (res_axis_reader_left_0 r6) else (res_axis_reader_left_0 r5)) x12_0 x12_1 x12_2).bind fun r9 =>
                ((C_axis_reader_take F_axis_reader_take (if ((res_axis_reader_left_0 r6) : Int) < (res_axis_reader_left_0 r5) then (res_axis_reader_left_0 r6) else (res_axis_reader_left_0 r5)) (res_axis_reader_kind_1 r7) (res_axis_reader_kind_2 r7)).bind fun r10 =>
                 ((C_axis_reader_take F_axis_reader_take (if ((res_axis_reader_left_0 r6) : Int) < (res_axis_reader_left_0 r5) then (res_axis_reader_left_0 r6) else (res_axis_reader_left_0 r5)) (res_axis_reader_kind_1 r8) (res_axis_reader_kind_2 r8)).bind fun r11 =>
                  (L_axis_Join_0 n m1 (res_axis_writer_put_0 r9) (res_axis_writer_put_1 r9) (res_axis_writer_put_2 r9) (res_axis_reader_take_0 r10) (res_axis_reader_take_1 r10) (res_axis_reader_take_0 r11) (res_axis_reader_take_1 r11))))))
              ((C_axis_reader_kind F_axis_reader_kind (res_axis_reader_left_1 r6) (res_axis_reader_left_2 r6)).bind fun r8 =>
               (bcond (((res_axis_reader_kind_0 r8) : Int) == 0)
                ((C_axis_writer_put F_axis_writer_put 1 (if ((res_axis_reader_left_0 r6) : Int) < (res_axis_reader_left_0 r5) then (res_axis_reader_left_0 r6) else (res_axis_reader_left_0 r5)) x12_0 x12_1 x12_2).bind fun r9 =>
                 ((C_axis_reader_take F_axis_reader_take (if ((res_axis_reader_left_0 r6) : Int) < (res_axis_reader_left_0 r5) then (res_axis_reader_left_0 r6) else (res_axis_reader_left_0 r5)) (res_axis_reader_kind_1 r7) (res_axis_reader_kind_2 r7)).bind fun r10 =>
                  ((C_axis_reader_take F_axis_reader_take (if ((res_axis_reader_left_0 r6) : Int) < (res_axis_reader_left_0 r5) then (res_axis_reader_left_0 r6) else (res_axis_reader_left_0 r5)) (res_axis_reader_kind_1 r8) (res_axis_reader_kind_2 r8)).bind fun r11 =>
                   (L_axis_Join_0 n m1 (res_axis_writer_put_0 r9) (res_axis_writer_put_1 r9) (res_axis_writer_put_2 r9) (res_axis_reader_take_0 r10) (res_axis_reader_take_1 r10) (res_axis_reader_take_0 r11) (res_axis_reader_take_1 r11)))))
                ((C_axis_reader_take F_axis_reader_take (if ((res_axis_reader_left_0 r6) : Int) < (res_axis_reader_left_0 r5) then (res_axis_reader_left_0 r6) else (res_axis_reader_left_0 r5)) (res_axis_reader_kind_1 r7) (res_axis_reader_kind_2 r7)).bind fun r9 =>
                 ((C_axis_reader_take F_axis_reader_take (if ((res_axis_reader_left_0 r6) : Int) < (res_axis_reader_left_0 r5) then (res_axis_reader_left_0 r6) else (res_axis_reader_left_0 r5)) (res_axis_reader_kind_1 r8) (res_axis_reader_kind_2 r8)).bind fun r10 =>
                  (L_axis_Join_0 n m1 x12_0 x12_1 x12_2 (res_axis_reader_take_0 r9) (res_axis_reader_take_1 r9) (res_axis_reader_take_0 r10) (res_axis_reader_take_1 r10))))))))))))))
      ((C_axis_writer_done F_axis_writer_done x12_0 x12_1 x12_2).bind fun r3 =>
       (some (ret_axis_Join (res_axis_writer_done_0 r3) (res_axis_writer_done_1 r3))))))
    ((C_axis_reader_kind F_axis_reader_kind (res_axis_reader_kind_1 r1) (res_axis_reader_kind_2 r1)).bind fun r2 =>
     (bcond (((res_axis_reader_kind_0 r2) : Int) == 2)
      ((C_axis_reader_left F_axis_reader_left (res_axis_reader_kind_1 r2) (res_axis_reader_kind_2 r2)).bind fun r3 =>
       ((C_axis_writer_put F_axis_writer_put 2 (res_axis_reader_left_0 r3) x12_0 x12_1 x12_2).bind fun r4 =>
        ((C_axis_reader_left F_axis_reader_left (res_axis_reader_left_1 r3) (res_axis_reader_left_2 r3)).bind fun r5 =>
         ((C_axis_reader_take F_axis_reader_take (res_axis_reader_left_0 r5) (res_axis_reader_left_1 r5) (res_axis_reader_left_2 r5)).bind fun r6 =>
          (L_axis_Join_0 n m1 (res_axis_writer_put_0 r4) (res_axis_writer_put_1 r4) (res_axis_writer_put_2 r4) (res_axis_reader_take_0 r6) (res_axis_reader_take_1 r6) x44_0 x44_1)))))
      ((C_axis_reader_kind F_axis_reader_kind x44_0 x44_1).bind fun r3 =>
       (bcond (((res_axis_reader_kind_0 r3) : Int) == 1)
        ((C_axis_reader_left F_axis_reader_left (res_axis_reader_kind_1 r3) (res_axis_reader_kind_2 r3)).bind fun r4 =>
         ((C_axis_writer_put F_axis_writer_put 1 (res_axis_reader_left_0 r4) x12_0 x12_1 x12_2).bind fun r5 =>
          ((C_axis_reader_left F_axis_reader_left (res_axis_reader_left_1 r4) (res_axis_reader_left_2 r4)).bind fun r6 =>
           ((C_axis_reader_take F_axis_reader_take (res_axis_reader_left_0 r6) (res_axis_reader_left_1 r6) (res_axis_reader_left_2 r6)).bind fun r7 =>
            (L_axis_Join_0 n m1 (res_axis_writer_put_0 r5) (res_axis_writer_put_1 r5) (res_axis_writer_put_2 r5) (res_axis_reader_kind_1 r2) (res_axis_reader_kind_2 r2) (res_axis_reader_take_0 r7) (res_axis_reader_take_1 r7))))))
        ((C_axis_reader_left F_axis_reader_left (res_axis_reader_kind_1 r2) (res_axis_reader_kind_2 r2)).bind fun r4 =>
         ((C_axis_reader_left F_axis_reader_left (res_axis_reader_kind_1 r3) (res_axis_reader_kind_2 r3)).bind fun r5 =>
          ((C_axis_reader_kind F_axis_reader_kind (res_axis_reader_left_1 r4) (res_axis_reader_left_2 r4)).bind fun r6 =>
           (bcond (((res_axis_reader_kind_0 r6) : Int) == 0)
            ((C_axis_reader_kind F_axis_reader_kind (res_axis_reader_left_1 r5) (res_axis_reader_left_2 r5)).bind fun r7 =>
             ((C_axis_writer_put F_axis_writer_put (res_axis_reader_kind_0 r7) (if ((res_axis_reader_left_0 r5) : Int) < (res_axis_reader_left_0 r4) then (res_axis_reader_left_0 r5) else (res_axis_reader_left_0 r4)) x12_0 x12_1 x12_2).bind fun r8 =>
              ((C_axis_reader_take F_axis_reader_take (if ((res_axis_reader_left_0 r5) : Int) < (res_axis_reader_left_0 r4) then (res_axis_reader_left_0 r5) else (res_axis_reader_left_0 r4)) (res_axis_reader_kind_1 r6) (res_axis_reader_kind_2 r6)).bind fun r9 =>
               ((C_axis_reader_take F_axis_reader_take (if ((res_axis_reader_left_0 r5) : Int) < (res_axis_reader_left_0 r4) then (res_axis_reader_left_0 r5) else (res_axis_reader_left_0 r4)) (res_axis_reader_kind_1 r7) (res_axis_reader_kind_2 r7)).bind fun r10 =>
                (L_axis_Join_0 n m1 (res_axis_writer_put_0 r8) (res_axis_writer_put_1 r8) (res_axis_writer_put_2 r8) (res_axis_reader_take_0 r9) (res_axis_reader_take_1 r9) (res_axis_reader_take_0 r10) (res_axis_reader_take_1 r10))))))
            ((C_axis_reader_kind F_axis_reader_kind (res_axis_reader_left_1 r5) (res_axis_reader_left_2 r5)).bind fun r7 =>
             (bcond (((res_axis_reader_kind_0 r7) : Int) == 0)
              ((C_axis_writer_put F_axis_writer_put 1 (if ((res_axis_reader_left_0 r5) : Int) < (res_axis_reader_left_0 r4) then (res_axis_reader_left_0 r5) else (res_axis_reader_left_0 r4)) x12_0 x12_1 x12_2).bind fun r8 =>
               ((C_axis_reader_take F_axis_reader_take (if ((res_axis_reader_left_0 r5) : Int) < (res_axis_reader_left_0 r4) then (res_axis_reader_left_0 r5) else (res_axis_reader_left_0 r4)) (res_axis_reader_kind_1 r6) (res_axis_reader_kind_2 r6)).bind fun r9 =>
                ((C_axis_reader_take F_axis_reader_take (if ((res_axis_reader_left_0 r5) : Int) < (res_axis_reader_left_0 r4) then (res_axis_reader_left_0 r5) else (res_axis_reader_left_0 r4)) (res_axis_reader_kind_1 r7) (res_axis_reader_kind_2 r7)).bind fun r10 =>
                 (L_axis_Join_0 n m1 (res_axis_writer_put_0 r8) (res_axis_writer_put_1 r8) (res_axis_writer_put_2 r8) (res_axis_reader_take_0 r9) (res_axis_reader_take_1 r9) (res_axis_reader_take_0 r10) (res_axis_reader_take_1 r10)))))
              ((C_axis_reader_take F_axis_reader_take (if ((res_axis_reader_left_0 r5) : Int) < (res_axis_reader_left_0 r4) then (res_axis_reader_left_0 r5) else (res_axis_reader_left_0 r4)) (res_axis_reader_kind_1 r6) (res_axis_reader_kind_2 r6)).bind fun r8 =>
               ((C_axis_reader_take F_axis_reader_take (if ((res_axis_reader_left_0 r5) : Int) < (res_axis_reader_left_0 r4) then (res_axis_reader_left_0 r5) else (res_axis_reader_left_0 r4)) (res_axis_reader_kind_1 r7) (res_axis_reader_kind_2 r7)).bind fun r9 =>
                (L_axis_Join_0 n m1 x12_0 x12_1 x12_2 (res_axis_reader_take_0 r8) (res_axis_reader_take_1 r8) (res_axis_reader_take_0 r9) (res_axis_reader_take_1 r9)))))))))))))))) := by kernel_rfl
theorem ok_axis_Join : fnOk os_axis_Join sig_axis_Join Try.f47 = true := by kernel_rfl
theorem fn_axis_Join : P.funcs[47]? = some Try.f47 := by kernel_rfl
noncomputable def F_axis_Join : sig_axis_Join.Fn := fun x y => run T (env_axis_Join) os_axis_Join sig_axis_Join Try.f47 hs_axis_Join big x y
theorem S_axis_Join : Sound P 47 ⟨sig_axis_Join, F_axis_Join⟩ := sound_of (os := os_axis_Join) (hs := hs_axis_Join) (env_cons S_axis_Check (env_cons S_axis_lengths (env_cons S_axis_reader_kind (env_cons S_axis_reader_left (env_cons S_axis_writer_put (env_cons S_axis_reader_take (env_cons S_axis_writer_done (env_nil)))))))) fn_axis_Join ok_axis_Join (fun x y out h => ⟨big, h⟩)
theorem e_axis_Join (a0 : List YSpan.den) (a1 : List YSpan.den) : C_axis_Join F_axis_Join a0 a1 =
  ((C_axis_Check F_axis_Check a0).bind fun r1 =>
   (bcond (((res_axis_Check_0 r1) : Int) != 0)
    (some (ret_axis_Join [] (res_axis_Check_0 r1)))
    ((C_axis_Check F_axis_Check a1).bind fun r2 =>
     (bcond (((res_axis_Check_0 r2) : Int) != 0)
      (some (ret_axis_Join [] (res_axis_Check_0 r2)))
      ((C_axis_lengths F_axis_lengths a0).bind fun r3 =>
       ((C_axis_lengths F_axis_lengths a1).bind fun r4 =>
        (bcond (((res_axis_lengths_0 r4) : Int) != (res_axis_lengths_1 r3))
         (some (ret_axis_Join [] 14))
         (L_axis_Join_0 big big [] 0 0 a0 0 a1 0)))))))) := by kernel_rfl
def sig_law_AxisJoinMatches : Sig := ⟨[.v false (.list YSpan), .v false (.list YSpan)], [], [(false, [.fr .bool])]⟩
def C_law_AxisJoinMatches (F : sig_law_AxisJoinMatches.Fn) (a0 : List YSpan.den) (a1 : List YSpan.den) : Option sig_law_AxisJoinMatches.Out := F (a0, a1, ()) ()
def ret_law_AxisJoinMatches (v0 : Bool) : sig_law_AxisJoinMatches.Out := (((v0, ()), ()), ())
def os_law_AxisJoinMatches : RegT := ⟨[(15, .st 0 (.st 1 (.st 2 (.st 3 (.st 5 (.st 4 (.st 6 (.st 7 (.st 8 (.st 9 (.nil))))))))))), (17, .st 0 (.st 1 (.st 2 (.st 4 (.st 3 (.st 5 (.st 6 (.st 7 (.nil)))))))))], [(10, [(0, []), (1, []), (5, []), (6, []), (7, []), (9, [])]), (14, [(0, []), (1, []), (5, []), (6, []), (7, [])])], false⟩
def hs_law_AxisJoinMatches : List Keep := []
@[reducible] noncomputable def env_law_AxisJoinMatches : Env := [(42, ⟨sig_law_axes, F_law_axes⟩), (47, ⟨sig_axis_Join, F_axis_Join⟩), (48, ⟨sig_axis_Undo, F_axis_Undo⟩), (44, ⟨sig_R_AxisError, F_R_AxisError⟩), (45, ⟨sig_law_few, F_law_few⟩), (46, ⟨sig_law_act, F_law_act⟩), (27, ⟨sig_R_Back, F_R_Back⟩), (34, ⟨sig_law_steps, F_law_steps⟩), (33, ⟨sig_R_SameSteps, F_R_SameSteps⟩), (26, ⟨sig_R_Done, F_R_Done⟩), (39, ⟨sig_R_Both, F_R_Both⟩)]
noncomputable def K_law_AxisJoinMatches_0 (n : Nat) (y0 : List YSpan.den) (y1 : List YSpan.den) (y5 : List YSpan.den) (y6 : Int) (y7 : List YSpan.den) : Option sig_law_AxisJoinMatches.Out :=
  joinAt T (env_law_AxisJoinMatches) os_law_AxisJoinMatches sig_law_AxisJoinMatches Try.f9 hs_law_AxisJoinMatches n [.sr, .sr, .sr, .sr, .sr, .sr, .sr, .sr, .sr, .sl] (mk 103 [(0, .cs false [.val (.list YSpan) y0]), (1, .cs false [.val (.list YSpan) y1]), (5, .cs false [.val (.list YSpan) y5]), (6, .cs false [.val (.int .i64) y6]), (7, .cs false [.val (.list YSpan) y7])])
noncomputable def K_law_AxisJoinMatches_1 (n : Nat) (y0 : List YSpan.den) (y1 : List YSpan.den) (y5 : List YSpan.den) (y6 : Int) (y7 : List YSpan.den) (y9 : Int) : Option sig_law_AxisJoinMatches.Out :=
  joinAt T (env_law_AxisJoinMatches) os_law_AxisJoinMatches sig_law_AxisJoinMatches Try.f9 hs_law_AxisJoinMatches n [.sr, .sr, .sr, .sr, .sr, .sr, .sr, .sl, .sl] (mk 103 [(0, .cs false [.val (.list YSpan) y0]), (1, .cs false [.val (.list YSpan) y1]), (5, .cs false [.val (.list YSpan) y5]), (6, .cs false [.val (.int .i64) y6]), (7, .cs false [.val (.list YSpan) y7]), (9, .cs false [.val (.int .i64) y9])])
theorem K_law_AxisJoinMatches_0_step (n : Nat) (y0 : List YSpan.den) (y1 : List YSpan.den) (y5 : List YSpan.den) (y6 : Int) (y7 : List YSpan.den) : K_law_AxisJoinMatches_0 n y0 y1 y5 y6 y7 =
  ((C_law_act F_law_act y0).bind fun r8 =>
   ((C_law_act F_law_act y1).bind fun r9 =>
    (if 0 ≤ ((List.length (res_law_act_0 r8).2.1 : Int) : Int) ∧ ((List.length (res_law_act_0 r8).2.1 : Int) : Int) = (List.length (res_law_act_0 r8).2.1 : Int) ∧ ((List.length (res_law_act_0 r8).2.1 : Int) : Int) * 40 ≤ 140737488355328 ∧ ((List.length (res_law_act_0 r8).2.1 : Int) : Int) ≤ 140737488355328 then
     ((C_R_Back F_R_Back (List.replicate (Int.toNat (List.length (res_law_act_0 r8).2.1 : Int)) ((0, (0, [])) : YElem.den)) (res_law_act_0 r8)).bind fun r10 =>
      ((C_law_steps F_law_steps (res_R_Back_0 r10)).bind fun r11 =>
       ((C_R_SameSteps F_R_SameSteps y7 (res_law_steps_0 r11)).bind fun r12 =>
        (bcond (!(res_R_SameSteps_0 r12))
         (some (ret_law_AxisJoinMatches false))
         (if 0 ≤ ((List.length (res_law_act_0 r8).2.1 : Int) : Int) ∧ ((List.length (res_law_act_0 r8).2.1 : Int) : Int) = (List.length (res_law_act_0 r8).2.1 : Int) ∧ ((List.length (res_law_act_0 r8).2.1 : Int) : Int) * 40 ≤ 140737488355328 ∧ ((List.length (res_law_act_0 r8).2.1 : Int) : Int) ≤ 140737488355328 then
          ((C_R_Done F_R_Done (List.replicate (Int.toNat (List.length (res_law_act_0 r8).2.1 : Int)) ((0, (0, [])) : YElem.den)) (res_law_act_0 r8)).bind fun r13 =>
           (bcond (((List.length (res_R_Done_0 r13) : Int) : Int) != (List.length (res_law_act_0 r9).2.1 : Int))
            (bcond (((y6 : Int) == 14) == true)
             (some (ret_law_AxisJoinMatches (((List.length y5 : Int) : Int) == 0)))
             (some (ret_law_AxisJoinMatches false)))
            (bcond (((y6 : Int) == 0) == true)
             ((C_R_Both F_R_Both (res_law_act_0 r8) (res_law_act_0 r9)).bind fun r14 =>
              ((C_law_steps F_law_steps (res_R_Both_0 r14)).bind fun r15 =>
               ((C_R_SameSteps F_R_SameSteps y5 (res_law_steps_0 r15)).bind fun r16 =>
                (some (ret_law_AxisJoinMatches (res_R_SameSteps_0 r16))))))
             (some (ret_law_AxisJoinMatches false)))))
         else none)))))
    else none))) := by kernel_rfl
theorem K_law_AxisJoinMatches_1_step (n : Nat) (y0 : List YSpan.den) (y1 : List YSpan.den) (y5 : List YSpan.den) (y6 : Int) (y7 : List YSpan.den) (y9 : Int) : K_law_AxisJoinMatches_1 n y0 y1 y5 y6 y7 y9 =
  (bcond ((y9 : Int) != 0)
   (bcond (((y6 : Int) == y9) == true)
    (some (ret_law_AxisJoinMatches (((List.length y5 : Int) : Int) == 0)))
    (some (ret_law_AxisJoinMatches false)))
   ((C_law_few F_law_few y0).bind fun r6 =>
    (bcond ((!(res_law_few_0 r6)) == false)
     ((C_law_few F_law_few y1).bind fun r7 =>
      (bcond (!(res_law_few_0 r7))
       (bcond (((y6 : Int) == 0) == false)
        (some (ret_law_AxisJoinMatches (((List.length y5 : Int) : Int) == 0)))
        (some (ret_law_AxisJoinMatches true)))
       (K_law_AxisJoinMatches_0 n y0 y1 y5 y6 y7)))
     (bcond (((y6 : Int) == 0) == false)
      (some (ret_law_AxisJoinMatches (((List.length y5 : Int) : Int) == 0)))
      (some (ret_law_AxisJoinMatches true)))))) := by kernel_rfl
theorem ok_law_AxisJoinMatches : fnOk os_law_AxisJoinMatches sig_law_AxisJoinMatches Try.f9 = true := by kernel_rfl
theorem fn_law_AxisJoinMatches : P.funcs[9]? = some Try.f9 := by kernel_rfl
noncomputable def F_law_AxisJoinMatches : sig_law_AxisJoinMatches.Fn := fun x y => run T (env_law_AxisJoinMatches) os_law_AxisJoinMatches sig_law_AxisJoinMatches Try.f9 hs_law_AxisJoinMatches big x y
theorem S_law_AxisJoinMatches : Sound P 9 ⟨sig_law_AxisJoinMatches, F_law_AxisJoinMatches⟩ := sound_of (os := os_law_AxisJoinMatches) (hs := hs_law_AxisJoinMatches) (env_cons S_law_axes (env_cons S_axis_Join (env_cons S_axis_Undo (env_cons S_R_AxisError (env_cons S_law_few (env_cons S_law_act (env_cons S_R_Back (env_cons S_law_steps (env_cons S_R_SameSteps (env_cons S_R_Done (env_cons S_R_Both (env_nil)))))))))))) fn_law_AxisJoinMatches ok_law_AxisJoinMatches (fun x y out h => ⟨big, h⟩)
theorem e_law_AxisJoinMatches (a0 : List YSpan.den) (a1 : List YSpan.den) : C_law_AxisJoinMatches F_law_AxisJoinMatches a0 a1 =
  ((C_law_axes F_law_axes ).bind fun r1 =>
   (bcond (!(res_law_axes_0 r1))
    (some (ret_law_AxisJoinMatches false))
    ((C_axis_Join F_axis_Join a0 a1).bind fun r2 =>
     ((C_axis_Undo F_axis_Undo a0).bind fun r3 =>
      ((C_R_AxisError F_R_AxisError a0).bind fun r4 =>
       (bcond (((res_axis_Undo_1 r3) : Int) != (res_R_AxisError_0 r4))
        (some (ret_law_AxisJoinMatches false))
        (bcond (((res_R_AxisError_0 r4) : Int) == 0)
         ((C_R_AxisError F_R_AxisError a1).bind fun r5 =>
          (K_law_AxisJoinMatches_1 big a0 a1 (res_axis_Join_0 r2) (res_axis_Join_1 r2) (res_axis_Undo_0 r3) (res_R_AxisError_0 r5)))
         (K_law_AxisJoinMatches_1 big a0 a1 (res_axis_Join_0 r2) (res_axis_Join_1 r2) (res_axis_Undo_0 r3) (res_R_AxisError_0 r4))))))))) := by kernel_rfl
end Go.Ev
