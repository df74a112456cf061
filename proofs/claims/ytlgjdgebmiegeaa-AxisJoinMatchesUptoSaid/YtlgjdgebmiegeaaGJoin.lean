/- Functions, step by step. -/
import Derived.Test.YtlgjdgebmiegeaaGRead
import Derived.Test.YtlgjdgebmiegeaaGBoth
namespace Go.Ev
set_option linter.unusedVariables false
set_option maxRecDepth 100000
open Go.Proofs
def sig_delta_Join : Sig := ⟨[.v false (.list YStep), .v false (.list YStep)], [], [(false, [.fr (.list YStep)]), (false, [.fr (.int .i64)])]⟩
def C_delta_Join (F : sig_delta_Join.Fn) (a0 : List YStep.den) (a1 : List YStep.den) : Option sig_delta_Join.Out := F (a0, a1, ()) ()
def ret_delta_Join (v0 : List YStep.den) (v1 : Int) : sig_delta_Join.Out := (((v0, ()), (v1, ()), ()), ())
def res_delta_Join_0 (r : sig_delta_Join.Out) : List YStep.den := r.1.1.1
@[simp] theorem res_delta_Join_0_ret (v0 : List YStep.den) (v1 : Int) : res_delta_Join_0 (ret_delta_Join v0 v1) = v0 := rfl
def res_delta_Join_1 (r : sig_delta_Join.Out) : Int := r.1.2.1.1
@[simp] theorem res_delta_Join_1_ret (v0 : List YStep.den) (v1 : Int) : res_delta_Join_1 (ret_delta_Join v0 v1) = v1 := rfl
def os_delta_Join : RegT := ⟨[(15, .st 0 (.st 2 (.st 3 (.alt 1 (.st 4 (.st 5 (.st 6 (.st 7 (.st 8 (.st 9 (.nil))))))) (.st 4 (.alt 1 (.st 5 (.st 6 (.st 7 (.st 8 (.st 9 (.nil)))))) (.st 5 (.st 6 (.st 1 (.st 7 (.st 8 (.st 9 (.nil)))))))))))))], [], false⟩
def hs_delta_Join : List Keep := [[(12, [(0, 30, YStep), (1, 113, YElem)]), (13, []), (14, []), (43, []), (46, [])]]
@[reducible] noncomputable def env_delta_Join : Env := [(94, ⟨sig_delta_Check, F_delta_Check⟩), (97, ⟨sig_delta_lengths, F_delta_lengths⟩), (98, ⟨sig_delta_reader_kind, F_delta_reader_kind⟩), (100, ⟨sig_delta_reader_left, F_delta_reader_left⟩), (99, ⟨sig_delta_reader_take, F_delta_reader_take⟩), (81, ⟨sig_delta_writer_elems, F_delta_writer_elems⟩), (101, ⟨sig_attr_Both, F_attr_Both⟩), (80, ⟨sig_delta_writer_keep, F_delta_writer_keep⟩), (102, ⟨sig_delta_changed, F_delta_changed⟩), (82, ⟨sig_delta_writer_done, F_delta_writer_done⟩)]
noncomputable def L_delta_Join_0 (n m1 : Nat) (x12_0 : List YStep.den) (x12_1 : List YElem.den) (x12_2 : Int) (x43_0 : List YStep.den) (x43_1 : Int) (x46_0 : List YStep.den) (x46_1 : Int) : Option sig_delta_Join.Out :=
  loopAt T (env_delta_Join) os_delta_Join sig_delta_Join Try.f38 hs_delta_Join n [.sr, .sr, .sr, .sr, .sr, .sr, .sr, .sl, .bl] m1 (mk 127 [(12, .box [.own 30 YStep x12_0, .own 113 YElem x12_1, .val (.int .i64) x12_2]), (13, .cs false [.ptr 43 0]), (14, .cs false [.ptr 46 0]), (43, .box [.val (.list YStep) x43_0, .val (.int .i64) x43_1]), (46, .box [.val (.list YStep) x46_0, .val (.int .i64) x46_1])])
theorem L_delta_Join_0_raw (n m1 : Nat) (x12_0 : List YStep.den) (x12_1 : List YElem.den) (x12_2 : Int) (x43_0 : List YStep.den) (x43_1 : Int) (x46_0 : List YStep.den) (x46_1 : Int) : L_delta_Join_0 n (m1 + 1) x12_0 x12_1 x12_2 x43_0 x43_1 x46_0 x46_1 =
  ((C_delta_reader_kind F_delta_reader_kind x43_0 x43_1).bind fun r1 =>
   (bcond ((decide (((res_delta_reader_kind_0 r1) : Int) ≥ 0)) == false)
    ((C_delta_reader_kind F_delta_reader_kind x46_0 x46_1).bind fun r2 =>
     (bcond (decide (((res_delta_reader_kind_0 r2) : Int) ≥ 0))
      ((C_delta_reader_kind F_delta_reader_kind (res_delta_reader_kind_1 r1) (res_delta_reader_kind_2 r1)).bind fun r3 =>
       (bcond (((res_delta_reader_kind_0 r3) : Int) == 2)
        (agree
         ((C_delta_reader_left F_delta_reader_left (res_delta_reader_kind_1 r3) (res_delta_reader_kind_2 r3)).bind fun r4 =>
          ((C_delta_reader_take F_delta_reader_take (res_delta_reader_left_0 r4) (res_delta_reader_left_1 r4) (res_delta_reader_left_2 r4)).bind fun r5 =>
           (L_delta_Join_0 n m1 x12_0 x12_1 (IntKind.i64.wrap (x12_2 + (res_delta_reader_take_0 r5).2.1)) (res_delta_reader_take_1 r5) (res_delta_reader_take_2 r5) (res_delta_reader_kind_1 r2) (res_delta_reader_kind_2 r2))))
         ((C_delta_reader_left F_delta_reader_left (res_delta_reader_kind_1 r3) (res_delta_reader_kind_2 r3)).bind fun r4 =>
          (agree
           ((C_delta_reader_take F_delta_reader_take (res_delta_reader_left_0 r4) (res_delta_reader_left_1 r4) (res_delta_reader_left_2 r4)).bind fun r5 =>
            (L_delta_Join_0 n m1 x12_0 x12_1 (IntKind.i64.wrap (x12_2 + (res_delta_reader_take_0 r5).2.1)) (res_delta_reader_take_1 r5) (res_delta_reader_take_2 r5) (res_delta_reader_kind_1 r2) (res_delta_reader_kind_2 r2)))
           ((C_delta_reader_take F_delta_reader_take (res_delta_reader_left_0 r4) (res_delta_reader_left_1 r4) (res_delta_reader_left_2 r4)).bind fun r5 =>
            (L_delta_Join_0 n m1 x12_0 x12_1 (IntKind.i64.wrap (x12_2 + (res_delta_reader_take_0 r5).2.1)) (res_delta_reader_take_1 r5) (res_delta_reader_take_2 r5) (res_delta_reader_kind_1 r2) (res_delta_reader_kind_2 r2))))))
        ((C_delta_reader_kind F_delta_reader_kind (res_delta_reader_kind_1 r2) (res_delta_reader_kind_2 r2)).bind fun r4 =>
         (bcond (((res_delta_reader_kind_0 r4) : Int) == 1)
          ((C_delta_reader_left F_delta_reader_left (res_delta_reader_kind_1 r4) (res_delta_reader_kind_2 r4)).bind fun r5 =>
           ((C_delta_reader_take F_delta_reader_take (res_delta_reader_left_0 r5) (res_delta_reader_left_1 r5) (res_delta_reader_left_2 r5)).bind fun r6 =>
            ((C_delta_writer_elems F_delta_writer_elems (res_delta_reader_take_0 r6).2.2.2 x12_0 x12_1 x12_2).bind fun r7 =>
             (L_delta_Join_0 n m1 (res_delta_writer_elems_0 r7) (res_delta_writer_elems_1 r7) (res_delta_writer_elems_2 r7) (res_delta_reader_kind_1 r3) (res_delta_reader_kind_2 r3) (res_delta_reader_take_1 r6) (res_delta_reader_take_2 r6)))))
          ((C_delta_reader_left F_delta_reader_left (res_delta_reader_kind_1 r3) (res_delta_reader_kind_2 r3)).bind fun r5 =>
           ((C_delta_reader_left F_delta_reader_left (res_delta_reader_kind_1 r4) (res_delta_reader_kind_2 r4)).bind fun r6 =>
            ((C_delta_reader_take F_delta_reader_take (if ((res_delta_reader_left_0 r6) : Int) < (res_delta_reader_left_0 r5) then (res_delta_reader_left_0 r6) else (res_delta_reader_left_0 r5)) (res_delta_reader_left_1 r5) (res_delta_reader_left_2 r5)).bind fun r7 =>
             ((C_delta_reader_take F_delta_reader_take (if ((res_delta_reader_left_0 r6) : Int) < (res_delta_reader_left_0 r5) then (res_delta_reader_left_0 r6) else (res_delta_reader_left_0 r5)) (res_delta_reader_left_1 r6) (res_delta_reader_left_2 r6)).bind fun r8 =>
              (bcond ((((res_delta_reader_take_0 r7).1 : Int) == 0) == true)
               (bcond (((res_delta_reader_take_0 r8).1 : Int) == 0)
                ((C_attr_Both F_attr_Both (res_delta_reader_take_0 r7).2.2.1 (res_delta_reader_take_0 r8).2.2.1).bind fun r9 =>
                 ((C_delta_writer_keep F_delta_writer_keep (if ((res_delta_reader_left_0 r6) : Int) < (res_delta_reader_left_0 r5) then (res_delta_reader_left_0 r6) else (res_delta_reader_left_0 r5)) (res_attr_Both_0 r9) x12_0 x12_1 x12_2).bind fun r10 =>
                  (L_delta_Join_0 n m1 (res_delta_writer_keep_0 r10) (res_delta_writer_keep_1 r10) (res_delta_writer_keep_2 r10) (res_delta_reader_take_1 r7) (res_delta_reader_take_2 r7) (res_delta_reader_take_1 r8) (res_delta_reader_take_2 r8))))
                (bcond (((res_delta_reader_take_0 r7).1 : Int) == 0)
                 (L_delta_Join_0 n m1 x12_0 x12_1 (IntKind.i64.wrap (x12_2 + (if ((res_delta_reader_left_0 r6) : Int) < (res_delta_reader_left_0 r5) then (res_delta_reader_left_0 r6) else (res_delta_reader_left_0 r5)))) (res_delta_reader_take_1 r7) (res_delta_reader_take_2 r7) (res_delta_reader_take_1 r8) (res_delta_reader_take_2 r8))
                 (bcond (((res_delta_reader_take_0 r8).1 : Int) == 0)
                  ((C_delta_changed F_delta_changed (res_delta_reader_take_0 r7).2.2.2 (res_delta_reader_take_0 r8).2.2.1).bind fun r9 =>
                   ((C_delta_writer_elems F_delta_writer_elems (res_delta_changed_0 r9) x12_0 x12_1 x12_2).bind fun r10 =>
                    (L_delta_Join_0 n m1 (res_delta_writer_elems_0 r10) (res_delta_writer_elems_1 r10) (res_delta_writer_elems_2 r10) (res_delta_reader_take_1 r7) (res_delta_reader_take_2 r7) (res_delta_reader_take_1 r8) (res_delta_reader_take_2 r8))))
                  (L_delta_Join_0 n m1 x12_0 x12_1 x12_2 (res_delta_reader_take_1 r7) (res_delta_reader_take_2 r7) (res_delta_reader_take_1 r8) (res_delta_reader_take_2 r8)))))
               (bcond (((res_delta_reader_take_0 r7).1 : Int) == 0)
                (L_delta_Join_0 n m1 x12_0 x12_1 (IntKind.i64.wrap (x12_2 + (if ((res_delta_reader_left_0 r6) : Int) < (res_delta_reader_left_0 r5) then (res_delta_reader_left_0 r6) else (res_delta_reader_left_0 r5)))) (res_delta_reader_take_1 r7) (res_delta_reader_take_2 r7) (res_delta_reader_take_1 r8) (res_delta_reader_take_2 r8))
                (bcond (((res_delta_reader_take_0 r8).1 : Int) == 0)
                 ((C_delta_changed F_delta_changed (res_delta_reader_take_0 r7).2.2.2 (res_delta_reader_take_0 r8).2.2.1).bind fun r9 =>
                  ((C_delta_writer_elems F_delta_writer_elems (res_delta_changed_0 r9) x12_0 x12_1 x12_2).bind fun r10 =>
                   (L_delta_Join_0 n m1 (res_delta_writer_elems_0 r10) (res_delta_writer_elems_1 r10) (res_delta_writer_elems_2 r10) (res_delta_reader_take_1 r7) (res_delta_reader_take_2 r7) (res_delta_reader_take_1 r8) (res_delta_reader_take_2 r8))))
                 (L_delta_Join_0 n m1 x12_0 x12_1 x12_2 (res_delta_reader_take_1 r7) (res_delta_reader_take_2 r7) (res_delta_reader_take_1 r8) (res_delta_reader_take_2 r8)))))))))))))
      ((C_delta_writer_done F_delta_writer_done x12_0 x12_1 x12_2).bind fun r3 =>
       (some (ret_delta_Join (res_delta_writer_done_0 r3) (res_delta_writer_done_1 r3))))))
    ((C_delta_reader_kind F_delta_reader_kind (res_delta_reader_kind_1 r1) (res_delta_reader_kind_2 r1)).bind fun r2 =>
     (bcond (((res_delta_reader_kind_0 r2) : Int) == 2)
      (agree
       ((C_delta_reader_left F_delta_reader_left (res_delta_reader_kind_1 r2) (res_delta_reader_kind_2 r2)).bind fun r3 =>
        ((C_delta_reader_take F_delta_reader_take (res_delta_reader_left_0 r3) (res_delta_reader_left_1 r3) (res_delta_reader_left_2 r3)).bind fun r4 =>
         (L_delta_Join_0 n m1 x12_0 x12_1 (IntKind.i64.wrap (x12_2 + (res_delta_reader_take_0 r4).2.1)) (res_delta_reader_take_1 r4) (res_delta_reader_take_2 r4) x46_0 x46_1)))
       ((C_delta_reader_left F_delta_reader_left (res_delta_reader_kind_1 r2) (res_delta_reader_kind_2 r2)).bind fun r3 =>
        (agree
         ((C_delta_reader_take F_delta_reader_take (res_delta_reader_left_0 r3) (res_delta_reader_left_1 r3) (res_delta_reader_left_2 r3)).bind fun r4 =>
          (L_delta_Join_0 n m1 x12_0 x12_1 (IntKind.i64.wrap (x12_2 + (res_delta_reader_take_0 r4).2.1)) (res_delta_reader_take_1 r4) (res_delta_reader_take_2 r4) x46_0 x46_1))
         ((C_delta_reader_take F_delta_reader_take (res_delta_reader_left_0 r3) (res_delta_reader_left_1 r3) (res_delta_reader_left_2 r3)).bind fun r4 =>
          (L_delta_Join_0 n m1 x12_0 x12_1 (IntKind.i64.wrap (x12_2 + (res_delta_reader_take_0 r4).2.1)) (res_delta_reader_take_1 r4) (res_delta_reader_take_2 r4) x46_0 x46_1)))))
      ((C_delta_reader_kind F_delta_reader_kind x46_0 x46_1).bind fun r3 =>
       (bcond (((res_delta_reader_kind_0 r3) : Int) == 1)
        ((C_delta_reader_left F_delta_reader_left (res_delta_reader_kind_1 r3) (res_delta_reader_kind_2 r3)).bind fun r4 =>
         ((C_delta_reader_take F_delta_reader_take (res_delta_reader_left_0 r4) (res_delta_reader_left_1 r4) (res_delta_reader_left_2 r4)).bind fun r5 =>
          ((C_delta_writer_elems F_delta_writer_elems (res_delta_reader_take_0 r5).2.2.2 x12_0 x12_1 x12_2).bind fun r6 =>
           (L_delta_Join_0 n m1 (res_delta_writer_elems_0 r6) (res_delta_writer_elems_1 r6) (res_delta_writer_elems_2 r6) (res_delta_reader_kind_1 r2) (res_delta_reader_kind_2 r2) (res_delta_reader_take_1 r5) (res_delta_reader_take_2 r5)))))
        ((C_delta_reader_left F_delta_reader_left (res_delta_reader_kind_1 r2) (res_delta_reader_kind_2 r2)).bind fun r4 =>
         ((C_delta_reader_left F_delta_reader_left (res_delta_reader_kind_1 r3) (res_delta_reader_kind_2 r3)).bind fun r5 =>
          ((C_delta_reader_take F_delta_reader_take (if ((res_delta_reader_left_0 r5) : Int) < (res_delta_reader_left_0 r4) then (res_delta_reader_left_0 r5) else (res_delta_reader_left_0 r4)) (res_delta_reader_left_1 r4) (res_delta_reader_left_2 r4)).bind fun r6 =>
           ((C_delta_reader_take F_delta_reader_take (if ((res_delta_reader_left_0 r5) : Int) < (res_delta_reader_left_0 r4) then (res_delta_reader_left_0 r5) else (res_delta_reader_left_0 r4)) (res_delta_reader_left_1 r5) (res_delta_reader_left_2 r5)).bind fun r7 =>
            (bcond ((((res_delta_reader_take_0 r6).1 : Int) == 0) == true)
             (bcond (((res_delta_reader_take_0 r7).1 : Int) == 0)
              ((C_attr_Both F_attr_Both (res_delta_reader_take_0 r6).2.2.1 (res_delta_reader_take_0 r7).2.2.1).bind fun r8 =>
               ((C_delta_writer_keep F_delta_writer_keep (if ((res_delta_reader_left_0 r5) : Int) < (res_delta_reader_left_0 r4) then (res_delta_reader_left_0 r5) else (res_delta_reader_left_0 r4)) (res_attr_Both_0 r8) x12_0 x12_1 x12_2).bind fun r9 =>
                (L_delta_Join_0 n m1 (res_delta_writer_keep_0 r9) (res_delta_writer_keep_1 r9) (res_delta_writer_keep_2 r9) (res_delta_reader_take_1 r6) (res_delta_reader_take_2 r6) (res_delta_reader_take_1 r7) (res_delta_reader_take_2 r7))))
              (bcond (((res_delta_reader_take_0 r6).1 : Int) == 0)
               (L_delta_Join_0 n m1 x12_0 x12_1 (IntKind.i64.wrap (x12_2 + (if ((res_delta_reader_left_0 r5) : Int) < (res_delta_reader_left_0 r4) then (res_delta_reader_left_0 r5) else (res_delta_reader_left_0 r4)))) (res_delta_reader_take_1 r6) (res_delta_reader_take_2 r6) (res_delta_reader_take_1 r7) (res_delta_reader_take_2 r7))
               (bcond (((res_delta_reader_take_0 r7).1 : Int) == 0)
                ((C_delta_changed F_delta_changed (res_delta_reader_take_0 r6).2.2.2 (res_delta_reader_take_0 r7).2.2.1).bind fun r8 =>
                 ((C_delta_writer_elems F_delta_writer_elems (res_delta_changed_0 r8) x12_0 x12_1 x12_2).bind fun r9 =>
                  (L_delta_Join_0 n m1 (res_delta_writer_elems_0 r9) (res_delta_writer_elems_1 r9) (res_delta_writer_elems_2 r9) (res_delta_reader_take_1 r6) (res_delta_reader_take_2 r6) (res_delta_reader_take_1 r7) (res_delta_reader_take_2 r7))))
                (L_delta_Join_0 n m1 x12_0 x12_1 x12_2 (res_delta_reader_take_1 r6) (res_delta_reader_take_2 r6) (res_delta_reader_take_1 r7) (res_delta_reader_take_2 r7)))))
             (bcond (((res_delta_reader_take_0 r6).1 : Int) == 0)
              (L_delta_Join_0 n m1 x12_0 x12_1 (IntKind.i64.wrap (x12_2 + (if ((res_delta_reader_left_0 r5) : Int) < (res_delta_reader_left_0 r4) then (res_delta_reader_left_0 r5) else (res_delta_reader_left_0 r4)))) (res_delta_reader_take_1 r6) (res_delta_reader_take_2 r6) (res_delta_reader_take_1 r7) (res_delta_reader_take_2 r7))
              (bcond (((res_delta_reader_take_0 r7).1 : Int) == 0)
               ((C_delta_changed F_delta_changed (res_delta_reader_take_0 r6).2.2.2 (res_delta_reader_take_0 r7).2.2.1).bind fun r8 =>
                ((C_delta_writer_elems F_delta_writer_elems (res_delta_changed_0 r8) x12_0 x12_1 x12_2).bind fun r9 =>
                 (L_delta_Join_0 n m1 (res_delta_writer_elems_0 r9) (res_delta_writer_elems_1 r9) (res_delta_writer_elems_2 r9) (res_delta_reader_take_1 r6) (res_delta_reader_take_2 r6) (res_delta_reader_take_1 r7) (res_delta_reader_take_2 r7))))
               (L_delta_Join_0 n m1 x12_0 x12_1 x12_2 (res_delta_reader_take_1 r6) (res_delta_reader_take_2 r6) (res_delta_reader_take_1 r7) (res_delta_reader_take_2 r7))))))))))))))) := by kernel_rfl
theorem L_delta_Join_0_step (n m1 : Nat) (x12_0 : List YStep.den) (x12_1 : List YElem.den) (x12_2 : Int) (x43_0 : List YStep.den) (x43_1 : Int) (x46_0 : List YStep.den) (x46_1 : Int) : L_delta_Join_0 n (m1 + 1) x12_0 x12_1 x12_2 x43_0 x43_1 x46_0 x46_1 =
  ((C_delta_reader_kind F_delta_reader_kind x43_0 x43_1).bind fun r1 =>
   (bcond ((decide (((res_delta_reader_kind_0 r1) : Int) ≥ 0)) == false)
    ((C_delta_reader_kind F_delta_reader_kind x46_0 x46_1).bind fun r2 =>
     (bcond (decide (((res_delta_reader_kind_0 r2) : Int) ≥ 0))
      ((C_delta_reader_kind F_delta_reader_kind (res_delta_reader_kind_1 r1) (res_delta_reader_kind_2 r1)).bind fun r3 =>
       (bcond (((res_delta_reader_kind_0 r3) : Int) == 2)
        ((C_delta_reader_left F_delta_reader_left (res_delta_reader_kind_1 r3) (res_delta_reader_kind_2 r3)).bind fun r4 =>
         ((C_delta_reader_take F_delta_reader_take (res_delta_reader_left_0 r4) (res_delta_reader_left_1 r4) (res_delta_reader_left_2 r4)).bind fun r5 =>
          (L_delta_Join_0 n m1 x12_0 x12_1 (IntKind.i64.wrap (x12_2 + (res_delta_reader_take_0 r5).2.1)) (res_delta_reader_take_1 r5) (res_delta_reader_take_2 r5) (res_delta_reader_kind_1 r2) (res_delta_reader_kind_2 r2))))
        ((C_delta_reader_kind F_delta_reader_kind (res_delta_reader_kind_1 r2) (res_delta_reader_kind_2 r2)).bind fun r4 =>
         (bcond (((res_delta_reader_kind_0 r4) : Int) == 1)
          ((C_delta_reader_left F_delta_reader_left (res_delta_reader_kind_1 r4) (res_delta_reader_kind_2 r4)).bind fun r5 =>
           ((C_delta_reader_take F_delta_reader_take (res_delta_reader_left_0 r5) (res_delta_reader_left_1 r5) (res_delta_reader_left_2 r5)).bind fun r6 =>
            ((C_delta_writer_elems F_delta_writer_elems (res_delta_reader_take_0 r6).2.2.2 x12_0 x12_1 x12_2).bind fun r7 =>
             (L_delta_Join_0 n m1 (res_delta_writer_elems_0 r7) (res_delta_writer_elems_1 r7) (res_delta_writer_elems_2 r7) (res_delta_reader_kind_1 r3) (res_delta_reader_kind_2 r3) (res_delta_reader_take_1 r6) (res_delta_reader_take_2 r6)))))
          ((C_delta_reader_left F_delta_reader_left (res_delta_reader_kind_1 r3) (res_delta_reader_kind_2 r3)).bind fun r5 =>
           ((C_delta_reader_left F_delta_reader_left (res_delta_reader_kind_1 r4) (res_delta_reader_kind_2 r4)).bind fun r6 =>
            ((C_delta_reader_take F_delta_reader_take (if ((res_delta_reader_left_0 r6) : Int) < (res_delta_reader_left_0 r5) then (res_delta_reader_left_0 r6) else (res_delta_reader_left_0 r5)) (res_delta_reader_left_1 r5) (res_delta_reader_left_2 r5)).bind fun r7 =>
             ((C_delta_reader_take F_delta_reader_take (if ((res_delta_reader_left_0 r6) : Int) < (res_delta_reader_left_0 r5) then (res_delta_reader_left_0 r6) else (res_delta_reader_left_0 r5)) (res_delta_reader_left_1 r6) (res_delta_reader_left_2 r6)).bind fun r8 =>
              (bcond ((((res_delta_reader_take_0 r7).1 : Int) == 0) == true)
               (bcond (((res_delta_reader_take_0 r8).1 : Int) == 0)
                ((C_attr_Both F_attr_Both (res_delta_reader_take_0 r7).2.2.1 (res_delta_reader_take_0 r8).2.2.1).bind fun r9 =>
                 ((C_delta_writer_keep F_delta_writer_keep (if ((res_delta_reader_left_0 r6) : Int) < (res_delta_reader_left_0 r5) then (res_delta_reader_left_0 r6) else (res_delta_reader_left_0 r5)) (res_attr_Both_0 r9) x12_0 x12_1 x12_2).bind fun r10 =>
                  (L_delta_Join_0 n m1 (res_delta_writer_keep_0 r10) (res_delta_writer_keep_1 r10) (res_delta_writer_keep_2 r10) (res_delta_reader_take_1 r7) (res_delta_reader_take_2 r7) (res_delta_reader_take_1 r8) (res_delta_reader_take_2 r8))))
                (bcond (((res_delta_reader_take_0 r7).1 : Int) == 0)
                 (L_delta_Join_0 n m1 x12_0 x12_1 (IntKind.i64.wrap (x12_2 + (if ((res_delta_reader_left_0 r6) : Int) < (res_delta_reader_left_0 r5) then (res_delta_reader_left_0 r6) else (res_delta_reader_left_0 r5)))) (res_delta_reader_take_1 r7) (res_delta_reader_take_2 r7) (res_delta_reader_take_1 r8) (res_delta_reader_take_2 r8))
                 (bcond (((res_delta_reader_take_0 r8).1 : Int) == 0)
                  ((C_delta_changed F_delta_changed (res_delta_reader_take_0 r7).2.2.2 (res_delta_reader_take_0 r8).2.2.1).bind fun r9 =>
                   ((C_delta_writer_elems F_delta_writer_elems (res_delta_changed_0 r9) x12_0 x12_1 x12_2).bind fun r10 =>
                    (L_delta_Join_0 n m1 (res_delta_writer_elems_0 r10) (res_delta_writer_elems_1 r10) (res_delta_writer_elems_2 r10) (res_delta_reader_take_1 r7) (res_delta_reader_take_2 r7) (res_delta_reader_take_1 r8) (res_delta_reader_take_2 r8))))
                  (L_delta_Join_0 n m1 x12_0 x12_1 x12_2 (res_delta_reader_take_1 r7) (res_delta_reader_take_2 r7) (res_delta_reader_take_1 r8) (res_delta_reader_take_2 r8)))))
               (bcond (((res_delta_reader_take_0 r7).1 : Int) == 0)
                (L_delta_Join_0 n m1 x12_0 x12_1 (IntKind.i64.wrap (x12_2 + (if ((res_delta_reader_left_0 r6) : Int) < (res_delta_reader_left_0 r5) then (res_delta_reader_left_0 r6) else (res_delta_reader_left_0 r5)))) (res_delta_reader_take_1 r7) (res_delta_reader_take_2 r7) (res_delta_reader_take_1 r8) (res_delta_reader_take_2 r8))
                (bcond (((res_delta_reader_take_0 r8).1 : Int) == 0)
                 ((C_delta_changed F_delta_changed (res_delta_reader_take_0 r7).2.2.2 (res_delta_reader_take_0 r8).2.2.1).bind fun r9 =>
                  ((C_delta_writer_elems F_delta_writer_elems (res_delta_changed_0 r9) x12_0 x12_1 x12_2).bind fun r10 =>
                   (L_delta_Join_0 n m1 (res_delta_writer_elems_0 r10) (res_delta_writer_elems_1 r10) (res_delta_writer_elems_2 r10) (res_delta_reader_take_1 r7) (res_delta_reader_take_2 r7) (res_delta_reader_take_1 r8) (res_delta_reader_take_2 r8))))
                 (L_delta_Join_0 n m1 x12_0 x12_1 x12_2 (res_delta_reader_take_1 r7) (res_delta_reader_take_2 r7) (res_delta_reader_take_1 r8) (res_delta_reader_take_2 r8)))))))))))))
      ((C_delta_writer_done F_delta_writer_done x12_0 x12_1 x12_2).bind fun r3 =>
       (some (ret_delta_Join (res_delta_writer_done_0 r3) (res_delta_writer_done_1 r3))))))
    ((C_delta_reader_kind F_delta_reader_kind (res_delta_reader_kind_1 r1) (res_delta_reader_kind_2 r1)).bind fun r2 =>
     (bcond (((res_delta_reader_kind_0 r2) : Int) == 2)
      ((C_delta_reader_left F_delta_reader_left (res_delta_reader_kind_1 r2) (res_delta_reader_kind_2 r2)).bind fun r3 =>
       ((C_delta_reader_take F_delta_reader_take (res_delta_reader_left_0 r3) (res_delta_reader_left_1 r3) (res_delta_reader_left_2 r3)).bind fun r4 =>
        (L_delta_Join_0 n m1 x12_0 x12_1 (IntKind.i64.wrap (x12_2 + (res_delta_reader_take_0 r4).2.1)) (res_delta_reader_take_1 r4) (res_delta_reader_take_2 r4) x46_0 x46_1)))
      ((C_delta_reader_kind F_delta_reader_kind x46_0 x46_1).bind fun r3 =>
       (bcond (((res_delta_reader_kind_0 r3) : Int) == 1)
        ((C_delta_reader_left F_delta_reader_left (res_delta_reader_kind_1 r3) (res_delta_reader_kind_2 r3)).bind fun r4 =>
         ((C_delta_reader_take F_delta_reader_take (res_delta_reader_left_0 r4) (res_delta_reader_left_1 r4) (res_delta_reader_left_2 r4)).bind fun r5 =>
          ((C_delta_writer_elems F_delta_writer_elems (res_delta_reader_take_0 r5).2.2.2 x12_0 x12_1 x12_2).bind fun r6 =>
           (L_delta_Join_0 n m1 (res_delta_writer_elems_0 r6) (res_delta_writer_elems_1 r6) (res_delta_writer_elems_2 r6) (res_delta_reader_kind_1 r2) (res_delta_reader_kind_2 r2) (res_delta_reader_take_1 r5) (res_delta_reader_take_2 r5)))))
        ((C_delta_reader_left F_delta_reader_left (res_delta_reader_kind_1 r2) (res_delta_reader_kind_2 r2)).bind fun r4 =>
         ((C_delta_reader_left F_delta_reader_left (res_delta_reader_kind_1 r3) (res_delta_reader_kind_2 r3)).bind fun r5 =>
          ((C_delta_reader_take F_delta_reader_take (if ((res_delta_reader_left_0 r5) : Int) < (res_delta_reader_left_0 r4) then (res_delta_reader_left_0 r5) else (res_delta_reader_left_0 r4)) (res_delta_reader_left_1 r4) (res_delta_reader_left_2 r4)).bind fun r6 =>
           ((C_delta_reader_take F_delta_reader_take (if ((res_delta_reader_left_0 r5) : Int) < (res_delta_reader_left_0 r4) then (res_delta_reader_left_0 r5) else (res_delta_reader_left_0 r4)) (res_delta_reader_left_1 r5) (res_delta_reader_left_2 r5)).bind fun r7 =>
            (bcond ((((res_delta_reader_take_0 r6).1 : Int) == 0) == true)
             (bcond (((res_delta_reader_take_0 r7).1 : Int) == 0)
              ((C_attr_Both F_attr_Both (res_delta_reader_take_0 r6).2.2.1 (res_delta_reader_take_0 r7).2.2.1).bind fun r8 =>
               ((C_delta_writer_keep F_delta_writer_keep (if ((res_delta_reader_left_0 r5) : Int) < (res_delta_reader_left_0 r4) then (res_delta_reader_left_0 r5) else (res_delta_reader_left_0 r4)) (res_attr_Both_0 r8) x12_0 x12_1 x12_2).bind fun r9 =>
                (L_delta_Join_0 n m1 (res_delta_writer_keep_0 r9) (res_delta_writer_keep_1 r9) (res_delta_writer_keep_2 r9) (res_delta_reader_take_1 r6) (res_delta_reader_take_2 r6) (res_delta_reader_take_1 r7) (res_delta_reader_take_2 r7))))
              (bcond (((res_delta_reader_take_0 r6).1 : Int) == 0)
               (L_delta_Join_0 n m1 x12_0 x12_1 (IntKind.i64.wrap (x12_2 + (if ((res_delta_reader_left_0 r5) : Int) < (res_delta_reader_left_0 r4) then (res_delta_reader_left_0 r5) else (res_delta_reader_left_0 r4)))) (res_delta_reader_take_1 r6) (res_delta_reader_take_2 r6) (res_delta_reader_take_1 r7) (res_delta_reader_take_2 r7))
               (bcond (((res_delta_reader_take_0 r7).1 : Int) == 0)
                ((C_delta_changed F_delta_changed (res_delta_reader_take_0 r6).2.2.2 (res_delta_reader_take_0 r7).2.2.1).bind fun r8 =>
                 ((C_delta_writer_elems F_delta_writer_elems (res_delta_changed_0 r8) x12_0 x12_1 x12_2).bind fun r9 =>
                  (L_delta_Join_0 n m1 (res_delta_writer_elems_0 r9) (res_delta_writer_elems_1 r9) (res_delta_writer_elems_2 r9) (res_delta_reader_take_1 r6) (res_delta_reader_take_2 r6) (res_delta_reader_take_1 r7) (res_delta_reader_take_2 r7))))
                (L_delta_Join_0 n m1 x12_0 x12_1 x12_2 (res_delta_reader_take_1 r6) (res_delta_reader_take_2 r6) (res_delta_reader_take_1 r7) (res_delta_reader_take_2 r7)))))
             (bcond (((res_delta_reader_take_0 r6).1 : Int) == 0)
              (L_delta_Join_0 n m1 x12_0 x12_1 (IntKind.i64.wrap (x12_2 + (if ((res_delta_reader_left_0 r5) : Int) < (res_delta_reader_left_0 r4) then (res_delta_reader_left_0 r5) else (res_delta_reader_left_0 r4)))) (res_delta_reader_take_1 r6) (res_delta_reader_take_2 r6) (res_delta_reader_take_1 r7) (res_delta_reader_take_2 r7))
              (bcond (((res_delta_reader_take_0 r7).1 : Int) == 0)
               ((C_delta_changed F_delta_changed (res_delta_reader_take_0 r6).2.2.2 (res_delta_reader_take_0 r7).2.2.1).bind fun r8 =>
                ((C_delta_writer_elems F_delta_writer_elems (res_delta_changed_0 r8) x12_0 x12_1 x12_2).bind fun r9 =>
                 (L_delta_Join_0 n m1 (res_delta_writer_elems_0 r9) (res_delta_writer_elems_1 r9) (res_delta_writer_elems_2 r9) (res_delta_reader_take_1 r6) (res_delta_reader_take_2 r6) (res_delta_reader_take_1 r7) (res_delta_reader_take_2 r7))))
               (L_delta_Join_0 n m1 x12_0 x12_1 x12_2 (res_delta_reader_take_1 r6) (res_delta_reader_take_2 r6) (res_delta_reader_take_1 r7) (res_delta_reader_take_2 r7))))))))))))))) := by rw [L_delta_Join_0_raw]; simp only [agree_self]
noncomputable def F_delta_Join : sig_delta_Join.Fn := fun x y => run T (env_delta_Join) os_delta_Join sig_delta_Join Try.f38 hs_delta_Join big x y
theorem e_delta_Join (a0 : List YStep.den) (a1 : List YStep.den) : C_delta_Join F_delta_Join a0 a1 =
  ((C_delta_Check F_delta_Check a0).bind fun r1 =>
   (bcond (((res_delta_Check_0 r1) : Int) != 0)
    (some (ret_delta_Join [] (res_delta_Check_0 r1)))
    ((C_delta_Check F_delta_Check a1).bind fun r2 =>
     (bcond (((res_delta_Check_0 r2) : Int) != 0)
      (some (ret_delta_Join [] (res_delta_Check_0 r2)))
      ((C_delta_lengths F_delta_lengths a0).bind fun r3 =>
       ((C_delta_lengths F_delta_lengths a1).bind fun r4 =>
        (bcond (((res_delta_lengths_0 r4) : Int) != (res_delta_lengths_1 r3))
         (some (ret_delta_Join [] 14))
         (L_delta_Join_0 big big [] [] 0 a0 0 a1 0)))))))) := by kernel_rfl
def sig_law_DeltaJoinMatches : Sig := ⟨[.v false (.list YStep), .v false (.list YStep)], [], [(false, [.fr .bool])]⟩
def C_law_DeltaJoinMatches (F : sig_law_DeltaJoinMatches.Fn) (a0 : List YStep.den) (a1 : List YStep.den) : Option sig_law_DeltaJoinMatches.Out := F (a0, a1, ()) ()
def ret_law_DeltaJoinMatches (v0 : Bool) : sig_law_DeltaJoinMatches.Out := (((v0, ()), ()), ())
def os_law_DeltaJoinMatches : RegT := ⟨[], [], false⟩
def hs_law_DeltaJoinMatches : List Keep := [[(5, []), (6, []), (8, []), (9, []), (10, []), (58, []), (59, [])], [(5, []), (6, []), (8, []), (9, []), (10, []), (73, []), (74, [])]]
@[reducible] noncomputable def env_law_DeltaJoinMatches : Env := [(15, ⟨sig_law_deltas, F_law_deltas⟩), (38, ⟨sig_delta_Join, F_delta_Join⟩), (31, ⟨sig_R_DeltaError, F_R_DeltaError⟩), (32, ⟨sig_law_short, F_law_short⟩), (21, ⟨sig_R_ActOf, F_R_ActOf⟩), (39, ⟨sig_R_Both, F_R_Both⟩), (20, ⟨sig_R_DeltaOf, F_R_DeltaOf⟩), (19, ⟨sig_R_SameDelta, F_R_SameDelta⟩)]
noncomputable def L_law_DeltaJoinMatches_0 (n m1 : Nat) (x5 : List YStep.den) (x6 : Int) (x8_0 : List (List YElem.den)) (x8_1 : List (Bool)) (x8_2 : List (List YAttr.den)) (x9_0 : List (List YElem.den)) (x9_1 : List (Bool)) (x9_2 : List (List YAttr.den)) (x10 : Int) (x58 : Int) (x59 : Int) : Option sig_law_DeltaJoinMatches.Out :=
  loopAt T (env_law_DeltaJoinMatches) os_law_DeltaJoinMatches sig_law_DeltaJoinMatches Try.f6 hs_law_DeltaJoinMatches n [.sr, .sr, .sr, .sr, .sr, .sr, .sr, .sr, .sr, .sl, .sr, .bl] m1 (mk 108 [(5, .cs false [.val (.list YStep) x5]), (6, .cs false [.val (.int .i64) x6]), (8, .box [.val (.list (.list YElem)) x8_0, .val (.list .bool) x8_1, .val (.list (.list YAttr)) x8_2]), (9, .box [.val (.list (.list YElem)) x9_0, .val (.list .bool) x9_1, .val (.list (.list YAttr)) x9_2]), (10, .cs false [.val (.int .i64) x10]), (58, .cs false [.val (.int .i64) x58]), (59, .cs false [.val (.int .i64) x59])])
noncomputable def L_law_DeltaJoinMatches_1 (n m1 : Nat) (x5 : List YStep.den) (x6 : Int) (x8_0 : List (List YElem.den)) (x8_1 : List (Bool)) (x8_2 : List (List YAttr.den)) (x9_0 : List (List YElem.den)) (x9_1 : List (Bool)) (x9_2 : List (List YAttr.den)) (x10 : Int) (x73 : Int) (x74 : Int) : Option sig_law_DeltaJoinMatches.Out :=
  loopAt T (env_law_DeltaJoinMatches) os_law_DeltaJoinMatches sig_law_DeltaJoinMatches Try.f6 hs_law_DeltaJoinMatches n [.sr, .sr, .sr, .sr, .sr, .sr, .sr, .sr, .sr, .sr, .sl, .sr, .bl] m1 (mk 108 [(5, .cs false [.val (.list YStep) x5]), (6, .cs false [.val (.int .i64) x6]), (8, .box [.val (.list (.list YElem)) x8_0, .val (.list .bool) x8_1, .val (.list (.list YAttr)) x8_2]), (9, .box [.val (.list (.list YElem)) x9_0, .val (.list .bool) x9_1, .val (.list (.list YAttr)) x9_2]), (10, .cs false [.val (.int .i64) x10]), (73, .cs false [.val (.int .i64) x73]), (74, .cs false [.val (.int .i64) x74])])
noncomputable def J_law_DeltaJoinMatches_0 (n : Nat) (y0 : List YStep.den) (y1 : List YStep.den) (y5 : List YStep.den) (y6 : Int) (y7 : Int) : Option sig_law_DeltaJoinMatches.Out :=
  (bcond ((y7 : Int) != 0)
   (bcond (((y6 : Int) == y7) == true)
    (some (ret_law_DeltaJoinMatches (((List.length y5 : Int) : Int) == 0)))
    (some (ret_law_DeltaJoinMatches false)))
   ((C_law_short F_law_short y0).bind fun r5 =>
    (bcond ((!(res_law_short_0 r5)) == false)
     ((C_law_short F_law_short y1).bind fun r6 =>
      (bcond (!(res_law_short_0 r6))
       (bcond (((y6 : Int) == 0) == false)
        (some (ret_law_DeltaJoinMatches (((List.length y5 : Int) : Int) == 0)))
        (some (ret_law_DeltaJoinMatches true)))
       ((C_R_ActOf F_R_ActOf y0).bind fun r7 =>
        ((C_R_ActOf F_R_ActOf y1).bind fun r8 =>
         (L_law_DeltaJoinMatches_0 n n y5 y6 (res_R_ActOf_0 r7).1 (res_R_ActOf_0 r7).2.1 (res_R_ActOf_0 r7).2.2 (res_R_ActOf_0 r8).1 (res_R_ActOf_0 r8).2.1 (res_R_ActOf_0 r8).2.2 0 (List.length (res_R_ActOf_0 r7).1 : Int) 0)))))
     (bcond (((y6 : Int) == 0) == false)
      (some (ret_law_DeltaJoinMatches (((List.length y5 : Int) : Int) == 0)))
      (some (ret_law_DeltaJoinMatches true))))))
theorem L_law_DeltaJoinMatches_0_step (n m1 : Nat) (x5 : List YStep.den) (x6 : Int) (x8_0 : List (List YElem.den)) (x8_1 : List (Bool)) (x8_2 : List (List YAttr.den)) (x9_0 : List (List YElem.den)) (x9_1 : List (Bool)) (x9_2 : List (List YAttr.den)) (x10 : Int) (x58 : Int) (x59 : Int) : L_law_DeltaJoinMatches_0 n (m1 + 1) x5 x6 x8_0 x8_1 x8_2 x9_0 x9_1 x9_2 x10 x58 x59 =
  (bcond (decide ((x59 : Int) < x58))
   (if 0 ≤ (x59 : Int) ∧ (x59 : Int) < (List.length x8_0 : Int) then
    (L_law_DeltaJoinMatches_0 n m1 x5 x6 x8_0 x8_1 x8_2 x9_0 x9_1 x9_2 (IntKind.i64.wrap (x10 + (List.length (at_ (e := (.list YElem)) x8_0 x59) : Int))) x58 (IntKind.i64.wrap (x59 + 1)))
   else none)
   (L_law_DeltaJoinMatches_1 n n x5 x6 x8_0 x8_1 x8_2 x9_0 x9_1 x9_2 x10 (List.length x8_1 : Int) 0)) := by kernel_rfl
theorem L_law_DeltaJoinMatches_1_step (n m1 : Nat) (x5 : List YStep.den) (x6 : Int) (x8_0 : List (List YElem.den)) (x8_1 : List (Bool)) (x8_2 : List (List YAttr.den)) (x9_0 : List (List YElem.den)) (x9_1 : List (Bool)) (x9_2 : List (List YAttr.den)) (x10 : Int) (x73 : Int) (x74 : Int) : L_law_DeltaJoinMatches_1 n (m1 + 1) x5 x6 x8_0 x8_1 x8_2 x9_0 x9_1 x9_2 x10 x73 x74 =
  (bcond (decide ((x74 : Int) < x73))
   (if 0 ≤ (x74 : Int) ∧ (x74 : Int) < (List.length x8_1 : Int) then
    (bcond (!(at_ (e := .bool) x8_1 x74))
     (L_law_DeltaJoinMatches_1 n m1 x5 x6 x8_0 x8_1 x8_2 x9_0 x9_1 x9_2 (IntKind.i64.wrap (x10 + 1)) x73 (IntKind.i64.wrap (x74 + 1)))
     (L_law_DeltaJoinMatches_1 n m1 x5 x6 x8_0 x8_1 x8_2 x9_0 x9_1 x9_2 x10 x73 (IntKind.i64.wrap (x74 + 1))))
   else none)
   (bcond ((x10 : Int) != (List.length x9_1 : Int))
    (bcond (((x6 : Int) == 14) == true)
     (some (ret_law_DeltaJoinMatches (((List.length x5 : Int) : Int) == 0)))
     (some (ret_law_DeltaJoinMatches false)))
    (bcond (((x6 : Int) == 0) == true)
     ((C_R_Both F_R_Both (x8_0, (x8_1, x8_2)) (x9_0, (x9_1, x9_2))).bind fun r1 =>
      ((C_R_DeltaOf F_R_DeltaOf (res_R_Both_0 r1)).bind fun r2 =>
       ((C_R_SameDelta F_R_SameDelta x5 (res_R_DeltaOf_0 r2)).bind fun r3 =>
        (some (ret_law_DeltaJoinMatches (res_R_SameDelta_0 r3))))))
     (some (ret_law_DeltaJoinMatches false))))) := by kernel_rfl
noncomputable def F_law_DeltaJoinMatches : sig_law_DeltaJoinMatches.Fn := fun x y => run T (env_law_DeltaJoinMatches) os_law_DeltaJoinMatches sig_law_DeltaJoinMatches Try.f6 hs_law_DeltaJoinMatches big x y
theorem e_law_DeltaJoinMatches (a0 : List YStep.den) (a1 : List YStep.den) : C_law_DeltaJoinMatches F_law_DeltaJoinMatches a0 a1 =
  ((C_law_deltas F_law_deltas ).bind fun r1 =>
   (bcond (!(res_law_deltas_0 r1))
    (some (ret_law_DeltaJoinMatches false))
    ((C_delta_Join F_delta_Join a0 a1).bind fun r2 =>
     ((C_R_DeltaError F_R_DeltaError a0).bind fun r3 =>
      (bcond (((res_R_DeltaError_0 r3) : Int) == 0)
       ((C_R_DeltaError F_R_DeltaError a1).bind fun r4 =>
        (J_law_DeltaJoinMatches_0 big a0 a1 (res_delta_Join_0 r2) (res_delta_Join_1 r2) (res_R_DeltaError_0 r4)))
       (J_law_DeltaJoinMatches_0 big a0 a1 (res_delta_Join_0 r2) (res_delta_Join_1 r2) (res_R_DeltaError_0 r3))))))) := by kernel_rfl
end Go.Ev
