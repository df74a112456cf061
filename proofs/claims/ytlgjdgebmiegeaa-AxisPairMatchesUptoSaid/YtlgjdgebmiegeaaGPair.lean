/- Functions, step by step. -/
import Derived.Test.YtlgjdgebmiegeaaGRead
import Derived.Test.YtlgjdgebmiegeaaGBehind
namespace Go.Ev
set_option linter.unusedVariables false
set_option maxRecDepth 100000
open Go.Proofs
def sig_delta_Pair : Sig := ⟨[.v false (.list YStep), .v false (.list YStep)], [], [(false, [.fr (.list YStep)]), (false, [.fr (.list YStep)]), (false, [.fr (.int .i64)])]⟩
def C_delta_Pair (F : sig_delta_Pair.Fn) (a0 : List YStep.den) (a1 : List YStep.den) : Option sig_delta_Pair.Out := F (a0, a1, ()) ()
def ret_delta_Pair (v0 : List YStep.den) (v1 : List YStep.den) (v2 : Int) : sig_delta_Pair.Out := (((v0, ()), (v1, ()), (v2, ()), ()), ())
def res_delta_Pair_0 (r : sig_delta_Pair.Out) : List YStep.den := r.1.1.1
@[simp] theorem res_delta_Pair_0_ret (v0 : List YStep.den) (v1 : List YStep.den) (v2 : Int) : res_delta_Pair_0 (ret_delta_Pair v0 v1 v2) = v0 := rfl
def res_delta_Pair_1 (r : sig_delta_Pair.Out) : List YStep.den := r.1.2.1.1
@[simp] theorem res_delta_Pair_1_ret (v0 : List YStep.den) (v1 : List YStep.den) (v2 : Int) : res_delta_Pair_1 (ret_delta_Pair v0 v1 v2) = v1 := rfl
def res_delta_Pair_2 (r : sig_delta_Pair.Out) : Int := r.1.2.2.1.1
@[simp] theorem res_delta_Pair_2_ret (v0 : List YStep.den) (v1 : List YStep.den) (v2 : Int) : res_delta_Pair_2 (ret_delta_Pair v0 v1 v2) = v2 := rfl
def os_delta_Pair : RegT := ⟨[], []⟩
def hs_delta_Pair : List Keep := [[(13, [(0, 30, YStep), (1, 113, YElem)]), (14, [(0, 30, YStep), (1, 113, YElem)]), (15, []), (16, []), (51, []), (54, [])]]
@[reducible] noncomputable def env_delta_Pair : Env := [(94, ⟨sig_delta_Check, F_delta_Check⟩), (97, ⟨sig_delta_lengths, F_delta_lengths⟩), (98, ⟨sig_delta_reader_kind, F_delta_reader_kind⟩), (100, ⟨sig_delta_reader_left, F_delta_reader_left⟩), (99, ⟨sig_delta_reader_take, F_delta_reader_take⟩), (81, ⟨sig_delta_writer_elems, F_delta_writer_elems⟩), (80, ⟨sig_delta_writer_keep, F_delta_writer_keep⟩), (104, ⟨sig_attr_Without, F_attr_Without⟩), (82, ⟨sig_delta_writer_done, F_delta_writer_done⟩)]
noncomputable def L_delta_Pair_0 (n m1 : Nat) (x13_0 : List YStep.den) (x13_1 : List YElem.den) (x13_2 : Int) (x14_0 : List YStep.den) (x14_1 : List YElem.den) (x14_2 : Int) (x51_0 : List YStep.den) (x51_1 : Int) (x54_0 : List YStep.den) (x54_1 : Int) : Option sig_delta_Pair.Out :=
  loopAt T (env_delta_Pair) os_delta_Pair sig_delta_Pair Try.f40 hs_delta_Pair n [.sr, .sr, .sr, .sr, .sr, .sr, .sr, .sl, .bl] m1 (mk 158 [(13, .box [.own 30 YStep x13_0, .own 113 YElem x13_1, .val (.int .i64) x13_2]), (14, .box [.own 30 YStep x14_0, .own 113 YElem x14_1, .val (.int .i64) x14_2]), (15, .cs false [.ptr 51 0]), (16, .cs false [.ptr 54 0]), (51, .box [.val (.list YStep) x51_0, .val (.int .i64) x51_1]), (54, .box [.val (.list YStep) x54_0, .val (.int .i64) x54_1])])
theorem L_delta_Pair_0_step (n m1 : Nat) (x13_0 : List YStep.den) (x13_1 : List YElem.den) (x13_2 : Int) (x14_0 : List YStep.den) (x14_1 : List YElem.den) (x14_2 : Int) (x51_0 : List YStep.den) (x51_1 : Int) (x54_0 : List YStep.den) (x54_1 : Int) : L_delta_Pair_0 n (m1 + 1) x13_0 x13_1 x13_2 x14_0 x14_1 x14_2 x51_0 x51_1 x54_0 x54_1 =
  ((C_delta_reader_kind F_delta_reader_kind x51_0 x51_1).bind fun r1 =>
   (bcond ((decide (((res_delta_reader_kind_0 r1) : Int) ≥ 0)) == false)
    ((C_delta_reader_kind F_delta_reader_kind x54_0 x54_1).bind fun r2 =>
     (bcond (decide (((res_delta_reader_kind_0 r2) : Int) ≥ 0))
      ((C_delta_reader_kind F_delta_reader_kind (res_delta_reader_kind_1 r1) (res_delta_reader_kind_2 r1)).bind fun r3 =>
       (bcond (((res_delta_reader_kind_0 r3) : Int) == 1)
        ((C_delta_reader_left F_delta_reader_left (res_delta_reader_kind_1 r3) (res_delta_reader_kind_2 r3)).bind fun r4 =>
         ((C_delta_reader_take F_delta_reader_take (res_delta_reader_left_0 r4) (res_delta_reader_left_1 r4) (res_delta_reader_left_2 r4)).bind fun r5 =>
          ((C_delta_writer_elems F_delta_writer_elems (res_delta_reader_take_0 r5).2.2.2 x13_0 x13_1 x13_2).bind fun r6 =>
           ((C_delta_writer_keep F_delta_writer_keep (List.length (res_delta_reader_take_0 r5).2.2.2 : Int) [] x14_0 x14_1 x14_2).bind fun r7 =>
            (L_delta_Pair_0 n m1 (res_delta_writer_elems_0 r6) (res_delta_writer_elems_1 r6) (res_delta_writer_elems_2 r6) (res_delta_writer_keep_0 r7) (res_delta_writer_keep_1 r7) (res_delta_writer_keep_2 r7) (res_delta_reader_take_1 r5) (res_delta_reader_take_2 r5) (res_delta_reader_kind_1 r2) (res_delta_reader_kind_2 r2))))))
        ((C_delta_reader_kind F_delta_reader_kind (res_delta_reader_kind_1 r2) (res_delta_reader_kind_2 r2)).bind fun r4 =>
         (bcond (((res_delta_reader_kind_0 r4) : Int) == 1)
          ((C_delta_reader_left F_delta_reader_left (res_delta_reader_kind_1 r4) (res_delta_reader_kind_2 r4)).bind fun r5 =>
           ((C_delta_reader_take F_delta_reader_take (res_delta_reader_left_0 r5) (res_delta_reader_left_1 r5) (res_delta_reader_left_2 r5)).bind fun r6 =>
            ((C_delta_writer_keep F_delta_writer_keep (List.length (res_delta_reader_take_0 r6).2.2.2 : Int) [] x13_0 x13_1 x13_2).bind fun r7 =>
             ((C_delta_writer_elems F_delta_writer_elems (res_delta_reader_take_0 r6).2.2.2 x14_0 x14_1 x14_2).bind fun r8 =>
              (L_delta_Pair_0 n m1 (res_delta_writer_keep_0 r7) (res_delta_writer_keep_1 r7) (res_delta_writer_keep_2 r7) (res_delta_writer_elems_0 r8) (res_delta_writer_elems_1 r8) (res_delta_writer_elems_2 r8) (res_delta_reader_kind_1 r3) (res_delta_reader_kind_2 r3) (res_delta_reader_take_1 r6) (res_delta_reader_take_2 r6))))))
          ((C_delta_reader_left F_delta_reader_left (res_delta_reader_kind_1 r3) (res_delta_reader_kind_2 r3)).bind fun r5 =>
           ((C_delta_reader_left F_delta_reader_left (res_delta_reader_kind_1 r4) (res_delta_reader_kind_2 r4)).bind fun r6 =>
            ((C_delta_reader_take F_delta_reader_take (if ((res_delta_reader_left_0 r6) : Int) < (res_delta_reader_left_0 r5) then (res_delta_reader_left_0 r6) else (res_delta_reader_left_0 r5)) (res_delta_reader_left_1 r5) (res_delta_reader_left_2 r5)).bind fun r7 =>
             ((C_delta_reader_take F_delta_reader_take (if ((res_delta_reader_left_0 r6) : Int) < (res_delta_reader_left_0 r5) then (res_delta_reader_left_0 r6) else (res_delta_reader_left_0 r5)) (res_delta_reader_left_1 r6) (res_delta_reader_left_2 r6)).bind fun r8 =>
              (bcond ((((res_delta_reader_take_0 r7).1 : Int) == 0) == true)
               (bcond (((res_delta_reader_take_0 r8).1 : Int) == 0)
                ((C_attr_Without F_attr_Without (res_delta_reader_take_0 r7).2.2.1 (res_delta_reader_take_0 r8).2.2.1).bind fun r9 =>
                 ((C_delta_writer_keep F_delta_writer_keep (if ((res_delta_reader_left_0 r6) : Int) < (res_delta_reader_left_0 r5) then (res_delta_reader_left_0 r6) else (res_delta_reader_left_0 r5)) (res_attr_Without_0 r9) x13_0 x13_1 x13_2).bind fun r10 =>
                  ((C_delta_writer_keep F_delta_writer_keep (if ((res_delta_reader_left_0 r6) : Int) < (res_delta_reader_left_0 r5) then (res_delta_reader_left_0 r6) else (res_delta_reader_left_0 r5)) (res_delta_reader_take_0 r8).2.2.1 x14_0 x14_1 x14_2).bind fun r11 =>
                   (L_delta_Pair_0 n m1 (res_delta_writer_keep_0 r10) (res_delta_writer_keep_1 r10) (res_delta_writer_keep_2 r10) (res_delta_writer_keep_0 r11) (res_delta_writer_keep_1 r11) (res_delta_writer_keep_2 r11) (res_delta_reader_take_1 r7) (res_delta_reader_take_2 r7) (res_delta_reader_take_1 r8) (res_delta_reader_take_2 r8)))))
                (bcond (((res_delta_reader_take_0 r7).1 : Int) == 0)
                 (L_delta_Pair_0 n m1 x13_0 x13_1 x13_2 x14_0 x14_1 (IntKind.i64.wrap (x14_2 + (if ((res_delta_reader_left_0 r6) : Int) < (res_delta_reader_left_0 r5) then (res_delta_reader_left_0 r6) else (res_delta_reader_left_0 r5)))) (res_delta_reader_take_1 r7) (res_delta_reader_take_2 r7) (res_delta_reader_take_1 r8) (res_delta_reader_take_2 r8))
                 (bcond (((res_delta_reader_take_0 r8).1 : Int) == 0)
                  (L_delta_Pair_0 n m1 x13_0 x13_1 (IntKind.i64.wrap (x13_2 + (if ((res_delta_reader_left_0 r6) : Int) < (res_delta_reader_left_0 r5) then (res_delta_reader_left_0 r6) else (res_delta_reader_left_0 r5)))) x14_0 x14_1 x14_2 (res_delta_reader_take_1 r7) (res_delta_reader_take_2 r7) (res_delta_reader_take_1 r8) (res_delta_reader_take_2 r8))
                  (L_delta_Pair_0 n m1 x13_0 x13_1 x13_2 x14_0 x14_1 x14_2 (res_delta_reader_take_1 r7) (res_delta_reader_take_2 r7) (res_delta_reader_take_1 r8) (res_delta_reader_take_2 r8)))))
               (bcond (((res_delta_reader_take_0 r7).1 : Int) == 0)
                (L_delta_Pair_0 n m1 x13_0 x13_1 x13_2 x14_0 x14_1 (IntKind.i64.wrap (x14_2 + (if ((res_delta_reader_left_0 r6) : Int) < (res_delta_reader_left_0 r5) then (res_delta_reader_left_0 r6) else (res_delta_reader_left_0 r5)))) (res_delta_reader_take_1 r7) (res_delta_reader_take_2 r7) (res_delta_reader_take_1 r8) (res_delta_reader_take_2 r8))
                (bcond (((res_delta_reader_take_0 r8).1 : Int) == 0)
                 (L_delta_Pair_0 n m1 x13_0 x13_1 (IntKind.i64.wrap (x13_2 + (if ((res_delta_reader_left_0 r6) : Int) < (res_delta_reader_left_0 r5) then (res_delta_reader_left_0 r6) else (res_delta_reader_left_0 r5)))) x14_0 x14_1 x14_2 (res_delta_reader_take_1 r7) (res_delta_reader_take_2 r7) (res_delta_reader_take_1 r8) (res_delta_reader_take_2 r8))
                 (L_delta_Pair_0 n m1 x13_0 x13_1 x13_2 x14_0 x14_1 x14_2 (res_delta_reader_take_1 r7) (res_delta_reader_take_2 r7) (res_delta_reader_take_1 r8) (res_delta_reader_take_2 r8)))))))))))))
      ((C_delta_writer_done F_delta_writer_done x13_0 x13_1 x13_2).bind fun r3 =>
       ((C_delta_writer_done F_delta_writer_done x14_0 x14_1 x14_2).bind fun r4 =>
        (bcond ((((res_delta_writer_done_1 r3) : Int) != 0) == false)
         (bcond (((res_delta_writer_done_1 r4) : Int) != 0)
          (some (ret_delta_Pair [] [] 3))
          (some (ret_delta_Pair (res_delta_writer_done_0 r3) (res_delta_writer_done_0 r4) 0)))
         (some (ret_delta_Pair [] [] 3)))))))
    ((C_delta_reader_kind F_delta_reader_kind (res_delta_reader_kind_1 r1) (res_delta_reader_kind_2 r1)).bind fun r2 =>
     (bcond (((res_delta_reader_kind_0 r2) : Int) == 1)
      ((C_delta_reader_left F_delta_reader_left (res_delta_reader_kind_1 r2) (res_delta_reader_kind_2 r2)).bind fun r3 =>
       ((C_delta_reader_take F_delta_reader_take (res_delta_reader_left_0 r3) (res_delta_reader_left_1 r3) (res_delta_reader_left_2 r3)).bind fun r4 =>
        ((C_delta_writer_elems F_delta_writer_elems (res_delta_reader_take_0 r4).2.2.2 x13_0 x13_1 x13_2).bind fun r5 =>
         ((C_delta_writer_keep F_delta_writer_keep (List.length (res_delta_reader_take_0 r4).2.2.2 : Int) [] x14_0 x14_1 x14_2).bind fun r6 =>
          (L_delta_Pair_0 n m1 (res_delta_writer_elems_0 r5) (res_delta_writer_elems_1 r5) (res_delta_writer_elems_2 r5) (res_delta_writer_keep_0 r6) (res_delta_writer_keep_1 r6) (res_delta_writer_keep_2 r6) (res_delta_reader_take_1 r4) (res_delta_reader_take_2 r4) x54_0 x54_1)))))
      ((C_delta_reader_kind F_delta_reader_kind x54_0 x54_1).bind fun r3 =>
       (bcond (((res_delta_reader_kind_0 r3) : Int) == 1)
        ((C_delta_reader_left F_delta_reader_left (res_delta_reader_kind_1 r3) (res_delta_reader_kind_2 r3)).bind fun r4 =>
         ((C_delta_reader_take F_delta_reader_take (res_delta_reader_left_0 r4) (res_delta_reader_left_1 r4) (res_delta_reader_left_2 r4)).bind fun r5 =>
          ((C_delta_writer_keep F_delta_writer_keep (List.length (res_delta_reader_take_0 r5).2.2.2 : Int) [] x13_0 x13_1 x13_2).bind fun r6 =>
           ((C_delta_writer_elems F_delta_writer_elems (res_delta_reader_take_0 r5).2.2.2 x14_0 x14_1 x14_2).bind fun r7 =>
            (L_delta_Pair_0 n m1 (res_delta_writer_keep_0 r6) (res_delta_writer_keep_1 r6) (res_delta_writer_keep_2 r6) (res_delta_writer_elems_0 r7) (res_delta_writer_elems_1 r7) (res_delta_writer_elems_2 r7) (res_delta_reader_kind_1 r2) (res_delta_reader_kind_2 r2) (res_delta_reader_take_1 r5) (res_delta_reader_take_2 r5))))))
        ((C_delta_reader_left F_delta_reader_left (res_delta_reader_kind_1 r2) (res_delta_reader_kind_2 r2)).bind fun r4 =>
         ((C_delta_reader_left F_delta_reader_left (res_delta_reader_kind_1 r3) (res_delta_reader_kind_2 r3)).bind fun r5 =>
          ((C_delta_reader_take F_delta_reader_take (if ((res_delta_reader_left_0 r5) : Int) < (res_delta_reader_left_0 r4) then (res_delta_reader_left_0 r5) else (res_delta_reader_left_0 r4)) (res_delta_reader_left_1 r4) (res_delta_reader_left_2 r4)).bind fun r6 =>
           ((C_delta_reader_take F_delta_reader_take (if ((res_delta_reader_left_0 r5) : Int) < (res_delta_reader_left_0 r4) then (res_delta_reader_left_0 r5) else (res_delta_reader_left_0 r4)) (res_delta_reader_left_1 r5) (res_delta_reader_left_2 r5)).bind fun r7 =>
            (bcond ((((res_delta_reader_take_0 r6).1 : Int) == 0) == true)
             (bcond (((res_delta_reader_take_0 r7).1 : Int) == 0)
              ((C_attr_Without F_attr_Without (res_delta_reader_take_0 r6).2.2.1 (res_delta_reader_take_0 r7).2.2.1).bind fun r8 =>
               ((C_delta_writer_keep F_delta_writer_keep (if ((res_delta_reader_left_0 r5) : Int) < (res_delta_reader_left_0 r4) then (res_delta_reader_left_0 r5) else (res_delta_reader_left_0 r4)) (res_attr_Without_0 r8) x13_0 x13_1 x13_2).bind fun r9 =>
                ((C_delta_writer_keep F_delta_writer_keep (if ((res_delta_reader_left_0 r5) : Int) < (res_delta_reader_left_0 r4) then (res_delta_reader_left_0 r5) else (res_delta_reader_left_0 r4)) (res_delta_reader_take_0 r7).2.2.1 x14_0 x14_1 x14_2).bind fun r10 =>
                 (L_delta_Pair_0 n m1 (res_delta_writer_keep_0 r9) (res_delta_writer_keep_1 r9) (res_delta_writer_keep_2 r9) (res_delta_writer_keep_0 r10) (res_delta_writer_keep_1 r10) (res_delta_writer_keep_2 r10) (res_delta_reader_take_1 r6) (res_delta_reader_take_2 r6) (res_delta_reader_take_1 r7) (res_delta_reader_take_2 r7)))))
              (bcond (((res_delta_reader_take_0 r6).1 : Int) == 0)
               (L_delta_Pair_0 n m1 x13_0 x13_1 x13_2 x14_0 x14_1 (IntKind.i64.wrap (x14_2 + (if ((res_delta_reader_left_0 r5) : Int) < (res_delta_reader_left_0 r4) then (res_delta_reader_left_0 r5) else (res_delta_reader_left_0 r4)))) (res_delta_reader_take_1 r6) (res_delta_reader_take_2 r6) (res_delta_reader_take_1 r7) (res_delta_reader_take_2 r7))
               (bcond (((res_delta_reader_take_0 r7).1 : Int) == 0)
                (L_delta_Pair_0 n m1 x13_0 x13_1 (IntKind.i64.wrap (x13_2 + (if ((res_delta_reader_left_0 r5) : Int) < (res_delta_reader_left_0 r4) then (res_delta_reader_left_0 r5) else (res_delta_reader_left_0 r4)))) x14_0 x14_1 x14_2 (res_delta_reader_take_1 r6) (res_delta_reader_take_2 r6) (res_delta_reader_take_1 r7) (res_delta_reader_take_2 r7))
                (L_delta_Pair_0 n m1 x13_0 x13_1 x13_2 x14_0 x14_1 x14_2 (res_delta_reader_take_1 r6) (res_delta_reader_take_2 r6) (res_delta_reader_take_1 r7) (res_delta_reader_take_2 r7)))))
             (bcond (((res_delta_reader_take_0 r6).1 : Int) == 0)
              (L_delta_Pair_0 n m1 x13_0 x13_1 x13_2 x14_0 x14_1 (IntKind.i64.wrap (x14_2 + (if ((res_delta_reader_left_0 r5) : Int) < (res_delta_reader_left_0 r4) then (res_delta_reader_left_0 r5) else (res_delta_reader_left_0 r4)))) (res_delta_reader_take_1 r6) (res_delta_reader_take_2 r6) (res_delta_reader_take_1 r7) (res_delta_reader_take_2 r7))
              (bcond (((res_delta_reader_take_0 r7).1 : Int) == 0)
               (L_delta_Pair_0 n m1 x13_0 x13_1 (IntKind.i64.wrap (x13_2 + (if ((res_delta_reader_left_0 r5) : Int) < (res_delta_reader_left_0 r4) then (res_delta_reader_left_0 r5) else (res_delta_reader_left_0 r4)))) x14_0 x14_1 x14_2 (res_delta_reader_take_1 r6) (res_delta_reader_take_2 r6) (res_delta_reader_take_1 r7) (res_delta_reader_take_2 r7))
               (L_delta_Pair_0 n m1 x13_0 x13_1 x13_2 x14_0 x14_1 x14_2 (res_delta_reader_take_1 r6) (res_delta_reader_take_2 r6) (res_delta_reader_take_1 r7) (res_delta_reader_take_2 r7))))))))))))))) := by kernel_rfl
noncomputable def F_delta_Pair : sig_delta_Pair.Fn := fun x y => run T (env_delta_Pair) os_delta_Pair sig_delta_Pair Try.f40 hs_delta_Pair big x y
theorem e_delta_Pair (a0 : List YStep.den) (a1 : List YStep.den) : C_delta_Pair F_delta_Pair a0 a1 =
  ((C_delta_Check F_delta_Check a0).bind fun r1 =>
   (bcond (((res_delta_Check_0 r1) : Int) != 0)
    (some (ret_delta_Pair [] [] (res_delta_Check_0 r1)))
    ((C_delta_Check F_delta_Check a1).bind fun r2 =>
     (bcond (((res_delta_Check_0 r2) : Int) != 0)
      (some (ret_delta_Pair [] [] (res_delta_Check_0 r2)))
      ((C_delta_lengths F_delta_lengths a0).bind fun r3 =>
       ((C_delta_lengths F_delta_lengths a1).bind fun r4 =>
        (bcond (((res_delta_lengths_0 r3) : Int) != (res_delta_lengths_0 r4))
         (some (ret_delta_Pair [] [] 14))
         (L_delta_Pair_0 big big [] [] 0 [] [] 0 a0 0 a1 0)))))))) := by kernel_rfl
def sig_law_DeltaPairMatches : Sig := ⟨[.v false (.list YStep), .v false (.list YStep)], [], [(false, [.fr .bool])]⟩
def C_law_DeltaPairMatches (F : sig_law_DeltaPairMatches.Fn) (a0 : List YStep.den) (a1 : List YStep.den) : Option sig_law_DeltaPairMatches.Out := F (a0, a1, ()) ()
def ret_law_DeltaPairMatches (v0 : Bool) : sig_law_DeltaPairMatches.Out := (((v0, ()), ()), ())
def os_law_DeltaPairMatches : RegT := ⟨[], []⟩
def hs_law_DeltaPairMatches : List Keep := []
@[reducible] noncomputable def env_law_DeltaPairMatches : Env := [(15, ⟨sig_law_deltas, F_law_deltas⟩), (40, ⟨sig_delta_Pair, F_delta_Pair⟩), (31, ⟨sig_R_DeltaError, F_R_DeltaError⟩), (32, ⟨sig_law_short, F_law_short⟩), (21, ⟨sig_R_ActOf, F_R_ActOf⟩), (41, ⟨sig_R_Behind, F_R_Behind⟩), (20, ⟨sig_R_DeltaOf, F_R_DeltaOf⟩), (19, ⟨sig_R_SameDelta, F_R_SameDelta⟩)]
noncomputable def J_law_DeltaPairMatches_0 (n : Nat) (y0 : List YStep.den) (y1 : List YStep.den) (y5 : List YStep.den) (y6 : List YStep.den) (y7 : Int) (y8 : Int) : Option sig_law_DeltaPairMatches.Out :=
  (bcond ((y8 : Int) != 0)
   (bcond (((y7 : Int) == y8) == true)
    (some (ret_law_DeltaPairMatches (((IntKind.i64.wrap ((List.length y5 : Int) + (List.length y6 : Int))) : Int) == 0)))
    (some (ret_law_DeltaPairMatches false)))
   ((C_law_short F_law_short y0).bind fun r5 =>
    (bcond ((!(res_law_short_0 r5)) == false)
     ((C_law_short F_law_short y1).bind fun r6 =>
      (bcond (!(res_law_short_0 r6))
       (bcond (((y7 : Int) == 0) == false)
        (some (ret_law_DeltaPairMatches (((IntKind.i64.wrap ((List.length y5 : Int) + (List.length y6 : Int))) : Int) == 0)))
        (some (ret_law_DeltaPairMatches true)))
       ((C_R_ActOf F_R_ActOf y0).bind fun r7 =>
        ((C_R_ActOf F_R_ActOf y1).bind fun r8 =>
         (bcond (((List.length (res_R_ActOf_0 r7).2.1 : Int) : Int) != (List.length (res_R_ActOf_0 r8).2.1 : Int))
          (bcond (((y7 : Int) == 14) == true)
           (some (ret_law_DeltaPairMatches (((IntKind.i64.wrap ((List.length y5 : Int) + (List.length y6 : Int))) : Int) == 0)))
           (some (ret_law_DeltaPairMatches false)))
          (bcond (((y7 : Int) == 0) == true)
           ((C_R_Behind F_R_Behind (res_R_ActOf_0 r7) (res_R_ActOf_0 r8) true).bind fun r9 =>
            ((C_R_DeltaOf F_R_DeltaOf (res_R_Behind_0 r9)).bind fun r10 =>
             ((C_R_SameDelta F_R_SameDelta y5 (res_R_DeltaOf_0 r10)).bind fun r11 =>
              (bcond ((res_R_SameDelta_0 r11) == true)
               ((C_R_Behind F_R_Behind (res_R_ActOf_0 r8) (res_R_ActOf_0 r7) false).bind fun r12 =>
                ((C_R_DeltaOf F_R_DeltaOf (res_R_Behind_0 r12)).bind fun r13 =>
                 ((C_R_SameDelta F_R_SameDelta y6 (res_R_DeltaOf_0 r13)).bind fun r14 =>
                  (some (ret_law_DeltaPairMatches (res_R_SameDelta_0 r14))))))
               (some (ret_law_DeltaPairMatches false))))))
           (some (ret_law_DeltaPairMatches false))))))))
     (bcond (((y7 : Int) == 0) == false)
      (some (ret_law_DeltaPairMatches (((IntKind.i64.wrap ((List.length y5 : Int) + (List.length y6 : Int))) : Int) == 0)))
      (some (ret_law_DeltaPairMatches true))))))
noncomputable def F_law_DeltaPairMatches : sig_law_DeltaPairMatches.Fn := fun x y => run T (env_law_DeltaPairMatches) os_law_DeltaPairMatches sig_law_DeltaPairMatches Try.f7 hs_law_DeltaPairMatches big x y
theorem e_law_DeltaPairMatches (a0 : List YStep.den) (a1 : List YStep.den) : C_law_DeltaPairMatches F_law_DeltaPairMatches a0 a1 =
  ((C_law_deltas F_law_deltas ).bind fun r1 =>
   (bcond (!(res_law_deltas_0 r1))
    (some (ret_law_DeltaPairMatches false))
    ((C_delta_Pair F_delta_Pair a0 a1).bind fun r2 =>
     ((C_R_DeltaError F_R_DeltaError a0).bind fun r3 =>
      (bcond (((res_R_DeltaError_0 r3) : Int) == 0)
       ((C_R_DeltaError F_R_DeltaError a1).bind fun r4 =>
        (J_law_DeltaPairMatches_0 big a0 a1 (res_delta_Pair_0 r2) (res_delta_Pair_1 r2) (res_delta_Pair_2 r2) (res_R_DeltaError_0 r4)))
       (J_law_DeltaPairMatches_0 big a0 a1 (res_delta_Pair_0 r2) (res_delta_Pair_1 r2) (res_delta_Pair_2 r2) (res_R_DeltaError_0 r3))))))) := by kernel_rfl
end Go.Ev
