/- Functions, step by step. -/
import Derived.Test.YtlgjdgebmiegeaaGTidy
import Derived.Test.YtlgjdgebmiegeaaGInts
namespace Go.Ev
set_option linter.unusedVariables false
set_option maxRecDepth 100000
open Go.Proofs
def sig_law_end : Sig := ⟨[], [], [(true, [.fr YElem])]⟩
def C_law_end (F : sig_law_end.Fn) : Option sig_law_end.Out := F () ()
def ret_law_end (v0 : YElem.den) : sig_law_end.Out := (((v0, ()), ()), ())
def res_law_end_0 (r : sig_law_end.Out) : YElem.den := r.1.1.1
@[simp] theorem res_law_end_0_ret (v0 : YElem.den) : res_law_end_0 (ret_law_end v0) = v0 := rfl
def os_law_end : RegT := ⟨[], []⟩
def hs_law_end : List Keep := []
@[reducible] noncomputable def env_law_end : Env := []
theorem ok_law_end : fnOk os_law_end sig_law_end Try.f116 = true := by kernel_rfl
theorem fn_law_end : P.funcs[116]? = some Try.f116 := by kernel_rfl
noncomputable def F_law_end : sig_law_end.Fn := fun x y => run T (env_law_end) os_law_end sig_law_end Try.f116 hs_law_end big x y
theorem S_law_end : Sound P 116 ⟨sig_law_end, F_law_end⟩ := sound_of (os := os_law_end) (hs := hs_law_end) (env_nil) fn_law_end ok_law_end (fun x y out h => ⟨big, h⟩)
theorem e_law_end : C_law_end F_law_end =
  (some (ret_law_end (10, (0, [])))) := by kernel_rfl
def sig_track_Hidden : Sig := ⟨[.v true YElem, .v false (.int .i64)], [], [(false, [.fr .bool])]⟩
def C_track_Hidden (F : sig_track_Hidden.Fn) (a0 : YElem.den) (a1 : Int) : Option sig_track_Hidden.Out := F (a0, a1, ()) ()
def ret_track_Hidden (v0 : Bool) : sig_track_Hidden.Out := (((v0, ()), ()), ())
def res_track_Hidden_0 (r : sig_track_Hidden.Out) : Bool := r.1.1.1
@[simp] theorem res_track_Hidden_0_ret (v0 : Bool) : res_track_Hidden_0 (ret_track_Hidden v0) = v0 := rfl
def os_track_Hidden : RegT := ⟨[], []⟩
def hs_track_Hidden : List Keep := []
@[reducible] noncomputable def env_track_Hidden : Env := [(148, ⟨sig_attr_Get, F_attr_Get⟩)]
theorem ok_track_Hidden : fnOk os_track_Hidden sig_track_Hidden Try.f161 = true := by kernel_rfl
theorem fn_track_Hidden : P.funcs[161]? = some Try.f161 := by kernel_rfl
noncomputable def F_track_Hidden : sig_track_Hidden.Fn := fun x y => run T (env_track_Hidden) os_track_Hidden sig_track_Hidden Try.f161 hs_track_Hidden big x y
theorem S_track_Hidden : Sound P 161 ⟨sig_track_Hidden, F_track_Hidden⟩ := sound_of (os := os_track_Hidden) (hs := hs_track_Hidden) (env_cons S_attr_Get (env_nil)) fn_track_Hidden ok_track_Hidden (fun x y out h => ⟨big, h⟩)
theorem e_track_Hidden (a0 : YElem.den) (a1 : Int) : C_track_Hidden F_track_Hidden a0 a1 =
  ((C_attr_Get F_attr_Get a0.2.2 [104, 105, 100, 100, 101, 110]).bind fun r1 =>
   (bcond ((((res_attr_Get_0 r1) : List UInt8) == [111, 110]) == false)
    (bcond (((a1 : Int) == 0) == true)
     ((C_attr_Get F_attr_Get a0.2.2 [99, 117, 116]).bind fun r2 =>
      (bcond ((!(((res_attr_Get_0 r2) : List UInt8) == [])) == false)
       (bcond (((a1 : Int) == 1) == true)
        ((C_attr_Get F_attr_Get a0.2.2 [97, 100, 100]).bind fun r3 =>
         (some (ret_track_Hidden (!(((res_attr_Get_0 r3) : List UInt8) == [])))))
        (some (ret_track_Hidden false)))
       (some (ret_track_Hidden true))))
     (bcond (((a1 : Int) == 1) == true)
      ((C_attr_Get F_attr_Get a0.2.2 [97, 100, 100]).bind fun r2 =>
       (some (ret_track_Hidden (!(((res_attr_Get_0 r2) : List UInt8) == [])))))
      (some (ret_track_Hidden false))))
    (some (ret_track_Hidden true)))) := by kernel_rfl
def sig_track_Places : Sig := ⟨[.v false (.list YElem), .v false (.int .i64)], [], [(false, [.fr (.list (.int .i64))])]⟩
def C_track_Places (F : sig_track_Places.Fn) (a0 : List YElem.den) (a1 : Int) : Option sig_track_Places.Out := F (a0, a1, ()) ()
def ret_track_Places (v0 : List (Int)) : sig_track_Places.Out := (((v0, ()), ()), ())
def res_track_Places_0 (r : sig_track_Places.Out) : List (Int) := r.1.1.1
@[simp] theorem res_track_Places_0_ret (v0 : List (Int)) : res_track_Places_0 (ret_track_Places v0) = v0 := rfl
def os_track_Places : RegT := ⟨[], []⟩
def hs_track_Places : List Keep := [[(0, []), (1, []), (5, [(0, 3, (.int .i64))]), (8, []), (9, []), (10, [])]]
@[reducible] noncomputable def env_track_Places : Env := [(161, ⟨sig_track_Hidden, F_track_Hidden⟩)]
noncomputable def L_track_Places_0 (n m1 : Nat) (x0 : List YElem.den) (x1 : Int) (x5 : List (Int)) (x8 : List YElem.den) (x9 : Int) (x10 : Int) : Option sig_track_Places.Out :=
  loopAt T (env_track_Places) os_track_Places sig_track_Places Try.f146 hs_track_Places n [.sr, .sr, .sl, .sr, .bl] m1 (mk 37 [(0, .cs false [.val (.list YElem) x0]), (1, .cs false [.val (.int .i64) x1]), (5, .cs false [.own 3 (.int .i64) x5]), (8, .cs false [.val (.list YElem) x8]), (9, .cs false [.val (.int .i64) x9]), (10, .cs false [.val (.int .i64) x10])])
theorem L_track_Places_0_step (n m1 : Nat) (x0 : List YElem.den) (x1 : Int) (x5 : List (Int)) (x8 : List YElem.den) (x9 : Int) (x10 : Int) : L_track_Places_0 n (m1 + 1) x0 x1 x5 x8 x9 x10 =
  (bcond (decide ((x10 : Int) < x9))
   (if 0 ≤ (x10 : Int) ∧ (x10 : Int) < (List.length x8 : Int) then
    ((C_track_Hidden F_track_Hidden (at_ (e := YElem) x8 x10) x1).bind fun r1 =>
     (bcond ((!(res_track_Hidden_0 r1)) == false)
      (bcond (((x10 : Int) == (IntKind.i64.wrap ((List.length x0 : Int) - 1))) == true)
       (bcond (((at_ (e := YElem) x8 x10).1 : Int) == 10)
        (if (List.length (x5 : List Int) + List.length ([x10] : List Int)) * 8 ≤ 140737488355328 then
         (L_track_Places_0 n m1 x0 x1 (x5 ++ [x10]) x8 x9 (IntKind.i64.wrap (x10 + 1)))
        else none)
        (L_track_Places_0 n m1 x0 x1 x5 x8 x9 (IntKind.i64.wrap (x10 + 1))))
       (L_track_Places_0 n m1 x0 x1 x5 x8 x9 (IntKind.i64.wrap (x10 + 1))))
      (if (List.length (x5 : List Int) + List.length ([x10] : List Int)) * 8 ≤ 140737488355328 then
       (L_track_Places_0 n m1 x0 x1 (x5 ++ [x10]) x8 x9 (IntKind.i64.wrap (x10 + 1)))
      else none)))
   else none)
   (some (ret_track_Places x5))) := by kernel_rfl
theorem ok_track_Places : fnOk os_track_Places sig_track_Places Try.f146 = true := by kernel_rfl
theorem fn_track_Places : P.funcs[146]? = some Try.f146 := by kernel_rfl
noncomputable def F_track_Places : sig_track_Places.Fn := fun x y => run T (env_track_Places) os_track_Places sig_track_Places Try.f146 hs_track_Places big x y
theorem S_track_Places : Sound P 146 ⟨sig_track_Places, F_track_Places⟩ := sound_of (os := os_track_Places) (hs := hs_track_Places) (env_cons S_track_Hidden (env_nil)) fn_track_Places ok_track_Places (fun x y out h => ⟨big, h⟩)
theorem e_track_Places (a0 : List YElem.den) (a1 : Int) : C_track_Places F_track_Places a0 a1 =
  (L_track_Places_0 big big a0 a1 [] a0 (List.length a0 : Int) 0) := by kernel_rfl
def sig_track_Shown : Sig := ⟨[.v false (.list YElem), .v false (.int .i64)], [], [(false, [.fr (.list (.int .i64))]), (false, [.fr (.int .i64)])]⟩
def C_track_Shown (F : sig_track_Shown.Fn) (a0 : List YElem.den) (a1 : Int) : Option sig_track_Shown.Out := F (a0, a1, ()) ()
def ret_track_Shown (v0 : List (Int)) (v1 : Int) : sig_track_Shown.Out := (((v0, ()), (v1, ()), ()), ())
def res_track_Shown_0 (r : sig_track_Shown.Out) : List (Int) := r.1.1.1
@[simp] theorem res_track_Shown_0_ret (v0 : List (Int)) (v1 : Int) : res_track_Shown_0 (ret_track_Shown v0 v1) = v0 := rfl
def res_track_Shown_1 (r : sig_track_Shown.Out) : Int := r.1.2.1.1
@[simp] theorem res_track_Shown_1_ret (v0 : List (Int)) (v1 : Int) : res_track_Shown_1 (ret_track_Shown v0 v1) = v1 := rfl
def os_track_Shown : RegT := ⟨[], []⟩
def hs_track_Shown : List Keep := []
@[reducible] noncomputable def env_track_Shown : Env := [(93, ⟨sig_flow_CheckPart, F_flow_CheckPart⟩), (146, ⟨sig_track_Places, F_track_Places⟩)]
theorem ok_track_Shown : fnOk os_track_Shown sig_track_Shown Try.f117 = true := by kernel_rfl
theorem fn_track_Shown : P.funcs[117]? = some Try.f117 := by kernel_rfl
noncomputable def F_track_Shown : sig_track_Shown.Fn := fun x y => run T (env_track_Shown) os_track_Shown sig_track_Shown Try.f117 hs_track_Shown big x y
theorem S_track_Shown : Sound P 117 ⟨sig_track_Shown, F_track_Shown⟩ := sound_of (os := os_track_Shown) (hs := hs_track_Shown) (env_cons S_flow_CheckPart (env_cons S_track_Places (env_nil))) fn_track_Shown ok_track_Shown (fun x y out h => ⟨big, h⟩)
theorem e_track_Shown (a0 : List YElem.den) (a1 : Int) : C_track_Shown F_track_Shown a0 a1 =
  ((C_flow_CheckPart F_flow_CheckPart a0).bind fun r1 =>
   (bcond (((res_flow_CheckPart_0 r1) : Int) != 0)
    (some (ret_track_Shown [] (res_flow_CheckPart_0 r1)))
    (bcond ((decide ((a1 : Int) < 0)) == false)
     (bcond (decide ((a1 : Int) > 2))
      (some (ret_track_Shown [] 1))
      ((C_track_Places F_track_Places a0 a1).bind fun r2 =>
       (some (ret_track_Shown (res_track_Places_0 r2) 0))))
     (some (ret_track_Shown [] 1))))) := by kernel_rfl
def sig_law_tracks : Sig := ⟨[], [], [(false, [.fr .bool])]⟩
def C_law_tracks (F : sig_law_tracks.Fn) : Option sig_law_tracks.Out := F () ()
def ret_law_tracks (v0 : Bool) : sig_law_tracks.Out := (((v0, ()), ()), ())
def res_law_tracks_0 (r : sig_law_tracks.Out) : Bool := r.1.1.1
@[simp] theorem res_law_tracks_0_ret (v0 : Bool) : res_law_tracks_0 (ret_law_tracks v0) = v0 := rfl
def os_law_tracks : RegT := ⟨[], []⟩
def hs_law_tracks : List Keep := []
@[reducible] noncomputable def env_law_tracks : Env := [(116, ⟨sig_law_end, F_law_end⟩), (117, ⟨sig_track_Shown, F_track_Shown⟩), (107, ⟨sig_R_SameInts, F_R_SameInts⟩)]
theorem ok_law_tracks : fnOk os_law_tracks sig_law_tracks Try.f49 = true := by kernel_rfl
theorem fn_law_tracks : P.funcs[49]? = some Try.f49 := by kernel_rfl
noncomputable def F_law_tracks : sig_law_tracks.Fn := fun x y => run T (env_law_tracks) os_law_tracks sig_law_tracks Try.f49 hs_law_tracks big x y
theorem S_law_tracks : Sound P 49 ⟨sig_law_tracks, F_law_tracks⟩ := sound_of (os := os_law_tracks) (hs := hs_law_tracks) (env_cons S_law_end (env_cons S_track_Shown (env_cons S_R_SameInts (env_nil)))) fn_law_tracks ok_law_tracks (fun x y out h => ⟨big, h⟩)
theorem e_law_tracks : C_law_tracks F_law_tracks =
  ((C_law_end F_law_end ).bind fun r1 =>
   ((C_track_Shown F_track_Shown [(97, (0, [])), (98, (0, [([99, 117, 116], [120])])), (res_law_end_0 r1)] 0).bind fun r2 =>
    (bcond ((((res_track_Shown_1 r2) : Int) == 0) == true)
     ((C_R_SameInts F_R_SameInts (res_track_Shown_0 r2) [0, 2]).bind fun r3 =>
      (some (ret_law_tracks (res_R_SameInts_0 r3))))
     (some (ret_law_tracks false))))) := by kernel_rfl
def sig_R_Settled : Sig := ⟨[.v false (.list YElem), .v false (.int .i64), .v false (.int .i64), .v false .bool], [], [(false, [.fr (.list YElem)])]⟩
def C_R_Settled (F : sig_R_Settled.Fn) (a0 : List YElem.den) (a1 : Int) (a2 : Int) (a3 : Bool) : Option sig_R_Settled.Out := F (a0, a1, a2, a3, ()) ()
def ret_R_Settled (v0 : List YElem.den) : sig_R_Settled.Out := (((v0, ()), ()), ())
def res_R_Settled_0 (r : sig_R_Settled.Out) : List YElem.den := r.1.1.1
@[simp] theorem res_R_Settled_0_ret (v0 : List YElem.den) : res_R_Settled_0 (ret_R_Settled v0) = v0 := rfl
def os_R_Settled : RegT := ⟨[(8, .st 0 (.st 3 (.st 1 (.grp [4, 2] (.st 5 (.st 6 (.st 7 (.nil))))))))], []⟩
def hs_R_Settled : List Keep := [[(0, []), (1, []), (2, []), (3, []), (9, [(0, 113, YElem)]), (16, []), (17, [])]]
@[reducible] noncomputable def env_R_Settled : Env := [(119, ⟨sig_R_Has, F_R_Has⟩), (90, ⟨sig_R_Changed, F_R_Changed⟩)]
noncomputable def L_R_Settled_0 (n m1 : Nat) (x0 : List YElem.den) (x1 : Int) (x2 : Int) (x3 : Bool) (x9 : List YElem.den) (x16 : Int) (x17 : Int) : Option sig_R_Settled.Out :=
  loopAt T (env_R_Settled) os_R_Settled sig_R_Settled Try.f54 hs_R_Settled n [.sr, .sr, .sl, .sr, .bl] m1 (mk 91 [(0, .cs false [.val (.list YElem) x0]), (1, .cs false [.val (.int .i64) x1]), (2, .cs false [.val (.int .i64) x2]), (3, .cs false [.val .bool x3]), (9, .cs false [.own 113 YElem x9]), (16, .cs false [.val (.int .i64) x16]), (17, .cs false [.val (.int .i64) x17])])
theorem L_R_Settled_0_step (n m1 : Nat) (x0 : List YElem.den) (x1 : Int) (x2 : Int) (x3 : Bool) (x9 : List YElem.den) (x16 : Int) (x17 : Int) : L_R_Settled_0 n (m1 + 1) x0 x1 x2 x3 x9 x16 x17 =
  (bcond (decide ((x17 : Int) < x16))
   (if 0 ≤ (x17 : Int) ∧ (x17 : Int) < (List.length x0 : Int) then
    (bcond ((decide ((x17 : Int) < x1)) == false)
     (bcond (decide ((x17 : Int) ≥ x2))
      (if (List.length (x9 : List YElem.den) + List.length ([(at_ (e := YElem) x0 x17)] : List YElem.den)) * 40 ≤ 140737488355328 then
       (L_R_Settled_0 n m1 x0 x1 x2 x3 (x9 ++ [(at_ (e := YElem) x0 x17)]) x16 (IntKind.i64.wrap (x17 + 1)))
      else none)
      ((C_R_Has F_R_Has (at_ (e := YElem) x0 x17).2.2 [97, 100, 100]).bind fun r1 =>
       ((C_R_Has F_R_Has (at_ (e := YElem) x0 x17).2.2 [99, 117, 116]).bind fun r2 =>
        (bcond (x3 == true)
         (bcond ((res_R_Has_0 r2) == false)
          (bcond ((!x3) == true)
           (bcond ((res_R_Has_0 r1) == true)
            (bcond (decide ((x17 : Int) < (IntKind.i64.wrap ((List.length x0 : Int) - 1))))
             (L_R_Settled_0 n m1 x0 x1 x2 x3 x9 x16 (IntKind.i64.wrap (x17 + 1)))
             (bcond (res_R_Has_0 r1)
              ((C_R_Changed F_R_Changed (at_ (e := YElem) x0 x17).2.2 [([97, 100, 100], []), ([99, 117, 116], [])]).bind fun r3 =>
               (if (List.length (x9 : List YElem.den) + List.length ([((at_ (e := YElem) x0 x17).1, ((at_ (e := YElem) x0 x17).2.1, (res_R_Changed_0 r3)))] : List YElem.den)) * 40 ≤ 140737488355328 then
                (L_R_Settled_0 n m1 x0 x1 x2 x3 (x9 ++ [((at_ (e := YElem) x0 x17).1, ((at_ (e := YElem) x0 x17).2.1, (res_R_Changed_0 r3)))]) x16 (IntKind.i64.wrap (x17 + 1)))
               else none))
              (bcond x3
               ((C_R_Changed F_R_Changed (at_ (e := YElem) x0 x17).2.2 [([97, 100, 100], [])]).bind fun r3 =>
                (if (List.length (x9 : List YElem.den) + List.length ([((at_ (e := YElem) x0 x17).1, ((at_ (e := YElem) x0 x17).2.1, (res_R_Changed_0 r3)))] : List YElem.den)) * 40 ≤ 140737488355328 then
                 (L_R_Settled_0 n m1 x0 x1 x2 x3 (x9 ++ [((at_ (e := YElem) x0 x17).1, ((at_ (e := YElem) x0 x17).2.1, (res_R_Changed_0 r3)))]) x16 (IntKind.i64.wrap (x17 + 1)))
                else none))
               ((C_R_Changed F_R_Changed (at_ (e := YElem) x0 x17).2.2 [([99, 117, 116], [])]).bind fun r3 =>
                (if (List.length (x9 : List YElem.den) + List.length ([((at_ (e := YElem) x0 x17).1, ((at_ (e := YElem) x0 x17).2.1, (res_R_Changed_0 r3)))] : List YElem.den)) * 40 ≤ 140737488355328 then
                 (L_R_Settled_0 n m1 x0 x1 x2 x3 (x9 ++ [((at_ (e := YElem) x0 x17).1, ((at_ (e := YElem) x0 x17).2.1, (res_R_Changed_0 r3)))]) x16 (IntKind.i64.wrap (x17 + 1)))
                else none)))))
            (bcond (res_R_Has_0 r1)
             ((C_R_Changed F_R_Changed (at_ (e := YElem) x0 x17).2.2 [([97, 100, 100], []), ([99, 117, 116], [])]).bind fun r3 =>
              (if (List.length (x9 : List YElem.den) + List.length ([((at_ (e := YElem) x0 x17).1, ((at_ (e := YElem) x0 x17).2.1, (res_R_Changed_0 r3)))] : List YElem.den)) * 40 ≤ 140737488355328 then
               (L_R_Settled_0 n m1 x0 x1 x2 x3 (x9 ++ [((at_ (e := YElem) x0 x17).1, ((at_ (e := YElem) x0 x17).2.1, (res_R_Changed_0 r3)))]) x16 (IntKind.i64.wrap (x17 + 1)))
              else none))
             (bcond x3
              ((C_R_Changed F_R_Changed (at_ (e := YElem) x0 x17).2.2 [([97, 100, 100], [])]).bind fun r3 =>
               (if (List.length (x9 : List YElem.den) + List.length ([((at_ (e := YElem) x0 x17).1, ((at_ (e := YElem) x0 x17).2.1, (res_R_Changed_0 r3)))] : List YElem.den)) * 40 ≤ 140737488355328 then
                (L_R_Settled_0 n m1 x0 x1 x2 x3 (x9 ++ [((at_ (e := YElem) x0 x17).1, ((at_ (e := YElem) x0 x17).2.1, (res_R_Changed_0 r3)))]) x16 (IntKind.i64.wrap (x17 + 1)))
               else none))
              ((C_R_Changed F_R_Changed (at_ (e := YElem) x0 x17).2.2 [([99, 117, 116], [])]).bind fun r3 =>
               (if (List.length (x9 : List YElem.den) + List.length ([((at_ (e := YElem) x0 x17).1, ((at_ (e := YElem) x0 x17).2.1, (res_R_Changed_0 r3)))] : List YElem.den)) * 40 ≤ 140737488355328 then
                (L_R_Settled_0 n m1 x0 x1 x2 x3 (x9 ++ [((at_ (e := YElem) x0 x17).1, ((at_ (e := YElem) x0 x17).2.1, (res_R_Changed_0 r3)))]) x16 (IntKind.i64.wrap (x17 + 1)))
               else none)))))
           (bcond x3
            ((C_R_Changed F_R_Changed (at_ (e := YElem) x0 x17).2.2 [([97, 100, 100], [])]).bind fun r3 =>
             (if (List.length (x9 : List YElem.den) + List.length ([((at_ (e := YElem) x0 x17).1, ((at_ (e := YElem) x0 x17).2.1, (res_R_Changed_0 r3)))] : List YElem.den)) * 40 ≤ 140737488355328 then
              (L_R_Settled_0 n m1 x0 x1 x2 x3 (x9 ++ [((at_ (e := YElem) x0 x17).1, ((at_ (e := YElem) x0 x17).2.1, (res_R_Changed_0 r3)))]) x16 (IntKind.i64.wrap (x17 + 1)))
             else none))
            ((C_R_Changed F_R_Changed (at_ (e := YElem) x0 x17).2.2 [([99, 117, 116], [])]).bind fun r3 =>
             (if (List.length (x9 : List YElem.den) + List.length ([((at_ (e := YElem) x0 x17).1, ((at_ (e := YElem) x0 x17).2.1, (res_R_Changed_0 r3)))] : List YElem.den)) * 40 ≤ 140737488355328 then
              (L_R_Settled_0 n m1 x0 x1 x2 x3 (x9 ++ [((at_ (e := YElem) x0 x17).1, ((at_ (e := YElem) x0 x17).2.1, (res_R_Changed_0 r3)))]) x16 (IntKind.i64.wrap (x17 + 1)))
             else none))))
          (bcond (decide ((x17 : Int) < (IntKind.i64.wrap ((List.length x0 : Int) - 1))))
           (L_R_Settled_0 n m1 x0 x1 x2 x3 x9 x16 (IntKind.i64.wrap (x17 + 1)))
           ((C_R_Changed F_R_Changed (at_ (e := YElem) x0 x17).2.2 [([97, 100, 100], []), ([99, 117, 116], [])]).bind fun r3 =>
            (if (List.length (x9 : List YElem.den) + List.length ([((at_ (e := YElem) x0 x17).1, ((at_ (e := YElem) x0 x17).2.1, (res_R_Changed_0 r3)))] : List YElem.den)) * 40 ≤ 140737488355328 then
             (L_R_Settled_0 n m1 x0 x1 x2 x3 (x9 ++ [((at_ (e := YElem) x0 x17).1, ((at_ (e := YElem) x0 x17).2.1, (res_R_Changed_0 r3)))]) x16 (IntKind.i64.wrap (x17 + 1)))
            else none))))
         (bcond ((!x3) == true)
          (bcond ((res_R_Has_0 r1) == true)
           (bcond (decide ((x17 : Int) < (IntKind.i64.wrap ((List.length x0 : Int) - 1))))
            (L_R_Settled_0 n m1 x0 x1 x2 x3 x9 x16 (IntKind.i64.wrap (x17 + 1)))
            (bcond (res_R_Has_0 r1)
             ((C_R_Changed F_R_Changed (at_ (e := YElem) x0 x17).2.2 [([97, 100, 100], []), ([99, 117, 116], [])]).bind fun r3 =>
              (if (List.length (x9 : List YElem.den) + List.length ([((at_ (e := YElem) x0 x17).1, ((at_ (e := YElem) x0 x17).2.1, (res_R_Changed_0 r3)))] : List YElem.den)) * 40 ≤ 140737488355328 then
               (L_R_Settled_0 n m1 x0 x1 x2 x3 (x9 ++ [((at_ (e := YElem) x0 x17).1, ((at_ (e := YElem) x0 x17).2.1, (res_R_Changed_0 r3)))]) x16 (IntKind.i64.wrap (x17 + 1)))
              else none))
             (bcond x3
              ((C_R_Changed F_R_Changed (at_ (e := YElem) x0 x17).2.2 [([97, 100, 100], [])]).bind fun r3 =>
               (if (List.length (x9 : List YElem.den) + List.length ([((at_ (e := YElem) x0 x17).1, ((at_ (e := YElem) x0 x17).2.1, (res_R_Changed_0 r3)))] : List YElem.den)) * 40 ≤ 140737488355328 then
                (L_R_Settled_0 n m1 x0 x1 x2 x3 (x9 ++ [((at_ (e := YElem) x0 x17).1, ((at_ (e := YElem) x0 x17).2.1, (res_R_Changed_0 r3)))]) x16 (IntKind.i64.wrap (x17 + 1)))
               else none))
              ((C_R_Changed F_R_Changed (at_ (e := YElem) x0 x17).2.2 [([99, 117, 116], [])]).bind fun r3 =>
               (if (List.length (x9 : List YElem.den) + List.length ([((at_ (e := YElem) x0 x17).1, ((at_ (e := YElem) x0 x17).2.1, (res_R_Changed_0 r3)))] : List YElem.den)) * 40 ≤ 140737488355328 then
                (L_R_Settled_0 n m1 x0 x1 x2 x3 (x9 ++ [((at_ (e := YElem) x0 x17).1, ((at_ (e := YElem) x0 x17).2.1, (res_R_Changed_0 r3)))]) x16 (IntKind.i64.wrap (x17 + 1)))
               else none)))))
           (bcond (res_R_Has_0 r1)
            ((C_R_Changed F_R_Changed (at_ (e := YElem) x0 x17).2.2 [([97, 100, 100], []), ([99, 117, 116], [])]).bind fun r3 =>
             (if (List.length (x9 : List YElem.den) + List.length ([((at_ (e := YElem) x0 x17).1, ((at_ (e := YElem) x0 x17).2.1, (res_R_Changed_0 r3)))] : List YElem.den)) * 40 ≤ 140737488355328 then
              (L_R_Settled_0 n m1 x0 x1 x2 x3 (x9 ++ [((at_ (e := YElem) x0 x17).1, ((at_ (e := YElem) x0 x17).2.1, (res_R_Changed_0 r3)))]) x16 (IntKind.i64.wrap (x17 + 1)))
             else none))
            (bcond x3
             ((C_R_Changed F_R_Changed (at_ (e := YElem) x0 x17).2.2 [([97, 100, 100], [])]).bind fun r3 =>
              (if (List.length (x9 : List YElem.den) + List.length ([((at_ (e := YElem) x0 x17).1, ((at_ (e := YElem) x0 x17).2.1, (res_R_Changed_0 r3)))] : List YElem.den)) * 40 ≤ 140737488355328 then
               (L_R_Settled_0 n m1 x0 x1 x2 x3 (x9 ++ [((at_ (e := YElem) x0 x17).1, ((at_ (e := YElem) x0 x17).2.1, (res_R_Changed_0 r3)))]) x16 (IntKind.i64.wrap (x17 + 1)))
              else none))
             ((C_R_Changed F_R_Changed (at_ (e := YElem) x0 x17).2.2 [([99, 117, 116], [])]).bind fun r3 =>
              (if (List.length (x9 : List YElem.den) + List.length ([((at_ (e := YElem) x0 x17).1, ((at_ (e := YElem) x0 x17).2.1, (res_R_Changed_0 r3)))] : List YElem.den)) * 40 ≤ 140737488355328 then
               (L_R_Settled_0 n m1 x0 x1 x2 x3 (x9 ++ [((at_ (e := YElem) x0 x17).1, ((at_ (e := YElem) x0 x17).2.1, (res_R_Changed_0 r3)))]) x16 (IntKind.i64.wrap (x17 + 1)))
              else none)))))
          (bcond x3
           ((C_R_Changed F_R_Changed (at_ (e := YElem) x0 x17).2.2 [([97, 100, 100], [])]).bind fun r3 =>
            (if (List.length (x9 : List YElem.den) + List.length ([((at_ (e := YElem) x0 x17).1, ((at_ (e := YElem) x0 x17).2.1, (res_R_Changed_0 r3)))] : List YElem.den)) * 40 ≤ 140737488355328 then
             (L_R_Settled_0 n m1 x0 x1 x2 x3 (x9 ++ [((at_ (e := YElem) x0 x17).1, ((at_ (e := YElem) x0 x17).2.1, (res_R_Changed_0 r3)))]) x16 (IntKind.i64.wrap (x17 + 1)))
            else none))
           ((C_R_Changed F_R_Changed (at_ (e := YElem) x0 x17).2.2 [([99, 117, 116], [])]).bind fun r3 =>
            (if (List.length (x9 : List YElem.den) + List.length ([((at_ (e := YElem) x0 x17).1, ((at_ (e := YElem) x0 x17).2.1, (res_R_Changed_0 r3)))] : List YElem.den)) * 40 ≤ 140737488355328 then
             (L_R_Settled_0 n m1 x0 x1 x2 x3 (x9 ++ [((at_ (e := YElem) x0 x17).1, ((at_ (e := YElem) x0 x17).2.1, (res_R_Changed_0 r3)))]) x16 (IntKind.i64.wrap (x17 + 1)))
            else none))))))))
     (if (List.length (x9 : List YElem.den) + List.length ([(at_ (e := YElem) x0 x17)] : List YElem.den)) * 40 ≤ 140737488355328 then
      (L_R_Settled_0 n m1 x0 x1 x2 x3 (x9 ++ [(at_ (e := YElem) x0 x17)]) x16 (IntKind.i64.wrap (x17 + 1)))
     else none))
   else none)
   (some (ret_R_Settled x9))) := by kernel_rfl
theorem ok_R_Settled : fnOk os_R_Settled sig_R_Settled Try.f54 = true := by kernel_rfl
theorem fn_R_Settled : P.funcs[54]? = some Try.f54 := by kernel_rfl
noncomputable def F_R_Settled : sig_R_Settled.Fn := fun x y => run T (env_R_Settled) os_R_Settled sig_R_Settled Try.f54 hs_R_Settled big x y
theorem S_R_Settled : Sound P 54 ⟨sig_R_Settled, F_R_Settled⟩ := sound_of (os := os_R_Settled) (hs := hs_R_Settled) (env_cons S_R_Has (env_cons S_R_Changed (env_nil))) fn_R_Settled ok_R_Settled (fun x y out h => ⟨big, h⟩)
theorem e_R_Settled (a0 : List YElem.den) (a1 : Int) (a2 : Int) (a3 : Bool) : C_R_Settled F_R_Settled a0 a1 a2 a3 =
  (L_R_Settled_0 big big a0 a1 a2 a3 [] (List.length a0 : Int) 0) := by kernel_rfl
def sig_track_settle : Sig := ⟨[.v false (.list YElem), .v false (.int .i64), .v false (.int .i64), .v false .str, .v false .str], [], [(false, [.fr (.list YStep)]), (false, [.fr (.int .i64)])]⟩
def C_track_settle (F : sig_track_settle.Fn) (a0 : List YElem.den) (a1 : Int) (a2 : Int) (a3 : List UInt8) (a4 : List UInt8) : Option sig_track_settle.Out := F (a0, a1, a2, a3, a4, ()) ()
def ret_track_settle (v0 : List YStep.den) (v1 : Int) : sig_track_settle.Out := (((v0, ()), (v1, ()), ()), ())
def res_track_settle_0 (r : sig_track_settle.Out) : List YStep.den := r.1.1.1
@[simp] theorem res_track_settle_0_ret (v0 : List YStep.den) (v1 : Int) : res_track_settle_0 (ret_track_settle v0 v1) = v0 := rfl
def res_track_settle_1 (r : sig_track_settle.Out) : Int := r.1.2.1.1
@[simp] theorem res_track_settle_1_ret (v0 : List YStep.den) (v1 : Int) : res_track_settle_1 (ret_track_settle v0 v1) = v1 := rfl
def os_track_settle : RegT := ⟨[], []⟩
def hs_track_settle : List Keep := [[(0, []), (1, []), (2, []), (3, []), (4, []), (13, [(0, 30, YStep)]), (36, []), (37, []), (38, [])]]
@[reducible] noncomputable def env_track_settle : Env := [(147, ⟨sig_flow_Check, F_flow_Check⟩), (148, ⟨sig_attr_Get, F_attr_Get⟩), (16, ⟨sig_delta_Tidy, F_delta_Tidy⟩)]
noncomputable def L_track_settle_0 (n m1 : Nat) (x0 : List YElem.den) (x1 : Int) (x2 : Int) (x3 : List UInt8) (x4 : List UInt8) (x13 : List YStep.den) (x36 : List YElem.den) (x37 : Int) (x38 : Int) : Option sig_track_settle.Out :=
  loopAt T (env_track_settle) os_track_settle sig_track_settle Try.f118 hs_track_settle n [.sr, .sr, .sr, .sr, .sl, .sr, .bl] m1 (mk 103 [(0, .cs false [.val (.list YElem) x0]), (1, .cs false [.val (.int .i64) x1]), (2, .cs false [.val (.int .i64) x2]), (3, .cs false [.val .str x3]), (4, .cs false [.val .str x4]), (13, .cs false [.own 30 YStep x13]), (36, .cs false [.val (.list YElem) x36]), (37, .cs false [.val (.int .i64) x37]), (38, .cs false [.val (.int .i64) x38])])
noncomputable def J_track_settle_0 (n m1 : Nat) (y0 : List YElem.den) (y1 : Int) (y2 : Int) (y3 : List UInt8) (y4 : List UInt8) (y13 : List YStep.den) (y16_0 : Int) (y16_1 : Int) (y16_2 : List YAttr.den) (y17 : Bool) (y36 : List YElem.den) (y37 : Int) (y38 : Int) : Option sig_track_settle.Out :=
  (bcond y17
   (if (List.length (y16_2 : List YAttr.den) + List.length ([(y4, [])] : List YAttr.den)) * 32 ≤ 140737488355328 then
    (bcond (((List.length (y16_2 ++ [(y4, [])]) : Int) : Int) == 2)
     (if (List.length (y13 : List YStep.den) + List.length ([(y16_0, (y16_1, ([([97, 100, 100], []), ([99, 117, 116], [])], [])))] : List YStep.den)) * 64 ≤ 140737488355328 then
      (L_track_settle_0 n m1 y0 y1 y2 y3 y4 (y13 ++ [(y16_0, (y16_1, ([([97, 100, 100], []), ([99, 117, 116], [])], [])))]) y36 y37 (IntKind.i64.wrap (y38 + 1)))
     else none)
     (if (List.length (y13 : List YStep.den) + List.length ([(y16_0, (y16_1, ((y16_2 ++ [(y4, [])]), [])))] : List YStep.den)) * 64 ≤ 140737488355328 then
      (L_track_settle_0 n m1 y0 y1 y2 y3 y4 (y13 ++ [(y16_0, (y16_1, ((y16_2 ++ [(y4, [])]), [])))]) y36 y37 (IntKind.i64.wrap (y38 + 1)))
     else none))
   else none)
   (bcond (((List.length y16_2 : Int) : Int) == 2)
    (if (List.length (y13 : List YStep.den) + List.length ([(y16_0, (y16_1, ([([97, 100, 100], []), ([99, 117, 116], [])], [])))] : List YStep.den)) * 64 ≤ 140737488355328 then
     (L_track_settle_0 n m1 y0 y1 y2 y3 y4 (y13 ++ [(y16_0, (y16_1, ([([97, 100, 100], []), ([99, 117, 116], [])], [])))]) y36 y37 (IntKind.i64.wrap (y38 + 1)))
    else none)
    (if (List.length (y13 : List YStep.den) + List.length ([(y16_0, (y16_1, (y16_2, [])))] : List YStep.den)) * 64 ≤ 140737488355328 then
     (L_track_settle_0 n m1 y0 y1 y2 y3 y4 (y13 ++ [(y16_0, (y16_1, (y16_2, [])))]) y36 y37 (IntKind.i64.wrap (y38 + 1)))
    else none)))
noncomputable def J_track_settle_1 (n m1 : Nat) (y0 : List YElem.den) (y1 : Int) (y2 : Int) (y3 : List UInt8) (y4 : List UInt8) (y13 : List YStep.den) (y16_0 : Int) (y16_1 : Int) (y17 : Bool) (y36 : List YElem.den) (y37 : Int) (y38 : Int) : Option sig_track_settle.Out :=
  (bcond y17
   (if List.length ([(y4, [])] : List YAttr.den) * 32 ≤ 140737488355328 then
    (bcond (((List.length ([(y4, [])] : List YAttr.den) : Int) : Int) == 2)
     (if (List.length (y13 : List YStep.den) + List.length ([(y16_0, (y16_1, ([([97, 100, 100], []), ([99, 117, 116], [])], [])))] : List YStep.den)) * 64 ≤ 140737488355328 then
      (L_track_settle_0 n m1 y0 y1 y2 y3 y4 (y13 ++ [(y16_0, (y16_1, ([([97, 100, 100], []), ([99, 117, 116], [])], [])))]) y36 y37 (IntKind.i64.wrap (y38 + 1)))
     else none)
     (if (List.length (y13 : List YStep.den) + List.length ([(y16_0, (y16_1, ([(y4, [])], [])))] : List YStep.den)) * 64 ≤ 140737488355328 then
      (L_track_settle_0 n m1 y0 y1 y2 y3 y4 (y13 ++ [(y16_0, (y16_1, ([(y4, [])], [])))]) y36 y37 (IntKind.i64.wrap (y38 + 1)))
     else none))
   else none)
   (bcond ((0 : Int) == 2)
    (if (List.length (y13 : List YStep.den) + List.length ([(y16_0, (y16_1, ([([97, 100, 100], []), ([99, 117, 116], [])], [])))] : List YStep.den)) * 64 ≤ 140737488355328 then
     (L_track_settle_0 n m1 y0 y1 y2 y3 y4 (y13 ++ [(y16_0, (y16_1, ([([97, 100, 100], []), ([99, 117, 116], [])], [])))]) y36 y37 (IntKind.i64.wrap (y38 + 1)))
    else none)
    (if (List.length (y13 : List YStep.den) + List.length ([(y16_0, (y16_1, ([], [])))] : List YStep.den)) * 64 ≤ 140737488355328 then
     (L_track_settle_0 n m1 y0 y1 y2 y3 y4 (y13 ++ [(y16_0, (y16_1, ([], [])))]) y36 y37 (IntKind.i64.wrap (y38 + 1)))
    else none)))
theorem L_track_settle_0_step (n m1 : Nat) (x0 : List YElem.den) (x1 : Int) (x2 : Int) (x3 : List UInt8) (x4 : List UInt8) (x13 : List YStep.den) (x36 : List YElem.den) (x37 : Int) (x38 : Int) : L_track_settle_0 n (m1 + 1) x0 x1 x2 x3 x4 x13 x36 x37 x38 =
  (bcond (decide ((x38 : Int) < x37))
   (if 0 ≤ (x38 : Int) ∧ (x38 : Int) < (List.length x36 : Int) then
    (bcond ((decide ((x38 : Int) ≥ x1)) == true)
     (bcond (decide ((x38 : Int) < x2))
      ((C_attr_Get F_attr_Get (at_ (e := YElem) x36 x38).2.2 x4).bind fun r1 =>
       (bcond ((!(((res_attr_Get_0 r1) : List UInt8) == [])) == true)
        (bcond (decide ((x38 : Int) < (IntKind.i64.wrap ((List.length x0 : Int) - 1))))
         (if (List.length (x13 : List YStep.den) + List.length ([(2, (1, ([], [])))] : List YStep.den)) * 64 ≤ 140737488355328 then
          (L_track_settle_0 n m1 x0 x1 x2 x3 x4 (x13 ++ [(2, (1, ([], [])))]) x36 x37 (IntKind.i64.wrap (x38 + 1)))
         else none)
         ((C_attr_Get F_attr_Get (at_ (e := YElem) x36 x38).2.2 x3).bind fun r2 =>
          (bcond (!(((res_attr_Get_0 r2) : List UInt8) == []))
           (if List.length ([(x3, [])] : List YAttr.den) * 32 ≤ 140737488355328 then
            (J_track_settle_0 n m1 x0 x1 x2 x3 x4 x13 0 1 [(x3, [])] (!(((res_attr_Get_0 r1) : List UInt8) == [])) x36 x37 x38)
           else none)
           (J_track_settle_1 n m1 x0 x1 x2 x3 x4 x13 0 1 (!(((res_attr_Get_0 r1) : List UInt8) == [])) x36 x37 x38))))
        ((C_attr_Get F_attr_Get (at_ (e := YElem) x36 x38).2.2 x3).bind fun r2 =>
         (bcond (!(((res_attr_Get_0 r2) : List UInt8) == []))
          (if List.length ([(x3, [])] : List YAttr.den) * 32 ≤ 140737488355328 then
           (J_track_settle_0 n m1 x0 x1 x2 x3 x4 x13 0 1 [(x3, [])] (!(((res_attr_Get_0 r1) : List UInt8) == [])) x36 x37 x38)
          else none)
          (J_track_settle_1 n m1 x0 x1 x2 x3 x4 x13 0 1 (!(((res_attr_Get_0 r1) : List UInt8) == [])) x36 x37 x38)))))
      (if (List.length (x13 : List YStep.den) + List.length ([(0, (1, ([], [])))] : List YStep.den)) * 64 ≤ 140737488355328 then
       (L_track_settle_0 n m1 x0 x1 x2 x3 x4 (x13 ++ [(0, (1, ([], [])))]) x36 x37 (IntKind.i64.wrap (x38 + 1)))
      else none))
     (if (List.length (x13 : List YStep.den) + List.length ([(0, (1, ([], [])))] : List YStep.den)) * 64 ≤ 140737488355328 then
      (L_track_settle_0 n m1 x0 x1 x2 x3 x4 (x13 ++ [(0, (1, ([], [])))]) x36 x37 (IntKind.i64.wrap (x38 + 1)))
     else none))
   else none)
   ((C_delta_Tidy F_delta_Tidy x13).bind fun r1 =>
    (some (ret_track_settle (res_delta_Tidy_0 r1) (res_delta_Tidy_1 r1))))) := by kernel_rfl
theorem ok_track_settle : fnOk os_track_settle sig_track_settle Try.f118 = true := by kernel_rfl
theorem fn_track_settle : P.funcs[118]? = some Try.f118 := by kernel_rfl
noncomputable def F_track_settle : sig_track_settle.Fn := fun x y => run T (env_track_settle) os_track_settle sig_track_settle Try.f118 hs_track_settle big x y
theorem S_track_settle : Sound P 118 ⟨sig_track_settle, F_track_settle⟩ := sound_of (os := os_track_settle) (hs := hs_track_settle) (env_cons S_flow_Check (env_cons S_attr_Get (env_cons S_delta_Tidy (env_nil)))) fn_track_settle ok_track_settle (fun x y out h => ⟨big, h⟩)
theorem e_track_settle (a0 : List YElem.den) (a1 : Int) (a2 : Int) (a3 : List UInt8) (a4 : List UInt8) : C_track_settle F_track_settle a0 a1 a2 a3 a4 =
  ((C_flow_Check F_flow_Check a0 true).bind fun r1 =>
   (bcond (((res_flow_Check_0 r1) : Int) != 0)
    (some (ret_track_settle [] (res_flow_Check_0 r1)))
    (bcond ((decide ((a1 : Int) < 0)) == false)
     (bcond ((decide ((a2 : Int) < a1)) == false)
      (bcond (decide ((a2 : Int) > (List.length a0 : Int)))
       (some (ret_track_settle [] 2))
       (L_track_settle_0 big big a0 a1 a2 a3 a4 [] a0 (List.length a0 : Int) 0))
      (some (ret_track_settle [] 2)))
     (some (ret_track_settle [] 2))))) := by kernel_rfl
def sig_track_Accept : Sig := ⟨[.v false (.list YElem), .v false (.int .i64), .v false (.int .i64)], [], [(false, [.fr (.list YStep)]), (false, [.fr (.int .i64)])]⟩
def C_track_Accept (F : sig_track_Accept.Fn) (a0 : List YElem.den) (a1 : Int) (a2 : Int) : Option sig_track_Accept.Out := F (a0, a1, a2, ()) ()
def ret_track_Accept (v0 : List YStep.den) (v1 : Int) : sig_track_Accept.Out := (((v0, ()), (v1, ()), ()), ())
def res_track_Accept_0 (r : sig_track_Accept.Out) : List YStep.den := r.1.1.1
@[simp] theorem res_track_Accept_0_ret (v0 : List YStep.den) (v1 : Int) : res_track_Accept_0 (ret_track_Accept v0 v1) = v0 := rfl
def res_track_Accept_1 (r : sig_track_Accept.Out) : Int := r.1.2.1.1
@[simp] theorem res_track_Accept_1_ret (v0 : List YStep.den) (v1 : Int) : res_track_Accept_1 (ret_track_Accept v0 v1) = v1 := rfl
def os_track_Accept : RegT := ⟨[], []⟩
def hs_track_Accept : List Keep := []
@[reducible] noncomputable def env_track_Accept : Env := [(118, ⟨sig_track_settle, F_track_settle⟩)]
theorem ok_track_Accept : fnOk os_track_Accept sig_track_Accept Try.f50 = true := by kernel_rfl
theorem fn_track_Accept : P.funcs[50]? = some Try.f50 := by kernel_rfl
noncomputable def F_track_Accept : sig_track_Accept.Fn := fun x y => run T (env_track_Accept) os_track_Accept sig_track_Accept Try.f50 hs_track_Accept big x y
theorem S_track_Accept : Sound P 50 ⟨sig_track_Accept, F_track_Accept⟩ := sound_of (os := os_track_Accept) (hs := hs_track_Accept) (env_cons S_track_settle (env_nil)) fn_track_Accept ok_track_Accept (fun x y out h => ⟨big, h⟩)
theorem e_track_Accept (a0 : List YElem.den) (a1 : Int) (a2 : Int) : C_track_Accept F_track_Accept a0 a1 a2 =
  ((C_track_settle F_track_settle a0 a1 a2 [97, 100, 100] [99, 117, 116]).bind fun r1 =>
   (some (ret_track_Accept (res_track_settle_0 r1) (res_track_settle_1 r1)))) := by kernel_rfl
def sig_track_Reject : Sig := ⟨[.v false (.list YElem), .v false (.int .i64), .v false (.int .i64)], [], [(false, [.fr (.list YStep)]), (false, [.fr (.int .i64)])]⟩
def C_track_Reject (F : sig_track_Reject.Fn) (a0 : List YElem.den) (a1 : Int) (a2 : Int) : Option sig_track_Reject.Out := F (a0, a1, a2, ()) ()
def ret_track_Reject (v0 : List YStep.den) (v1 : Int) : sig_track_Reject.Out := (((v0, ()), (v1, ()), ()), ())
def res_track_Reject_0 (r : sig_track_Reject.Out) : List YStep.den := r.1.1.1
@[simp] theorem res_track_Reject_0_ret (v0 : List YStep.den) (v1 : Int) : res_track_Reject_0 (ret_track_Reject v0 v1) = v0 := rfl
def res_track_Reject_1 (r : sig_track_Reject.Out) : Int := r.1.2.1.1
@[simp] theorem res_track_Reject_1_ret (v0 : List YStep.den) (v1 : Int) : res_track_Reject_1 (ret_track_Reject v0 v1) = v1 := rfl
def os_track_Reject : RegT := ⟨[], []⟩
def hs_track_Reject : List Keep := []
@[reducible] noncomputable def env_track_Reject : Env := [(118, ⟨sig_track_settle, F_track_settle⟩)]
theorem ok_track_Reject : fnOk os_track_Reject sig_track_Reject Try.f51 = true := by kernel_rfl
theorem fn_track_Reject : P.funcs[51]? = some Try.f51 := by kernel_rfl
noncomputable def F_track_Reject : sig_track_Reject.Fn := fun x y => run T (env_track_Reject) os_track_Reject sig_track_Reject Try.f51 hs_track_Reject big x y
theorem S_track_Reject : Sound P 51 ⟨sig_track_Reject, F_track_Reject⟩ := sound_of (os := os_track_Reject) (hs := hs_track_Reject) (env_cons S_track_settle (env_nil)) fn_track_Reject ok_track_Reject (fun x y out h => ⟨big, h⟩)
theorem e_track_Reject (a0 : List YElem.den) (a1 : Int) (a2 : Int) : C_track_Reject F_track_Reject a0 a1 a2 =
  ((C_track_settle F_track_settle a0 a1 a2 [99, 117, 116] [97, 100, 100]).bind fun r1 =>
   (some (ret_track_Reject (res_track_settle_0 r1) (res_track_settle_1 r1)))) := by kernel_rfl
def sig_law_exact : Sig := ⟨[.v false (.list YElem), .v false (.list YStep), .v false (.list YElem)], [], [(false, [.fr .bool])]⟩
def C_law_exact (F : sig_law_exact.Fn) (a0 : List YElem.den) (a1 : List YStep.den) (a2 : List YElem.den) : Option sig_law_exact.Out := F (a0, a1, a2, ()) ()
def ret_law_exact (v0 : Bool) : sig_law_exact.Out := (((v0, ()), ()), ())
def res_law_exact_0 (r : sig_law_exact.Out) : Bool := r.1.1.1
@[simp] theorem res_law_exact_0_ret (v0 : Bool) : res_law_exact_0 (ret_law_exact v0) = v0 := rfl
def os_law_exact : RegT := ⟨[(7, .st 0 (.st 1 (.st 2 (.st 3 (.st 5 (.st 6 (.st 7 (.st 8 (.st 10 (.st 12 (.st 18 (.st 20 (.grp [4, 9, 11, 19, 13, 14, 21, 22, 23, 15, 16, 17] (.st 24 (.nil)))))))))))))))], []⟩
def hs_law_exact : List Keep := [[(0, []), (1, []), (2, []), (7, []), (24, []), (25, [])]]
@[reducible] noncomputable def env_law_exact : Env := [(31, ⟨sig_R_DeltaError, F_R_DeltaError⟩), (59, ⟨sig_R_DeltaSize, F_R_DeltaSize⟩), (21, ⟨sig_R_ActOf, F_R_ActOf⟩), (90, ⟨sig_R_Changed, F_R_Changed⟩), (91, ⟨sig_R_Between, F_R_Between⟩), (22, ⟨sig_delta_Apply, F_delta_Apply⟩), (25, ⟨sig_R_SameFlow, F_R_SameFlow⟩)]
noncomputable def L_law_exact_0 (n m1 : Nat) (x0 : List YElem.den) (x1 : List YStep.den) (x2 : List YElem.den) (x7_0 : List (List YElem.den)) (x7_1 : List (Bool)) (x7_2 : List (List YAttr.den)) (x24 : Int) (x25 : Int) : Option sig_law_exact.Out :=
  loopAt T (env_law_exact) os_law_exact sig_law_exact Try.f53 hs_law_exact n [.sr, .sr, .sr, .sl, .sr, .bl] m1 (mk 67 [(0, .cs false [.val (.list YElem) x0]), (1, .cs false [.val (.list YStep) x1]), (2, .cs false [.val (.list YElem) x2]), (7, .box [.val (.list (.list YElem)) x7_0, .val (.list .bool) x7_1, .val (.list (.list YAttr)) x7_2]), (24, .cs false [.val (.int .i64) x24]), (25, .cs false [.val (.int .i64) x25])])
theorem L_law_exact_0_step (n m1 : Nat) (x0 : List YElem.den) (x1 : List YStep.den) (x2 : List YElem.den) (x7_0 : List (List YElem.den)) (x7_1 : List (Bool)) (x7_2 : List (List YAttr.den)) (x24 : Int) (x25 : Int) : L_law_exact_0 n (m1 + 1) x0 x1 x2 x7_0 x7_1 x7_2 x24 x25 =
  (bcond (decide ((x25 : Int) < x24))
   (if 0 ≤ (x25 : Int) ∧ (x25 : Int) < (List.length x0 : Int) then
    (if 0 ≤ (x25 : Int) ∧ (x25 : Int) < (List.length x0 : Int) then
     (if 0 ≤ (x25 : Int) ∧ (x25 : Int) < (List.length x7_2 : Int) then
      (if 0 ≤ (x25 : Int) ∧ (x25 : Int) < (List.length x7_2 : Int) then
       ((C_R_Changed F_R_Changed (at_ (e := YElem) x0 x25).2.2 (at_ (e := (.list YAttr)) x7_2 x25)).bind fun r1 =>
        ((C_R_Between F_R_Between (at_ (e := YElem) x0 x25).2.2 (res_R_Changed_0 r1)).bind fun r2 =>
         (bcond (((List.length (res_R_Between_0 r2) : Int) : Int) != (List.length (at_ (e := (.list YAttr)) x7_2 x25) : Int))
          (some (ret_law_exact false))
          (L_law_exact_0 n m1 x0 x1 x2 x7_0 x7_1 x7_2 x24 (IntKind.i64.wrap (x25 + 1))))))
      else none)
     else none)
    else none)
   else none)
   ((C_delta_Apply F_delta_Apply x0 x1).bind fun r1 =>
    (bcond ((((res_delta_Apply_1 r1) : Int) == 0) == true)
     ((C_R_SameFlow F_R_SameFlow (res_delta_Apply_0 r1) x2).bind fun r2 =>
      (some (ret_law_exact (res_R_SameFlow_0 r2))))
     (some (ret_law_exact false))))) := by kernel_rfl
theorem ok_law_exact : fnOk os_law_exact sig_law_exact Try.f53 = true := by kernel_rfl
theorem fn_law_exact : P.funcs[53]? = some Try.f53 := by kernel_rfl
noncomputable def F_law_exact : sig_law_exact.Fn := fun x y => run T (env_law_exact) os_law_exact sig_law_exact Try.f53 hs_law_exact big x y
theorem S_law_exact : Sound P 53 ⟨sig_law_exact, F_law_exact⟩ := sound_of (os := os_law_exact) (hs := hs_law_exact) (env_cons S_R_DeltaError (env_cons S_R_DeltaSize (env_cons S_R_ActOf (env_cons S_R_Changed (env_cons S_R_Between (env_cons S_delta_Apply (env_cons S_R_SameFlow (env_nil)))))))) fn_law_exact ok_law_exact (fun x y out h => ⟨big, h⟩)
theorem e_law_exact (a0 : List YElem.den) (a1 : List YStep.den) (a2 : List YElem.den) : C_law_exact F_law_exact a0 a1 a2 =
  ((C_R_DeltaError F_R_DeltaError a1).bind fun r1 =>
   (bcond ((((res_R_DeltaError_0 r1) : Int) != 0) == false)
    ((C_R_DeltaSize F_R_DeltaSize a1).bind fun r2 =>
     (bcond (((res_R_DeltaSize_0 r2) : Int) != (List.length a0 : Int))
      (some (ret_law_exact false))
      ((C_R_ActOf F_R_ActOf a1).bind fun r3 =>
       (L_law_exact_0 big big a0 a1 a2 (res_R_ActOf_0 r3).1 (res_R_ActOf_0 r3).2.1 (res_R_ActOf_0 r3).2.2 (List.length a0 : Int) 0))))
    (some (ret_law_exact false)))) := by kernel_rfl
def sig_law_TrackSettleMatches : Sig := ⟨[.v false (.list YElem), .v false (.int .i64), .v false (.int .i64)], [], [(false, [.fr .bool])]⟩
def C_law_TrackSettleMatches (F : sig_law_TrackSettleMatches.Fn) (a0 : List YElem.den) (a1 : Int) (a2 : Int) : Option sig_law_TrackSettleMatches.Out := F (a0, a1, a2, ()) ()
def ret_law_TrackSettleMatches (v0 : Bool) : sig_law_TrackSettleMatches.Out := (((v0, ()), ()), ())
def os_law_TrackSettleMatches : RegT := ⟨[], []⟩
def hs_law_TrackSettleMatches : List Keep := []
@[reducible] noncomputable def env_law_TrackSettleMatches : Env := [(49, ⟨sig_law_tracks, F_law_tracks⟩), (15, ⟨sig_law_deltas, F_law_deltas⟩), (50, ⟨sig_track_Accept, F_track_Accept⟩), (51, ⟨sig_track_Reject, F_track_Reject⟩), (52, ⟨sig_R_FlowError, F_R_FlowError⟩), (54, ⟨sig_R_Settled, F_R_Settled⟩), (53, ⟨sig_law_exact, F_law_exact⟩)]
noncomputable def J_law_TrackSettleMatches_0 (n : Nat) (y0 : List YElem.den) (y1 : Int) (y2 : Int) (y7 : List YStep.den) (y8 : Int) (y9 : List YStep.den) (y10 : Int) (y11 : Int) : Option sig_law_TrackSettleMatches.Out :=
  (bcond ((y11 : Int) != 0)
   (bcond (((y8 : Int) == y11) == true)
    (bcond (((y10 : Int) == y11) == true)
     (some (ret_law_TrackSettleMatches (((IntKind.i64.wrap ((List.length y7 : Int) + (List.length y9 : Int))) : Int) == 0)))
     (some (ret_law_TrackSettleMatches false)))
    (some (ret_law_TrackSettleMatches false)))
   (bcond (((y8 : Int) == 0) == true)
    (bcond (((y10 : Int) == 0) == true)
     ((C_R_Settled F_R_Settled y0 y1 y2 true).bind fun r6 =>
      ((C_law_exact F_law_exact y0 y7 (res_R_Settled_0 r6)).bind fun r7 =>
       (bcond ((res_law_exact_0 r7) == true)
        ((C_R_Settled F_R_Settled y0 y1 y2 false).bind fun r8 =>
         ((C_law_exact F_law_exact y0 y9 (res_R_Settled_0 r8)).bind fun r9 =>
          (some (ret_law_TrackSettleMatches (res_law_exact_0 r9)))))
        (some (ret_law_TrackSettleMatches false)))))
     (some (ret_law_TrackSettleMatches false)))
    (some (ret_law_TrackSettleMatches false))))
theorem ok_law_TrackSettleMatches : fnOk os_law_TrackSettleMatches sig_law_TrackSettleMatches Try.f10 = true := by kernel_rfl
theorem fn_law_TrackSettleMatches : P.funcs[10]? = some Try.f10 := by kernel_rfl
noncomputable def F_law_TrackSettleMatches : sig_law_TrackSettleMatches.Fn := fun x y => run T (env_law_TrackSettleMatches) os_law_TrackSettleMatches sig_law_TrackSettleMatches Try.f10 hs_law_TrackSettleMatches big x y
theorem S_law_TrackSettleMatches : Sound P 10 ⟨sig_law_TrackSettleMatches, F_law_TrackSettleMatches⟩ := sound_of (os := os_law_TrackSettleMatches) (hs := hs_law_TrackSettleMatches) (env_cons S_law_tracks (env_cons S_law_deltas (env_cons S_track_Accept (env_cons S_track_Reject (env_cons S_R_FlowError (env_cons S_R_Settled (env_cons S_law_exact (env_nil)))))))) fn_law_TrackSettleMatches ok_law_TrackSettleMatches (fun x y out h => ⟨big, h⟩)
theorem e_law_TrackSettleMatches (a0 : List YElem.den) (a1 : Int) (a2 : Int) : C_law_TrackSettleMatches F_law_TrackSettleMatches a0 a1 a2 =
  ((C_law_tracks F_law_tracks ).bind fun r1 =>
   (bcond ((!(res_law_tracks_0 r1)) == false)
    ((C_law_deltas F_law_deltas ).bind fun r2 =>
     (bcond (!(res_law_deltas_0 r2))
      (some (ret_law_TrackSettleMatches false))
      ((C_track_Accept F_track_Accept a0 a1 a2).bind fun r3 =>
       ((C_track_Reject F_track_Reject a0 a1 a2).bind fun r4 =>
        ((C_R_FlowError F_R_FlowError a0 true).bind fun r5 =>
         (bcond ((((res_R_FlowError_0 r5) : Int) == 0) == true)
          (bcond ((decide ((a1 : Int) < 0)) == false)
           (bcond ((decide ((a2 : Int) < a1)) == false)
            (bcond (decide ((a2 : Int) > (List.length a0 : Int)))
             (J_law_TrackSettleMatches_0 big a0 a1 a2 (res_track_Accept_0 r3) (res_track_Accept_1 r3) (res_track_Reject_0 r4) (res_track_Reject_1 r4) 2)
             (J_law_TrackSettleMatches_0 big a0 a1 a2 (res_track_Accept_0 r3) (res_track_Accept_1 r3) (res_track_Reject_0 r4) (res_track_Reject_1 r4) (res_R_FlowError_0 r5)))
            (J_law_TrackSettleMatches_0 big a0 a1 a2 (res_track_Accept_0 r3) (res_track_Accept_1 r3) (res_track_Reject_0 r4) (res_track_Reject_1 r4) 2))
           (J_law_TrackSettleMatches_0 big a0 a1 a2 (res_track_Accept_0 r3) (res_track_Accept_1 r3) (res_track_Reject_0 r4) (res_track_Reject_1 r4) 2))
          (J_law_TrackSettleMatches_0 big a0 a1 a2 (res_track_Accept_0 r3) (res_track_Accept_1 r3) (res_track_Reject_0 r4) (res_track_Reject_1 r4) (res_R_FlowError_0 r5))))))))
    (some (ret_law_TrackSettleMatches false)))) := by kernel_rfl
end Go.Ev
