
import Derived.Test.YtlgjdgebmiegeaaPAxW
import Derived.Test.YtlgjdgebmiegeaaGAxisP
namespace Go.Ev.AxisP
open Go.Ev Go.Ev.Attr Go.Ev.Track Go.Ev.Delta
set_option linter.unusedVariables false
set_option linter.unusedSimpArgs false
def un (s : YSpan.den) : U := if (Axis.sk s) = 1 then .a X else uni ((Axis.sk s) == 2) []
def xs : Ax → List U
  | [] => []
  | s :: l => List.replicate (Axis.sn s).toNat (un s) ++ xs l
def rb (l : Ax) (p : Nat) : Int := Axis.sumB l - p
structure PR (l : Ax) (p : Nat) : Prop where
  v : Axis.Good l
  p : p = 0 ∨ ∃ s l', l = s :: l' ∧ (Axis.sk s) ≠ 1 ∧ (p : Int) < (Axis.sn s)
theorem at_head (s : YSpan.den) (l : Ax) : at_ (e := YSpan) (s :: l) 0 = s := rfl
theorem drop1 (s : YSpan.den) (l : Ax) : List.drop (Int.toNat 1) (List.take (Int.toNat ((s :: l).length : Int)) (s :: l)) = l := by simp
theorem good_cons {s : YSpan.den} {l : Ax} (h : Axis.Good (s :: l)) : ((Axis.sk s) = 0 ∨ (Axis.sk s) = 1 ∨ (Axis.sk s) = 2) ∧ 1 ≤ (Axis.sn s) ∧ (Axis.sn s) ≤ 2147483647 ∧ Axis.Good l := ⟨h.1.1, h.1.2.1, h.1.2.2, h.2⟩
theorem sumB_cons (s : YSpan.den) (l : Ax) : Axis.sumB (s :: l) = (if (Axis.sk s) = 1 then 0 else (Axis.sn s)) + Axis.sumB l := by
  rfl
noncomputable def fin (x y : W) : Option sig_axis_Pair.Out :=
      ((C_axis_writer_done F_axis_writer_done (no x) (x.2.1.length : Int) x.2.2).bind fun r3 =>
       ((C_axis_writer_done F_axis_writer_done (no y) (y.2.1.length : Int) y.2.2).bind fun r4 =>
        (bcond ((((res_axis_writer_done_1 r3) : Int) != 0) == false)
         (bcond (((res_axis_writer_done_1 r4) : Int) != 0)
          (some (ret_axis_Pair [] [] 3))
          (some (ret_axis_Pair (res_axis_writer_done_0 r3) (res_axis_writer_done_0 r4) 0)))
         (some (ret_axis_Pair [] [] 3)))))
end Go.Ev.AxisP
