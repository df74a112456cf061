
import Derived.Test.YtlgjdgebmiegeaaPAxW
import Derived.Test.YtlgjdgebmiegeaaGAxisP
namespace Go.Ev.AxisP
open Go.Ev Go.Ev.Attr Go.Ev.Track Go.Ev.Delta
set_option linter.unusedVariables false
set_option linter.unusedSimpArgs false
def un (s : YSpan.den) : U := if (Axis.sk s) = 1 then .a X else uni ((Axis.sk s) == 2) []
def xs : Ax → List U
  | [] => []
  | s :: l => List.replicate (Axis.sn s).toNat (un s) ++ xs l
def ru (l : Ax) (p : Nat) : List U := (xs l).drop p
def rb (l : Ax) (p : Nat) : Int := Axis.sumB l - p
structure PR (l : Ax) (p : Nat) : Prop where
  v : Axis.Good l
  p : p = 0 ∨ ∃ s l', l = s :: l' ∧ (Axis.sk s) ≠ 1 ∧ (p : Int) < (Axis.sn s)
def nxt (s : YSpan.den) (l : Ax) (p n : Nat) : Ax × Nat := if ((p + n : Nat) : Int) = (Axis.sn s) then (l, 0) else (s :: l, p + n)
theorem at_head (s : YSpan.den) (l : Ax) : at_ (e := YSpan) (s :: l) 0 = s := rfl
theorem kind_nil (p : Int) : C_axis_reader_kind F_axis_reader_kind [] p = some (ret_axis_reader_kind (-1) [] p) := by
  rw [e_axis_reader_kind]; rfl
theorem kind_cons (s : YSpan.den) (l : Ax) (p : Int) : C_axis_reader_kind F_axis_reader_kind (s :: l) p = some (ret_axis_reader_kind (Axis.sk s) (s :: l) p) := by
  have h : ((List.length (s :: l) : Int) == 0) = false := beq_eq_false_iff_ne.2 (by simp only [List.length_cons]; omega)
  rw [e_axis_reader_kind, h, if_pos (in0 s l), at_head]; rfl
theorem left_cons (s : YSpan.den) (l : Ax) (p : Nat) (h : 0 ≤ (Axis.sn s) ∧ (Axis.sn s) ≤ 2147483647) (hp : (p : Int) ≤ 2147483647) : C_axis_reader_left F_axis_reader_left (s :: l) p = some (ret_axis_reader_left ((Axis.sn s) - p) (s :: l) p) := by
  have e2 : s.2 = Axis.sn s := rfl
  rw [e_axis_reader_left, if_pos (in0 s l), at_head, e2]
  rw [w64 (by omega) (by omega)]
theorem drop1 (s : YSpan.den) (l : Ax) : List.drop (Int.toNat 1) (List.take (Int.toNat ((s :: l).length : Int)) (s :: l)) = l := by simp
theorem take_eq (s : YSpan.den) (l : Ax) (p n : Nat) (hs : (Axis.sn s) ≤ 2147483647) (hn : ((p + n : Nat) : Int) ≤ (Axis.sn s)) : C_axis_reader_take F_axis_reader_take n (s :: l) p = some (ret_axis_reader_take (nxt s l p n).1 (nxt s l p n).2) := by
  have w : IntKind.i64.wrap ((p : Int) + n) = ((p + n : Nat) : Int) := wnat (by omega) (by omega)
  have q2 : (0 ≤ ((s :: l).length : Int) ∧ ((s :: l).length : Int) ≤ ((s :: l).length : Int) ∧ 0 ≤ (1 : Int) ∧ (1 : Int) ≤ ((s :: l).length : Int)) := by simp only [List.length_cons]; omega
  have e2 : s.2 = Axis.sn s := rfl
  rw [e_axis_reader_take, if_pos (in0 s l), at_head, w, if_pos q2, e2]
  rw [drop1 s l]
  unfold nxt
  by_cases h : ((p + n : Nat) : Int) = (Axis.sn s)
  · have : (((p + n : Nat) : Int) == (Axis.sn s)) = true := by simpa using h
    rw [if_pos h, this]; rfl
  · have : (((p + n : Nat) : Int) == (Axis.sn s)) = false := by simpa using h
    rw [if_neg h, this]; rfl
theorem good_cons {s : YSpan.den} {l : Ax} (h : Axis.Good (s :: l)) : ((Axis.sk s) = 0 ∨ (Axis.sk s) = 1 ∨ (Axis.sk s) = 2) ∧ 1 ≤ (Axis.sn s) ∧ (Axis.sn s) ≤ 2147483647 ∧ Axis.Good l := ⟨h.1.1, h.1.2.1, h.1.2.2, h.2⟩
theorem sumB_cons (s : YSpan.den) (l : Ax) : Axis.sumB (s :: l) = (if (Axis.sk s) = 1 then 0 else (Axis.sn s)) + Axis.sumB l := by
  rfl
theorem ru_zero (l : Ax) : ru l 0 = xs l := rfl
theorem ru_add {s : YSpan.den} {l : Ax} (h : (Axis.sk s) = 1) {n : Nat} (hn : (Axis.sn s) = (n : Int)) : ru (s :: l) 0 = (List.replicate n X).map U.a ++ ru l 0 := by
  show List.replicate (Axis.sn s).toNat (un s) ++ xs l = _
  rw [hn, List.map_replicate]
  unfold un
  rw [if_pos h]; rfl
theorem ru_non {s : YSpan.den} {l : Ax} {p n : Nat} (hk : (Axis.sk s) ≠ 1) (hn : ((p + n : Nat) : Int) ≤ (Axis.sn s)) : ru (s :: l) p = List.replicate n (uni ((Axis.sk s) == 2) []) ++ ru (nxt s l p n).1 (nxt s l p n).2 := by
  obtain ⟨N, hN⟩ : ∃ N : Nat, (Axis.sn s) = (N : Int) := ⟨(Axis.sn s).toNat, by omega⟩
  have e : List.replicate (Axis.sn s).toNat (un s) = List.replicate N (uni ((Axis.sk s) == 2) []) := by unfold un; rw [if_neg hk, hN]; rfl
  have key : ∀ q : Nat, q ≤ N → ru (s :: l) q = List.replicate (N - q) (uni ((Axis.sk s) == 2) []) ++ xs l := by
    intro q hq
    show (List.replicate (Axis.sn s).toNat (un s) ++ xs l).drop q = _
    rw [e, List.drop_append_of_le_length (by simpa using hq), List.drop_replicate]
  rw [key p (by omega)]
  unfold nxt
  split
  · show _ = _ ++ ru l 0
    rw [ru_zero]
    have : N - p = n := by omega
    rw [this]
  · show _ = _ ++ ru (s :: l) (p + n)
    rw [key (p + n) (by omega), ← List.append_assoc, List.replicate_append_replicate]
    have : n + (N - (p + n)) = N - p := by omega
    rw [this]
theorem pr_nxt {s : YSpan.den} {l : Ax} {p n : Nat} (h : PR (s :: l) p) (hk : (Axis.sk s) ≠ 1) (hn : ((p + n : Nat) : Int) ≤ (Axis.sn s)) : PR (nxt s l p n).1 (nxt s l p n).2 ∧ rb (nxt s l p n).1 (nxt s l p n).2 = rb (s :: l) p - n ∧
    (nxt s l p n).1.length ≤ (s :: l).length ∧ (((p + n : Nat) : Int) = (Axis.sn s) → (nxt s l p n).1.length = l.length) := by
  obtain ⟨_, q1, q2, q3⟩ := good_cons h.v
  unfold nxt
  split
  · rename_i hx
    refine ⟨⟨q3, .inl rfl⟩, ?_, by simp, fun _ => rfl⟩
    show Axis.sumB l - ((0 : Nat) : Int) = Axis.sumB (s :: l) - p - n
    rw [sumB_cons, if_neg hk]; omega
  · rename_i hx
    refine ⟨⟨h.v, .inr ⟨s, l, rfl, hk, by show ((p + n : Nat) : Int) < (Axis.sn s); omega⟩⟩, ?_, Nat.le_refl _, fun z => absurd z hx⟩
    show Axis.sumB (s :: l) - ((p + n : Nat) : Int) = Axis.sumB (s :: l) - p - n
    omega
theorem pr_tail {s : YSpan.den} {l : Ax} {p : Nat} (h : PR (s :: l) p) (hk : (Axis.sk s) = 1) : p = 0 ∧ PR l 0 ∧ rb l 0 = rb (s :: l) 0 := by
  obtain ⟨_, q1, q2, q3⟩ := good_cons h.v
  refine ⟨?_, ⟨q3, .inl rfl⟩, ?_⟩
  · rcases h.p with q | ⟨t, l', e, k, _⟩
    · exact q
    · injection e with e1 e2
      rw [← e1] at k; exact absurd hk k
  · show Axis.sumB l - ((0 : Nat) : Int) = Axis.sumB (s :: l) - ((0 : Nat) : Int)
    rw [sumB_cons, if_pos hk]; omega
theorem rb_non {s : YSpan.den} {l : Ax} {p : Nat} (h : PR (s :: l) p) (hk : (Axis.sk s) ≠ 1) : (p : Int) < (Axis.sn s) ∧ (Axis.sn s) - p ≤ rb (s :: l) p := by
  obtain ⟨_, q1, q2, q3⟩ := good_cons h.v
  have hp2 := (Axis.sum_pos q3).1
  have hlt : (p : Int) < (Axis.sn s) := by
    rcases h.p with q | ⟨t, l', e, k, h2⟩
    · omega
    · injection e with e1 e2; rw [e1]; exact h2
  unfold rb
  rw [sumB_cons, if_neg hk]
  omega
theorem rk0 (v0 : Int) (v1 : Ax) (v2 : Int) : res_axis_reader_kind_0 (ret_axis_reader_kind v0 v1 v2) = v0 := id rfl
theorem rl0 (v0 : Int) (v1 : Ax) (v2 : Int) : res_axis_reader_left_0 (ret_axis_reader_left v0 v1 v2) = v0 := id rfl
noncomputable def fin (x y : W) : Option sig_axis_Pair.Out :=
      ((C_axis_writer_done F_axis_writer_done (no x) (x.2.1.length : Int) x.2.2).bind fun r3 =>
       ((C_axis_writer_done F_axis_writer_done (no y) (y.2.1.length : Int) y.2.2).bind fun r4 =>
        (bcond ((((res_axis_writer_done_1 r3) : Int) != 0) == false)
         (bcond (((res_axis_writer_done_1 r4) : Int) != 0)
          (some (ret_axis_Pair [] [] 3))
          (some (ret_axis_Pair (res_axis_writer_done_0 r3) (res_axis_writer_done_0 r4) 0)))
         (some (ret_axis_Pair [] [] 3)))))
end Go.Ev.AxisP
