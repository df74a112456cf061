
import Derived.Test.YteojfhgljknmiaaDoorPGrd
import Derived.Test.YteojfhgljknmiaaDoorGRepK
import Derived.Test.YteojfhgljknmiaaDoorGRepR
namespace Go.Ev.Doc
open Go.Ev Go.Ev.Attr Go.Ev.Track Go.Ev.Delta
set_option linter.unusedVariables false
set_option linter.unusedSimpArgs false
set_option maxRecDepth 100000
theorem stamps_ge (a b : YDrawOp.den) : ∃ k : Int, C_replica_stamps F_replica_stamps a b = some (ret_replica_stamps k) ∧ (k ≥ 0 ↔ (b.1 : Int) < a.1 ∨ ((b.1 : Int) = a.1 ∧ (b.2.1 : Int) ≤ a.2.1)) := by
  refine ⟨_, ?_, sgn_ord a.1 b.1 a.2.1 b.2.1⟩
  rw [e_replica_stamps, cmp_eq, cmp_eq]
  simp only [Option.bind_some, res_cmp_Compare_int_0_ret, or_eq, res_cmp_Or_int_0_ret]
  rfl
def erl (a b : YDrawOp.den) : Bool := decide ((a.1 : Int) < b.1) || (((a.1 : Int) == b.1) && decide ((a.2.1 : Int) < b.2.1))
theorem earlier_eq (a b : YDrawOp.den) : C_R_Earlier F_R_Earlier a b = some (ret_R_Earlier (erl a b)) := by
  rw [e_R_Earlier]
  unfold erl
  cases decide ((a.1 : Int) < b.1) <;> cases ((a.1 : Int) == b.1) <;> rfl
/-- Places: letters, no more than 200, the last no a. -/
def lastB (s : Str) : Bool := bt s (s.length - 1) != 97
def pl (s : Str) : Bool := decide (1 ≤ s.length) && decide (s.length ≤ 200) && lastB s && allB small s
theorem place_loop (s : Str) (hl : s.length ≤ 1048576) (n : Nat) : ∀ (d i m : Nat), i + d = s.length → d < m → L_replica_Place_0 n m s (s.length : Int) i = some (ret_replica_Place (allB small (s.drop i))) := by
  intro d
  induction d with
  | zero =>
    intro i m hi hm
    cases m with
    | zero => omega
    | succ m =>
    have : i = s.length := by omega
    subst this
    have c1 : decide ((s.length : Int) < (s.length : Int)) = false := decide_eq_false (by omega)
    rw [L_replica_Place_0_step, allB_none]
    simp [bcond_if, c1]
  | succ d ih =>
    intro i m hi hm
    cases m with
    | zero => omega
    | succ m =>
    have hil : i < s.length := by omega
    have c1 : decide ((i : Int) < (s.length : Int)) = true := decide_eq_true (by omega)
    have w1 : IntKind.i64.wrap ((i : Int) + 1) = ((i + 1 : Nat) : Int) := wnat (by omega) (by omega)
    obtain ⟨x, hx⟩ : ∃ x : Int, ((List.getD s (Int.toNat (i : Int)) 0).toNat : Int) = x := ⟨_, rfl⟩
    have hx' : bt s i = x := hx
    rw [L_replica_Place_0_step, allB_drop _ _ hil, hx, hx']
    simp only [bcond_if, inb, hil, c1, if_true, w1, ih (i + 1) m (by omega) (by omega)]
    unfold small
    cases decide (x < 97) <;> cases decide (x > 122) <;> simp
theorem last_at (s : Str) (hl : s.length ≤ 1048576) (h1 : 1 ≤ s.length) : IntKind.i64.wrap ((s.length : Int) - 1) = ((s.length - 1 : Nat) : Int) := by
  rw [show (s.length : Int) - 1 = ((s.length - 1 : Nat) : Int) by omega]
  exact wnat (by omega) (by omega)
theorem place_eq (s : Str) (hl : s.length ≤ 1048576) : C_replica_Place F_replica_Place s = some (ret_replica_Place (pl s)) := by
  rw [e_replica_Place]
  by_cases h1 : 1 ≤ s.length
  · have e0 : (s == []) = false := by cases s with | nil => simp at h1 | cons c r => rfl
    have h := place_loop s hl big s.length 0 big (by omega) (by obtain ⟨m, hm⟩ := big_succ (n := 1048577) (by omega); omega)
    rw [show ((0 : Nat) : Int) = 0 from rfl, List.drop_zero] at h
    have e1 : (0 ≤ ((s.length - 1 : Nat) : Int) ∧ ((s.length - 1 : Nat) : Int) < (s.length : Int)) := by omega
    have e2 : decide ((s.length : Int) > 200) = !decide (s.length ≤ 200) := by
      by_cases h : s.length ≤ 200
      · rw [decide_eq_true h, decide_eq_false (by omega)]; rfl
      · rw [decide_eq_false h, decide_eq_true (by omega)]; rfl
    have e3 : (((List.getD s (Int.toNat ((s.length - 1 : Nat) : Int)) 0).toNat : Int) == 97) = !lastB s := by
      unfold lastB bt; rw [Int.toNat_natCast]; simp [bne]
    rw [last_at s hl h1, h, e0, e2, e3, if_pos e1]
    unfold pl
    rw [decide_eq_true h1]
    cases decide (s.length ≤ 200) <;> cases lastB s <;> cases allB small s <;> rfl
  · have : s = [] := by cases s with | nil => rfl | cons c r => simp at h1
    subst this; rfl
theorem rplace_loop (s : Str) (hl : s.length ≤ 1048576) (n : Nat) : ∀ (d i m : Nat), i + d = s.length → d < m → L_R_Place_0 n m s (s.length : Int) i = some (ret_R_Place (allB small (s.drop i) && (decide (1 ≤ s.length) && decide (s.length ≤ 200) && lastB s))) := by
  intro d
  induction d with
  | zero =>
    intro i m hi hm
    cases m with
    | zero => omega
    | succ m =>
    have : i = s.length := by omega
    subst this
    have c1 : decide ((s.length : Int) < (s.length : Int)) = false := decide_eq_false (by omega)
    have c3 : decide ((s.length : Int) ≤ 200) = decide (s.length ≤ 200) := by
      by_cases h : s.length ≤ 200
      · rw [decide_eq_true h, decide_eq_true (by omega)]
      · rw [decide_eq_false h, decide_eq_false (by omega)]
    rw [L_R_Place_0_step, allB_none, c1, c3]
    by_cases h1 : 1 ≤ s.length
    · have c2 : decide ((s.length : Int) ≥ 1) = true := decide_eq_true (by omega)
      have e1 : (0 ≤ ((s.length - 1 : Nat) : Int) ∧ ((s.length - 1 : Nat) : Int) < (s.length : Int)) := by omega
      have e3 : (((List.getD s (Int.toNat ((s.length - 1 : Nat) : Int)) 0).toNat : Int) != 97) = lastB s := by
        unfold lastB bt; rw [Int.toNat_natCast]
      rw [last_at s hl h1, e3, c2, if_pos e1, decide_eq_true h1]
      cases decide (s.length ≤ 200) <;> cases lastB s <;> rfl
    · have c2 : decide ((s.length : Int) ≥ 1) = false := decide_eq_false (by omega)
      rw [c2, decide_eq_false h1]; rfl
  | succ d ih =>
    intro i m hi hm
    cases m with
    | zero => omega
    | succ m =>
    have hil : i < s.length := by omega
    have c1 : decide ((i : Int) < (s.length : Int)) = true := decide_eq_true (by omega)
    have w1 : IntKind.i64.wrap ((i : Int) + 1) = ((i + 1 : Nat) : Int) := wnat (by omega) (by omega)
    obtain ⟨x, hx⟩ : ∃ x : Int, ((List.getD s (Int.toNat (i : Int)) 0).toNat : Int) = x := ⟨_, rfl⟩
    have hx' : bt s i = x := hx
    rw [L_R_Place_0_step, allB_drop _ _ hil, hx, hx']
    simp only [bcond_if, inb, hil, c1, if_true, w1, ih (i + 1) m (by omega) (by omega)]
    unfold small
    cases decide (x < 97) <;> cases decide (x > 122) <;> simp
theorem rplace_eq (s : Str) (hl : s.length ≤ 1048576) : C_R_Place F_R_Place s = some (ret_R_Place (pl s)) := by
  obtain ⟨m, hm⟩ := big_succ (n := 1048577) (by omega)
  rw [e_R_Place]
  have h := rplace_loop s hl big s.length 0 big (by omega) (by omega)
  rw [show ((0 : Nat) : Int) = 0 from rfl] at h
  rw [h, List.drop_zero]
  unfold pl
  rw [Bool.and_comm]
end Go.Ev.Doc
namespace Go.Ev.Doc
open Go.Ev Go.Ev.Attr Go.Ev.Track Go.Ev.Delta
set_option linter.unusedVariables false
set_option linter.unusedSimpArgs false
set_option maxRecDepth 100000
def inB (x lo hi : Int) : Bool := !decide (x < lo) && !decide (x > hi)
/-- What is wrong with an operation by itself; 0: nothing. -/
noncomputable def opE (o : YDrawOp.den) : Int :=
  cond (((o.2.2.1 : Int) != 0) && ((o.2.2.1 : Int) != 1)) 8
  (cond (!(inB o.1 1 1073741824 && inB o.2.1 0 1000 && inB o.2.2.2.1 1 1073741824)) 2
  (cond ((o.2.2.1 : Int) == 0)
   (cond (!((o.2.2.2.2.2.2.1 : List UInt8) == []) || !((o.2.2.2.2.2.2.2 : List UInt8) == [])) 4
    (cond (!(inB o.2.2.2.2.1 (-1) 1073741824)) 2
     (cond (!(pl o.2.2.2.2.2.1)) 9 0)))
   (cond (((o.2.2.2.2.1 : Int) != 0) || !((o.2.2.2.2.2.1 : List UInt8) == [])) 4
    (cond (!(nm o.2.2.2.2.2.2.1)) 9
     (cond (!((o.2.2.2.2.2.2.2 : List UInt8) == []) && !(vl o.2.2.2.2.2.2.2)) 23 0)))))
theorem op_eq (o : YDrawOp.den) (h5 : (o.2.2.2.2.2.1 : Str).length ≤ 1048576) (h6 : (o.2.2.2.2.2.2.1 : Str).length ≤ 1048576) (h7 : (o.2.2.2.2.2.2.2 : Str).length ≤ 1048576) :
    C_replica_op F_replica_op o = some (ret_replica_op (opE o)) := by
  obtain ⟨a, b, k, c, d, p, x, y⟩ := o
  rw [e_replica_op]
  unfold opE inB
  dsimp only at h5 h6 h7 ⊢
  by_cases k0 : (k : Int) = 0
  · have e0 : ((k : Int) == 0) = true := by rw [k0]; rfl
    have e1 : ((k : Int) == 1) = false := by rw [k0]; rfl
    have n0 : ((k : Int) != 0) = false := by rw [k0]; rfl
    simp only [e0, e1, n0, place_eq p h5, Option.bind_some, res_replica_Place_0_ret, bcond_if, Bool.false_eq_true, if_false, if_true, beq_self_eq_true, Bool.false_and, cond_false, cond_true]
    generalize decide ((a : Int) < 1) = q1
    generalize decide ((a : Int) > 1073741824) = q2
    generalize decide ((b : Int) < 0) = q3
    generalize decide ((b : Int) > 1000) = q4
    generalize decide ((c : Int) < 1) = q5
    generalize decide ((c : Int) > 1073741824) = q6
    cases q1 <;> try rfl
    cases q2 <;> try rfl
    cases q3 <;> try rfl
    cases q4 <;> try rfl
    cases q5 <;> try rfl
    cases q6 <;> try rfl
    generalize decide ((d : Int) < (-1)) = q7
    generalize decide ((d : Int) > 1073741824) = q8
    generalize ((x : List UInt8) == []) = q9
    generalize ((y : List UInt8) == []) = q10
    generalize pl p = q11
    cases q9 <;> cases q10 <;> cases q7 <;> cases q8 <;> cases q11 <;> rfl
  · have e0 : ((k : Int) == 0) = false := by simpa using k0
    have n0 : ((k : Int) != 0) = true := by simpa using k0
    by_cases k1 : (k : Int) = 1
    · have e1 : ((k : Int) == 1) = true := by rw [k1]; rfl
      have n1 : ((k : Int) != 1) = false := by rw [k1]; rfl
      simp only [e0, e1, n0, n1, name_eq x h6, value_eq y h7, Option.bind_some, res_attr_Name_0_ret, res_attr_Value_0_ret, bcond_if, Bool.false_eq_true, if_false, if_true, beq_self_eq_true, Bool.true_and, cond_false, cond_true]
      generalize decide ((a : Int) < 1) = q1
      generalize decide ((a : Int) > 1073741824) = q2
      generalize decide ((b : Int) < 0) = q3
      generalize decide ((b : Int) > 1000) = q4
      generalize decide ((c : Int) < 1) = q5
      generalize decide ((c : Int) > 1073741824) = q6
      cases q1 <;> try rfl
      cases q2 <;> try rfl
      cases q3 <;> try rfl
      cases q4 <;> try rfl
      cases q5 <;> try rfl
      cases q6 <;> try rfl
      generalize ((d : Int) != 0) = q7
      generalize ((p : List UInt8) == []) = q9
      generalize ((y : List UInt8) == []) = q10
      generalize nm x = q8
      generalize vl y = q11
      cases q7 <;> cases q9 <;> cases q10 <;> cases q8 <;> cases q11 <;> rfl
    · have n1 : ((k : Int) != 1) = true := by simpa using k1
      simp only [n0, n1, bcond_if, beq_self_eq_true, if_true, Bool.and_true, cond_true]
end Go.Ev.Doc
namespace Go.Ev.Doc
open Go.Ev Go.Ev.Attr Go.Ev.Track Go.Ev.Delta
set_option linter.unusedVariables false
set_option linter.unusedSimpArgs false
set_option maxRecDepth 100000
theorem in_inB (x lo hi : Int) : C_R_In F_R_In x lo hi = some (ret_R_In (inB x lo hi)) := by
  rw [Go.Ev.Axis.in_eq]
  unfold inB
  congr 2
  by_cases h : lo ≤ x <;> by_cases g : x ≤ hi
  · rw [decide_eq_true h, decide_eq_true g, decide_eq_false (by omega), decide_eq_false (by omega)]; rfl
  · rw [decide_eq_true h, decide_eq_false g, decide_eq_false (by omega), decide_eq_true (by omega)]; rfl
  · rw [decide_eq_false h, decide_eq_true g, decide_eq_true (by omega), decide_eq_false (by omega)]; rfl
  · rw [decide_eq_false h, decide_eq_false g, decide_eq_true (by omega), decide_eq_true (by omega)]; rfl
theorem draw_step (n m1 : Nat) (l : List YDrawOp.den) (w : Int) (i : Nat) (hi : i < l.length) (hw : (i : Int) < w) (o : YDrawOp.den) (ho : at_ (e := YDrawOp) l (i : Int) = o) (h5 : (o.2.2.2.2.2.1 : Str).length ≤ 1048576) (h6 : (o.2.2.2.2.2.2.1 : Str).length ≤ 1048576) (h7 : (o.2.2.2.2.2.2.2 : Str).length ≤ 1048576) :
    L_R_DrawError_0 n (m1 + 1) l w (i : Int) = bcond (opE o != 0) (some (ret_R_DrawError (opE o))) (J_R_DrawError_0 n m1 l (i : Int) o w (i : Int)) := by
  rw [L_R_DrawError_0_step, ho]
  generalize hJ : J_R_DrawError_0 n m1 l (i : Int) o w (i : Int) = J
  have c1 : decide ((i : Int) < w) = true := decide_eq_true hw
  rw [c1, if_pos ((inb i l.length).2 hi)]
  clear hJ
  obtain ⟨a, b, k, c, d, p, x, y⟩ := o
  unfold opE
  dsimp only at h5 h6 h7 ⊢
  simp only [in_inB, Option.bind_some, res_R_In_0_ret, bcond_if, if_true]
  generalize inB a 1 1073741824 = q1
  generalize inB b 0 1000 = q2
  generalize inB c 1 1073741824 = q3
  by_cases k0 : (k : Int) = 0
  · have e0 : ((k : Int) == 0) = true := by rw [k0]; rfl
    have n0 : ((k : Int) != 0) = false := by rw [k0]; rfl
    simp only [e0, n0, rplace_eq p h5, in_inB, Option.bind_some, res_R_In_0_ret, res_R_Place_0_ret, Bool.false_eq_true, if_false, if_true, beq_self_eq_true, Bool.false_and, cond_false, cond_true]
    generalize inB d (-1) 1073741824 = q4
    generalize ((x : List UInt8) == []) = q9
    generalize ((y : List UInt8) == []) = q10
    generalize pl p = q11
    cases q1 <;> cases q2 <;> cases q3 <;> cases q9 <;> cases q10 <;> cases q4 <;> cases q11 <;> rfl
  · have e0 : ((k : Int) == 0) = false := by simpa using k0
    have n0 : ((k : Int) != 0) = true := by simpa using k0
    by_cases k1 : (k : Int) = 1
    · have n1 : ((k : Int) != 1) = false := by rw [k1]; rfl
      simp only [e0, n0, n1, rname_eq x h6, rvalue_eq y h7, Option.bind_some, res_R_Name_0_ret, res_R_Value_0_ret, Bool.false_eq_true, if_false, if_true, beq_self_eq_true, Bool.true_and, cond_false, cond_true]
      generalize ((d : Int) != 0) = q7
      generalize ((p : List UInt8) == []) = q9
      generalize ((y : List UInt8) == []) = q10
      generalize nm x = q8
      generalize vl y = q11
      cases q1 <;> cases q2 <;> cases q3 <;> cases q7 <;> cases q9 <;> cases q10 <;> cases q8 <;> cases q11 <;> rfl
    · have n1 : ((k : Int) != 1) = true := by simpa using k1
      simp only [n0, n1, beq_self_eq_true, if_true, Bool.and_true, cond_true]
      rfl
end Go.Ev.Doc
namespace Go.Ev.Doc
open Go.Ev Go.Ev.Attr Go.Ev.Track Go.Ev.Delta
set_option linter.unusedVariables false
set_option linter.unusedSimpArgs false
set_option maxRecDepth 100000
def Os (l : List YDrawOp.den) : Prop := ∀ o ∈ l, (o.2.2.2.2.2.1 : Str).length ≤ 1048576 ∧ (o.2.2.2.2.2.2.1 : Str).length ≤ 1048576 ∧ (o.2.2.2.2.2.2.2 : Str).length ≤ 1048576
/-- The error of the operations from the i-th one on. -/
noncomputable def drE (l : List YDrawOp.den) : Nat → Nat → Int
  | 0, _ => 0
  | d + 1, i => cond (opE (at_ (e := YDrawOp) l (i : Int)) != 0) (opE (at_ (e := YDrawOp) l (i : Int)))
    (cond (decide (0 < i) && !erl (at_ (e := YDrawOp) l ((i - 1 : Nat) : Int)) (at_ (e := YDrawOp) l (i : Int))) 5 (drE l d (i + 1)))
noncomputable def drawE (l : List YDrawOp.den) : Int := drE l l.length 0
theorem erl_int (x y z w k : Int) (h : k ≥ 0 ↔ y < x ∨ (y = x ∧ w ≤ z)) : decide (k ≥ 0) = !(decide (x < y) || ((x == y) && decide (z < w))) := by
  rw [Bool.eq_iff_iff]
  simp only [decide_eq_true_eq, h, Bool.not_eq_true', Bool.or_eq_false_iff, Bool.and_eq_false_iff, decide_eq_false_iff_not, beq_eq_false_iff_ne]
  omega
theorem erl_ge {a b : YDrawOp.den} {k : Int} (h : k ≥ 0 ↔ (b.1 : Int) < a.1 ∨ ((b.1 : Int) = a.1 ∧ (b.2.1 : Int) ≤ a.2.1)) : decide (k ≥ 0) = !erl a b := erl_int a.1 b.1 a.2.1 b.2.1 k h
theorem rs0 (k : Int) : res_replica_stamps_0 (ret_replica_stamps k) = k := id rfl
theorem draws_loop (l : List YDrawOp.den) (hs : Os l) (hl : l.length ≤ 1048576) (n n' : Nat) : ∀ (d i m m' : Nat), i + d = l.length → d < m → d < m' →
    L_replica_Check_0 n m l l (l.length : Int) i = some (ret_replica_Check (drE l d i)) ∧ L_R_DrawError_0 n' m' l (l.length : Int) i = some (ret_R_DrawError (drE l d i)) := by
  intro d
  induction d with
  | zero =>
    intro i m m' hi hm hm'
    cases m with
    | zero => omega
    | succ m =>
    cases m' with
    | zero => omega
    | succ m' =>
    have : i = l.length := by omega
    subst this
    have c1 : decide ((l.length : Int) < (l.length : Int)) = false := decide_eq_false (by omega)
    refine ⟨?_, ?_⟩
    · rw [L_replica_Check_0_step, c1]; rfl
    · rw [L_R_DrawError_0_step, c1]; rfl
  | succ d ih =>
    intro i m m' hi hm hm'
    cases m with
    | zero => omega
    | succ m =>
    cases m' with
    | zero => omega
    | succ m' =>
    have hil : i < l.length := by omega
    have c1 : decide ((i : Int) < (l.length : Int)) = true := decide_eq_true (by omega)
    have w1 : IntKind.i64.wrap ((i : Int) + 1) = ((i + 1 : Nat) : Int) := wnat (by omega) (by omega)
    obtain ⟨i1, i2⟩ := ih (i + 1) m m' (by omega) (by omega) (by omega)
    obtain ⟨o, ho⟩ : ∃ o, at_ (e := YDrawOp) l (i : Int) = o := ⟨_, rfl⟩
    have hm : o ∈ l := by rw [← ho, at_get l i hil]; exact List.getElem_mem hil
    obtain ⟨h5, h6, h7⟩ := hs o hm
    unfold drE
    rw [draw_step n' m' l _ i hil (by omega) o ho h5 h6 h7, L_replica_Check_0_step, c1, if_pos ((inb i l.length).2 hil), ho, op_eq o h5 h6 h7]
    unfold J_R_DrawError_0
    simp only [Option.bind_some, res_replica_op_0_ret, w1, i1, i2]
    by_cases h0 : i = 0
    · subst h0
      have d0 : decide (((0 : Nat) : Int) > 0) = false := rfl
      have d1 : decide (0 < 0) = false := rfl
      rw [d0, d1]
      generalize opE o = k
      cases (k != 0) <;> exact ⟨rfl, rfl⟩
    · have d0 : decide ((i : Int) > 0) = true := decide_eq_true (by omega)
      have d1 : decide (0 < i) = true := decide_eq_true (by omega)
      have w2 : IntKind.i64.wrap ((i : Int) - 1) = ((i - 1 : Nat) : Int) := wpred (by omega) hil (by omega)
      obtain ⟨k, hk, hg⟩ := stamps_ge (at_ (e := YDrawOp) l ((i - 1 : Nat) : Int)) o
      have eg := erl_ge hg
      have e1 : 0 ≤ ((i - 1 : Nat) : Int) ∧ ((i - 1 : Nat) : Int) < (l.length : Int) := (inb (i - 1) l.length).2 (by omega)
      rw [d0, d1, w2, hk, earlier_eq]
      simp only [if_pos e1, Option.bind_some, rs0, res_R_Earlier_0_ret, eg]
      generalize opE o = k
      generalize erl (at_ (e := YDrawOp) l ((i - 1 : Nat) : Int)) o = q
      cases (k != 0) <;> cases q <;> exact ⟨rfl, rfl⟩
theorem draws_eq (l : List YDrawOp.den) (hs : Os l) (hl : l.length ≤ 1048576) : C_replica_Check F_replica_Check l = some (ret_replica_Check (drawE l)) ∧ C_R_DrawError F_R_DrawError l = some (ret_R_DrawError (drawE l)) := by
  rw [e_replica_Check, e_R_DrawError]
  obtain ⟨m, hm⟩ := big_succ (n := 1048577) (by omega)
  exact draws_loop l hs hl big big l.length 0 big big (by omega) (by omega) (by omega)
end Go.Ev.Doc
