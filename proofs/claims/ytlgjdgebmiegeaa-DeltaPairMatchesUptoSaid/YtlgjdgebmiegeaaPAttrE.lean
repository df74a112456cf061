
/- Attributes: the plain side, fifth part: joining and rebasing changes; the law. -/
import Derived.Test.YtlgjdgebmiegeaaPAttrD
namespace Go.Ev.Attr
open Go.Ev
set_option linter.unusedVariables false
set_option linter.unusedSimpArgs false

def gBoth (x y : YAttr.den) : Attrs := if an y = [] then [x] else [y]
def gWo (x y : YAttr.den) : Attrs := if an y = [] then [x] else []
theorem both1 (x y : YAttr.den) (out : Attrs) (ho : out.length ≤ 4194304) : C_attr_Both_c1 F_attr_Both_c1 x y out = some (ret_attr_Both_c1 (out ++ gBoth x y)) := by
  rw [e_attr_Both_c1]
  have e1 : y.1 = an y := rfl
  simp only [bcond_if, e1]
  unfold gBoth
  rw [if_pos (show (out.length + [x].length) * 32 ≤ 140737488355328 by simp; omega), if_pos (show (out.length + [y].length) * 32 ≤ 140737488355328 by simp; omega)]
  by_cases h1 : an y = []
  · simp [h1]
  · simp [h1]
theorem wo1 (x y : YAttr.den) (out : Attrs) (ho : out.length ≤ 4194304) : C_attr_Without_c1 F_attr_Without_c1 x y out = some (ret_attr_Without_c1 (out ++ gWo x y)) := by
  rw [e_attr_Without_c1]
  have e1 : y.1 = an y := rfl
  simp only [bcond_if, e1]
  unfold gWo
  rw [if_pos (show (out.length + [x].length) * 32 ≤ 140737488355328 by simp; omega)]
  by_cases h1 : an y = []
  · simp [h1]
  · simp [h1]

theorem both115 (a b : Attrs) (ha : a.length ≤ 1048576) (hb : b.length ≤ 1048576) (n : Nat) : ∀ (d i j m : Nat) (out : Attrs), i ≤ a.length → j ≤ b.length → (a.length - i) + (b.length - j) = d → d < m → out.length ≤ i + j →
    L_attr_both_attr_Both_c1_0 n m a b i j out = some (ret_attr_both_attr_Both_c1 (out ++ flat1 gBoth (mrg (a.drop i) (b.drop j)))) := by
  have len1 : ∀ x y, (gBoth x y).length ≤ 1 := fun x y => by simp only [gBoth]; split; (· simp); (· first | (split <;> simp) | simp)
  intro d
  induction d using Nat.strongRecOn with
  | ind d ih0 =>
  have ih := fun i j m out hi hj (hd : (a.length - i) + (b.length - j) < d) => ih0 _ hd i j m out hi hj rfl
  cases d with
  | zero =>
    intro i j m out hi hj hd hm ho
    cases m with
    | zero => omega
    | succ m =>
    have h1 : i = a.length := by omega
    have h2 : j = b.length := by omega
    subst h1 h2
    have c1 : decide ((a.length : Int) < (a.length : Int)) = false := decide_eq_false (by omega)
    have c2 : decide ((b.length : Int) < (b.length : Int)) = false := decide_eq_false (by omega)
    rw [L_attr_both_attr_Both_c1_0_step, List.drop_length, List.drop_length, mrg]
    simp [bcond_if, c1, c2, flat1]
  | succ d =>
    intro i j m out hi hj hd hm ho
    cases m with
    | zero => omega
    | succ m =>
    have w1 : IntKind.i64.wrap ((i : Int) + 1) = ((i + 1 : Nat) : Int) := wnat (by omega) (by omega)
    have w2 : IntKind.i64.wrap ((j : Int) + 1) = ((j + 1 : Nat) : Int) := wnat (by omega) (by omega)
    have ex : at_ (e := YAttr) a (i : Int) = atA a i := rfl
    have ey : at_ (e := YAttr) b (j : Int) = atA b j := rfl
    have ez : (([], []) : YAttr.den) = nul := rfl
    have ex1 : (atA a i).1 = an (atA a i) := rfl
    have ey1 : (atA b j).1 = an (atA b j) := rfl
    rw [L_attr_both_attr_Both_c1_0_step]
    simp only [ex, ey, ex1, ey1, ez, both1 _ _ out (by omega), Option.bind_some, res_attr_Both_c1_0_ret, w1, w2, bcond_if, inb]
    by_cases p1 : i < a.length
    · have c1 : decide ((i : Int) < (a.length : Int)) = true := decide_eq_true (by omega)
      have c3 : ((i : Int) == (a.length : Int)) = false := beq_eq_false_iff_ne.2 (by omega)
      have ihx := ih (i + 1) j m (out ++ gBoth (atA a i) nul) (by omega) (by omega) (by omega) (by omega) (by have := len1 (atA a i) nul; simp; omega)
      by_cases p2 : j < b.length
      · have c2 : decide ((j : Int) < (b.length : Int)) = true := decide_eq_true (by omega)
        have c4 : ((j : Int) == (b.length : Int)) = false := beq_eq_false_iff_ne.2 (by omega)
        have ihy := ih i (j + 1) m (out ++ gBoth nul (atA b j)) (by omega) (by omega) (by omega) (by omega) (by have := len1 nul (atA b j); simp; omega)
        have ihz := ih (i + 1) (j + 1) m (out ++ gBoth (atA a i) (atA b j)) (by omega) (by omega) (by omega) (by omega) (by have := len1 (atA a i) (atA b j); simp; omega)
        rw [drop_attr a p1] at ihy ⊢
        rw [drop_attr b p2] at ihx ⊢
        rw [mrg]
        simp only [c1, c2, c3, c4, p1, p2, if_true, beq_self_eq_true, Bool.true_eq_false, Bool.false_eq_true, if_false, show ((true : Bool) == false) = false from rfl]
        cases s1 : strLess (an (atA a i)) (an (atA b j)) with
        | true => simp only [if_true]; rw [ihx, flat1, List.append_assoc]
        | false =>
          simp only [Bool.false_eq_true, if_false]
          cases s2 : strLess (an (atA b j)) (an (atA a i)) with
          | true => simp only [if_true]; rw [ihy, flat1, List.append_assoc]
          | false =>
            simp only [Bool.false_eq_true, if_false]
            rw [ihz, flat1, List.append_assoc]
      · have h2 : j = b.length := by omega
        subst h2
        have c2 : decide ((b.length : Int) < (b.length : Int)) = false := decide_eq_false (by omega)
        have c4 : ((b.length : Int) == (b.length : Int)) = true := by simp
        rw [List.drop_length] at ihx ⊢
        rw [drop_attr a p1, mrg]
        simp only [c1, c2, c3, c4, p1, if_true, beq_self_eq_true, Bool.false_eq_true, if_false, show ((true : Bool) == false) = false from rfl]
        rw [ihx, flat1, List.append_assoc]
    · have h1 : i = a.length := by omega
      subst h1
      have p2 : j < b.length := by omega
      have c1 : decide ((a.length : Int) < (a.length : Int)) = false := decide_eq_false (by omega)
      have c3 : ((a.length : Int) == (a.length : Int)) = true := by simp
      have c2 : decide ((j : Int) < (b.length : Int)) = true := decide_eq_true (by omega)
      have c4 : ((j : Int) == (b.length : Int)) = false := beq_eq_false_iff_ne.2 (by omega)
      have ihy := ih a.length (j + 1) m (out ++ gBoth nul (atA b j)) (by omega) (by omega) (by omega) (by omega) (by have := len1 nul (atA b j); simp; omega)
      rw [List.drop_length] at ihy ⊢
      rw [drop_attr b p2, mrg]
      simp only [c1, c2, c3, c4, p2, if_true, beq_self_eq_true, Bool.false_eq_true, if_false, show ((true : Bool) == false) = false from rfl, show ((false : Bool) == true) = false from rfl]
      rw [ihy, flat1, List.append_assoc]

theorem both116 (a b : Attrs) (ha : a.length ≤ 1048576) (hb : b.length ≤ 1048576) (n : Nat) : ∀ (d i j m : Nat) (out : Attrs), i ≤ a.length → j ≤ b.length → (a.length - i) + (b.length - j) = d → d < m → out.length ≤ i + j →
    L_attr_both_attr_Without_c1_0 n m a b i j out = some (ret_attr_both_attr_Without_c1 (out ++ flat1 gWo (mrg (a.drop i) (b.drop j)))) := by
  have len1 : ∀ x y, (gWo x y).length ≤ 1 := fun x y => by simp only [gWo]; split; (· simp); (· first | (split <;> simp) | simp)
  intro d
  induction d using Nat.strongRecOn with
  | ind d ih0 =>
  have ih := fun i j m out hi hj (hd : (a.length - i) + (b.length - j) < d) => ih0 _ hd i j m out hi hj rfl
  cases d with
  | zero =>
    intro i j m out hi hj hd hm ho
    cases m with
    | zero => omega
    | succ m =>
    have h1 : i = a.length := by omega
    have h2 : j = b.length := by omega
    subst h1 h2
    have c1 : decide ((a.length : Int) < (a.length : Int)) = false := decide_eq_false (by omega)
    have c2 : decide ((b.length : Int) < (b.length : Int)) = false := decide_eq_false (by omega)
    rw [L_attr_both_attr_Without_c1_0_step, List.drop_length, List.drop_length, mrg]
    simp [bcond_if, c1, c2, flat1]
  | succ d =>
    intro i j m out hi hj hd hm ho
    cases m with
    | zero => omega
    | succ m =>
    have w1 : IntKind.i64.wrap ((i : Int) + 1) = ((i + 1 : Nat) : Int) := wnat (by omega) (by omega)
    have w2 : IntKind.i64.wrap ((j : Int) + 1) = ((j + 1 : Nat) : Int) := wnat (by omega) (by omega)
    have ex : at_ (e := YAttr) a (i : Int) = atA a i := rfl
    have ey : at_ (e := YAttr) b (j : Int) = atA b j := rfl
    have ez : (([], []) : YAttr.den) = nul := rfl
    have ex1 : (atA a i).1 = an (atA a i) := rfl
    have ey1 : (atA b j).1 = an (atA b j) := rfl
    rw [L_attr_both_attr_Without_c1_0_step]
    simp only [ex, ey, ex1, ey1, ez, wo1 _ _ out (by omega), Option.bind_some, res_attr_Without_c1_0_ret, w1, w2, bcond_if, inb]
    by_cases p1 : i < a.length
    · have c1 : decide ((i : Int) < (a.length : Int)) = true := decide_eq_true (by omega)
      have c3 : ((i : Int) == (a.length : Int)) = false := beq_eq_false_iff_ne.2 (by omega)
      have ihx := ih (i + 1) j m (out ++ gWo (atA a i) nul) (by omega) (by omega) (by omega) (by omega) (by have := len1 (atA a i) nul; simp; omega)
      by_cases p2 : j < b.length
      · have c2 : decide ((j : Int) < (b.length : Int)) = true := decide_eq_true (by omega)
        have c4 : ((j : Int) == (b.length : Int)) = false := beq_eq_false_iff_ne.2 (by omega)
        have ihy := ih i (j + 1) m (out ++ gWo nul (atA b j)) (by omega) (by omega) (by omega) (by omega) (by have := len1 nul (atA b j); simp; omega)
        have ihz := ih (i + 1) (j + 1) m (out ++ gWo (atA a i) (atA b j)) (by omega) (by omega) (by omega) (by omega) (by have := len1 (atA a i) (atA b j); simp; omega)
        rw [drop_attr a p1] at ihy ⊢
        rw [drop_attr b p2] at ihx ⊢
        rw [mrg]
        simp only [c1, c2, c3, c4, p1, p2, if_true, beq_self_eq_true, Bool.true_eq_false, Bool.false_eq_true, if_false, show ((true : Bool) == false) = false from rfl]
        cases s1 : strLess (an (atA a i)) (an (atA b j)) with
        | true => simp only [if_true]; rw [ihx, flat1, List.append_assoc]
        | false =>
          simp only [Bool.false_eq_true, if_false]
          cases s2 : strLess (an (atA b j)) (an (atA a i)) with
          | true => simp only [if_true]; rw [ihy, flat1, List.append_assoc]
          | false =>
            simp only [Bool.false_eq_true, if_false]
            rw [ihz, flat1, List.append_assoc]
      · have h2 : j = b.length := by omega
        subst h2
        have c2 : decide ((b.length : Int) < (b.length : Int)) = false := decide_eq_false (by omega)
        have c4 : ((b.length : Int) == (b.length : Int)) = true := by simp
        rw [List.drop_length] at ihx ⊢
        rw [drop_attr a p1, mrg]
        simp only [c1, c2, c3, c4, p1, if_true, beq_self_eq_true, Bool.false_eq_true, if_false, show ((true : Bool) == false) = false from rfl]
        rw [ihx, flat1, List.append_assoc]
    · have h1 : i = a.length := by omega
      subst h1
      have p2 : j < b.length := by omega
      have c1 : decide ((a.length : Int) < (a.length : Int)) = false := decide_eq_false (by omega)
      have c3 : ((a.length : Int) == (a.length : Int)) = true := by simp
      have c2 : decide ((j : Int) < (b.length : Int)) = true := decide_eq_true (by omega)
      have c4 : ((j : Int) == (b.length : Int)) = false := beq_eq_false_iff_ne.2 (by omega)
      have ihy := ih a.length (j + 1) m (out ++ gWo nul (atA b j)) (by omega) (by omega) (by omega) (by omega) (by have := len1 nul (atA b j); simp; omega)
      rw [List.drop_length] at ihy ⊢
      rw [drop_attr b p2, mrg]
      simp only [c1, c2, c3, c4, p2, if_true, beq_self_eq_true, Bool.false_eq_true, if_false, show ((true : Bool) == false) = false from rfl, show ((false : Bool) == true) = false from rfl]
      rw [ihy, flat1, List.append_assoc]

def joined (a b : Attrs) : Attrs := flat1 gBoth (mrg a b)
def without (a b : Attrs) : Attrs := flat1 gWo (mrg a b)
theorem joined_eq (l c : Attrs) (hl : l.length ≤ 1048576) (hc : c.length ≤ 1048576) : C_attr_Both F_attr_Both l c = some (ret_attr_Both (joined l c)) := by
  obtain ⟨m, hm⟩ := big_succ (n := 4194304) (by omega)
  have := both115 l c hl hc big (l.length + c.length) 0 0 big [] (by omega) (by omega) (by omega) (by omega) (by simp)
  rw [e_attr_Both, e_attr_both_attr_Both_c1]
  simp only [List.drop_zero, List.nil_append] at this
  rw [show (0 : Int) = ((0 : Nat) : Int) from rfl, this]
  rfl
theorem without_eq (l c : Attrs) (hl : l.length ≤ 1048576) (hc : c.length ≤ 1048576) : C_attr_Without F_attr_Without l c = some (ret_attr_Without (without l c)) := by
  obtain ⟨m, hm⟩ := big_succ (n := 4194304) (by omega)
  have := both116 l c hl hc big (l.length + c.length) 0 0 big [] (by omega) (by omega) (by omega) (by omega) (by simp)
  rw [e_attr_Without, e_attr_both_attr_Without_c1]
  simp only [List.drop_zero, List.nil_append] at this
  rw [show (0 : Int) = ((0 : Nat) : Int) from rfl, this]
  rfl
theorem put_loop (l : Attrs) (hl : l.length ≤ 1048576) (nn vv : Str) (n : Nat) : ∀ (d i m : Nat) (out : Attrs) (done : Bool), i + d = l.length → d < m → out.length ≤ 2 * i →
    L_R_put_0 n m l nn vv out done (l.length : Int) i = some (ret_R_put (out ++ putL (mkA nn vv) done (l.drop i))) := by
  have ea : ((nn, vv) : YAttr.den) = mkA nn vv := rfl
  intro d
  induction d with
  | zero =>
    intro i m out done hi hm ho
    cases m with
    | zero => omega
    | succ m =>
    have : i = l.length := by omega
    subst this
    have c1 : decide ((l.length : Int) < (l.length : Int)) = false := decide_eq_false (by omega)
    rw [L_R_put_0_step, List.drop_length]
    simp only [bcond_if, c1, Bool.false_eq_true, if_false, ea, putL]
    rw [if_pos (show (out.length + [mkA nn vv].length) * 32 ≤ 140737488355328 by simp; omega)]
    cases done <;> simp
  | succ d ih =>
    intro i m out done hi hm ho
    cases m with
    | zero => omega
    | succ m =>
    have hil : i < l.length := by omega
    have c1 : decide ((i : Int) < (l.length : Int)) = true := decide_eq_true (by omega)
    have w1 : IntKind.i64.wrap ((i : Int) + 1) = ((i + 1 : Nat) : Int) := wnat (by omega) (by omega)
    have ex : at_ (e := YAttr) l (i : Int) = atA l i := rfl
    have ex1 : (atA l i).1 = an (atA l i) := rfl
    rw [L_R_put_0_step, drop_attr l hil]
    simp only [bcond_if, inb, hil, c1, if_true, w1, ex, ex1, ea, putL, an_mk]
    generalize atA l i = x
    have q : out.length ≤ 2097152 := by omega
    have b3 : ((out ++ [mkA nn vv]).length + [x].length) * 32 ≤ 140737488355328 := by
      rw [List.length_append]
      exact Nat.le_trans (Nat.mul_le_mul_right 32 (Nat.add_le_add_right (Nat.add_le_add_right q 1) 1)) (by decide)
    have b1 : (out.length + [mkA nn vv].length) * 32 ≤ 140737488355328 := Nat.le_trans (Nat.mul_le_mul_right 32 (Nat.add_le_add_right q 1)) (by decide)
    have b2 : (out.length + [x].length) * 32 ≤ 140737488355328 := Nat.le_trans (Nat.mul_le_mul_right 32 (Nat.add_le_add_right q 1)) (by decide)
    simp only [b1, b2, b3, if_true]
    have i1 := ih (i + 1) m (out ++ [mkA nn vv] ++ [x]) true (by omega) (by omega) (by simp; omega)
    have i2 := ih (i + 1) m (out ++ [mkA nn vv]) true (by omega) (by omega) (by simp; omega)
    have i3 := fun done => ih (i + 1) m (out ++ [x]) done (by omega) (by omega) (by simp; omega)
    have i4 := fun done => ih (i + 1) m out done (by omega) (by omega) (by omega)
    simp only [i1, i2, i3, i4]
    rcases Bool.eq_false_or_eq_true (strLess (an x) nn) with hs | hs <;> simp only [hs] <;> cases done <;> by_cases h : an x = nn <;> simp [h]
theorem put_eq (l : Attrs) (hl : l.length ≤ 1048576) (a : YAttr.den) : C_R_put F_R_put l a = some (ret_R_put (putL a false l)) := by
  obtain ⟨m, hm⟩ := big_succ (n := 1048577) (by omega)
  rw [e_R_put]
  change L_R_put_0 big big l (an a) (av a) [] false (l.length : Int) 0 = _
  have ea : mkA (an a) (av a) = a := rfl
  have := put_loop l hl (an a) (av a) big l.length 0 big [] false (by omega) (by omega) (by simp)
  simpa [ea] using this
theorem put_len (a : YAttr.den) : ∀ (l : Attrs) (done : Bool), (putL a done l).length ≤ l.length + (if done = true then 0 else 1)
  | [], done => by cases done <;> simp [putL]
  | x :: l, done => by
    have ih := put_len a l (done || !strLess (an x) (an a))
    simp only [putL, List.length_append, List.length_cons]
    cases done <;> cases h : strLess (an x) (an a) <;> rw [h] at ih <;> by_cases h2 : an x = an a <;> simp [h2] at ih ⊢ <;> omega

theorem joined_loop2 (b : Attrs) (hb : b.length ≤ 1048576) (n : Nat) : ∀ (d i m : Nat) (out : Attrs), i + d = b.length → d < m → out.length + d ≤ 1048576 → L_R_Joined_1a n m b out (b.length : Int) i = some (ret_R_Joined (puts out (b.drop i))) := by
  intro d
  induction d with
  | zero =>
    intro i m out hi hm ho
    cases m with
    | zero => omega
    | succ m =>
    have : i = b.length := by omega
    subst this
    have c1 : decide ((b.length : Int) < (b.length : Int)) = false := decide_eq_false (by omega)
    rw [L_R_Joined_1a_step, List.drop_length]
    simp [bcond_if, c1, puts]
  | succ d ih =>
    intro i m out hi hm ho
    cases m with
    | zero => omega
    | succ m =>
    have hil : i < b.length := by omega
    have c1 : decide ((i : Int) < (b.length : Int)) = true := decide_eq_true (by omega)
    have w1 : IntKind.i64.wrap ((i : Int) + 1) = ((i + 1 : Nat) : Int) := wnat (by omega) (by omega)
    have ex : at_ (e := YAttr) b (i : Int) = atA b i := rfl
    have hp := put_len (atA b i) out false
    simp at hp
    rw [L_R_Joined_1a_step, drop_attr b hil]
    simp only [bcond_if, inb, hil, c1, if_true, w1, ex, put_eq out (by omega) _, Option.bind_some, res_R_put_0_ret, puts]
    exact ih (i + 1) m _ (by omega) (by omega) (by omega)
theorem joined_start2 (b : Attrs) (hb : b.length ≤ 1048576) (n m : Nat) (hm : 1048577 < m) : L_R_Joined_1 n m b (b.length : Int) 0 = some (ret_R_Joined (puts [] b)) := by
  obtain ⟨m, rfl⟩ : ∃ k, m = k + 1 := ⟨m - 1, by omega⟩
  rw [L_R_Joined_1_step]
  cases b with
  | nil => rfl
  | cons y b =>
    have c1 : decide ((0 : Int) < ((y :: b).length : Int)) = true := decide_eq_true (by simp only [List.length_cons]; omega)
    have e1 : (0 ≤ (0 : Int) ∧ (0 : Int) < ((y :: b).length : Int)) := ⟨by omega, by simp only [List.length_cons]; omega⟩
    have w1 : IntKind.i64.wrap ((0 : Int) + 1) = ((1 : Nat) : Int) := rfl
    have ex : at_ (e := YAttr) (y :: b) (0 : Int) = y := rfl
    simp only [bcond_if, c1, e1, and_self, if_true, w1, ex, put_eq [] (by simp) _, Option.bind_some, res_R_put_0_ret]
    have hp := put_len y [] false
    simp at hp
    have := joined_loop2 (y :: b) hb n b.length 1 m (putL y false []) (by simp; omega) (by simp at hb; omega) (by simp at hb; omega)
    rw [this]; rfl
theorem joined_loop1 (a b : Attrs) (ha : a.length ≤ 1048576) (hb : b.length ≤ 1048576) (hab : a.length + b.length ≤ 1048576) (n : Nat) (hn : 1048577 < n) : ∀ (d i m : Nat) (out : Attrs), i + d = a.length → d < m → out.length + d ≤ a.length → L_R_Joined_0a n m a b out (a.length : Int) i = some (ret_R_Joined (puts (puts out (a.drop i)) b)) := by
  intro d
  induction d with
  | zero =>
    intro i m out hi hm ho
    cases m with
    | zero => omega
    | succ m =>
    have : i = a.length := by omega
    subst this
    have c1 : decide ((a.length : Int) < (a.length : Int)) = false := decide_eq_false (by omega)
    rw [L_R_Joined_0a_step, List.drop_length]
    simp only [bcond_if, c1, Bool.false_eq_true, if_false, puts]
    have := joined_loop2 b hb n b.length 0 n out (by omega) (by omega) (by omega)
    simpa using this
  | succ d ih =>
    intro i m out hi hm ho
    cases m with
    | zero => omega
    | succ m =>
    have hil : i < a.length := by omega
    have c1 : decide ((i : Int) < (a.length : Int)) = true := decide_eq_true (by omega)
    have w1 : IntKind.i64.wrap ((i : Int) + 1) = ((i + 1 : Nat) : Int) := wnat (by omega) (by omega)
    have ex : at_ (e := YAttr) a (i : Int) = atA a i := rfl
    have hp := put_len (atA a i) out false
    simp at hp
    rw [L_R_Joined_0a_step, drop_attr a hil]
    simp only [bcond_if, inb, hil, c1, if_true, w1, ex, put_eq out (by omega) _, Option.bind_some, res_R_put_0_ret, puts]
    exact ih (i + 1) m _ (by omega) (by omega) (by omega)
theorem rjoined_eq (a b : Attrs) (hab : a.length + b.length ≤ 1048576) : C_R_Joined F_R_Joined a b = some (ret_R_Joined (puts (puts [] a) b)) := by
  obtain ⟨m, hm⟩ := big_succ (n := 1048578) (by omega)
  obtain ⟨m2, hm2⟩ : ∃ m2, big = m2 + 1 := ⟨big - 1, by omega⟩
  have st := L_R_Joined_0_step big m2 a b (a.length : Int) 0
  rw [← hm2] at st
  rw [e_R_Joined, st]
  cases a with
  | nil => exact joined_start2 b (by simpa using hab) big big (by omega)
  | cons y a =>
    have c1 : decide ((0 : Int) < ((y :: a).length : Int)) = true := decide_eq_true (by simp only [List.length_cons]; omega)
    have e1 : (0 ≤ (0 : Int) ∧ (0 : Int) < ((y :: a).length : Int)) := ⟨by omega, by simp only [List.length_cons]; omega⟩
    have w1 : IntKind.i64.wrap ((0 : Int) + 1) = ((1 : Nat) : Int) := rfl
    have ex : at_ (e := YAttr) (y :: a) (0 : Int) = y := rfl
    simp only [bcond_if, c1, e1, and_self, if_true, w1, ex, put_eq [] (by simp) _, Option.bind_some, res_R_put_0_ret]
    have hp := put_len y [] false
    simp at hp
    have := joined_loop1 (y :: a) b (by simp at hab ⊢; omega) (by omega) hab big (by omega) a.length 1 m2 (putL y false []) (by simp; omega) (by simp at hab; omega) (by simp; omega)
    rw [this]; rfl

def has (s : Str) : Attrs → Bool
  | [] => false
  | a :: l => if an a = s then true else has s l
theorem has_iff (s : Str) : ∀ l : Attrs, has s l = true ↔ ∃ a ∈ l, an a = s
  | [] => by simp [has]
  | a :: l => by
    have ih := has_iff s l
    simp only [has]
    split
    · rename_i h; simp [h]
    · rename_i h; rw [ih]; simp [h]
theorem has_loop (l : Attrs) (hl : l.length ≤ 1048576) (s : Str) (n : Nat) : ∀ (d i m : Nat), i + d = l.length → d < m → L_R_Has_0 n m l s (l.length : Int) i = some (ret_R_Has (has s (l.drop i))) := by
  intro d
  induction d with
  | zero =>
    intro i m hi hm
    cases m with
    | zero => omega
    | succ m =>
    have : i = l.length := by omega
    subst this
    have c1 : decide ((l.length : Int) < (l.length : Int)) = false := decide_eq_false (by omega)
    rw [L_R_Has_0_step, List.drop_length]
    simp [bcond_if, c1, has]
  | succ d ih =>
    intro i m hi hm
    cases m with
    | zero => omega
    | succ m =>
    have hil : i < l.length := by omega
    have c1 : decide ((i : Int) < (l.length : Int)) = true := decide_eq_true (by omega)
    have w1 : IntKind.i64.wrap ((i : Int) + 1) = ((i + 1 : Nat) : Int) := wnat (by omega) (by omega)
    have e1 : (at_ (e := YAttr) l (i : Int)).1 = an (atA l i) := rfl
    rw [L_R_Has_0_step, drop_attr l hil]
    simp only [bcond_if, inb, hil, c1, if_true, w1, e1, has, ih (i + 1) m (by omega) (by omega)]
    by_cases h : an (atA l i) = s
    · simp [h]
    · simp [h]
theorem has_eq (l : Attrs) (hl : l.length ≤ 1048576) (s : Str) : C_R_Has F_R_Has l s = some (ret_R_Has (has s l)) := by
  obtain ⟨m, hm⟩ := big_succ (n := 1048577) (by omega)
  rw [e_R_Has]
  have := has_loop l hl s big l.length 0 big (by omega) (by omega)
  simpa using this
def lack (b : Attrs) : Attrs → Attrs
  | [] => []
  | x :: a => if has (an x) b = true then lack b a else x :: lack b a
theorem lack_mem (b : Attrs) : ∀ (a : Attrs) x, x ∈ lack b a ↔ x ∈ a ∧ has (an x) b = false
  | [], x => by simp [lack]
  | y :: a, x => by
    have ih := lack_mem b a x
    simp only [lack]
    split
    · rename_i h; rw [ih]; simp only [List.mem_cons]; constructor
      · exact fun q => ⟨.inr q.1, q.2⟩
      · rintro ⟨rfl | q, r⟩
        · rw [h] at r; cases r
        · exact ⟨q, r⟩
    · rename_i h
      have h : has (an y) b = false := by simpa using h
      simp only [List.mem_cons, ih]; constructor
      · rintro (rfl | q)
        · exact ⟨.inl rfl, h⟩
        · exact ⟨.inr q.1, q.2⟩
      · rintro ⟨rfl | q, r⟩
        · exact .inl rfl
        · exact .inr ⟨q, r⟩
theorem lack_srt (b : Attrs) : ∀ (a : Attrs), Srt a → Srt (lack b a)
  | [], _ => trivial
  | y :: a, h => by
    simp only [lack]
    split
    · exact lack_srt b a h.2
    · exact ⟨fun x hx => h.1 x ((lack_mem b a x).1 hx).1, lack_srt b a h.2⟩
theorem lack_loop (a b : Attrs) (ha : a.length ≤ 1048576) (hb : b.length ≤ 1048576) (n : Nat) : ∀ (d i m : Nat) (out : Attrs), i + d = a.length → d < m → out.length ≤ i → L_R_Lacking_0 n m a b out (a.length : Int) i = some (ret_R_Lacking (out ++ lack b (a.drop i))) := by
  intro d
  induction d with
  | zero =>
    intro i m out hi hm ho
    cases m with
    | zero => omega
    | succ m =>
    have : i = a.length := by omega
    subst this
    have c1 : decide ((a.length : Int) < (a.length : Int)) = false := decide_eq_false (by omega)
    rw [L_R_Lacking_0_step, List.drop_length]
    simp [bcond_if, c1, lack]
  | succ d ih =>
    intro i m out hi hm ho
    cases m with
    | zero => omega
    | succ m =>
    have hil : i < a.length := by omega
    have c1 : decide ((i : Int) < (a.length : Int)) = true := decide_eq_true (by omega)
    have w1 : IntKind.i64.wrap ((i : Int) + 1) = ((i + 1 : Nat) : Int) := wnat (by omega) (by omega)
    have ex : at_ (e := YAttr) a (i : Int) = atA a i := rfl
    have e1 : (atA a i).1 = an (atA a i) := rfl
    rw [L_R_Lacking_0_step, drop_attr a hil]
    simp only [bcond_if, inb, hil, c1, if_true, w1, ex, e1, has_eq b hb _, Option.bind_some, res_R_Has_0_ret, lack]
    have b1 : (out.length + [atA a i].length) * 32 ≤ 140737488355328 := by simp; omega
    simp only [b1, if_true]
    have i1 := ih (i + 1) m (out ++ [atA a i]) (by omega) (by omega) (by simp; omega)
    have i2 := ih (i + 1) m out (by omega) (by omega) (by omega)
    rw [i1, i2]
    cases has (an (atA a i)) b <;> simp
theorem lack_eq (a b : Attrs) (ha : a.length ≤ 1048576) (hb : b.length ≤ 1048576) : C_R_Lacking F_R_Lacking a b = some (ret_R_Lacking (lack b a)) := by
  obtain ⟨m, hm⟩ := big_succ (n := 1048577) (by omega)
  rw [e_R_Lacking]
  have := lack_loop a b ha hb big a.length 0 big [] (by omega) (by omega) (by simp)
  simpa using this

theorem nm_ne {s : Str} (h : nm s = true) : s ≠ [] := by rintro rfl; cases h
theorem valid (emp : Bool) {l : Attrs} (h : err emp l = 0) : Srt l ∧ Nms l ∧ ∀ x ∈ l, vl (av x) = true ∨ emp = true ∧ av x = [] := by
  obtain ⟨s, k⟩ := err_srt emp l none h
  exact ⟨s, fun x hx => nm_ne (k x hx).1, fun x hx => (k x hx).2.1⟩
theorem joined_puts {a b : Attrs} (ha : err true a = 0) (hb : err true b = 0) : joined a b = puts (puts [] a) b := by
  obtain ⟨sa, na, _⟩ := valid true ha
  obtain ⟨sb, nb, _⟩ := valid true hb
  have e0 : an nul = [] := rfl
  have g0 : ∀ p : YAttr.den × YAttr.den, gBoth p.1 p.2 = [] ∨ ∃ z, gBoth p.1 p.2 = [z] ∧ an z = key p := fun p => by
    right
    unfold gBoth key
    by_cases h : an p.2 = []
    · exact ⟨p.1, by simp [h], by simp [h]⟩
    · exact ⟨p.2, by simp [h], by simp [h]⟩
  obtain ⟨s1, m1⟩ := flat_srt gBoth g0 (mrg a b) (mrg_ks a b sa sb na nb)
  refine srt_ext s1 (puts_srt b _ (puts_srt a [] trivial)) (fun x => ?_)
  have pm := mrg_mem a b sa sb
  rw [show x ∈ joined a b ↔ _ from m1 x, puts_mem b _ sb, puts_mem a [] sa]
  constructor
  · rintro ⟨p, hp, hx⟩
    unfold gBoth at hx
    rcases (pm p).1 hp with ⟨e1, e2, e3⟩ | ⟨e1, e2, e3⟩ | ⟨e1, e2, e3⟩
    · rw [e1, if_pos e0] at hx
      have : x = p.1 := by simpa using hx
      subst this
      exact .inr ⟨.inl e2, e3⟩
    · rw [if_neg (nb _ e2)] at hx
      have : x = p.2 := by simpa using hx
      subst this
      exact .inl e2
    · rw [if_neg (nb _ e2)] at hx
      have : x = p.2 := by simpa using hx
      subst this
      exact .inl e2
  · rintro (h | ⟨h | ⟨h, _⟩, h2⟩)
    · by_cases hc : ∃ y ∈ a, an y = an x
      · obtain ⟨y, hy, e⟩ := hc
        exact ⟨(y, x), (pm _).2 (.inr (.inr ⟨hy, h, e⟩)), by unfold gBoth; rw [if_neg (nb _ h)]; simp⟩
      · exact ⟨(nul, x), (pm _).2 (.inr (.inl ⟨rfl, h, fun y hy e => hc ⟨y, hy, e⟩⟩)), by unfold gBoth; rw [if_neg (nb _ h)]; simp⟩
    · exact ⟨(x, nul), (pm _).2 (.inl ⟨rfl, h, h2⟩), by unfold gBoth; rw [if_pos e0]; simp⟩
    · simp at h
theorem without_lack {a b : Attrs} (ha : err true a = 0) (hb : err true b = 0) : without a b = lack b a := by
  obtain ⟨sa, na, _⟩ := valid true ha
  obtain ⟨sb, nb, _⟩ := valid true hb
  have e0 : an nul = [] := rfl
  have g0 : ∀ p : YAttr.den × YAttr.den, gWo p.1 p.2 = [] ∨ ∃ z, gWo p.1 p.2 = [z] ∧ an z = key p := fun p => by
    unfold gWo key
    by_cases h : an p.2 = []
    · right; exact ⟨p.1, by simp [h], by simp [h]⟩
    · left; simp [h]
  obtain ⟨s1, m1⟩ := flat_srt gWo g0 (mrg a b) (mrg_ks a b sa sb na nb)
  refine srt_ext s1 (lack_srt b a sa) (fun x => ?_)
  have pm := mrg_mem a b sa sb
  rw [show x ∈ without a b ↔ _ from m1 x, lack_mem]
  have hf : has (an x) b = false ↔ ∀ y ∈ b, an y ≠ an x := by
    constructor
    · intro h y hy e
      have := (has_iff (an x) b).2 ⟨y, hy, e⟩
      rw [h] at this; cases this
    · intro h
      cases hc : has (an x) b with
      | false => rfl
      | true => obtain ⟨y, hy, e⟩ := (has_iff (an x) b).1 hc; exact absurd e (h y hy)
  rw [hf]
  constructor
  · rintro ⟨p, hp, hx⟩
    unfold gWo at hx
    rcases (pm p).1 hp with ⟨e1, e2, e3⟩ | ⟨e1, e2, e3⟩ | ⟨e1, e2, e3⟩
    · rw [e1, if_pos e0] at hx
      have : x = p.1 := by simpa using hx
      subst this
      exact ⟨e2, e3⟩
    · rw [if_neg (nb _ e2)] at hx; simp at hx
    · rw [if_neg (nb _ e2)] at hx; simp at hx
  · rintro ⟨h, h2⟩
    exact ⟨(x, nul), (pm _).2 (.inl ⟨rfl, h, h2⟩), by unfold gWo; rw [if_pos e0]; simp⟩

theorem flat_len (g : YAttr.den → YAttr.den → Attrs) (h : ∀ x y, (g x y).length ≤ 1) : ∀ l, (flat1 g l).length ≤ l.length
  | [] => by simp [flat1]
  | p :: l => by
    have := flat_len g h l
    have := h p.1 p.2
    simp only [flat1, List.length_append, List.length_cons]; omega
theorem mrg_len (a b : Attrs) : (mrg a b).length ≤ a.length + b.length := by
  induction a, b using mrg.induct with
  | case1 => rw [mrg]; simp
  | case2 x a ih => rw [mrg]; simp only [List.length_cons] at *; omega
  | case3 y b ih => rw [mrg]; simp only [List.length_cons] at *; omega
  | case4 x a y b h ih => rw [mrg, if_pos h]; simp only [List.length_cons] at *; omega
  | case5 x a y b h1 h ih => rw [mrg, if_neg h1, if_pos h]; simp only [List.length_cons] at *; omega
  | case6 x a y b h1 h ih => rw [mrg, if_neg h1, if_neg h]; simp only [List.length_cons] at *; omega

end Go.Ev.Attr
