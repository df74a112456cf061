
/- Attributes: the plain side, sixth part: changing, undoing, what lies between; the laws. -/
import Derived.Test.YtlgjdgebmiegeaaPAttrE
namespace Go.Ev.Attr
open Go.Ev
set_option linter.unusedVariables false
set_option linter.unusedSimpArgs false

def gChg (x y : YAttr.den) : Attrs := if an y = [] then [mkA (an x) []] else if x = y then [] else [y]
theorem chg1 (x y : YAttr.den) (out : Attrs) (ho : out.length ≤ 4194304) : C_attr_Change_c1 F_attr_Change_c1 x y out = some (ret_attr_Change_c1 (out ++ gChg x y)) := by
  rw [e_attr_Change_c1]
  have e1 : y.1 = an y := rfl
  have e2 : y.2 = av y := rfl
  have e3 : x.1 = an x := rfl
  have e4 : x.2 = av x := rfl
  have e5 : ((an x, []) : YAttr.den) = mkA (an x) [] := rfl
  simp only [bcond_if, e1, e2, e3, e4, e5]
  unfold gChg
  rw [if_pos (show (out.length + [mkA (an x) []].length) * 32 ≤ 140737488355328 from Nat.le_trans (Nat.mul_le_mul_right 32 (Nat.add_le_add_right ho 1)) (by decide)), if_pos (show (out.length + [y].length) * 32 ≤ 140737488355328 from Nat.le_trans (Nat.mul_le_mul_right 32 (Nat.add_le_add_right ho 1)) (by decide))]
  by_cases h1 : an y = []
  · simp [h1]
  · by_cases h2 : x = y
    · subst h2; simp [h1]
    · have : ¬ (an x = an y ∧ av x = av y) := fun h => h2 (attr_ext h.1 h.2)
      by_cases h3 : an x = an y
      · have h4 : ¬ av x = av y := fun h => this ⟨h3, h⟩
        simp [h1, h2, h3, h4]
      · simp [h1, h2, h3]

theorem both111 (a b : Attrs) (ha : a.length ≤ 1048576) (hb : b.length ≤ 1048576) (n : Nat) : ∀ (d i j m : Nat) (out : Attrs), i ≤ a.length → j ≤ b.length → (a.length - i) + (b.length - j) = d → d < m → out.length ≤ i + j →
    L_attr_both_attr_Change_c1_0 n m a b i j out = some (ret_attr_both_attr_Change_c1 (out ++ flat1 gChg (mrg (a.drop i) (b.drop j)))) := by
  have len1 : ∀ x y, (gChg x y).length ≤ 1 := fun x y => by simp only [gChg]; split; (· simp); (· first | (split <;> simp) | simp)
  intro d
  induction d using Nat.strongRecOn with
  | ind d ih0 =>
  have ih := fun i j m out hi hj (hd : (a.length - i) + (b.length - j) < d) => ih0 _ hd i j m out hi hj rfl
  cases d with
  | zero =>
    intro i j m out hi hj hd hm ho
    cases m with
    | zero => omega
    | succ m =>
    have h1 : i = a.length := by omega
    have h2 : j = b.length := by omega
    subst h1 h2
    have c1 : decide ((a.length : Int) < (a.length : Int)) = false := decide_eq_false (by omega)
    have c2 : decide ((b.length : Int) < (b.length : Int)) = false := decide_eq_false (by omega)
    rw [L_attr_both_attr_Change_c1_0_step, List.drop_length, List.drop_length, mrg]
    simp [bcond_if, c1, c2, flat1]
  | succ d =>
    intro i j m out hi hj hd hm ho
    cases m with
    | zero => omega
    | succ m =>
    have w1 : IntKind.i64.wrap ((i : Int) + 1) = ((i + 1 : Nat) : Int) := wnat (by omega) (by omega)
    have w2 : IntKind.i64.wrap ((j : Int) + 1) = ((j + 1 : Nat) : Int) := wnat (by omega) (by omega)
    have ex : at_ (e := YAttr) a (i : Int) = atA a i := rfl
    have ey : at_ (e := YAttr) b (j : Int) = atA b j := rfl
    have ez : (([], []) : YAttr.den) = nul := rfl
    have ex1 : (atA a i).1 = an (atA a i) := rfl
    have ey1 : (atA b j).1 = an (atA b j) := rfl
    rw [L_attr_both_attr_Change_c1_0_step]
    simp only [ex, ey, ex1, ey1, ez, chg1 _ _ out (by omega), Option.bind_some, res_attr_Change_c1_0_ret, w1, w2, bcond_if, inb]
    by_cases p1 : i < a.length
    · have c1 : decide ((i : Int) < (a.length : Int)) = true := decide_eq_true (by omega)
      have c3 : ((i : Int) == (a.length : Int)) = false := beq_eq_false_iff_ne.2 (by omega)
      have ihx := ih (i + 1) j m (out ++ gChg (atA a i) nul) (by omega) (by omega) (by omega) (by omega) (by have := len1 (atA a i) nul; simp; omega)
      by_cases p2 : j < b.length
      · have c2 : decide ((j : Int) < (b.length : Int)) = true := decide_eq_true (by omega)
        have c4 : ((j : Int) == (b.length : Int)) = false := beq_eq_false_iff_ne.2 (by omega)
        have ihy := ih i (j + 1) m (out ++ gChg nul (atA b j)) (by omega) (by omega) (by omega) (by omega) (by have := len1 nul (atA b j); simp; omega)
        have ihz := ih (i + 1) (j + 1) m (out ++ gChg (atA a i) (atA b j)) (by omega) (by omega) (by omega) (by omega) (by have := len1 (atA a i) (atA b j); simp; omega)
        rw [drop_attr a p1] at ihy ⊢
        rw [drop_attr b p2] at ihx ⊢
        rw [mrg]
        simp only [c1, c2, c3, c4, p1, p2, if_true, beq_self_eq_true, Bool.true_eq_false, Bool.false_eq_true, if_false, show ((true : Bool) == false) = false from rfl]
        cases s1 : strLess (an (atA a i)) (an (atA b j)) with
        | true => simp only [if_true]; rw [ihx, flat1, List.append_assoc]
        | false =>
          simp only [Bool.false_eq_true, if_false]
          cases s2 : strLess (an (atA b j)) (an (atA a i)) with
          | true => simp only [if_true]; rw [ihy, flat1, List.append_assoc]
          | false =>
            simp only [Bool.false_eq_true, if_false]
            rw [ihz, flat1, List.append_assoc]
      · have h2 : j = b.length := by omega
        subst h2
        have c2 : decide ((b.length : Int) < (b.length : Int)) = false := decide_eq_false (by omega)
        have c4 : ((b.length : Int) == (b.length : Int)) = true := by simp
        rw [List.drop_length] at ihx ⊢
        rw [drop_attr a p1, mrg]
        simp only [c1, c2, c3, c4, p1, if_true, beq_self_eq_true, Bool.false_eq_true, if_false, show ((true : Bool) == false) = false from rfl]
        rw [ihx, flat1, List.append_assoc]
    · have h1 : i = a.length := by omega
      subst h1
      have p2 : j < b.length := by omega
      have c1 : decide ((a.length : Int) < (a.length : Int)) = false := decide_eq_false (by omega)
      have c3 : ((a.length : Int) == (a.length : Int)) = true := by simp
      have c2 : decide ((j : Int) < (b.length : Int)) = true := decide_eq_true (by omega)
      have c4 : ((j : Int) == (b.length : Int)) = false := beq_eq_false_iff_ne.2 (by omega)
      have ihy := ih a.length (j + 1) m (out ++ gChg nul (atA b j)) (by omega) (by omega) (by omega) (by omega) (by have := len1 nul (atA b j); simp; omega)
      rw [List.drop_length] at ihy ⊢
      rw [drop_attr b p2, mrg]
      simp only [c1, c2, c3, c4, p2, if_true, beq_self_eq_true, Bool.false_eq_true, if_false, show ((true : Bool) == false) = false from rfl, show ((false : Bool) == true) = false from rfl]
      rw [ihy, flat1, List.append_assoc]

def chg (a b : Attrs) : Attrs := flat1 gChg (mrg a b)
theorem chg_eq (l c : Attrs) (hl : l.length ≤ 1048576) (hc : c.length ≤ 1048576) : C_attr_Change F_attr_Change l c = some (ret_attr_Change (chg l c)) := by
  obtain ⟨m, hm⟩ := big_succ (n := 4194304) (by omega)
  have := both111 l c hl hc big (l.length + c.length) 0 0 big [] (by omega) (by omega) (by omega) (by omega) (by simp)
  rw [e_attr_Change, e_attr_both_attr_Change_c1]
  simp only [List.drop_zero, List.nil_append] at this
  rw [show (0 : Int) = ((0 : Nat) : Int) from rfl, this]
  rfl

/-! ### The document's change of a list -/
def keepv : Attrs → Attrs
  | [] => []
  | x :: l => if av x = [] then keepv l else x :: keepv l
theorem keepv_mem : ∀ (l : Attrs) x, x ∈ keepv l ↔ x ∈ l ∧ av x ≠ []
  | [], x => by simp [keepv]
  | y :: l, x => by
    have ih := keepv_mem l x
    simp only [keepv]
    split
    · rename_i h; rw [ih]; simp only [List.mem_cons]; constructor
      · exact fun q => ⟨.inr q.1, q.2⟩
      · rintro ⟨rfl | q, r⟩
        · exact absurd h r
        · exact ⟨q, r⟩
    · rename_i h
      simp only [List.mem_cons, ih]; constructor
      · rintro (rfl | q)
        · exact ⟨.inl rfl, h⟩
        · exact ⟨.inr q.1, q.2⟩
      · rintro ⟨rfl | q, r⟩
        · exact .inl rfl
        · exact .inr ⟨q, r⟩
theorem keepv_srt : ∀ (a : Attrs), Srt a → Srt (keepv a)
  | [], _ => trivial
  | y :: a, h => by
    simp only [keepv]
    split
    · exact keepv_srt a h.2
    · exact ⟨fun x hx => h.1 x ((keepv_mem a x).1 hx).1, keepv_srt a h.2⟩
theorem keepv_len : ∀ (a : Attrs), (keepv a).length ≤ a.length
  | [] => by simp [keepv]
  | y :: a => by
    have := keepv_len a
    simp only [keepv]
    split <;> simp only [List.length_cons] <;> omega
theorem puts_len : ∀ (l out : Attrs), (puts out l).length ≤ out.length + l.length
  | [], out => by simp [puts]
  | a :: l, out => by
    have h1 := puts_len l (putL a false out)
    have h2 := put_len a out false
    simp at h2
    simp only [puts, List.length_cons]; omega
theorem keepv_loop (l : Attrs) (hl : l.length ≤ 1048576) (n : Nat) : ∀ (d i m : Nat) (out : Attrs), i + d = l.length → d < m → out.length ≤ i → L_R_Changed_2a n m l out (l.length : Int) i = some (ret_R_Changed (out ++ keepv (l.drop i))) := by
  intro d
  induction d with
  | zero =>
    intro i m out hi hm ho
    cases m with
    | zero => omega
    | succ m =>
    have : i = l.length := by omega
    subst this
    have c1 : decide ((l.length : Int) < (l.length : Int)) = false := decide_eq_false (by omega)
    rw [L_R_Changed_2a_step, List.drop_length]
    simp [bcond_if, c1, keepv]
  | succ d ih =>
    intro i m out hi hm ho
    cases m with
    | zero => omega
    | succ m =>
    have hil : i < l.length := by omega
    have c1 : decide ((i : Int) < (l.length : Int)) = true := decide_eq_true (by omega)
    have w1 : IntKind.i64.wrap ((i : Int) + 1) = ((i + 1 : Nat) : Int) := wnat (by omega) (by omega)
    have ex : at_ (e := YAttr) l (i : Int) = atA l i := rfl
    have e2 : (atA l i).2 = av (atA l i) := rfl
    rw [L_R_Changed_2a_step, drop_attr l hil]
    simp only [bcond_if, inb, hil, c1, if_true, w1, ex, e2, keepv]
    have b1 : (out.length + [atA l i].length) * 32 ≤ 140737488355328 := Nat.le_trans (Nat.mul_le_mul_right 32 (Nat.add_le_add_right (show out.length ≤ 1048576 by omega) 1)) (by decide)
    simp only [b1, if_true]
    have i1 := ih (i + 1) m (out ++ [atA l i]) (by omega) (by omega) (by simp; omega)
    have i2 := ih (i + 1) m out (by omega) (by omega) (by omega)
    rw [i1, i2]
    by_cases h : av (atA l i) = [] <;> simp [h]
theorem chd_loop2 (b : Attrs) (hb : b.length ≤ 1048576) (n : Nat) (hn : 1048577 < n) : ∀ (d i m : Nat) (out : Attrs), i + d = b.length → d < m → out.length + d ≤ 1048576 → L_R_Changed_1a n m b out (b.length : Int) i = some (ret_R_Changed (keepv (puts out (b.drop i)))) := by
  intro d
  induction d with
  | zero =>
    intro i m out hi hm ho
    cases m with
    | zero => omega
    | succ m =>
    have : i = b.length := by omega
    subst this
    have c1 : decide ((b.length : Int) < (b.length : Int)) = false := decide_eq_false (by omega)
    rw [L_R_Changed_1a_step, List.drop_length]
    simp only [bcond_if, c1, Bool.false_eq_true, if_false, puts]
    have := keepv_loop out (by omega) n out.length 0 n [] (by omega) (by omega) (by simp)
    simpa using this
  | succ d ih =>
    intro i m out hi hm ho
    cases m with
    | zero => omega
    | succ m =>
    have hil : i < b.length := by omega
    have c1 : decide ((i : Int) < (b.length : Int)) = true := decide_eq_true (by omega)
    have w1 : IntKind.i64.wrap ((i : Int) + 1) = ((i + 1 : Nat) : Int) := wnat (by omega) (by omega)
    have ex : at_ (e := YAttr) b (i : Int) = atA b i := rfl
    have hp := put_len (atA b i) out false
    simp at hp
    rw [L_R_Changed_1a_step, drop_attr b hil]
    simp only [bcond_if, inb, hil, c1, if_true, w1, ex, put_eq out (by omega) _, Option.bind_some, res_R_put_0_ret, puts]
    exact ih (i + 1) m _ (by omega) (by omega) (by omega)
theorem chd_start2 (b : Attrs) (hb : b.length ≤ 1048576) (n m : Nat) (hn : 1048577 < n) (hm : 1048577 < m) : L_R_Changed_1 n m b (b.length : Int) 0 = some (ret_R_Changed (keepv (puts [] b))) := by
  obtain ⟨m, rfl⟩ : ∃ k, m = k + 1 := ⟨m - 1, by omega⟩
  rw [L_R_Changed_1_step]
  cases b with
  | nil =>
    obtain ⟨n2, rfl⟩ : ∃ k, n = k + 1 := ⟨n - 1, by omega⟩
    change L_R_Changed_2 (n2 + 1) (n2 + 1) [] 0 0 = _
    rw [L_R_Changed_2_step]; rfl
  | cons y b =>
    have c1 : decide ((0 : Int) < ((y :: b).length : Int)) = true := decide_eq_true (by simp only [List.length_cons]; omega)
    have e1 : (0 ≤ (0 : Int) ∧ (0 : Int) < ((y :: b).length : Int)) := ⟨by omega, by simp only [List.length_cons]; omega⟩
    have w1 : IntKind.i64.wrap ((0 : Int) + 1) = ((1 : Nat) : Int) := rfl
    have ex : at_ (e := YAttr) (y :: b) (0 : Int) = y := rfl
    simp only [bcond_if, c1, e1, and_self, if_true, w1, ex, put_eq [] (by simp) _, Option.bind_some, res_R_put_0_ret]
    have hp := put_len y [] false
    simp at hp
    have := chd_loop2 (y :: b) hb n hn b.length 1 m (putL y false []) (by simp; omega) (by simp at hb; omega) (by simp at hb; omega)
    rw [this]; rfl
theorem chd_loop1 (a b : Attrs) (ha : a.length ≤ 1048576) (hb : b.length ≤ 1048576) (hab : a.length + b.length ≤ 1048576) (n : Nat) (hn : 1048577 < n) : ∀ (d i m : Nat) (out : Attrs), i + d = a.length → d < m → out.length + d ≤ a.length → L_R_Changed_0a n m a b out (a.length : Int) i = some (ret_R_Changed (keepv (puts (puts out (a.drop i)) b))) := by
  intro d
  induction d with
  | zero =>
    intro i m out hi hm ho
    cases m with
    | zero => omega
    | succ m =>
    have : i = a.length := by omega
    subst this
    have c1 : decide ((a.length : Int) < (a.length : Int)) = false := decide_eq_false (by omega)
    rw [L_R_Changed_0a_step, List.drop_length]
    simp only [bcond_if, c1, Bool.false_eq_true, if_false, puts]
    have := chd_loop2 b hb n hn b.length 0 n out (by omega) (by omega) (by omega)
    simpa using this
  | succ d ih =>
    intro i m out hi hm ho
    cases m with
    | zero => omega
    | succ m =>
    have hil : i < a.length := by omega
    have c1 : decide ((i : Int) < (a.length : Int)) = true := decide_eq_true (by omega)
    have w1 : IntKind.i64.wrap ((i : Int) + 1) = ((i + 1 : Nat) : Int) := wnat (by omega) (by omega)
    have ex : at_ (e := YAttr) a (i : Int) = atA a i := rfl
    have hp := put_len (atA a i) out false
    simp at hp
    rw [L_R_Changed_0a_step, drop_attr a hil]
    simp only [bcond_if, inb, hil, c1, if_true, w1, ex, put_eq out (by omega) _, Option.bind_some, res_R_put_0_ret, puts]
    exact ih (i + 1) m _ (by omega) (by omega) (by omega)
def chd (a b : Attrs) : Attrs := keepv (puts (puts [] a) b)
theorem chd_eq (a b : Attrs) (hab : a.length + b.length ≤ 1048576) : C_R_Changed F_R_Changed a b = some (ret_R_Changed (chd a b)) := by
  obtain ⟨m, hm⟩ := big_succ (n := 1048578) (by omega)
  obtain ⟨m2, hm2⟩ : ∃ m2, big = m2 + 1 := ⟨big - 1, by omega⟩
  have st := L_R_Changed_0_step big m2 a b (a.length : Int) 0
  rw [← hm2] at st
  rw [e_R_Changed, st]
  cases a with
  | nil => exact chd_start2 b (by simpa using hab) big big (by omega) (by omega)
  | cons y a =>
    have c1 : decide ((0 : Int) < ((y :: a).length : Int)) = true := decide_eq_true (by simp only [List.length_cons]; omega)
    have e1 : (0 ≤ (0 : Int) ∧ (0 : Int) < ((y :: a).length : Int)) := ⟨by omega, by simp only [List.length_cons]; omega⟩
    have w1 : IntKind.i64.wrap ((0 : Int) + 1) = ((1 : Nat) : Int) := rfl
    have ex : at_ (e := YAttr) (y :: a) (0 : Int) = y := rfl
    simp only [bcond_if, c1, e1, and_self, if_true, w1, ex, put_eq [] (by simp) _, Option.bind_some, res_R_put_0_ret]
    have hp := put_len y [] false
    simp at hp
    have := chd_loop1 (y :: a) b (by simp at hab ⊢; omega) (by omega) hab big (by omega) a.length 1 m2 (putL y false []) (by simp; omega) (by simp at hab; omega) (by simp; omega)
    rw [this]; rfl
theorem chd_len (a b : Attrs) : (chd a b).length ≤ a.length + b.length := by
  have h1 := keepv_len (puts (puts [] a) b)
  have h2 := puts_len b (puts [] a)
  have h3 := puts_len a []
  simp at h3
  unfold chd; omega

/-! ### The document's change from one list to another -/
/-- What differs from `a`; what is gone in `b`. -/
def dif (a : Attrs) : Attrs → Attrs
  | [] => []
  | y :: l => if get (an y) a = av y then dif a l else y :: dif a l
def gone (b : Attrs) : Attrs → Attrs
  | [] => []
  | x :: l => if get (an x) b = [] then mkA (an x) [] :: gone b l else gone b l
theorem dif_len (a : Attrs) : ∀ l, (dif a l).length ≤ l.length
  | [] => by simp [dif]
  | y :: l => by
    have := dif_len a l
    simp only [dif]
    split <;> simp only [List.length_cons] <;> omega
def btw (a b : Attrs) : Attrs := puts (puts [] (dif a b)) (gone b a)
theorem btw_loop2 (a b : Attrs) (ha : a.length ≤ 1048576) (hb : b.length ≤ 1048576) (n : Nat) : ∀ (d i m : Nat) (out : Attrs), i + d = a.length → d < m → out.length + d ≤ 1048576 → L_R_Between_1a n m a b out (a.length : Int) i = some (ret_R_Between (puts out (gone b (a.drop i)))) := by
  intro d
  induction d with
  | zero =>
    intro i m out hi hm ho
    cases m with
    | zero => omega
    | succ m =>
    have : i = a.length := by omega
    subst this
    have c1 : decide ((a.length : Int) < (a.length : Int)) = false := decide_eq_false (by omega)
    rw [L_R_Between_1a_step, List.drop_length]
    simp [bcond_if, c1, gone, puts]
  | succ d ih =>
    intro i m out hi hm ho
    cases m with
    | zero => omega
    | succ m =>
    have hil : i < a.length := by omega
    have c1 : decide ((i : Int) < (a.length : Int)) = true := decide_eq_true (by omega)
    have w1 : IntKind.i64.wrap ((i : Int) + 1) = ((i + 1 : Nat) : Int) := wnat (by omega) (by omega)
    have ex : at_ (e := YAttr) a (i : Int) = atA a i := rfl
    have e1 : (atA a i).1 = an (atA a i) := rfl
    have e5 : ((an (atA a i), []) : YAttr.den) = mkA (an (atA a i)) [] := rfl
    have hp := put_len (mkA (an (atA a i)) []) out false
    simp at hp
    rw [L_R_Between_1a_step, drop_attr a hil]
    simp only [bcond_if, inb, hil, c1, if_true, w1, ex, e1, e5, put_eq out (by omega) _, rget_eq b hb _, Option.bind_some, res_R_put_0_ret, res_R_Get_0_ret, gone]
    have i1 := ih (i + 1) m (putL (mkA (an (atA a i)) []) false out) (by omega) (by omega) (by omega)
    have i2 := ih (i + 1) m out (by omega) (by omega) (by omega)
    rw [i1, i2]
    by_cases h : get (an (atA a i)) b = [] <;> simp [h, puts]
theorem btw_start2 (a b : Attrs) (ha : a.length ≤ 1048576) (hb : b.length ≤ 1048576) (n : Nat) : ∀ (d i m : Nat), i + d = a.length → d < m → L_R_Between_1 n m a b (a.length : Int) i = some (ret_R_Between (puts [] (gone b (a.drop i)))) := by
  intro d
  induction d with
  | zero =>
    intro i m hi hm
    cases m with
    | zero => omega
    | succ m =>
    have : i = a.length := by omega
    subst this
    have c1 : decide ((a.length : Int) < (a.length : Int)) = false := decide_eq_false (by omega)
    rw [L_R_Between_1_step, List.drop_length]
    simp [bcond_if, c1, gone, puts]
  | succ d ih =>
    intro i m hi hm
    cases m with
    | zero => omega
    | succ m =>
    have hil : i < a.length := by omega
    have c1 : decide ((i : Int) < (a.length : Int)) = true := decide_eq_true (by omega)
    have w1 : IntKind.i64.wrap ((i : Int) + 1) = ((i + 1 : Nat) : Int) := wnat (by omega) (by omega)
    have ex : at_ (e := YAttr) a (i : Int) = atA a i := rfl
    have e1 : (atA a i).1 = an (atA a i) := rfl
    have e5 : ((an (atA a i), []) : YAttr.den) = mkA (an (atA a i)) [] := rfl
    have hp := put_len (mkA (an (atA a i)) []) [] false
    simp at hp
    rw [L_R_Between_1_step, drop_attr a hil]
    simp only [bcond_if, inb, hil, c1, if_true, w1, ex, e1, e5, put_eq [] (by simp) _, rget_eq b hb _, Option.bind_some, res_R_put_0_ret, res_R_Get_0_ret, gone]
    have i1 := btw_loop2 a b ha hb n d (i + 1) m (putL (mkA (an (atA a i)) []) false []) (by omega) (by omega) (by omega)
    have i2 := ih (i + 1) m (by omega) (by omega)
    rw [i1, i2]
    by_cases h : get (an (atA a i)) b = [] <;> simp [h, puts]
theorem btw_loop1 (a b : Attrs) (ha : a.length ≤ 1048576) (hb : b.length ≤ 1048576) (hab : a.length + b.length ≤ 1048576) (n : Nat) (hn : 1048577 < n) : ∀ (d i m : Nat) (out : Attrs), i + d = b.length → d < m → out.length + d ≤ b.length → L_R_Between_0a n m a b out (b.length : Int) i = some (ret_R_Between (puts (puts out (dif a (b.drop i))) (gone b a))) := by
  intro d
  induction d with
  | zero =>
    intro i m out hi hm ho
    cases m with
    | zero => omega
    | succ m =>
    have : i = b.length := by omega
    subst this
    have c1 : decide ((b.length : Int) < (b.length : Int)) = false := decide_eq_false (by omega)
    rw [L_R_Between_0a_step, List.drop_length]
    simp only [bcond_if, c1, Bool.false_eq_true, if_false, dif, puts]
    have := btw_loop2 a b ha hb n a.length 0 n out (by omega) (by omega) (by omega)
    simpa using this
  | succ d ih =>
    intro i m out hi hm ho
    cases m with
    | zero => omega
    | succ m =>
    have hil : i < b.length := by omega
    have c1 : decide ((i : Int) < (b.length : Int)) = true := decide_eq_true (by omega)
    have w1 : IntKind.i64.wrap ((i : Int) + 1) = ((i + 1 : Nat) : Int) := wnat (by omega) (by omega)
    have ex : at_ (e := YAttr) b (i : Int) = atA b i := rfl
    have e1 : (atA b i).1 = an (atA b i) := rfl
    have e2 : (atA b i).2 = av (atA b i) := rfl
    have hp := put_len (atA b i) out false
    simp at hp
    rw [L_R_Between_0a_step, drop_attr b hil]
    simp only [bcond_if, inb, hil, c1, if_true, w1, ex, e1, e2, put_eq out (by omega) _, rget_eq a ha _, Option.bind_some, res_R_put_0_ret, res_R_Get_0_ret, dif]
    have i1 := ih (i + 1) m (putL (atA b i) false out) (by omega) (by omega) (by omega)
    have i2 := ih (i + 1) m out (by omega) (by omega) (by omega)
    rw [i1, i2]
    by_cases h : get (an (atA b i)) a = av (atA b i) <;> simp [h, puts]
theorem btw_start1 (a b : Attrs) (ha : a.length ≤ 1048576) (hb : b.length ≤ 1048576) (hab : a.length + b.length ≤ 1048576) (n : Nat) (hn : 1048577 < n) : ∀ (d i m : Nat), i + d = b.length → d < m → L_R_Between_0 n m a b (b.length : Int) i = some (ret_R_Between (puts (puts [] (dif a (b.drop i))) (gone b a))) := by
  intro d
  induction d with
  | zero =>
    intro i m hi hm
    cases m with
    | zero => omega
    | succ m =>
    have : i = b.length := by omega
    subst this
    have c1 : decide ((b.length : Int) < (b.length : Int)) = false := decide_eq_false (by omega)
    rw [L_R_Between_0_step, List.drop_length]
    simp only [bcond_if, c1, Bool.false_eq_true, if_false, dif, puts]
    have := btw_start2 a b ha hb n a.length 0 n (by omega) (by omega)
    simpa using this
  | succ d ih =>
    intro i m hi hm
    cases m with
    | zero => omega
    | succ m =>
    have hil : i < b.length := by omega
    have c1 : decide ((i : Int) < (b.length : Int)) = true := decide_eq_true (by omega)
    have w1 : IntKind.i64.wrap ((i : Int) + 1) = ((i + 1 : Nat) : Int) := wnat (by omega) (by omega)
    have ex : at_ (e := YAttr) b (i : Int) = atA b i := rfl
    have e1 : (atA b i).1 = an (atA b i) := rfl
    have e2 : (atA b i).2 = av (atA b i) := rfl
    have hp := put_len (atA b i) [] false
    simp at hp
    rw [L_R_Between_0_step, drop_attr b hil]
    simp only [bcond_if, inb, hil, c1, if_true, w1, ex, e1, e2, put_eq [] (by simp) _, rget_eq a ha _, Option.bind_some, res_R_put_0_ret, res_R_Get_0_ret, dif]
    have i1 := btw_loop1 a b ha hb hab n hn d (i + 1) m (putL (atA b i) false []) (by omega) (by omega) (by omega)
    have i2 := ih (i + 1) m (by omega) (by omega)
    rw [i1, i2]
    by_cases h : get (an (atA b i)) a = av (atA b i) <;> simp [h, puts]
theorem btw_eq (a b : Attrs) (hab : a.length + b.length ≤ 1048576) : C_R_Between F_R_Between a b = some (ret_R_Between (btw a b)) := by
  obtain ⟨m, hm⟩ := big_succ (n := 1048578) (by omega)
  rw [e_R_Between]
  have := btw_start1 a b (by omega) (by omega) hab big (by omega) b.length 0 big (by omega) (by omega)
  simpa [btw] using this

/-! ### They are the same -/
theorem vl_ne {s : Str} (h : vl s = true) : s ≠ [] := by rintro rfl; cases h
theorem raw_mem {l c : Attrs} (sl : Srt l) (sc : Srt c) (nl : Nms l) (nc : Nms c) : Srt (raw l c) ∧ ∀ x, x ∈ raw l c ↔ (x ∈ l ∧ ∀ y ∈ c, an y ≠ an x) ∨ (x ∈ c ∧ av x ≠ []) := by
  have e0 : an nul = [] := rfl
  have g0 : ∀ p : YAttr.den × YAttr.den, gRaw p.1 p.2 = [] ∨ ∃ z, gRaw p.1 p.2 = [z] ∧ an z = key p := fun p => by
    unfold gRaw key
    by_cases h : an p.2 = []
    · right; exact ⟨p.1, by simp [h], by simp [h]⟩
    · by_cases h2 : av p.2 = []
      · left; simp [h, h2]
      · right; exact ⟨p.2, by simp [h, h2], by simp [h]⟩
  obtain ⟨s1, m1⟩ := flat_srt gRaw g0 (mrg l c) (mrg_ks l c sl sc nl nc)
  refine ⟨s1, fun x => ?_⟩
  have pm := mrg_mem l c sl sc
  rw [show x ∈ raw l c ↔ _ from m1 x]
  constructor
  · rintro ⟨p, hp, hx⟩
    unfold gRaw at hx
    have two : ∀ q : p.2 ∈ c, x ∈ c ∧ av x ≠ [] := fun q => by
      rw [if_neg (nc _ q)] at hx
      split at hx
      · simp at hx
      · rename_i h
        have : x = p.2 := by simpa using hx
        subst this
        exact ⟨q, h⟩
    rcases (pm p).1 hp with ⟨e1, e2, e3⟩ | ⟨e1, e2, e3⟩ | ⟨e1, e2, e3⟩
    · rw [e1, if_pos e0] at hx
      have : x = p.1 := by simpa using hx
      subst this
      exact .inl ⟨e2, e3⟩
    · exact .inr (two e2)
    · exact .inr (two e2)
  · rintro (⟨h, h2⟩ | ⟨h, h2⟩)
    · exact ⟨(x, nul), (pm _).2 (.inl ⟨rfl, h, h2⟩), by unfold gRaw; rw [if_pos e0]; simp⟩
    · by_cases hc : ∃ y ∈ l, an y = an x
      · obtain ⟨y, hy, e⟩ := hc
        exact ⟨(y, x), (pm _).2 (.inr (.inr ⟨hy, h, e⟩)), by unfold gRaw; rw [if_neg (nc _ h), if_neg h2]; simp⟩
      · exact ⟨(nul, x), (pm _).2 (.inr (.inl ⟨rfl, h, fun y hy e => hc ⟨y, hy, e⟩⟩)), by unfold gRaw; rw [if_neg (nc _ h), if_neg h2]; simp⟩
theorem raw_chd {l c : Attrs} (hl : err false l = 0) (hc : err true c = 0) : raw l c = chd l c := by
  obtain ⟨sl, nl, vl'⟩ := valid false hl
  obtain ⟨sc, nc, _⟩ := valid true hc
  obtain ⟨s1, m1⟩ := raw_mem sl sc nl nc
  refine srt_ext s1 (keepv_srt _ (puts_srt c _ (puts_srt l [] trivial))) (fun x => ?_)
  rw [m1 x, show chd l c = keepv (puts (puts [] l) c) from rfl, keepv_mem, puts_mem c _ sc, puts_mem l [] sl]
  have hv : x ∈ l → av x ≠ [] := fun h => (vl' x h).elim vl_ne (fun q => by cases q.1)
  constructor
  · rintro (⟨h, h2⟩ | ⟨h, h2⟩)
    · exact ⟨.inr ⟨.inl h, h2⟩, hv h⟩
    · exact ⟨.inl h, h2⟩
  · rintro ⟨h | ⟨h | ⟨h, _⟩, h2⟩, h3⟩
    · exact .inr ⟨h, h3⟩
    · exact .inl ⟨h, h2⟩
    · simp at h

theorem get_some {a : Attrs} (sa : Srt a) : ∀ x ∈ a, get (an x) a = av x := by
  induction a with
  | nil => intro x h; simp at h
  | cons y a ih =>
    intro x h
    simp only [get]
    rcases List.mem_cons.1 h with rfl | h
    · simp
    · rw [if_neg (lt_ne (sa.1 x h))]; exact ih sa.2 x h
theorem get_none {s : Str} : ∀ {a : Attrs}, (∀ x ∈ a, an x ≠ s) → get s a = []
  | [], _ => rfl
  | y :: a, h => by
    simp only [get]
    rw [if_neg (h y (by simp))]
    exact get_none (fun x hx => h x (List.mem_cons_of_mem _ hx))
theorem dif_mem (a : Attrs) : ∀ (l : Attrs) x, x ∈ dif a l ↔ x ∈ l ∧ get (an x) a ≠ av x
  | [], x => by simp [dif]
  | y :: l, x => by
    have ih := dif_mem a l x
    simp only [dif]
    split
    · rename_i h; rw [ih]; simp only [List.mem_cons]; constructor
      · exact fun q => ⟨.inr q.1, q.2⟩
      · rintro ⟨rfl | q, r⟩
        · exact absurd h r
        · exact ⟨q, r⟩
    · rename_i h
      simp only [List.mem_cons, ih]; constructor
      · rintro (rfl | q)
        · exact ⟨.inl rfl, h⟩
        · exact ⟨.inr q.1, q.2⟩
      · rintro ⟨rfl | q, r⟩
        · exact .inl rfl
        · exact .inr ⟨q, r⟩
theorem dif_srt (a : Attrs) : ∀ (l : Attrs), Srt l → Srt (dif a l)
  | [], _ => trivial
  | y :: l, h => by
    simp only [dif]
    split
    · exact dif_srt a l h.2
    · exact ⟨fun x hx => h.1 x ((dif_mem a l x).1 hx).1, dif_srt a l h.2⟩
theorem gone_mem (b : Attrs) : ∀ (l : Attrs) z, z ∈ gone b l ↔ ∃ x ∈ l, get (an x) b = [] ∧ z = mkA (an x) []
  | [], z => by simp [gone]
  | y :: l, z => by
    have ih := gone_mem b l z
    simp only [gone]
    split
    · rename_i h
      simp only [List.mem_cons, ih]; constructor
      · rintro (rfl | ⟨x, h1, h2, h3⟩)
        · exact ⟨y, .inl rfl, h, rfl⟩
        · exact ⟨x, .inr h1, h2, h3⟩
      · rintro ⟨x, rfl | h1, h2, h3⟩
        · exact .inl h3
        · exact .inr ⟨x, h1, h2, h3⟩
    · rename_i h
      rw [ih]; simp only [List.mem_cons]; constructor
      · rintro ⟨x, h1, h2, h3⟩; exact ⟨x, .inr h1, h2, h3⟩
      · rintro ⟨x, rfl | h1, h2, h3⟩
        · exact absurd h2 h
        · exact ⟨x, h1, h2, h3⟩
theorem gone_srt (b : Attrs) : ∀ (l : Attrs), Srt l → Srt (gone b l)
  | [], _ => trivial
  | y :: l, h => by
    simp only [gone]
    split
    · refine ⟨fun z hz => ?_, gone_srt b l h.2⟩
      obtain ⟨x, h1, h2, rfl⟩ := (gone_mem b l z).1 hz
      exact h.1 x h1
    · exact gone_srt b l h.2
/-- A list of attributes that have names and values. -/
def Full (a : Attrs) : Prop := Srt a ∧ Nms a ∧ ∀ x ∈ a, av x ≠ []
theorem full_of {l : Attrs} (h : err false l = 0) : Full l := by
  obtain ⟨s, n, v⟩ := valid false h
  exact ⟨s, n, fun x hx => (v x hx).elim vl_ne (fun q => by cases q.1)⟩
theorem chg_btw {a b : Attrs} (ha : Full a) (hb : Full b) : chg a b = btw a b := by
  obtain ⟨sa, na, va⟩ := ha
  obtain ⟨sb, nb, vb⟩ := hb
  have e0 : an nul = [] := rfl
  have g0 : ∀ p : YAttr.den × YAttr.den, gChg p.1 p.2 = [] ∨ ∃ z, gChg p.1 p.2 = [z] ∧ an z = key p := fun p => by
    unfold gChg key
    by_cases h : an p.2 = []
    · right; exact ⟨mkA (an p.1) [], by simp [h], by simp [h]⟩
    · by_cases h2 : p.1 = p.2
      · left; simp [h, h2]
      · right; exact ⟨p.2, by simp [h, h2], by simp [h]⟩
  obtain ⟨s1, m1⟩ := flat_srt gChg g0 (mrg a b) (mrg_ks a b sa sb na nb)
  refine srt_ext s1 (puts_srt _ _ (puts_srt _ [] trivial)) (fun z => ?_)
  have pm := mrg_mem a b sa sb
  have gb : ∀ x, get (an x) b = [] ↔ ∀ y ∈ b, an y ≠ an x := fun x => by
    constructor
    · intro h y hy e
      have := get_some sb y hy
      rw [e, h] at this
      exact vb y hy this.symm
    · exact get_none
  rw [show z ∈ chg a b ↔ _ from m1 z, show btw a b = puts (puts [] (dif a b)) (gone b a) from rfl, puts_mem _ _ (gone_srt b a sa), puts_mem _ [] (dif_srt a b sb), gone_mem, dif_mem]
  constructor
  · rintro ⟨p, hp, hx⟩
    unfold gChg at hx
    have two : ∀ q : p.2 ∈ b, (z = p.2 ∧ p.1 ≠ p.2) := fun q => by
      rw [if_neg (nb _ q)] at hx
      split at hx
      · simp at hx
      · rename_i h
        exact ⟨by simpa using hx, h⟩
    have out : ∀ y, y ∈ b → ∀ w ∈ gone b a, an w ≠ an y := fun y hy w hw e => by
      obtain ⟨x, h1, h2, rfl⟩ := (gone_mem b a w).1 hw
      exact (gb x).1 h2 y hy e.symm
    rcases (pm p).1 hp with ⟨e1, e2, e3⟩ | ⟨e1, e2, e3⟩ | ⟨e1, e2, e3⟩
    · rw [e1, if_pos e0] at hx
      have : z = mkA (an p.1) [] := by simpa using hx
      exact .inl ⟨p.1, e2, (gb _).2 e3, this⟩
    · obtain ⟨rfl, h2⟩ := two e2
      refine .inr ⟨.inl ⟨e2, ?_⟩, out _ e2⟩
      rw [get_none e3]
      exact fun h => vb _ e2 h.symm
    · obtain ⟨rfl, h2⟩ := two e2
      refine .inr ⟨.inl ⟨e2, ?_⟩, out _ e2⟩
      rw [← e3, get_some sa _ e1]
      exact fun h => h2 (attr_ext e3 h)
  · rintro (⟨x, h1, h2, rfl⟩ | ⟨⟨h1, h2⟩ | ⟨h1, _⟩, h3⟩)
    · exact ⟨(x, nul), (pm _).2 (.inl ⟨rfl, h1, (gb x).1 h2⟩), by unfold gChg; rw [if_pos e0]; simp⟩
    · by_cases hc : ∃ y ∈ a, an y = an z
      · obtain ⟨y, hy, e⟩ := hc
        have hne : y ≠ z := by
          rintro rfl
          exact h2 (get_some sa _ hy)
        exact ⟨(y, z), (pm _).2 (.inr (.inr ⟨hy, h1, e⟩)), by unfold gChg; rw [if_neg (nb _ h1), if_neg hne]; simp⟩
      · have hne : nul ≠ z := by
          rintro rfl
          exact nb _ h1 e0
        exact ⟨(nul, z), (pm _).2 (.inr (.inl ⟨rfl, h1, fun y hy e => hc ⟨y, hy, e⟩⟩)), by unfold gChg; rw [if_neg (nb _ h1), if_neg hne]; simp⟩
    · simp at h1
theorem raw_full {l c : Attrs} (hl : err false l = 0) (hc : err true c = 0) : Full (raw l c) := by
  obtain ⟨sl, nl, v⟩ := full_of hl
  obtain ⟨sc, nc, _⟩ := valid true hc
  obtain ⟨s1, m1⟩ := raw_mem sl sc nl nc
  exact ⟨s1, fun x hx => ((m1 x).1 hx).elim (fun q => nl x q.1) (fun q => nc x q.1), fun x hx => ((m1 x).1 hx).elim (fun q => v x q.1) (fun q => q.2)⟩

/-! ### The laws -/
theorem raw_len (l c : Attrs) : (raw l c).length ≤ l.length + c.length := by
  have := flat_len gRaw (fun x y => by simp only [gRaw]; split; (· simp); (split <;> simp)) (mrg l c)
  have := mrg_len l c
  unfold raw; omega
theorem chg_len (l c : Attrs) : (chg l c).length ≤ l.length + c.length := by
  have := flat_len gChg (fun x y => by simp only [gChg]; split; (· simp); (split <;> simp)) (mrg l c)
  have := mrg_len l c
  unfold chg; omega
theorem lsame_loop (a b : Attrs) (hl : a.length ≤ 1048576) (he : a.length = b.length) (n : Nat) : ∀ (d i m : Nat), i + d = a.length → d < m → ∃ r : Bool, L_attr_Same_0 n m a b (a.length : Int) i = some (ret_attr_Same r) ∧ (r = true ↔ a.drop i = b.drop i) := by
  intro d
  induction d with
  | zero =>
    intro i m hi hm
    cases m with
    | zero => omega
    | succ m =>
    have : i = a.length := by omega
    subst this
    have c1 : decide ((a.length : Int) < (a.length : Int)) = false := decide_eq_false (by omega)
    refine ⟨true, ?_, ?_⟩
    · rw [L_attr_Same_0_step]
      simp [bcond_if, c1]
    · rw [List.drop_length, he, List.drop_length]; simp
  | succ d ih =>
    intro i m hi hm
    cases m with
    | zero => omega
    | succ m =>
    have hil : i < a.length := by omega
    have hib : i < b.length := by omega
    have c1 : decide ((i : Int) < (a.length : Int)) = true := decide_eq_true (by omega)
    have w1 : IntKind.i64.wrap ((i : Int) + 1) = ((i + 1 : Nat) : Int) := wnat (by omega) (by omega)
    obtain ⟨r, h1, h2⟩ := ih (i + 1) m (by omega) (by omega)
    have e1 : (at_ (e := YAttr) a (i : Int)).1 = an (atA a i) := rfl
    have e2 : (at_ (e := YAttr) a (i : Int)).2 = av (atA a i) := rfl
    have e3 : (at_ (e := YAttr) b (i : Int)).1 = an (atA b i) := rfl
    have e4 : (at_ (e := YAttr) b (i : Int)).2 = av (atA b i) := rfl
    rw [L_attr_Same_0_step, drop_attr a hil, drop_attr b hib]
    simp only [bcond_if, inb, hil, hib, c1, if_true, w1, e1, e2, e3, e4, h1]
    by_cases h0 : atA a i = atA b i
    · rw [h0]
      refine ⟨r, by simp, ?_⟩
      rw [h2]
      constructor
      · intro h; rw [h]
      · intro h; exact (List.cons.inj h).2
    · refine ⟨false, ?_, ?_⟩
      · have : ¬ (an (atA a i) = an (atA b i) ∧ av (atA a i) = av (atA b i)) := fun h => h0 (attr_ext h.1 h.2)
        by_cases h5 : an (atA a i) = an (atA b i)
        · have h6 : ¬ av (atA a i) = av (atA b i) := fun h => this ⟨h5, h⟩
          simp [h5, h6]
        · simp [h5]
      · constructor
        · intro h; cases h
        · intro h; exact absurd (List.cons.inj h).1 h0
theorem lsame_eq (a b : Attrs) (hl : a.length ≤ 1048576) : ∃ r : Bool, C_attr_Same F_attr_Same a b = some (ret_attr_Same r) ∧ (r = true ↔ a = b) := by
  obtain ⟨m, hm⟩ := big_succ (n := 1048577) (by omega)
  rw [e_attr_Same]
  simp only [bcond_if]
  by_cases he : a.length = b.length
  · rw [if_neg (by simp; omega)]
    have := lsame_loop a b hl he big a.length 0 big (by omega) (by omega)
    simpa using this
  · rw [if_pos (by simp; omega)]
    exact ⟨false, rfl, by constructor; (intro h; cases h); (intro h; exact absurd (by rw [h]) he)⟩

theorem bulk2 : ∀ (l : Attrs), 2 * l.length + 1 ≤ (Ty.list YAttr).bulk l
  | [] => by simp [Ty.bulk]
  | x :: l => by
    have h2 := bulk2 l
    have e : YAttr.bulk x = (an x).length + 1 + ((av x).length + 1) := rfl
    simp only [Ty.bulk, List.map_cons, List.sum_cons, List.length_cons] at h2 ⊢
    have e2 : Ty.bulk YAttr x = (an x).length + 1 + ((av x).length + 1) := rfl
    have : 2 ≤ Ty.bulk (Ty.pair Ty.str Ty.str) x := by
      have : Ty.bulk (Ty.pair Ty.str Ty.str) x = (an x).length + 1 + ((av x).length + 1) := rfl
      omega
    simp only [Ty.bulk] at this
    omega
end Go.Ev.Attr
