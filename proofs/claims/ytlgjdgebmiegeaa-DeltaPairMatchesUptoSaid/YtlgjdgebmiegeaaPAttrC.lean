
/- Attributes: the plain side, third part: two sorted lists walked side by side; comparing. -/
import Derived.Test.YtlgjdgebmiegeaaPAttrB
namespace Go.Ev.Attr
open Go.Ev
set_option linter.unusedVariables false
set_option linter.unusedSimpArgs false

def nul : YAttr.den := mkA [] []
/-- The pairs that a walk over two sorted lists visits. -/
def mrg : Attrs → Attrs → List (YAttr.den × YAttr.den)
  | [], [] => []
  | x :: a, [] => (x, nul) :: mrg a []
  | [], y :: b => (nul, y) :: mrg [] b
  | x :: a, y :: b => if strLess (an x) (an y) = true then (x, nul) :: mrg a (y :: b) else if strLess (an y) (an x) = true then (nul, y) :: mrg (x :: a) b else (x, y) :: mrg a b
termination_by a b => a.length + b.length
def flat1 (g : YAttr.den → YAttr.den → Attrs) : List (YAttr.den × YAttr.den) → Attrs
  | [] => []
  | p :: l => g p.1 p.2 ++ flat1 g l

def gRaw (x y : YAttr.den) : Attrs := if an y = [] then [x] else if av y = [] then [] else [y]
theorem raw1 (x y : YAttr.den) (out : Attrs) (ho : out.length ≤ 4194304) : C_attr_Raw_c1 F_attr_Raw_c1 x y out = some (ret_attr_Raw_c1 (out ++ gRaw x y)) := by
  rw [e_attr_Raw_c1]
  have e1 : y.1 = an y := rfl
  have e2 : y.2 = av y := rfl
  simp only [bcond_if, e1, e2]
  unfold gRaw
  rw [if_pos (show (out.length + [x].length) * 32 ≤ 140737488355328 by simp; omega), if_pos (show (out.length + [y].length) * 32 ≤ 140737488355328 by simp; omega)]
  by_cases h1 : an y = []
  · simp [h1]
  · by_cases h2 : av y = []
    · simp [h1, h2]
    · simp [h1, h2]

theorem same_loop (a b : Attrs) (hl : a.length ≤ 1048576) (he : a.length = b.length) (n : Nat) : ∀ (d i m : Nat), i + d = a.length → d < m → ∃ r : Bool, L_R_SameAttrs_0 n m a b (a.length : Int) i = some (ret_R_SameAttrs r) ∧ (r = true ↔ a.drop i = b.drop i) := by
  intro d
  induction d with
  | zero =>
    intro i m hi hm
    cases m with
    | zero => omega
    | succ m =>
    have : i = a.length := by omega
    subst this
    have c1 : decide ((a.length : Int) < (a.length : Int)) = false := decide_eq_false (by omega)
    refine ⟨true, ?_, ?_⟩
    · rw [L_R_SameAttrs_0_step]
      simp [bcond_if, c1]
    · rw [List.drop_length, he, List.drop_length]; simp
  | succ d ih =>
    intro i m hi hm
    cases m with
    | zero => omega
    | succ m =>
    have hil : i < a.length := by omega
    have hib : i < b.length := by omega
    have c1 : decide ((i : Int) < (a.length : Int)) = true := decide_eq_true (by omega)
    have w1 : IntKind.i64.wrap ((i : Int) + 1) = ((i + 1 : Nat) : Int) := wnat (by omega) (by omega)
    obtain ⟨r, h1, h2⟩ := ih (i + 1) m (by omega) (by omega)
    have e1 : (at_ (e := YAttr) a (i : Int)).1 = an (atA a i) := rfl
    have e2 : (at_ (e := YAttr) a (i : Int)).2 = av (atA a i) := rfl
    have e3 : (at_ (e := YAttr) b (i : Int)).1 = an (atA b i) := rfl
    have e4 : (at_ (e := YAttr) b (i : Int)).2 = av (atA b i) := rfl
    rw [L_R_SameAttrs_0_step, drop_attr a hil, drop_attr b hib]
    simp only [bcond_if, inb, hil, hib, c1, if_true, w1, e1, e2, e3, e4, h1]
    by_cases h0 : atA a i = atA b i
    · rw [h0]
      refine ⟨r, by simp, ?_⟩
      rw [h2]
      constructor
      · intro h; rw [h]
      · intro h; exact (List.cons.inj h).2
    · refine ⟨false, ?_, ?_⟩
      · have : ¬ (an (atA a i) = an (atA b i) ∧ av (atA a i) = av (atA b i)) := fun h => h0 (attr_ext h.1 h.2)
        by_cases h5 : an (atA a i) = an (atA b i)
        · have h6 : ¬ av (atA a i) = av (atA b i) := fun h => this ⟨h5, h⟩
          simp [h5, h6]
        · simp [h5]
      · constructor
        · intro h; cases h
        · intro h; exact absurd (List.cons.inj h).1 h0
theorem same_eq (a b : Attrs) (hl : a.length ≤ 1048576) : ∃ r : Bool, C_R_SameAttrs F_R_SameAttrs a b = some (ret_R_SameAttrs r) ∧ (r = true ↔ a = b) := by
  obtain ⟨m, hm⟩ := big_succ (n := 1048577) (by omega)
  rw [e_R_SameAttrs]
  simp only [bcond_if]
  by_cases he : a.length = b.length
  · rw [if_neg (by simp; omega)]
    have := same_loop a b hl he big a.length 0 big (by omega) (by omega)
    simpa using this
  · rw [if_pos (by simp; omega)]
    exact ⟨false, rfl, by constructor; (intro h; cases h); (intro h; exact absurd (by rw [h]) he)⟩
theorem same_self (a : Attrs) (hl : a.length ≤ 1048576) : C_R_SameAttrs F_R_SameAttrs a a = some (ret_R_SameAttrs true) := by
  obtain ⟨r, h1, h2⟩ := same_eq a a hl
  rw [h1, h2.2 rfl]

theorem both110 (a b : Attrs) (ha : a.length ≤ 1048576) (hb : b.length ≤ 1048576) (n : Nat) : ∀ (d i j m : Nat) (out : Attrs), i ≤ a.length → j ≤ b.length → (a.length - i) + (b.length - j) = d → d < m → out.length ≤ i + j →
    L_attr_both_attr_Raw_c1_0 n m a b i j out = some (ret_attr_both_attr_Raw_c1 (out ++ flat1 gRaw (mrg (a.drop i) (b.drop j)))) := by
  have len1 : ∀ x y, (gRaw x y).length ≤ 1 := fun x y => by simp only [gRaw]; split; (· simp); (· first | (split <;> simp) | simp)
  intro d
  induction d using Nat.strongRecOn with
  | ind d ih0 =>
  have ih := fun i j m out hi hj (hd : (a.length - i) + (b.length - j) < d) => ih0 _ hd i j m out hi hj rfl
  cases d with
  | zero =>
    intro i j m out hi hj hd hm ho
    cases m with
    | zero => omega
    | succ m =>
    have h1 : i = a.length := by omega
    have h2 : j = b.length := by omega
    subst h1 h2
    have c1 : decide ((a.length : Int) < (a.length : Int)) = false := decide_eq_false (by omega)
    have c2 : decide ((b.length : Int) < (b.length : Int)) = false := decide_eq_false (by omega)
    rw [L_attr_both_attr_Raw_c1_0_step, List.drop_length, List.drop_length, mrg]
    simp [bcond_if, c1, c2, flat1]
  | succ d =>
    intro i j m out hi hj hd hm ho
    cases m with
    | zero => omega
    | succ m =>
    have w1 : IntKind.i64.wrap ((i : Int) + 1) = ((i + 1 : Nat) : Int) := wnat (by omega) (by omega)
    have w2 : IntKind.i64.wrap ((j : Int) + 1) = ((j + 1 : Nat) : Int) := wnat (by omega) (by omega)
    have ex : at_ (e := YAttr) a (i : Int) = atA a i := rfl
    have ey : at_ (e := YAttr) b (j : Int) = atA b j := rfl
    have ez : (([], []) : YAttr.den) = nul := rfl
    have ex1 : (atA a i).1 = an (atA a i) := rfl
    have ey1 : (atA b j).1 = an (atA b j) := rfl
    rw [L_attr_both_attr_Raw_c1_0_step]
    simp only [ex, ey, ex1, ey1, ez, raw1 _ _ out (by omega), Option.bind_some, res_attr_Raw_c1_0_ret, w1, w2, bcond_if, inb]
    by_cases p1 : i < a.length
    · have c1 : decide ((i : Int) < (a.length : Int)) = true := decide_eq_true (by omega)
      have c3 : ((i : Int) == (a.length : Int)) = false := beq_eq_false_iff_ne.2 (by omega)
      have ihx := ih (i + 1) j m (out ++ gRaw (atA a i) nul) (by omega) (by omega) (by omega) (by omega) (by have := len1 (atA a i) nul; simp; omega)
      by_cases p2 : j < b.length
      · have c2 : decide ((j : Int) < (b.length : Int)) = true := decide_eq_true (by omega)
        have c4 : ((j : Int) == (b.length : Int)) = false := beq_eq_false_iff_ne.2 (by omega)
        have ihy := ih i (j + 1) m (out ++ gRaw nul (atA b j)) (by omega) (by omega) (by omega) (by omega) (by have := len1 nul (atA b j); simp; omega)
        have ihz := ih (i + 1) (j + 1) m (out ++ gRaw (atA a i) (atA b j)) (by omega) (by omega) (by omega) (by omega) (by have := len1 (atA a i) (atA b j); simp; omega)
        rw [drop_attr a p1] at ihy ⊢
        rw [drop_attr b p2] at ihx ⊢
        rw [mrg]
        simp only [c1, c2, c3, c4, p1, p2, if_true, beq_self_eq_true, Bool.true_eq_false, Bool.false_eq_true, if_false, show ((true : Bool) == false) = false from rfl]
        cases s1 : strLess (an (atA a i)) (an (atA b j)) with
        | true => simp only [if_true]; rw [ihx, flat1, List.append_assoc]
        | false =>
          simp only [Bool.false_eq_true, if_false]
          cases s2 : strLess (an (atA b j)) (an (atA a i)) with
          | true => simp only [if_true]; rw [ihy, flat1, List.append_assoc]
          | false =>
            simp only [Bool.false_eq_true, if_false]
            rw [ihz, flat1, List.append_assoc]
      · have h2 : j = b.length := by omega
        subst h2
        have c2 : decide ((b.length : Int) < (b.length : Int)) = false := decide_eq_false (by omega)
        have c4 : ((b.length : Int) == (b.length : Int)) = true := by simp
        rw [List.drop_length] at ihx ⊢
        rw [drop_attr a p1, mrg]
        simp only [c1, c2, c3, c4, p1, if_true, beq_self_eq_true, Bool.false_eq_true, if_false, show ((true : Bool) == false) = false from rfl]
        rw [ihx, flat1, List.append_assoc]
    · have h1 : i = a.length := by omega
      subst h1
      have p2 : j < b.length := by omega
      have c1 : decide ((a.length : Int) < (a.length : Int)) = false := decide_eq_false (by omega)
      have c3 : ((a.length : Int) == (a.length : Int)) = true := by simp
      have c2 : decide ((j : Int) < (b.length : Int)) = true := decide_eq_true (by omega)
      have c4 : ((j : Int) == (b.length : Int)) = false := beq_eq_false_iff_ne.2 (by omega)
      have ihy := ih a.length (j + 1) m (out ++ gRaw nul (atA b j)) (by omega) (by omega) (by omega) (by omega) (by have := len1 nul (atA b j); simp; omega)
      rw [List.drop_length] at ihy ⊢
      rw [drop_attr b p2, mrg]
      simp only [c1, c2, c3, c4, p2, if_true, beq_self_eq_true, Bool.false_eq_true, if_false, show ((true : Bool) == false) = false from rfl, show ((false : Bool) == true) = false from rfl]
      rw [ihy, flat1, List.append_assoc]

def raw (l c : Attrs) : Attrs := flat1 gRaw (mrg l c)
theorem raw_eq (l c : Attrs) (hl : l.length ≤ 1048576) (hc : c.length ≤ 1048576) : C_attr_Raw F_attr_Raw l c = some (ret_attr_Raw (raw l c)) := by
  obtain ⟨m, hm⟩ := big_succ (n := 4194304) (by omega)
  have := both110 l c hl hc big (l.length + c.length) 0 0 big [] (by omega) (by omega) (by omega) (by omega) (by simp)
  rw [e_attr_Raw, e_attr_both_attr_Raw_c1]
  simp only [List.drop_zero, List.nil_append] at this
  rw [show (0 : Int) = ((0 : Nat) : Int) from rfl, this]
  rfl
theorem sh_small (l : Attrs) (h : l.length ≤ 10) (h2 : ∀ a ∈ l, (an a).length ≤ 10 ∧ (av a).length ≤ 10) : Sh l := by
  refine ⟨by omega, fun i => ?_⟩
  by_cases hi : i < l.length
  · have hm : atA l i ∈ l := by
      unfold atA at_
      simp [List.getD_eq_getElem?_getD, hi]
    have := h2 _ hm
    omega
  · have : atA l i = nul := by
      unfold atA at_
      rw [List.getD_eq_getElem?_getD, List.getElem?_eq_none (by simp; omega)]
      rfl
    rw [this]
    exact ⟨by decide, by decide⟩
theorem sh_of (l : Attrs) (hb : (Ty.list YAttr).bulk l ≤ 1048576) : Sh l := by
  have h1 := bulk_len l
  refine ⟨by omega, fun i => ?_⟩
  by_cases hi : i < l.length
  · have hm : atA l i ∈ l := by
      unfold atA at_
      simp [List.getD_eq_getElem?_getD, hi]
    have := bulk_mem l _ hm
    have e : YAttr.bulk (atA l i) = (an (atA l i)).length + 1 + ((av (atA l i)).length + 1) := rfl
    omega
  · have : atA l i = nul := by
      unfold atA at_
      rw [List.getD_eq_getElem?_getD, List.getElem?_eq_none (by simp; omega)]
      rfl
    rw [this]
    exact ⟨by decide, by decide⟩
end Go.Ev.Attr
