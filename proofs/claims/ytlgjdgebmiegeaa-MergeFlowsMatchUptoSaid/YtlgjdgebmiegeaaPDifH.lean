
import Derived.Test.YtlgjdgebmiegeaaPDifD
import Derived.Test.YtlgjdgebmiegeaaGDiffA
import Derived.Test.YtlgjdgebmiegeaaPDifE
namespace Go.Ev.Diff
open Go.Ev Go.Ev.Attr Go.Ev.Track Go.Ev.Delta
set_option linter.unusedVariables false
set_option linter.unusedSimpArgs false
theorem t1 : Int.toNat 1 = 1 := rfl
theorem c24' (n : Nat) (h : n ≤ 100000) : (n + 1) * 24 ≤ 140737488355328 := by omega
theorem c1' (n : Nat) (h : n ≤ 100000) : (n + 1) * 1 ≤ 140737488355328 := by omega
/-- Flows that are small enough. -/
structure Cx (a b : Flow) : Prop where
  la : a.length ≤ 2000
  lb : b.length ≤ 2000
  sa : ∀ x ∈ a, (ea x).length ≤ 1048576
  ab : ∀ x ∈ a, ∀ y ∈ b, (ea x).length + (ea y).length ≤ 1048576
theorem Cx.da {a b : Flow} (h : Cx a b) : Cx (a.drop 1) b := ⟨by have := h.la; simp; omega, h.lb, fun x hx => h.sa x (List.mem_of_mem_drop hx), fun x hx => h.ab x (List.mem_of_mem_drop hx)⟩
theorem Cx.db {a b : Flow} (h : Cx a b) : Cx a (b.drop 1) := ⟨h.la, by have := h.lb; simp; omega, h.sa, fun x hx y hy => h.ab x hx y (List.mem_of_mem_drop hy)⟩
/-- An act that can still grow. -/
structure Bd (o : Act) (a b : Flow) : Prop where
  ok : AOk o
  r : ∀ x ∈ o.1, x.length + b.length ≤ 10000
  n : o.2.1.length + a.length ≤ 10000
theorem Bd.keep {o : Act} {a b : Flow} (h : Bd o a b) (c : Bool) (t : Attrs) (ha : 0 < a.length) : Bd (aU c t o) (a.drop 1) b := ⟨aU_ok _ _ h.ok, fun x hx => by
  rcases List.mem_append.1 (show x ∈ o.1 ++ [[]] from hx) with q | q
  · exact h.r x q
  · have : x = [] := by simpa using q
    subst this
    obtain ⟨A, z, hA, _⟩ := snoc_of o.1 _ h.ok.h1
    have := h.r z (by rw [hA]; simp)
    show 0 + b.length ≤ _; omega, by
  have := h.n
  show (o.2.1 ++ [c]).length + (a.drop 1).length ≤ _
  simp; omega⟩
theorem Bd.dropb {o : Act} {a b : Flow} (h : Bd o a b) : Bd o a (b.drop 1) := ⟨h.ok, fun x hx => by have := h.r x hx; simp; omega, h.n⟩
theorem rdI_ok {o : Act} (h : AOk o) (x : YElem.den) : AOk (rdI x o) := ⟨by show (o.1.set _ _).length = _; rw [List.length_set]; exact h.h1, h.h2⟩
theorem Bd.add {o : Act} {a b : Flow} (h : Bd o a b) (x : YElem.den) (hb : 0 < b.length) : Bd (rdI x o) a (b.drop 1) := ⟨rdI_ok h.ok x, fun y hy => by
  rcases List.mem_or_eq_of_mem_set (show y ∈ o.1.set _ _ from hy) with q | q
  · have := h.r y q; simp; omega
  · rw [q, List.length_append]
    have : (o.1.getD (o.2.1.length - tc o.2.1) []).length + b.length ≤ 10000 := by
      rw [List.getD_eq_getElem?_getD]
      cases hq : o.1[o.2.1.length - tc o.2.1]? with
      | none =>
        obtain ⟨A, z, hA, _⟩ := snoc_of o.1 _ h.ok.h1
        have := h.r z (by rw [hA]; simp)
        show 0 + b.length ≤ _; omega
      | some z => exact h.r z (List.mem_of_getElem? hq)
    have ld : (b.drop 1).length = b.length - 1 := List.length_drop
    show _ + 1 + (b.drop 1).length ≤ _
    omega, h.n⟩
section
variable {a b : Flow} (cx : Cx a b) (o : Act) (bd : Bd o a b) (t : Bool)
include cx bd
omit cx in
/-- Where it is added: ahead of what is cut at the end. -/
theorem act_skip (hb : 0 < b.length) (m1 : Nat) : ∀ (n : Nat) (c : List Bool) (j m : Nat), c.length = n → o.2.1 = c ++ List.replicate j true → n < m →
    L_R_DiffAct_1 big m1 m a b o.1 o.2.1 o.2.2 t (n : Int) = L_R_DiffAct_0 big m1 a (b.drop 1) (rdI (atE b 0) o).1 (rdI (atE b 0) o).2.1 (rdI (atE b 0) o).2.2 t := by
  have hn := bd.n
  have hk := bd.ok.h1
  have q0 : 0 ≤ (0 : Int) ∧ (0 : Int) < (b.length : Int) := by omega
  have s1 : 0 ≤ (b.length : Int) ∧ (b.length : Int) ≤ (b.length : Int) ∧ 0 ≤ (1 : Int) ∧ (1 : Int) ≤ (b.length : Int) := by omega
  have ey : at_ (e := YElem) b 0 = atE b 0 := rfl
  intro n
  induction n with
  | zero =>
    intro c j m hc ho hm
    cases m with
    | zero => omega
    | succ m =>
    have hc0 : c = [] := List.eq_nil_of_length_eq_zero hc
    subst hc0
    have tj : tc o.2.1 = j := by rw [ho]; exact tc_base [] (.inl rfl) j
    have lj : o.2.1.length = j := by rw [ho]; simp
    have k0 : o.2.1.length - tc o.2.1 = 0 := by omega
    have d1 : decide (((0 : Nat) : Int) > 0) = false := rfl
    have qk : 0 ≤ ((0 : Nat) : Int) ∧ ((0 : Nat) : Int) < (o.1.length : Int) := by omega
    have gk : at_ (e := .list YElem) o.1 ((0 : Nat) : Int) = o.1.getD (o.2.1.length - tc o.2.1) [] := by rw [k0]; rfl
    have gl : (o.1.getD (o.2.1.length - tc o.2.1) []).length ≤ 10000 := by
      have := (bd.add (atE b 0) hb).r
      rw [List.getD_eq_getElem?_getD]
      cases hq : o.1[o.2.1.length - tc o.2.1]? with
      | none => exact Nat.zero_le _
      | some z => have := bd.r z (List.mem_of_getElem? hq); show z.length ≤ _; omega
    have b1 : (List.length ([] : List YElem.den) + List.length (o.1.getD (o.2.1.length - tc o.2.1) [] : List YElem.den)) * 40 ≤ 140737488355328 := by
      show (0 + _) * 40 ≤ _; omega
    have b2 : (List.length (([] ++ o.1.getD (o.2.1.length - tc o.2.1) []) : List YElem.den) + List.length ([atE b 0] : List YElem.den)) * 40 ≤ 140737488355328 := by
      rw [List.nil_append]; show (_ + 1) * 40 ≤ _; omega
    rw [L_R_DiffAct_1_step]
    simp only [d1, show (false == true) = false from rfl, bcf, if_pos q0, ey, if_pos qk, gk, if_pos b1, if_pos b2, if_pos s1, t1, Int.toNat_natCast, List.take_length]
    rw [List.nil_append]
    show L_R_DiffAct_0 big m1 a (b.drop 1) (o.1.set 0 _) o.2.1 o.2.2 t = L_R_DiffAct_0 big m1 a (b.drop 1) (o.1.set (o.2.1.length - tc o.2.1) _) o.2.1 o.2.2 t
    rw [k0]
  | succ n ih =>
    intro c j m hc ho hm
    cases m with
    | zero => omega
    | succ m =>
    obtain ⟨c', x, hc', hl'⟩ := snoc_of c n hc
    subst hc'
    have lj : o.2.1.length = n + 1 + j := by rw [ho]; simp [hl']; omega
    have d1 : decide (((n + 1 : Nat) : Int) > 0) = true := decide_eq_true (by omega)
    have w1 : IntKind.i64.wrap (((n + 1 : Nat) : Int) - 1) = (n : Int) := by rw [w64 (by omega) (by omega)]; omega
    have qn : 0 ≤ (n : Int) ∧ (n : Int) < (o.2.1.length : Int) := by omega
    have gx : at_ (e := .bool) o.2.1 (n : Int) = x := by
      show o.2.1.getD n false = x
      rw [ho, List.getD_eq_getElem?_getD, List.append_assoc, List.getElem?_append_right (by omega), hl']
      simp
    rw [L_R_DiffAct_1_step]
    simp only [d1, show (true == true) = true from rfl, bct, w1, if_pos qn, gx]
    cases x with
    | true =>
      simp only [bct]
      exact ih c' (j + 1) m hl' (by rw [ho, List.append_assoc, List.replicate_succ]; rfl) (by omega)
    | false =>
      have tj : tc o.2.1 = j := by rw [ho]; exact tc_base (c' ++ [false]) (.inr ⟨c', rfl⟩) j
      have k0 : o.2.1.length - tc o.2.1 = n + 1 := by omega
      have qk : 0 ≤ ((n + 1 : Nat) : Int) ∧ ((n + 1 : Nat) : Int) < (o.1.length : Int) := by omega
      have gk : at_ (e := .list YElem) o.1 ((n + 1 : Nat) : Int) = o.1.getD (o.2.1.length - tc o.2.1) [] := by rw [k0]; rfl
      have gl : (o.1.getD (o.2.1.length - tc o.2.1) []).length ≤ 10000 := by
        rw [List.getD_eq_getElem?_getD]
        cases hq : o.1[o.2.1.length - tc o.2.1]? with
        | none => exact Nat.zero_le _
        | some z => have := bd.r z (List.mem_of_getElem? hq); show z.length ≤ _; omega
      have b1 : (List.length ([] : List YElem.den) + List.length (o.1.getD (o.2.1.length - tc o.2.1) [] : List YElem.den)) * 40 ≤ 140737488355328 := by
        show (0 + _) * 40 ≤ _; omega
      have b2 : (List.length (([] ++ o.1.getD (o.2.1.length - tc o.2.1) []) : List YElem.den) + List.length ([atE b 0] : List YElem.den)) * 40 ≤ 140737488355328 := by
        rw [List.nil_append]; show (_ + 1) * 40 ≤ _; omega
      simp only [bcf, if_pos q0, ey, if_pos qk, gk, if_pos b1, if_pos b2, if_pos s1, t1, Int.toNat_natCast, List.take_length]
      rw [List.nil_append]
      show L_R_DiffAct_0 big m1 a (b.drop 1) (o.1.set (n + 1) _) o.2.1 o.2.2 t = L_R_DiffAct_0 big m1 a (b.drop 1) (o.1.set (o.2.1.length - tc o.2.1) _) o.2.1 o.2.2 t
      rw [k0]
omit cx in
theorem act_add (hb : 0 < b.length) (m1 : Nat) : L_R_DiffAct_1 big m1 big a b o.1 o.2.1 o.2.2 t (IntKind.i64.wrap ((o.1.length : Int) - 1)) =
    L_R_DiffAct_0 big m1 a (b.drop 1) (rdI (atE b 0) o).1 (rdI (atE b 0) o).2.1 (rdI (atE b 0) o).2.2 t := by
  have hn := bd.n
  have hk := bd.ok.h1
  have w1 : IntKind.i64.wrap ((o.1.length : Int) - 1) = (o.2.1.length : Int) := by rw [w64 (by omega) (by omega)]; omega
  rw [w1]
  exact act_skip o bd t hb m1 o.2.1.length o.2.1 0 big rfl (by simp) (big_ge (n := o.2.1.length + 1) (by omega))
theorem j_keep (ha : 0 < a.length) (hb : 0 < b.length) (m : Nat) (l : Bool) (r : Int) : J_R_DiffAct_0 big m a b o.1 o.2.1 o.2.2 t l r true =
    if l = true then some (ret_R_DiffAct (aU false (btw (ea (atE a 0)) (ea (atE b 0))) o)) else
      L_R_DiffAct_0 big m (a.drop 1) (b.drop 1) (aU false (btw (ea (atE a 0)) (ea (atE b 0))) o).1 (aU false (btw (ea (atE a 0)) (ea (atE b 0))) o).2.1 (aU false (btw (ea (atE a 0)) (ea (atE b 0))) o).2.2 t := by
  have hn := bd.n
  have h1 := bd.ok.h1
  have h2 := bd.ok.h2
  have qa : 0 ≤ (0 : Int) ∧ (0 : Int) < (a.length : Int) := by omega
  have qb : 0 ≤ (0 : Int) ∧ (0 : Int) < (b.length : Int) := by omega
  have sa : 0 ≤ (a.length : Int) ∧ (a.length : Int) ≤ (a.length : Int) ∧ 0 ≤ (1 : Int) ∧ (1 : Int) ≤ (a.length : Int) := by omega
  have sb : 0 ≤ (b.length : Int) ∧ (b.length : Int) ≤ (b.length : Int) ∧ 0 ≤ (1 : Int) ∧ (1 : Int) ≤ (b.length : Int) := by omega
  have ex : (at_ (e := YElem) a 0).2.2 = ea (atE a 0) := rfl
  have ey : (at_ (e := YElem) b 0).2.2 = ea (atE b 0) := rfl
  have b1 : (List.length (o.1 : List (Ty.list YElem).den) + List.length ([[]] : List (Ty.list YElem).den)) * 24 ≤ 140737488355328 := c24' _ (by omega)
  have b2 : (List.length (o.2.1 : List Bool) + List.length ([false] : List Bool)) * 1 ≤ 140737488355328 := c1' _ (by omega)
  have b3 : ∀ x : Attrs, (List.length (o.2.2 : List (Ty.list YAttr).den) + List.length ([x] : List (Ty.list YAttr).den)) * 24 ≤ 140737488355328 := fun x => c24' _ (by omega)
  unfold J_R_DiffAct_0
  simp only [bct, if_pos qa, if_pos qb, ex, ey, if_pos b1, if_pos b2, btw_eq _ _ (cx.ab _ (atE_mem a ha) _ (atE_mem b hb)), Option.bind_some, res_R_Between_0_ret, if_pos (b3 _), if_pos sa, if_pos sb, t1, Int.toNat_natCast, List.take_length]
  cases l with
  | true => rfl
  | false => rfl
theorem j_cut (ha : 0 < a.length) (hb : t = true → 1 < a.length ∧ 0 < b.length) (m : Nat) (l : Bool) (r : Int) (hr : r = 1 + (dcost (a.drop 1) b t : Nat)) : J_R_DiffAct_0 big m a b o.1 o.2.1 o.2.2 t l r false =
      L_R_DiffAct_0 big m (a.drop 1) b (aU true [] o).1 (aU true [] o).2.1 (aU true [] o).2.2 t := by
  have hn := bd.n
  have h1 := bd.ok.h1
  have h2 := bd.ok.h2
  have la := cx.la
  have lb := cx.lb
  have d1 : decide ((a.length : Int) > 0) = true := decide_eq_true (by omega)
  have sa : 0 ≤ (a.length : Int) ∧ (a.length : Int) ≤ (a.length : Int) ∧ 0 ≤ (1 : Int) ∧ (1 : Int) ≤ (a.length : Int) := by omega
  have b1 : (List.length (o.1 : List (Ty.list YElem).den) + List.length ([[]] : List (Ty.list YElem).den)) * 24 ≤ 140737488355328 := c24' _ (by omega)
  have b2 : (List.length (o.2.1 : List Bool) + List.length ([true] : List Bool)) * 1 ≤ 140737488355328 := c1' _ (by omega)
  have b3 : (List.length (o.2.2 : List (Ty.list YAttr).den) + List.length ([[]] : List (Ty.list YAttr).den)) * 24 ≤ 140737488355328 := c24' _ (by omega)
  have la1 : (a.drop 1).length = a.length - 1 := by simp
  have rc := rcost_eq (a.drop 1) b (by omega) (by omega) (fun x hx => cx.sa x (List.mem_of_mem_drop hx)) t (fun ht => ⟨by have := (hb ht).1; omega, (hb ht).2⟩)
  have dl : dcost (a.drop 1) b t ≤ 5000 := by
    unfold dcost
    split
    · have := ds_len (ini (a.drop 1)) (ini b)
      rw [ini_len, ini_len] at this
      have : pcE (lst (a.drop 1)) (lst b) ≤ 1 := by unfold pcE; split <;> omega
      omega
    · have := ds_len (a.drop 1) b; omega
  have w1 : IntKind.i64.wrap (1 + (dcost (a.drop 1) b t : Nat)) = 1 + (dcost (a.drop 1) b t : Nat) := w64 (by omega) (by omega)
  unfold J_R_DiffAct_0
  cases t with
  | false =>
    simp only [bcf, d1, show (true == true) = true from rfl, bct, Bool.not_false, show (true == false) = false from rfl, if_pos sa, t1, Int.toNat_natCast, List.take_length, rc, Option.bind_some, res_R_DiffCost_0_ret, w1, hr, beq_self_eq_true, if_pos b1, if_pos b2, if_pos b3]
    rfl
  | true =>
    have d2 : decide ((a.length : Int) > 1) = true := decide_eq_true (by have := (hb rfl).1; omega)
    simp only [bcf, d1, d2, show (true == true) = true from rfl, bct, Bool.not_true, show (false == false) = true from rfl, if_pos sa, t1, Int.toNat_natCast, List.take_length, rc, Option.bind_some, res_R_DiffCost_0_ret, w1, hr, beq_self_eq_true, if_pos b1, if_pos b2, if_pos b3]
    rfl
theorem j_add (hb0 : 0 < b.length) (m : Nat) (l : Bool) (r : Int) (hr : 0 < a.length → (t = true → 1 < a.length) → r ≠ 1 + (dcost (a.drop 1) b t : Nat)) : J_R_DiffAct_0 big m a b o.1 o.2.1 o.2.2 t l r false =
      L_R_DiffAct_0 big m a (b.drop 1) (rdI (atE b 0) o).1 (rdI (atE b 0) o).2.1 (rdI (atE b 0) o).2.2 t := by
  have la := cx.la
  have lb := cx.lb
  have aa := act_add o bd t hb0 m
  unfold J_R_DiffAct_0
  by_cases ha : 0 < a.length
  · have d1 : decide ((a.length : Int) > 0) = true := decide_eq_true (by omega)
    have sa : 0 ≤ (a.length : Int) ∧ (a.length : Int) ≤ (a.length : Int) ∧ 0 ≤ (1 : Int) ∧ (1 : Int) ≤ (a.length : Int) := by omega
    have la1 : (a.drop 1).length = a.length - 1 := by simp
    have dl : dcost (a.drop 1) b t ≤ 5000 := by
      unfold dcost
      split
      · have := ds_len (ini (a.drop 1)) (ini b)
        rw [ini_len, ini_len] at this
        have : pcE (lst (a.drop 1)) (lst b) ≤ 1 := by unfold pcE; split <;> omega
        omega
      · have := ds_len (a.drop 1) b; omega
    have w1 : IntKind.i64.wrap (1 + (dcost (a.drop 1) b t : Nat)) = 1 + (dcost (a.drop 1) b t : Nat) := w64 (by omega) (by omega)
    cases t with
    | false =>
      have rc := rcost_eq (a.drop 1) b (by omega) (by omega) (fun x hx => cx.sa x (List.mem_of_mem_drop hx)) false (fun ht => by cases ht)
      have ne : (r == 1 + (dcost (a.drop 1) b false : Nat)) = false := beq_eq_false_iff_ne.2 (hr ha (fun z => by cases z))
      simp only [bcf, d1, show (true == true) = true from rfl, bct, Bool.not_false, show (true == false) = false from rfl, if_pos sa, t1, Int.toNat_natCast, List.take_length, rc, Option.bind_some, res_R_DiffCost_0_ret, w1, ne, aa]
    | true =>
      by_cases h1 : 1 < a.length
      · have d2 : decide ((a.length : Int) > 1) = true := decide_eq_true (by omega)
        have rc := rcost_eq (a.drop 1) b (by omega) (by omega) (fun x hx => cx.sa x (List.mem_of_mem_drop hx)) true (fun ht => ⟨by omega, hb0⟩)
        have ne : (r == 1 + (dcost (a.drop 1) b true : Nat)) = false := beq_eq_false_iff_ne.2 (hr ha (fun _ => h1))
        simp only [bcf, d1, d2, show (true == true) = true from rfl, bct, Bool.not_true, show (false == false) = true from rfl, if_pos sa, t1, Int.toNat_natCast, List.take_length, rc, Option.bind_some, res_R_DiffCost_0_ret, w1, ne, aa]
      · have d2 : decide ((a.length : Int) > 1) = false := decide_eq_false (by omega)
        simp only [bcf, d1, d2, show (true == true) = true from rfl, bct, Bool.not_true, show (false == false) = true from rfl, show (false == true) = false from rfl, aa]
  · have d1 : decide ((a.length : Int) > 0) = false := decide_eq_false (by omega)
    simp only [bcf, d1, show (false == true) = false from rfl, aa]
end
end Go.Ev.Diff
namespace Go.Ev.Diff
open Go.Ev Go.Ev.Attr Go.Ev.Track Go.Ev.Delta
set_option linter.unusedVariables false
set_option linter.unusedSimpArgs false
theorem dcost_le (a b : Flow) (t : Bool) : dcost a b t ≤ a.length + b.length + 1 := by
  unfold dcost
  split
  · have := ds_len (ini a) (ini b)
    rw [ini_len, ini_len] at this
    have : pcE (lst a) (lst b) ≤ 1 := by unfold pcE; split <;> omega
    omega
  · have := ds_len a b; omega
section
variable {a b : Flow} (cx : Cx a b) (o : Act) (t : Bool) (m : Nat)
include cx
/-- Nothing is kept: one of them has no more. -/
theorem no_a (ha : a.length = 0) (hb : 0 < b.length) : L_R_DiffAct_0 big (m + 1) a b o.1 o.2.1 o.2.2 false = J_R_DiffAct_0 big m a b o.1 o.2.1 o.2.2 false false (dcost a b false : Nat) false := by
  have la := cx.la
  have lb := cx.lb
  have d1 : decide ((a.length : Int) > 0) = false := decide_eq_false (by omega)
  have d2 : decide ((b.length : Int) > 0) = true := decide_eq_true (by omega)
  have rc := rcost_eq a b (by omega) (by omega) cx.sa false (fun z => by cases z)
  rw [L_R_DiffAct_0_step]
  simp only [d1, d2, rc, show (true == true) = true from rfl, show (false == true) = false from rfl, show (true == false) = false from rfl, show (false == false) = true from rfl, bct, bcf, Bool.not_true, Bool.not_false, Option.bind_some, res_R_DiffCost_0_ret, res_R_SameAttrs_0_ret]
theorem no_b (ha : 0 < a.length) (hb : b.length = 0) : L_R_DiffAct_0 big (m + 1) a b o.1 o.2.1 o.2.2 false = J_R_DiffAct_0 big m a b o.1 o.2.1 o.2.2 false false (dcost a b false : Nat) false := by
  have la := cx.la
  have lb := cx.lb
  have d1 : decide ((a.length : Int) > 0) = true := decide_eq_true (by omega)
  have d2 : decide ((b.length : Int) > 0) = false := decide_eq_false (by omega)
  have rc := rcost_eq a b (by omega) (by omega) cx.sa false (fun z => by cases z)
  rw [L_R_DiffAct_0_step]
  simp only [d1, d2, rc, show (true == true) = true from rfl, show (false == true) = false from rfl, show (true == false) = false from rfl, show (false == false) = true from rfl, bct, bcf, Bool.not_true, Bool.not_false, Option.bind_some, res_R_DiffCost_0_ret, res_R_SameAttrs_0_ret]
omit cx in
theorem no_ab (ha : a.length = 0) (hb : b.length = 0) : L_R_DiffAct_0 big (m + 1) a b o.1 o.2.1 o.2.2 false = some (ret_R_DiffAct o) := by
  have d1 : decide ((a.length : Int) > 0) = false := decide_eq_false (by omega)
  have d2 : decide ((b.length : Int) > 0) = false := decide_eq_false (by omega)
  rw [L_R_DiffAct_0_step]
  simp only [d1, d2, show (true == true) = true from rfl, show (false == true) = false from rfl, show (true == false) = false from rfl, show (false == false) = true from rfl, bct, bcf, Bool.not_true, Bool.not_false, Option.bind_some, res_R_DiffCost_0_ret, res_R_SameAttrs_0_ret]
/-- Both have more, in front of what is tied. -/
theorem more (ha : 0 < a.length) (hb : 0 < b.length) (ht : t = true → 1 < a.length ∧ 1 < b.length) : L_R_DiffAct_0 big (m + 1) a b o.1 o.2.1 o.2.2 t =
    J_R_DiffAct_0 big m a b o.1 o.2.1 o.2.2 t false (dcost a b t : Nat) (alE (atE a 0) (atE b 0) && ((dcost a b t : Nat) : Int) == (pcE (atE a 0) (atE b 0) : Nat) + (dcost (a.drop 1) (b.drop 1) t : Nat)) := by
  have la := cx.la
  have lb := cx.lb
  have d1 : decide ((a.length : Int) > 0) = true := decide_eq_true (by omega)
  have d2 : decide ((b.length : Int) > 0) = true := decide_eq_true (by omega)
  have la1 : (a.drop 1).length = a.length - 1 := List.length_drop
  have lb1 : (b.drop 1).length = b.length - 1 := List.length_drop
  have qa : 0 ≤ (0 : Int) ∧ (0 : Int) < (a.length : Int) := by omega
  have qb : 0 ≤ (0 : Int) ∧ (0 : Int) < (b.length : Int) := by omega
  have sa : 0 ≤ (a.length : Int) ∧ (a.length : Int) ≤ (a.length : Int) ∧ 0 ≤ (1 : Int) ∧ (1 : Int) ≤ (a.length : Int) := by omega
  have sb : 0 ≤ (b.length : Int) ∧ (b.length : Int) ≤ (b.length : Int) ∧ 0 ≤ (1 : Int) ∧ (1 : Int) ≤ (b.length : Int) := by omega
  have rc := rcost_eq a b (by omega) (by omega) cx.sa t (fun z => ⟨ha, hb⟩)
  have rc1 := rcost_eq (a.drop 1) (b.drop 1) (by omega) (by omega) (fun x hx => cx.sa x (List.mem_of_mem_drop hx)) t (fun z => by have := ht z; omega)
  have dl := dcost_le (a.drop 1) (b.drop 1) t
  have w1 : IntKind.i64.wrap (1 + (dcost (a.drop 1) (b.drop 1) t : Nat)) = 1 + (dcost (a.drop 1) (b.drop 1) t : Nat) := w64 (by omega) (by omega)
  have w0' : IntKind.i64.wrap (0 + (dcost (a.drop 1) (b.drop 1) t : Nat)) = 0 + (dcost (a.drop 1) (b.drop 1) t : Nat) := w64 (by omega) (by omega)
  have sx := cx.sa _ (atE_mem a ha)
  have e1 : (at_ (e := YElem) a 0).1 = ec (atE a 0) := rfl
  have e2 : (at_ (e := YElem) b 0).1 = ec (atE b 0) := rfl
  have e3 : (at_ (e := YElem) a 0).2.1 = er (atE a 0) := rfl
  have e4 : (at_ (e := YElem) b 0).2.1 = er (atE b 0) := rfl
  have e5 : (at_ (e := YElem) a 0).2.2 = ea (atE a 0) := rfl
  have e6 : (at_ (e := YElem) b 0).2.2 = ea (atE b 0) := rfl
  have al : alE (atE a 0) (atE b 0) = ((ec (atE a 0) == ec (atE b 0)) && (er (atE a 0) == er (atE b 0))) := rfl
  have pe : pcE (atE a 0) (atE b 0) = if eqA (ea (atE a 0)) (ea (atE b 0)) = true then 0 else 1 := rfl
  have ss := same35 (ea (atE a 0)) (ea (atE b 0)) sx
  rw [L_R_DiffAct_0_step, al]
  cases t with
  | false =>
    cases h1 : (ec (atE a 0) == ec (atE b 0)) with
    | false => simp only [d1, d2, rc, if_pos qa, if_pos qb, e1, e2, h1, Bool.false_and, show (true == true) = true from rfl, show (false == true) = false from rfl, show (true == false) = false from rfl, show (false == false) = true from rfl, bct, bcf, Bool.not_true, Bool.not_false, Option.bind_some, res_R_DiffCost_0_ret, res_R_SameAttrs_0_ret]
    | true =>
      cases h2 : (er (atE a 0) == er (atE b 0)) with
      | false => simp only [d1, d2, rc, if_pos qa, if_pos qb, e1, e2, e3, e4, h1, h2, Bool.and_false, Bool.false_and, show (true == true) = true from rfl, show (false == true) = false from rfl, show (true == false) = false from rfl, show (false == false) = true from rfl, bct, bcf, Bool.not_true, Bool.not_false, Option.bind_some, res_R_DiffCost_0_ret, res_R_SameAttrs_0_ret]
      | true =>
        cases h3 : eqA (ea (atE a 0)) (ea (atE b 0)) with
        | false =>
          rw [h3, if_neg (by decide)] at pe
          rw [h3] at ss
          simp only [d1, d2, rc, if_pos qa, if_pos qb, e1, e2, e3, e4, e5, e6, h1, h2, ss, if_pos sa, if_pos sb, t1, Int.toNat_natCast, List.take_length, rc1, w1, pe, Bool.true_and, show (true == true) = true from rfl, show (false == true) = false from rfl, show (true == false) = false from rfl, show (false == false) = true from rfl, bct, bcf, Bool.not_true, Bool.not_false, Option.bind_some, res_R_DiffCost_0_ret, res_R_SameAttrs_0_ret]
          rfl
        | true =>
          rw [h3, if_pos rfl] at pe
          rw [h3] at ss
          simp only [d1, d2, rc, if_pos qa, if_pos qb, e1, e2, e3, e4, e5, e6, h1, h2, ss, if_pos sa, if_pos sb, t1, Int.toNat_natCast, List.take_length, rc1, w0', pe, Bool.true_and, show (true == true) = true from rfl, show (false == true) = false from rfl, show (true == false) = false from rfl, show (false == false) = true from rfl, bct, bcf, Bool.not_true, Bool.not_false, Option.bind_some, res_R_DiffCost_0_ret, res_R_SameAttrs_0_ret]
          rfl
  | true =>
    obtain ⟨h1a, h1b⟩ := ht rfl
    have d3 : ((a.length : Int) == 1) = false := beq_eq_false_iff_ne.2 (by omega)
    have d5 : decide ((a.length : Int) > 1) = true := decide_eq_true (by omega)
    have d6 : decide ((b.length : Int) > 1) = true := decide_eq_true (by omega)
    cases h1 : (ec (atE a 0) == ec (atE b 0)) with
    | false => simp only [d1, d2, d3, d5, d6, rc, if_pos qa, if_pos qb, e1, e2, h1, Bool.false_and, show (true == true) = true from rfl, show (false == true) = false from rfl, show (true == false) = false from rfl, show (false == false) = true from rfl, bct, bcf, Bool.not_true, Bool.not_false, Option.bind_some, res_R_DiffCost_0_ret, res_R_SameAttrs_0_ret]
    | true =>
      cases h2 : (er (atE a 0) == er (atE b 0)) with
      | false => simp only [d1, d2, d3, d5, d6, rc, if_pos qa, if_pos qb, e1, e2, e3, e4, h1, h2, Bool.and_false, Bool.false_and, show (true == true) = true from rfl, show (false == true) = false from rfl, show (true == false) = false from rfl, show (false == false) = true from rfl, bct, bcf, Bool.not_true, Bool.not_false, Option.bind_some, res_R_DiffCost_0_ret, res_R_SameAttrs_0_ret]
      | true =>
        cases h3 : eqA (ea (atE a 0)) (ea (atE b 0)) with
        | false =>
          rw [h3, if_neg (by decide)] at pe
          rw [h3] at ss
          simp only [d1, d2, d3, d5, d6, rc, if_pos qa, if_pos qb, e1, e2, e3, e4, e5, e6, h1, h2, ss, if_pos sa, if_pos sb, t1, Int.toNat_natCast, List.take_length, rc1, w1, pe, Bool.true_and, show (true == true) = true from rfl, show (false == true) = false from rfl, show (true == false) = false from rfl, show (false == false) = true from rfl, bct, bcf, Bool.not_true, Bool.not_false, Option.bind_some, res_R_DiffCost_0_ret, res_R_SameAttrs_0_ret]
          rfl
        | true =>
          rw [h3, if_pos rfl] at pe
          rw [h3] at ss
          simp only [d1, d2, d3, d5, d6, rc, if_pos qa, if_pos qb, e1, e2, e3, e4, e5, e6, h1, h2, ss, if_pos sa, if_pos sb, t1, Int.toNat_natCast, List.take_length, rc1, w0', pe, Bool.true_and, show (true == true) = true from rfl, show (false == true) = false from rfl, show (true == false) = false from rfl, show (false == false) = true from rfl, bct, bcf, Bool.not_true, Bool.not_false, Option.bind_some, res_R_DiffCost_0_ret, res_R_SameAttrs_0_ret]
          rfl
/-- Only the last ones are left. -/
theorem both_last (ha : a.length = 1) (hb : b.length = 1) (hal : alE (atE a 0) (atE b 0) = true) : ∃ r, L_R_DiffAct_0 big (m + 1) a b o.1 o.2.1 o.2.2 true = J_R_DiffAct_0 big m a b o.1 o.2.1 o.2.2 true true r true := by
  have d1 : decide ((a.length : Int) > 0) = true := decide_eq_true (by omega)
  have d2 : decide ((b.length : Int) > 0) = true := decide_eq_true (by omega)
  have d3 : ((a.length : Int) == 1) = true := by rw [ha]; rfl
  have d4 : ((b.length : Int) == 1) = true := by rw [hb]; rfl
  have qa : 0 ≤ (0 : Int) ∧ (0 : Int) < (a.length : Int) := by omega
  have qb : 0 ≤ (0 : Int) ∧ (0 : Int) < (b.length : Int) := by omega
  have rc := rcost_eq a b (by omega) (by omega) cx.sa true (fun z => by omega)
  have e1 : (at_ (e := YElem) a 0).1 = ec (atE a 0) := rfl
  have e2 : (at_ (e := YElem) b 0).1 = ec (atE b 0) := rfl
  have e3 : (at_ (e := YElem) a 0).2.1 = er (atE a 0) := rfl
  have e4 : (at_ (e := YElem) b 0).2.1 = er (atE b 0) := rfl
  unfold alE at hal
  rw [Bool.and_eq_true] at hal
  refine ⟨(dcost a b true : Nat), ?_⟩
  rw [L_R_DiffAct_0_step]
  simp only [d1, d2, d3, d4, rc, if_pos qa, if_pos qb, e1, e2, e3, e4, hal.1, hal.2, show (true == true) = true from rfl, show (false == true) = false from rfl, show (true == false) = false from rfl, show (false == false) = true from rfl, bct, bcf, Bool.not_true, Bool.not_false, Option.bind_some, res_R_DiffCost_0_ret, res_R_SameAttrs_0_ret]
/-- One of them has only its last one left. -/
theorem one_last (ha : 0 < a.length) (hb : 0 < b.length) (h1 : (a.length = 1 ∧ 1 < b.length) ∨ (1 < a.length ∧ b.length = 1)) : L_R_DiffAct_0 big (m + 1) a b o.1 o.2.1 o.2.2 true = J_R_DiffAct_0 big m a b o.1 o.2.1 o.2.2 true false (dcost a b true : Nat) false := by
  have la := cx.la
  have lb := cx.lb
  have d1 : decide ((a.length : Int) > 0) = true := decide_eq_true (by omega)
  have d2 : decide ((b.length : Int) > 0) = true := decide_eq_true (by omega)
  have qa : 0 ≤ (0 : Int) ∧ (0 : Int) < (a.length : Int) := by omega
  have qb : 0 ≤ (0 : Int) ∧ (0 : Int) < (b.length : Int) := by omega
  have rc := rcost_eq a b (by omega) (by omega) cx.sa true (fun z => by omega)
  have e1 : (at_ (e := YElem) a 0).1 = ec (atE a 0) := rfl
  have e2 : (at_ (e := YElem) b 0).1 = ec (atE b 0) := rfl
  have e3 : (at_ (e := YElem) a 0).2.1 = er (atE a 0) := rfl
  have e4 : (at_ (e := YElem) b 0).2.1 = er (atE b 0) := rfl
  rw [L_R_DiffAct_0_step]
  rcases h1 with ⟨h1, h2⟩ | ⟨h1, h2⟩
  · have d3 : ((a.length : Int) == 1) = true := by rw [h1]; rfl
    have d4 : ((b.length : Int) == 1) = false := beq_eq_false_iff_ne.2 (by omega)
    have d5 : decide ((a.length : Int) > 1) = false := decide_eq_false (by omega)
    cases hc : (ec (atE a 0) == ec (atE b 0)) with
    | false => simp only [d1, d2, d3, d4, d5, rc, if_pos qa, if_pos qb, e1, e2, hc, show (true == true) = true from rfl, show (false == true) = false from rfl, show (true == false) = false from rfl, show (false == false) = true from rfl, bct, bcf, Bool.not_true, Bool.not_false, Option.bind_some, res_R_DiffCost_0_ret, res_R_SameAttrs_0_ret]
    | true =>
      cases hr : (er (atE a 0) == er (atE b 0)) <;> simp only [d1, d2, d3, d4, d5, rc, if_pos qa, if_pos qb, e1, e2, e3, e4, hc, hr, show (true == true) = true from rfl, show (false == true) = false from rfl, show (true == false) = false from rfl, show (false == false) = true from rfl, bct, bcf, Bool.not_true, Bool.not_false, Option.bind_some, res_R_DiffCost_0_ret, res_R_SameAttrs_0_ret]
  · have d3 : ((a.length : Int) == 1) = false := beq_eq_false_iff_ne.2 (by omega)
    have d5 : decide ((a.length : Int) > 1) = true := decide_eq_true (by omega)
    have d6 : decide ((b.length : Int) > 1) = false := decide_eq_false (by omega)
    cases hc : (ec (atE a 0) == ec (atE b 0)) with
    | false => simp only [d1, d2, d3, d5, d6, rc, if_pos qa, if_pos qb, e1, e2, hc, show (true == true) = true from rfl, show (false == true) = false from rfl, show (true == false) = false from rfl, show (false == false) = true from rfl, bct, bcf, Bool.not_true, Bool.not_false, Option.bind_some, res_R_DiffCost_0_ret, res_R_SameAttrs_0_ret]
    | true =>
      cases hr : (er (atE a 0) == er (atE b 0)) <;> simp only [d1, d2, d3, d5, d6, rc, if_pos qa, if_pos qb, e1, e2, e3, e4, hc, hr, show (true == true) = true from rfl, show (false == true) = false from rfl, show (true == false) = false from rfl, show (false == false) = true from rfl, bct, bcf, Bool.not_true, Bool.not_false, Option.bind_some, res_R_DiffCost_0_ret, res_R_SameAttrs_0_ret]
end
/-- What lies in front of what is tied. -/
def ia (t : Bool) (a : Flow) : Flow := if t = true then ini a else a
/-- What is tied. -/
def tl (t : Bool) (a b : Flow) : List U := if t = true then [.k (btw (ea (lst a)) (ea (lst b)))] else []
theorem ia_len (t : Bool) (a : Flow) : (ia t a).length = if t = true then a.length - 1 else a.length := by
  unfold ia; split
  · exact ini_len a
  · rfl
theorem ia_cons (t : Bool) {a : Flow} (h : 0 < a.length) (ht : t = true → 1 < a.length) : ia t a = atE a 0 :: ia t (a.drop 1) ∧ (t = true → lst (a.drop 1) = lst a) := by
  have e : a = atE a 0 :: a.drop 1 := drop_elem a h
  unfold ia
  split
  · rename_i hh
    have h1 := ht hh
    have l1 : (a.drop 1).length = a.length - 1 := List.length_drop
    refine ⟨?_, fun _ => ?_⟩
    · have q : ini a = (atE a 0 :: a.drop 1).take (a.length - 1 - 1 + 1) := by
        rw [← e, show a.length - 1 - 1 + 1 = a.length - 1 by omega]; rfl
      rw [q, List.take_succ_cons]
      unfold ini
      rw [l1]
    · unfold lst atE at_
      rw [l1]
      simp only [Int.toNat_natCast, List.getD_eq_getElem?_getD, List.getElem?_drop]
      rw [show 1 + (a.length - 1 - 1) = a.length - 1 by omega]
  · exact ⟨e, fun z => by contradiction⟩
theorem dcost_ia (a b : Flow) (t : Bool) : dcost a b t = (if t = true then pcE (lst a) (lst b) else 0) + ds (ia t a) (ia t b) := by
  unfold dcost ia
  split
  · rfl
  · omega
theorem ff_drop {a : Flow} (h : Ff a) : Ff (a.drop 1) := fun x hx => h x (List.mem_of_mem_drop hx)
theorem act_loop : ∀ (n : Nat) (a b : Flow) (t : Bool) (m : Nat) (o : Act), a.length + b.length ≤ n → n < m → Cx a b → Bd o a b → Ff a → Ff b → (t = true → 0 < a.length ∧ 0 < b.length ∧ alE (lst a) (lst b) = true) →
    L_R_DiffAct_0 big m a b o.1 o.2.1 o.2.2 t = some (ret_R_DiffAct (rdA (pa (ia t a) (ia t b) ++ tl t a b) o)) := by
  intro n
  induction n with
  | zero =>
    intro a b t m o hn hm cx bd fa fb ht
    cases m with
    | zero => omega
    | succ m =>
    cases t with
    | true => have := ht rfl; omega
    | false =>
      have a0 : a = [] := List.eq_nil_of_length_eq_zero (by omega)
      have b0 : b = [] := List.eq_nil_of_length_eq_zero (by omega)
      subst a0 b0
      rw [no_ab o m rfl rfl]; rfl
  | succ n ih =>
    intro a b t m o hn hm cx bd fa fb ht
    cases m with
    | zero => omega
    | succ m =>
    have la1 : (a.drop 1).length = a.length - 1 := List.length_drop
    have lb1 : (b.drop 1).length = b.length - 1 := List.length_drop
    have cut : 0 < a.length → (t = true → 1 < a.length ∧ 0 < b.length) → ∀ (l : Bool) (us : List U), us = pa (ia t (a.drop 1)) (ia t b) ++ tl t a b → dcost a b t = 1 + dcost (a.drop 1) b t →
        J_R_DiffAct_0 big m a b o.1 o.2.1 o.2.2 t l (dcost a b t : Nat) false = some (ret_R_DiffAct (rdA (.c :: us) o)) := by
      intro h1 h2 l us hus hd
      rw [j_cut cx o bd t h1 h2 m l _ (by rw [hd]; omega)]
      have := ih (a.drop 1) b t m (aU true [] o) (by omega) (by omega) cx.da (bd.keep true [] h1) (ff_drop fa) fb (fun z => by
        obtain ⟨q1, q2, q3⟩ := ht z
        have := h2 z
        exact ⟨by omega, q2, by rw [(ia_cons t h1 (fun z => (h2 z).1)).2 z]; exact q3⟩)
      rw [this, hus]
      have e : tl t (a.drop 1) b = tl t a b := by
        unfold tl
        split
        · rename_i z; rw [(ia_cons t h1 (fun z => (h2 z).1)).2 z]
        · rfl
      rw [e]; rfl
    have add : 0 < b.length → (t = true → 1 < b.length) → ∀ (l : Bool) (us : List U), us = pa (ia t a) (ia t (b.drop 1)) ++ tl t a b → (0 < a.length → (t = true → 1 < a.length) → dcost a b t ≠ 1 + dcost (a.drop 1) b t) →
        J_R_DiffAct_0 big m a b o.1 o.2.1 o.2.2 t l (dcost a b t : Nat) false = some (ret_R_DiffAct (rdA (.a (atE b 0) :: us) o)) := by
      intro h1 h2 l us hus hd
      rw [j_add cx o bd t h1 m l _ (fun q1 q2 => by have := hd q1 q2; omega)]
      have := ih a (b.drop 1) t m (rdI (atE b 0) o) (by omega) (by omega) cx.db (bd.add _ h1) fa (ff_drop fb) (fun z => by
        obtain ⟨q1, q2, q3⟩ := ht z
        have := h2 z
        exact ⟨q1, by omega, by rw [(ia_cons t h1 h2).2 z]; exact q3⟩)
      rw [this, hus]
      have e : tl t a (b.drop 1) = tl t a b := by
        unfold tl
        split
        · rename_i z; rw [(ia_cons t h1 h2).2 z]
        · rfl
      rw [e]; rfl
    have dI := dcost_ia a b t
    have lia := ia_len t a
    have lib := ia_len t b
    by_cases fA : 0 < a.length ∧ (t = true → 1 < a.length)
    · obtain ⟨iA, lA⟩ := ia_cons t fA.1 fA.2
      have dA : dcost (a.drop 1) b t = (if t = true then pcE (lst a) (lst b) else 0) + ds (ia t (a.drop 1)) (ia t b) := by
        rw [dcost_ia]
        split
        · rename_i z; rw [lA z]
        · rfl
      by_cases fB : 0 < b.length ∧ (t = true → 1 < b.length)
      · obtain ⟨iB, lB⟩ := ia_cons t fB.1 fB.2
        have dB : dcost (a.drop 1) (b.drop 1) t = (if t = true then pcE (lst a) (lst b) else 0) + ds (ia t (a.drop 1)) (ia t (b.drop 1)) := by
          rw [dcost_ia]
          split
          · rename_i z; rw [lA z, lB z]
          · rfl
        have hpc := pa_cc (atE a 0) (atE b 0) (ia t (a.drop 1)) (ia t (b.drop 1))
        rw [← iA, ← iB] at hpc
        rw [more cx o t m fA.1 fB.1 (fun z => ⟨fA.2 z, fB.2 z⟩)]
        by_cases hk : alE (atE a 0) (atE b 0) = true ∧ ds (ia t a) (ia t b) = ds (ia t (a.drop 1)) (ia t (b.drop 1)) + pcE (atE a 0) (atE b 0)
        · rw [if_pos hk] at hpc
          have hd : ((dcost a b t : Nat) : Int) = (pcE (atE a 0) (atE b 0) : Nat) + (dcost (a.drop 1) (b.drop 1) t : Nat) := by omega
          rw [hk.1, hd, beq_self_eq_true, Bool.true_and, j_keep cx o bd t fA.1 fB.1 m false, if_neg (by decide)]
          have := ih (a.drop 1) (b.drop 1) t m (aU false (btw (ea (atE a 0)) (ea (atE b 0))) o) (by omega) (by omega) cx.da.db (bd.keep _ _ fA.1).dropb (ff_drop fa) (ff_drop fb) (fun z => by
            obtain ⟨q1, q2, q3⟩ := ht z
            have := fA.2 z
            have := fB.2 z
            exact ⟨by omega, by omega, by rw [lA z, lB z]; exact q3⟩)
          rw [this, hpc, chg_btw (fa _ (atE_mem a fA.1)) (fb _ (atE_mem b fB.1))]
          have e : tl t (a.drop 1) (b.drop 1) = tl t a b := by
            unfold tl
            split
            · rename_i z; rw [lA z, lB z]
            · rfl
          rw [e]; rfl
        · rw [if_neg hk] at hpc
          have hf : (alE (atE a 0) (atE b 0) && ((dcost a b t : Nat) : Int) == (pcE (atE a 0) (atE b 0) : Nat) + (dcost (a.drop 1) (b.drop 1) t : Nat)) = false := by
            cases hal : alE (atE a 0) (atE b 0) with
            | false => rfl
            | true =>
              rw [Bool.true_and, beq_eq_false_iff_ne]
              intro z
              exact hk ⟨hal, by omega⟩
          rw [hf]
          by_cases hc : ds (ia t a) (ia t b) = 1 + ds (ia t (a.drop 1)) (ia t b)
          · rw [if_pos hc] at hpc
            rw [hpc]
            exact cut fA.1 (fun z => ⟨fA.2 z, fB.1⟩) false _ rfl (by omega)
          · rw [if_neg hc] at hpc
            rw [hpc]
            exact add fB.1 fB.2 false _ rfl (fun _ _ => by omega)
      · -- b has no more
        have b0 : ia t b = [] := by
          apply List.eq_nil_of_length_eq_zero
          rw [lib]
          split
          · rename_i z
            have := (ht z).2.1
            have : ¬ 1 < b.length := fun q => fB ⟨by omega, fun _ => q⟩
            omega
          · rename_i z
            have : ¬ 0 < b.length := fun q => fB ⟨q, fun w => absurd w z⟩
            omega
        have hd : dcost a b t = 1 + dcost (a.drop 1) b t := by
          rw [dI, dA, b0, ds_r0, ds_r0, iA, List.length_cons]; omega
        have st : L_R_DiffAct_0 big (m + 1) a b o.1 o.2.1 o.2.2 t = J_R_DiffAct_0 big m a b o.1 o.2.1 o.2.2 t false (dcost a b t : Nat) false := by
          cases t with
          | false =>
            have : ¬ 0 < b.length := fun q => fB ⟨q, fun w => by cases w⟩
            exact no_b cx o m fA.1 (by omega)
          | true =>
            have := (ht rfl).2.1
            have : ¬ 1 < b.length := fun q => fB ⟨by omega, fun _ => q⟩
            exact one_last cx o m fA.1 (by omega) (.inr ⟨fA.2 rfl, by omega⟩)
        rw [st, b0, iA, pa_c0]
        refine cut fA.1 (fun z => ⟨fA.2 z, (ht z).2.1⟩) false _ ?_ hd
        rw [b0]; rfl
    · -- a has no more
      have a0 : ia t a = [] := by
        apply List.eq_nil_of_length_eq_zero
        rw [lia]
        split
        · rename_i z
          have := (ht z).1
          have : ¬ 1 < a.length := fun q => fA ⟨by omega, fun _ => q⟩
          omega
        · rename_i z
          have : ¬ 0 < a.length := fun q => fA ⟨q, fun w => absurd w z⟩
          omega
      have nofree : 0 < a.length → (t = true → 1 < a.length) → dcost a b t ≠ 1 + dcost (a.drop 1) b t := fun q1 q2 => absurd ⟨q1, q2⟩ fA
      by_cases fB : 0 < b.length ∧ (t = true → 1 < b.length)
      · obtain ⟨iB, lB⟩ := ia_cons t fB.1 fB.2
        have st : L_R_DiffAct_0 big (m + 1) a b o.1 o.2.1 o.2.2 t = J_R_DiffAct_0 big m a b o.1 o.2.1 o.2.2 t false (dcost a b t : Nat) false := by
          cases t with
          | false =>
            have : ¬ 0 < a.length := fun q => fA ⟨q, fun w => by cases w⟩
            exact no_a cx o m (by omega) fB.1
          | true =>
            have := (ht rfl).1
            have : ¬ 1 < a.length := fun q => fA ⟨by omega, fun _ => q⟩
            exact one_last cx o m (by omega) fB.1 (.inl ⟨by omega, fB.2 rfl⟩)
        rw [st, a0, iB, pa_0c]
        refine add fB.1 fB.2 false _ ?_ nofree
        rw [a0]; rfl
      · have b0 : ia t b = [] := by
          apply List.eq_nil_of_length_eq_zero
          rw [lib]
          split
          · rename_i z
            have := (ht z).2.1
            have : ¬ 1 < b.length := fun q => fB ⟨by omega, fun _ => q⟩
            omega
          · rename_i z
            have : ¬ 0 < b.length := fun q => fB ⟨q, fun w => absurd w z⟩
            omega
        rw [a0, b0]
        cases t with
        | false =>
          have h1 : ¬ 0 < a.length := fun q => fA ⟨q, fun w => by cases w⟩
          have h2 : ¬ 0 < b.length := fun q => fB ⟨q, fun w => by cases w⟩
          rw [no_ab o m (by omega) (by omega)]; rfl
        | true =>
          obtain ⟨q1, q2, q3⟩ := ht rfl
          have h1 : ¬ 1 < a.length := fun q => fA ⟨by omega, fun _ => q⟩
          have h2 : ¬ 1 < b.length := fun q => fB ⟨by omega, fun _ => q⟩
          have k1 : a.length = 1 := by omega
          have k2 : b.length = 1 := by omega
          have x1 : lst a = atE a 0 := by unfold lst; rw [k1]
          have x2 : lst b = atE b 0 := by unfold lst; rw [k2]
          obtain ⟨r, hr⟩ := both_last cx o m k1 k2 (by rw [← x1, ← x2]; exact q3)
          rw [hr, j_keep cx o bd true (by omega) (by omega) m true, if_pos rfl]
          unfold tl
          rw [if_pos rfl, x1, x2]; rfl
theorem fu_ia {a b : Flow} (fa : Ff a) (fb : Ff b) : fu a b = pa (ia (tied a b) a) (ia (tied a b) b) ++ tl (tied a b) a b := by
  unfold fu ia tl
  by_cases h : tied a b = true
  · obtain ⟨t1, t2, t3, t4⟩ := tied_spec h
    rw [if_pos h, if_pos h, if_pos h, if_pos h, chg_btw (fa _ (lst_mem t1)) (fb _ (lst_mem t2))]
  · rw [if_neg h, if_neg h, if_neg h, if_neg h, List.append_nil]
theorem dact_eq {a b : Flow} (va : Vf a) (vb : Vf b) (cx : Cx a b) : C_R_DiffAct F_R_DiffAct a b = some (ret_R_DiffAct (rdA (fu a b) A0)) := by
  have la := cx.la
  have lb := cx.lb
  rw [e_R_DiffAct, tied_eq a b (by omega) (by omega)]
  simp only [Option.bind_some, res_R_Tied_0_ret]
  have := act_loop (a.length + b.length) a b (tied a b) big A0 (Nat.le_refl _) (big_ge (n := a.length + b.length + 1) (by omega)) cx ⟨⟨rfl, rfl⟩, fun x hx => by
    have : x = [] := by simpa [A0] using hx
    subst this
    show 0 + b.length ≤ _; omega, by show 0 + a.length ≤ _; omega⟩ va.ff vb.ff (fun z => by
    obtain ⟨t1, t2, t3, t4⟩ := tied_spec z
    refine ⟨t1, t2, ?_⟩
    unfold alE
    rw [t3, t4, char_ref (va.ok _ (lst_mem t1)) t3, char_ref (vb.ok _ (lst_mem t2)) t4]; rfl)
  rw [fu_ia va.ff vb.ff]
  exact this
end Go.Ev.Diff
namespace Go.Ev.Diff
open Go.Ev Go.Ev.Attr Go.Ev.Track Go.Ev.Delta
set_option linter.unusedVariables false
set_option linter.unusedSimpArgs false
section
variable {a b : Flow} (va : Vf a) (vb : Vf b) (ha : a.length ≤ 2000) (hb : b.length ≤ 2000) (hab : ∀ x ∈ a, ∀ y ∈ b, 2 * (ea x).length + 2 * (ea y).length ≤ 1048576)
include va vb ha hb hab
omit vb in
theorem cx_of : Cx a b := ⟨ha, hb, fun x hx => (fs_mem va.s hx).1, fun x hx y hy => by have := hab x hx y hy; omega⟩
end
section
variable (a b : Flow) (fa : Fs a) (fb : Fs b) (ha : a.length ≤ 10) (hb : b.length ≤ 10) (hab : ∀ x ∈ a, ∀ y ∈ b, 2 * (ea x).length + 2 * (ea y).length ≤ 1048576)
include fa fb ha hb hab
end
theorem fs_take {f : Flow} (h : Fs f) (n : Nat) : Fs (f.take n) := fs_of (by have := h.1; rw [List.length_take]; omega) (fun x hx => fs_mem h (List.mem_of_mem_take hx))
end Go.Ev.Diff
