
import Derived.Test.YtlgjdgebmiegeaaPZip
import Derived.Test.YtlgjdgebmiegeaaGBehind
namespace Go.Ev.Delta
open Go.Ev Go.Ev.Attr Go.Ev.Track
set_option linter.unusedVariables false
set_option linter.unusedSimpArgs false
theorem aE_ebl (x : Flow) {o : Act} (h : AOk o) : ebl (aE x o).1 = ebl o.1 + x.length := by
  obtain ⟨A, y, hA, hl⟩ := snoc_of o.1 _ h.h1
  show ebl (o.1.set (o.1.length - 1) (o.1.getD (o.1.length - 1) [] ++ x)) = _
  rw [hA]
  have e2 : (A ++ [y]).set ((A ++ [y]).length - 1) ((A ++ [y]).getD ((A ++ [y]).length - 1) [] ++ x) = A ++ [y ++ x] := by
    simp [List.getD_eq_getElem?_getD]
  rw [e2, ebl_append, ebl_append]
  simp [ebl]; omega
theorem aUk_ebl (n : Nat) (o : Act) : ebl (aUk n o).1 = ebl o.1 := by
  show ebl (o.1 ++ List.replicate n []) = _
  rw [ebl_append, ebl_nils]; rfl
theorem aU_ebl (c : Bool) (t : Attrs) (o : Act) : ebl (aU c t o).1 = ebl o.1 := by
  show ebl (o.1 ++ [[]]) = _
  rw [ebl_append]; rfl
theorem aUk_len (n : Nat) (o : Act) : (aUk n o).2.1.length = o.2.1.length + n := by simp [aUk]
theorem bhS_size (first : Bool) (x y : Flow) {o : Act} (h : AOk o) : ebl (bhS first x y o).1 = ebl o.1 + x.length ∧ (bhS first x y o).2.1.length = o.2.1.length + y.length := by
  unfold bhS
  split
  · exact ⟨by rw [aUk_ebl, aE_ebl _ h], by rw [aUk_len]; rfl⟩
  · exact ⟨by rw [aE_ebl _ (aUk_ok _ h), aUk_ebl], by show (aUk y.length o).2.1.length = _; rw [aUk_len]⟩
theorem bhU_size (first : Bool) (ca : Bool) (ta : Attrs) (cb : Bool) (tb : Attrs) (o : Act) : ebl (bhU first ca ta cb tb o).1 = ebl o.1 ∧ (bhU first ca ta cb tb o).2.1.length ≤ o.2.1.length + 1 := by
  unfold bhU
  split
  · exact ⟨rfl, by omega⟩
  · exact ⟨aU_ebl _ _ _, by simp [aU]⟩
theorem last_ebl (o : Act) : (o.1.getD (o.1.length - 1) []).length ≤ ebl o.1 := by
  by_cases hk : o.1.length - 1 < o.1.length
  · rw [List.getD_eq_getElem?_getD, List.getElem?_eq_getElem hk]; exact ebl_mem _ _ (List.getElem_mem hk)
  · rw [List.getD_eq_getElem?_getD, List.getElem?_eq_none (by omega)]; simp
section
variable (a b : Act) (ha : AOk a) (hb : AOk b) (hl : b.2.1.length = a.2.1.length) (hn : a.2.1.length ≤ 1048576)
theorem behind_inner (first : Bool) (N : Nat) (hN : N ≤ 1048576) (i m1 : Nat) : ∀ (d j m : Nat) (o : Act), j + d = N → d < m → AOk o → o.2.1.length + d ≤ 3999999 →
    L_R_Behind_1 big m1 m first a.1 a.2.1 a.2.2 b.1 b.2.1 b.2.2 o.1 o.2.1 o.2.2 (i : Int) (N : Int) (j : Int) = L_R_Behind_1 big m1 1 first a.1 a.2.1 a.2.2 b.1 b.2.1 b.2.2 (aUk d o).1 (aUk d o).2.1 (aUk d o).2.2 (i : Int) (N : Int) (N : Int) := by
  intro d
  induction d with
  | zero =>
    intro j m o hj hm ho hs
    obtain ⟨m, rfl⟩ : ∃ k, m = k + 1 := ⟨m - 1, by omega⟩
    have : j = N := by omega
    subst this
    rw [aUk_zero, L_R_Behind_1_step, show (1 : Nat) = 0 + 1 from rfl, L_R_Behind_1_step]
    simp only [bcond_if, dlt_self, Bool.false_eq_true, if_false]
  | succ d ih =>
    intro j m o hj hm ho hs
    obtain ⟨m, rfl⟩ : ∃ k, m = k + 1 := ⟨m - 1, by omega⟩
    have h1 := ho.h1
    have h2 := ho.h2
    have b1 : (o.1.length + List.length ([[]] : List Flow)) * 24 ≤ 140737488355328 := c24 _ _ (by simp; omega)
    have b2 : (o.2.1.length + List.length [false]) * 1 ≤ 140737488355328 := c1 _ _ (by simp; omega)
    have b3 : (o.2.2.length + List.length ([[]] : List Attrs)) * 24 ≤ 140737488355328 := c24 _ _ (by simp; omega)
    have w1 := wsucc (show j < N by omega) (show N ≤ 4611686018427387904 by omega)
    have := ih (j + 1) m (aU false [] o) (by omega) (by omega) (aU_ok _ _ ho) (by simp [aU]; omega)
    rw [aUk_succ, ← this, L_R_Behind_1_step]
    simp only [bcond_if, dlt (show j < N by omega), if_true, w1]
    rw [if_pos b1, if_pos b2, if_pos b3]
    rfl
include ha hb hl hn
omit hn in
theorem behind_gap (first : Bool) (i m : Nat) (o : Act) (hi : i ≤ a.2.1.length) (ho : AOk o) (h1 : ebl o.1 + (adAt a.1 i).length ≤ 2000000) (h2 : (adAt b.1 i).length ≤ 1048576) (h3 : o.2.1.length + (adAt b.1 i).length ≤ 3900000) :
    L_R_Behind_0 big (m + 1) first a.1 a.2.1 a.2.2 b.1 b.2.1 b.2.2 o.1 o.2.1 o.2.2 (i : Int) = J_R_Behind_0 big m first a b (bhS first (adAt a.1 i) (adAt b.1 i) o).1 (bhS first (adAt a.1 i) (adAt b.1 i) o).2.1 (bhS first (adAt a.1 i) (adAt b.1 i) o).2.2 (i : Int) := by
  have a1 := ha.h1
  have b1 := hb.h1
  have ea1 : at_ (e := .list YElem) a.1 (i : Int) = adAt a.1 i := rfl
  have eb1 : at_ (e := .list YElem) b.1 (i : Int) = adAt b.1 i := rfl
  have hd : decide ((i : Int) ≤ (a.2.1.length : Int)) = true := decide_eq_true (by omega)
  generalize adAt a.1 i = x at h1 ea1 ⊢
  generalize adAt b.1 i = y at h2 h3 eb1 ⊢
  rw [L_R_Behind_0_step]
  simp only [bcond_if, hd, if_true, inb, show i < a.1.length by omega, show i < b.1.length by omega, ea1, eb1]
  have put : ∀ (o : Act), AOk o → o.1.length ≤ 4000000 → ebl o.1 + x.length ≤ 2000000 → IntKind.i64.wrap ((o.1.length : Int) - 1) = ((o.1.length - 1 : Nat) : Int) ∧ o.1.length - 1 < o.1.length ∧
      (List.length ([] : Flow) + (o.1.getD (o.1.length - 1) []).length) * 40 ≤ 140737488355328 ∧ (List.length ([] ++ o.1.getD (o.1.length - 1) []) + x.length) * 40 ≤ 140737488355328 := by
    intro o ho hz hx
    have k1 := ho.h1
    have k2 := last_ebl o
    refine ⟨wnat (by omega) (by omega), by omega, c40 _ _ (by simp only [List.length_nil]; omega), c40 _ _ (by simp only [List.nil_append]; omega)⟩
  cases first
  · simp only [Bool.false_eq_true, if_false]
    have hin := behind_inner a b false y.length h2 i m y.length 0 big o (by omega) (big_ge (n := y.length + 1) (by omega)) ho (by omega)
    refine Eq.trans hin ?_
    have k0 := (aUk_ok y.length ho).h1
    have k1 := aUk_len y.length o
    have k2 := aUk_ebl y.length o
    obtain ⟨w, p1, p2, p3⟩ := put (aUk y.length o) (aUk_ok _ ho) (by omega) (by omega)
    have g : at_ (e := .list YElem) (aUk y.length o).1 (((aUk y.length o).1.length - 1 : Nat) : Int) = (aUk y.length o).1.getD ((aUk y.length o).1.length - 1) [] := rfl
    rw [show (1 : Nat) = 0 + 1 from rfl, L_R_Behind_1_step]
    simp only [bcond_if, dlt_self, Bool.false_eq_true, if_false, Bool.not_false, if_true, w, inb, p1, g, show i < a.1.length by omega, ea1]
    rw [if_pos p2, if_pos p3]
    simp only [Int.toNat_natCast, List.nil_append]
    rfl
  · simp only [if_true]
    have k0 := ho.h1
    obtain ⟨w, p1, p2, p3⟩ := put o ho (by omega) (by omega)
    have g : at_ (e := .list YElem) o.1 ((o.1.length - 1 : Nat) : Int) = o.1.getD (o.1.length - 1) [] := rfl
    simp only [w, inb, p1, g, if_true]
    rw [if_pos p2, if_pos p3]
    simp only [Int.toNat_natCast, List.nil_append]
    have hin := behind_inner a b true y.length h2 i m y.length 0 big (aE x o) (by omega) (big_ge (n := y.length + 1) (by omega)) (aE_ok _ ho) (by show o.2.1.length + _ ≤ _; omega)
    refine Eq.trans hin ?_
    rw [show (1 : Nat) = 0 + 1 from rfl, L_R_Behind_1_step]
    simp only [bcond_if, dlt_self, Bool.false_eq_true, if_false, Bool.not_true]
    rfl
theorem behind_unit (hta : ∀ j, (atrAt a.2.2 j).length ≤ 1048576) (htb : ∀ j, (atrAt b.2.2 j).length ≤ 1048576) (first : Bool) (i m : Nat) (o : Act) (hi : i < a.2.1.length) (ho : AOk o) (h3 : o.2.1.length ≤ 3900000) :
    J_R_Behind_0 big m first a b o.1 o.2.1 o.2.2 (i : Int) = L_R_Behind_0 big m first a.1 a.2.1 a.2.2 b.1 b.2.1 b.2.2 (bhU first (cutAt a.2.1 i) (atrAt a.2.2 i) (cutAt b.2.1 i) (atrAt b.2.2 i) o).1 (bhU first (cutAt a.2.1 i) (atrAt a.2.2 i) (cutAt b.2.1 i) (atrAt b.2.2 i) o).2.1 (bhU first (cutAt a.2.1 i) (atrAt a.2.2 i) (cutAt b.2.1 i) (atrAt b.2.2 i) o).2.2 ((i + 1 : Nat) : Int) := by
  have a1 := ha.h1
  have b1 := hb.h1
  have a2 := ha.h2
  have b2 := hb.h2
  have o1 := ho.h1
  have o2 := ho.h2
  have ea2 : at_ (e := .bool) a.2.1 (i : Int) = cutAt a.2.1 i := rfl
  have ea3 : at_ (e := .list YAttr) a.2.2 (i : Int) = atrAt a.2.2 i := rfl
  have eb2 : at_ (e := .bool) b.2.1 (i : Int) = cutAt b.2.1 i := rfl
  have eb3 : at_ (e := .list YAttr) b.2.2 (i : Int) = atrAt b.2.2 i := rfl
  have la := lack_eq (atrAt a.2.2 i) (atrAt b.2.2 i) (hta i) (htb i)
  have hne : ((i : Int) == (a.2.1.length : Int)) = false := by simpa using (show ¬ (i : Int) = (a.2.1.length : Int) by omega)
  have w1 := wsucc hi (show a.2.1.length ≤ 4611686018427387904 by omega)
  have c1' : (o.1.length + List.length ([[]] : List Flow)) * 24 ≤ 140737488355328 := c24 _ _ (by simp; omega)
  have c2' : (o.2.1.length + List.length [cutAt a.2.1 i]) * 1 ≤ 140737488355328 := c1 _ _ (by simp; omega)
  have c3' : ∀ t : Attrs, (o.2.2.length + List.length [t]) * 24 ≤ 140737488355328 := fun t => c24 _ _ (by simp; omega)
  unfold J_R_Behind_0
  simp only [bcond_if, hne, inb, beq_self_eq_true, if_true, show i < a.2.1.length by omega, show i < b.2.1.length by omega, show i < a.2.2.length by omega, show i < b.2.2.length by omega, ea2, ea3, eb2, eb3, la, Option.bind_some, res_R_Lacking_0_ret, w1]
  unfold bhU
  cases hc : cutAt b.2.1 i
  · simp only [Bool.false_eq_true, if_false]
    cases first
    · simp only [Bool.false_eq_true, if_false]
      rw [if_pos c1', if_pos c2', if_pos (c3' _)]
      rfl
    · simp only [if_true]
      rw [if_pos c1', if_pos c2', if_pos (c3' _)]
      rfl
  · simp only [if_true]
theorem behind_loop (hta : ∀ j, (atrAt a.2.2 j).length ≤ 1048576) (htb : ∀ j, (atrAt b.2.2 j).length ≤ 1048576) (first : Bool) : ∀ (d i m : Nat) (o : Act), i + d = a.2.1.length → d + 1 < m → AOk o → ebl o.1 + ebl (a.1.drop i) ≤ 1048576 → o.2.1.length + ebl (b.1.drop i) + d ≤ 3900000 → ebl (b.1.drop i) ≤ 1048576 →
    L_R_Behind_0 big m first a.1 a.2.1 a.2.2 b.1 b.2.1 b.2.2 o.1 o.2.1 o.2.2 (i : Int) = some (ret_R_Behind (bh first a b d i o)) := by
  have a1 := ha.h1
  have b1 := hb.h1
  intro d
  induction d with
  | zero =>
    intro i m o hi hm ho h1 h2 h3
    obtain ⟨m, rfl⟩ : ∃ k, m = k + 2 := ⟨m - 2, by omega⟩
    have e0 : a.1.drop i = adAt a.1 i :: a.1.drop (i + 1) := drop_l (e := .list YElem) a.1 (by omega)
    have e1 : b.1.drop i = adAt b.1 i :: b.1.drop (i + 1) := drop_l (e := .list YElem) b.1 (by omega)
    rw [e0] at h1
    rw [e1] at h2 h3
    simp only [ebl] at h1 h2 h3
    rw [behind_gap a b ha hb hl first i (m + 1) o (by omega) ho (by omega) (by omega) (by omega)]
    show _ = some (ret_R_Behind (bhS first (adAt a.1 i) (adAt b.1 i) o))
    have he : ((i : Int) == (a.2.1.length : Int)) = true := by simpa using (show (i : Int) = (a.2.1.length : Int) by omega)
    have w1 : IntKind.i64.wrap ((i : Int) + 1) = ((i + 1 : Nat) : Int) := wnat (by omega) (by omega)
    have hd : decide (((i + 1 : Nat) : Int) ≤ (a.2.1.length : Int)) = false := decide_eq_false (by omega)
    unfold J_R_Behind_0
    simp only [bcond_if, he, Bool.true_eq_false, if_false, beq_false, Bool.not_true, Bool.false_eq_true, w1]
    rw [L_R_Behind_0_step]
    simp only [bcond_if, hd, Bool.false_eq_true, if_false]
  | succ d ih =>
    intro i m o hi hm ho h1 h2 h3
    obtain ⟨m, rfl⟩ : ∃ k, m = k + 1 := ⟨m - 1, by omega⟩
    have e0 : a.1.drop i = adAt a.1 i :: a.1.drop (i + 1) := drop_l (e := .list YElem) a.1 (by omega)
    have e1 : b.1.drop i = adAt b.1 i :: b.1.drop (i + 1) := drop_l (e := .list YElem) b.1 (by omega)
    rw [e0] at h1
    rw [e1] at h2 h3
    simp only [ebl] at h1 h2 h3
    have s := bhS_size first (adAt a.1 i) (adAt b.1 i) ho
    have sk := bhS_ok first (adAt a.1 i) (adAt b.1 i) ho
    have t := bhU_size first (cutAt a.2.1 i) (atrAt a.2.2 i) (cutAt b.2.1 i) (atrAt b.2.2 i) (bhS first (adAt a.1 i) (adAt b.1 i) o)
    have tk := bhU_ok first (cutAt a.2.1 i) (atrAt a.2.2 i) (cutAt b.2.1 i) (atrAt b.2.2 i) sk
    rw [behind_gap a b ha hb hl first i m o (by omega) ho (by omega) (by omega) (by omega), behind_unit a b ha hb hl hn hta htb first i m _ (by omega) sk (by omega)]
    exact ih (i + 1) m _ (by omega) (by omega) tk (by omega) (by omega) (by omega)
theorem behind_all (hta : ∀ j, (atrAt a.2.2 j).length ≤ 1048576) (htb : ∀ j, (atrAt b.2.2 j).length ≤ 1048576) (h1 : ebl a.1 ≤ 1048576) (h2 : ebl b.1 ≤ 1048576) (first : Bool) : C_R_Behind F_R_Behind a b first = some (ret_R_Behind (bh first a b a.2.1.length 0 A0)) := by
  rw [e_R_Behind]
  have z1 : A0.2.1.length = 0 := rfl
  have z2 : ebl A0.1 = 0 := rfl
  exact behind_loop a b ha hb hl hn hta htb first a.2.1.length 0 big A0 (by omega) (big_ge (n := a.2.1.length + 2) (by omega)) ⟨rfl, rfl⟩ (by rw [List.drop_zero]; omega) (by rw [List.drop_zero]; omega) (by rw [List.drop_zero]; omega)
end
end Go.Ev.Delta
