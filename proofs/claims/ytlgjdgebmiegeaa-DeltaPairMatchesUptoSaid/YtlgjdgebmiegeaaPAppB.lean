
/- R.Done and R.Back, unit by unit: the walk. -/
import Derived.Test.YtlgjdgebmiegeaaPApp
import Derived.Test.YtlgjdgebmiegeaaGUndo
namespace Go.Ev.Delta
open Go.Ev Go.Ev.Attr Go.Ev.Track
set_option linter.unusedVariables false
set_option linter.unusedSimpArgs false
theorem actL_all (Q : Attrs → Prop) : ∀ (l : Steps) (a : Act), (∀ t ∈ a.2.2, Q t) → (∀ s ∈ l, Q (sa s)) → ∀ t ∈ (actL l a).2.2, Q t
  | [], a, h, _ => h
  | s :: l, a, h, h2 => actL_all Q l (stA s a) (by
      unfold stA
      split
      · exact h
      · intro t ht
        rcases List.mem_append.1 ht with ht | ht
        · exact h t ht
        · rw [List.eq_of_mem_replicate ht]; exact h2 s (by simp)) (fun t ht => h2 t (by simp [ht]))
theorem c40 (n k : Nat) (h : n + k ≤ 3000000) : (n + k) * 40 ≤ 140737488355328 := Nat.le_trans (Nat.mul_le_mul_right 40 h) (by decide)
theorem ilL_cons (x : Flow) (xs : List Flow) (c : Bool) (cs : List Bool) (t : Attrs) (ts : List Attrs) : ilL (x :: xs) (c :: cs) (t :: ts) = x.map U.a ++ uni c t :: ilL xs cs ts := rfl
section
variable (f : Flow) (a : Act) (ha : AOk a) (hl : a.2.1.length = f.length) (hf : f.length ≤ 1048576)
def rest (i : Nat) : List U := ilL (a.1.drop i) (a.2.1.drop i) (a.2.2.drop i)
include ha hl
theorem rest_step (i : Nat) (hi : i < f.length) : rest a i = (adAt a.1 i).map U.a ++ uni (cutAt a.2.1 i) (atrAt a.2.2 i) :: rest a (i + 1) := by
  have h1 := ha.h1
  have h2 := ha.h2
  have e1 : a.1.drop i = adAt a.1 i :: a.1.drop (i + 1) := drop_l (e := .list YElem) a.1 (by omega)
  have e2 : a.2.1.drop i = cutAt a.2.1 i :: a.2.1.drop (i + 1) := drop_l (e := .bool) a.2.1 (by omega)
  have e3 : a.2.2.drop i = atrAt a.2.2 i :: a.2.2.drop (i + 1) := drop_l (e := .list YAttr) a.2.2 (by omega)
  show ilL (a.1.drop i) (a.2.1.drop i) (a.2.2.drop i) = _
  rw [e1, e2, e3]
  rfl
theorem rest_end : rest a f.length = (adAt a.1 f.length).map U.a := by
  have h1 := ha.h1
  have h2 := ha.h2
  have e1 : a.1.drop f.length = adAt a.1 f.length :: a.1.drop (f.length + 1) := drop_l (e := .list YElem) a.1 (by omega)
  have e2 : a.2.1.drop f.length = [] := List.drop_eq_nil_of_le (by omega)
  have e4 : a.1.drop (f.length + 1) = [] := List.drop_eq_nil_of_le (by omega)
  show ilL (a.1.drop f.length) (a.2.1.drop f.length) (a.2.2.drop f.length) = _
  rw [e1, e2, e4]
  rfl
include hf
theorem done_loop (hab : ∀ x ∈ f, ∀ t ∈ a.2.2, (ea x).length + t.length ≤ 1048576) : ∀ (d i m : Nat) (o : Flow), i + d = f.length → d < m → o.length + (ap (rest a i) (f.drop i)).length ≤ 3000000 →
    L_R_Done_0 big m f a.1 a.2.1 a.2.2 o (f.length : Int) (i : Int) = some (ret_R_Done (o ++ ap (rest a i) (f.drop i))) := by
  have h1 := ha.h1
  have h2 := ha.h2
  intro d
  induction d with
  | zero =>
    intro i m o hi hm hb
    obtain ⟨m, rfl⟩ : ∃ k, m = k + 1 := ⟨m - 1, by omega⟩
    have hi : i = f.length := by omega
    subst hi
    rw [rest_end f a ha hl] at hb ⊢
    have q := ap_a (adAt a.1 f.length) [] (f.drop f.length)
    rw [List.append_nil] at q
    rw [q] at hb ⊢
    have ea1 : at_ (e := .list YElem) a.1 (f.length : Int) = adAt a.1 f.length := rfl
    simp only [ap, List.append_nil] at hb ⊢
    rw [L_R_Done_0_step]
    simp only [bcond_if, dlt_self, Bool.false_eq_true, if_false, inb, show f.length < a.1.length by omega, if_true, ea1, c40 _ _ hb]
  | succ d ih =>
    intro i m o hi hm hb
    obtain ⟨m, rfl⟩ : ∃ k, m = k + 1 := ⟨m - 1, by omega⟩
    have hi' : i < f.length := by omega
    rw [rest_step f a ha hl i hi', ap_a] at hb ⊢
    have ea1 : at_ (e := .list YElem) a.1 (i : Int) = adAt a.1 i := rfl
    have ea2 : at_ (e := .bool) a.2.1 (i : Int) = cutAt a.2.1 i := rfl
    have ea3 : at_ (e := .list YAttr) a.2.2 (i : Int) = atrAt a.2.2 i := rfl
    have ea4 : at_ (e := YElem) f (i : Int) = atE f i := rfl
    have ea5 : (atE f i).2.2 = ea (atE f i) := rfl
    have hx : atE f i ∈ f := atE_mem f hi'
    have ht : atrAt a.2.2 i ∈ a.2.2 := by
      have : atrAt a.2.2 i = a.2.2[i]'(by omega) := at_get (e := .list YAttr) a.2.2 i (by omega)
      rw [this]; exact List.getElem_mem _
    have e4 : f.drop i = atE f i :: f.drop (i + 1) := drop_elem f hi'
    have ch := chd_eq (ea (atE f i)) (atrAt a.2.2 i) (hab _ hx _ ht)
    rw [e4] at hb ⊢
    rw [L_R_Done_0_step]
    simp only [List.length_append] at hb
    have b1 : (o.length + (adAt a.1 i).length) * 40 ≤ 140737488355328 := c40 _ _ (by omega)
    simp only [bcond_if, dlt hi', inb, hi', show i < a.1.length by omega, show i < a.2.1.length by omega, show i < a.2.2.length by omega, if_true, ea1, ea2, ea3, ea4, ea5, b1, ch, Option.bind_some, res_R_Changed_0_ret]
    have w1 := wsucc hi' (show f.length ≤ 4611686018427387904 by omega)
    cases hc : cutAt a.2.1 i with
    | true =>
      simp only [uni, if_true, ap, List.drop_succ_cons, List.drop_zero, hc, Bool.not_true, Bool.false_eq_true, if_false, w1] at hb ⊢
      rw [ih (i + 1) m _ (by omega) (by omega) (by simp only [List.length_append]; omega), List.append_assoc]
    | false =>
      simp only [uni, if_false, Bool.false_eq_true, ap, List.drop_succ_cons, List.drop_zero, List.take_succ_cons, List.take_zero, List.map_cons, List.map_nil, hc, Bool.not_false, if_true, w1, List.length_append, List.length_cons, List.length_nil] at hb ⊢
      have b2 : (o.length + (adAt a.1 i).length + (0 + 1)) * 40 ≤ 140737488355328 := c40 _ _ (by omega)
      rw [if_pos b2]
      have := ih (i + 1) m ((o ++ adAt a.1 i) ++ [apE (atrAt a.2.2 i) (atE f i)]) (by omega) (by omega) (by simp only [List.length_append, List.length_cons, List.length_nil]; omega)
      refine Eq.trans this ?_
      simp
theorem done_all (hab : ∀ x ∈ f, ∀ t ∈ a.2.2, (ea x).length + t.length ≤ 1048576) (hb : (ap (il a) f).length ≤ 3000000) : C_R_Done F_R_Done f a = some (ret_R_Done (ap (il a) f)) := by
  rw [e_R_Done]
  have := done_loop f a ha hl hf hab f.length 0 big [] (by omega) (big_ge (n := f.length + 1) (by omega)) (by simpa [rest, il] using hb)
  simpa [rest, il] using this
end
end Go.Ev.Delta
