
/- R.Back, unit by unit: the walk. -/
import Derived.Test.YtlgjdgebmiegeaaPAppB
namespace Go.Ev.Delta
open Go.Ev Go.Ev.Attr Go.Ev.Track
set_option linter.unusedVariables false
set_option linter.unusedSimpArgs false
def bkA : List U → Flow → Act → Act
  | [], _, b => b
  | .a x :: us, f, b => bkA us f (aU true [] b)
  | .c :: us, f, b => bkA us (f.drop 1) (aE (f.take 1) b)
  | .k t :: us, [], b => bkA us [] b
  | .k t :: us, x :: f, b => bkA us f (aU false (btw (chd (ea x) t) (ea x)) b)
theorem bkA_il : ∀ (us : List U) (f : Flow) (b : Act), AOk b → AOk (bkA us f b) ∧ il (bkA us f b) = il b ++ bk us f
  | [], f, b, h => ⟨h, by simp [bkA, bk]⟩
  | .a x :: us, f, b, h => by
    obtain ⟨q1, q2⟩ := bkA_il us f (aU true [] b) (aU_ok _ _ h)
    refine ⟨q1, ?_⟩
    show il (bkA us f (aU true [] b)) = il b ++ (U.c :: bk us f)
    rw [q2, aU_il _ _ h]; simp [uni]
  | .c :: us, f, b, h => by
    obtain ⟨q1, q2⟩ := bkA_il us (f.drop 1) (aE (f.take 1) b) (aE_ok _ h)
    refine ⟨q1, ?_⟩
    show il (bkA us (f.drop 1) (aE (f.take 1) b)) = il b ++ ((f.take 1).map U.a ++ bk us (f.drop 1))
    rw [q2, aE_il _ h, List.append_assoc]
  | .k t :: us, [], b, h => by
    obtain ⟨q1, q2⟩ := bkA_il us [] b h
    exact ⟨q1, q2⟩
  | .k t :: us, x :: f, b, h => by
    obtain ⟨q1, q2⟩ := bkA_il us f (aU false (btw (chd (ea x) t) (ea x)) b) (aU_ok _ _ h)
    refine ⟨q1, ?_⟩
    show il (bkA us f (aU false (btw (chd (ea x) t) (ea x)) b)) = il b ++ ([bkE t x] ++ bk us f)
    rw [q2, aU_il _ _ h]; simp [uni, bkE]
def aUn (n : Nat) (b : Act) : Act := (b.1 ++ List.replicate n [], b.2.1 ++ List.replicate n true, b.2.2 ++ List.replicate n [])
theorem aUn_zero (b : Act) : aUn 0 b = b := by unfold aUn; simp
theorem aUn_succ (n : Nat) (b : Act) : aUn (n + 1) b = aUn n (aU true [] b) := by unfold aUn aU; simp [List.replicate_succ]
theorem bkA_a : ∀ (x : Flow) (us : List U) (f : Flow) (b : Act), bkA (x.map U.a ++ us) f b = bkA us f (aUn x.length b)
  | [], us, f, b => by rw [show List.length ([] : Flow) = 0 from rfl, aUn_zero]; rfl
  | y :: x, us, f, b => by
    show bkA (x.map U.a ++ us) f (aU true [] b) = _
    rw [bkA_a x, List.length_cons, aUn_succ]
theorem aUn_ok (n : Nat) {b : Act} (h : AOk b) : AOk (aUn n b) := ⟨by have := h.h1; simp [aUn]; omega, by have := h.h2; simp [aUn]; omega⟩
theorem c24 (n k : Nat) (h : n + k ≤ 4000000) : (n + k) * 24 ≤ 140737488355328 := Nat.le_trans (Nat.mul_le_mul_right 24 h) (by decide)
theorem c1 (n k : Nat) (h : n + k ≤ 4000000) : (n + k) * 1 ≤ 140737488355328 := Nat.le_trans (Nat.mul_le_mul_right 1 h) (by decide)
/-- Every row of what is added is short. -/
def Low (n : Nat) (b : Act) : Prop := ∀ k, (b.1.getD k []).length ≤ n
theorem low_of {b : Act} {n : Nat} (h : ∀ x ∈ b.1, x.length ≤ n) : Low n b := fun k => by
  by_cases hk : k < b.1.length
  · rw [List.getD_eq_getElem?_getD, List.getElem?_eq_getElem hk]; exact h _ (List.getElem_mem hk)
  · rw [List.getD_eq_getElem?_getD, List.getElem?_eq_none (by omega)]; simp
structure BI (n k : Nat) (b : Act) : Prop where
  ok : AOk b
  lo : ∀ x ∈ b.1, x.length ≤ n
  sz : b.2.1.length ≤ k
theorem BI.aUn {n k : Nat} {b : Act} (h : BI n k b) (d : Nat) : BI n (k + d) (aUn d b) := ⟨aUn_ok d h.ok, fun x hx => by
  rcases List.mem_append.1 hx with hx | hx
  · exact h.lo x hx
  · rw [List.eq_of_mem_replicate hx]; exact Nat.zero_le _, by have := h.sz; simp [Delta.aUn]; omega⟩
theorem BI.aU {n k : Nat} {b : Act} (h : BI n k b) (c : Bool) (t : Attrs) : BI n (k + 1) (aU c t b) := ⟨aU_ok _ _ h.ok, fun x hx => by
  rcases List.mem_append.1 hx with hx | hx
  · exact h.lo x hx
  · rw [List.mem_singleton.1 hx]; exact Nat.zero_le _, by have := h.sz; simp [Delta.aU]; omega⟩
theorem BI.aE {n k : Nat} {b : Act} (h : BI n k b) (y : YElem.den) : BI (n + 1) k (aE [y] b) := ⟨aE_ok _ h.ok, fun x hx => by
  have hw := low_of h.lo (b.1.length - 1)
  rcases List.mem_or_eq_of_mem_set hx with hx | hx
  · have := h.lo x hx; omega
  · rw [hx]; simp only [List.length_append, List.length_cons, List.length_nil]; omega, h.sz⟩
theorem BI.mono {n k n' k' : Nat} {b : Act} (h : BI n k b) (h1 : n ≤ n') (h2 : k ≤ k') : BI n' k' b := ⟨h.ok, fun x hx => Nat.le_trans (h.lo x hx) h1, Nat.le_trans h.sz h2⟩
section
variable (f : Flow) (a : Act) (ha : AOk a) (hl : a.2.1.length = f.length) (hf : f.length ≤ 1048576)
theorem back_inner (N : Nat) (hN : N ≤ 1048576) (i m1 : Nat) : ∀ (d j m : Nat) (b : Act), j + d = N → d < m → AOk b → b.2.1.length + d ≤ 3999999 →
    L_R_Back_1 big m1 m f a.1 a.2.1 a.2.2 b.1 b.2.1 b.2.2 (i : Int) (N : Int) (j : Int) = L_R_Back_1 big m1 1 f a.1 a.2.1 a.2.2 (aUn d b).1 (aUn d b).2.1 (aUn d b).2.2 (i : Int) (N : Int) (N : Int) := by
  intro d
  induction d with
  | zero =>
    intro j m b hj hm hb hs
    obtain ⟨m, rfl⟩ : ∃ k, m = k + 1 := ⟨m - 1, by omega⟩
    have : j = N := by omega
    subst this
    rw [aUn_zero, L_R_Back_1_step, show (1 : Nat) = 0 + 1 from rfl, L_R_Back_1_step]
    simp only [bcond_if, dlt_self, Bool.false_eq_true, if_false]
  | succ d ih =>
    intro j m b hj hm hb hs
    obtain ⟨m, rfl⟩ : ∃ k, m = k + 1 := ⟨m - 1, by omega⟩
    have h1 := hb.h1
    have h2 := hb.h2
    have b1 : (b.1.length + List.length ([[]] : List Flow)) * 24 ≤ 140737488355328 := c24 _ _ (by simp; omega)
    have b2 : (b.2.1.length + List.length [true]) * 1 ≤ 140737488355328 := c1 _ _ (by simp; omega)
    have b3 : (b.2.2.length + List.length ([[]] : List Attrs)) * 24 ≤ 140737488355328 := c24 _ _ (by simp; omega)
    have w1 := wsucc (show j < N by omega) (show N ≤ 4611686018427387904 by omega)
    have := ih (j + 1) m (aU true [] b) (by omega) (by omega) (aU_ok _ _ hb) (by simp [aU]; omega)
    rw [aUn_succ, ← this, L_R_Back_1_step]
    simp only [bcond_if, dlt (show j < N by omega), if_true, w1]
    rw [if_pos b1, if_pos b2, if_pos b3]
    rfl
include ha hl hf
theorem back_loop (hab : ∀ x ∈ f, ∀ t ∈ a.2.2, 2 * (ea x).length + t.length ≤ 1048576) (hA : ∀ x ∈ a.1, x.length ≤ 1048576) : ∀ (d i m : Nat) (b : Act) (k : Nat), i + d = f.length → d + 1 < m → BI i k b → k + (rest a i).length ≤ 3900000 →
    L_R_Back_0 big m f a.1 a.2.1 a.2.2 b.1 b.2.1 b.2.2 (i : Int) = some (ret_R_Back (bkA (rest a i) (f.drop i) b)) := by
  have h1 := ha.h1
  have h2 := ha.h2
  intro d
  induction d with
  | zero =>
    intro i m b k hi hm hb hs
    obtain ⟨m, rfl⟩ : ∃ k, m = k + 1 := ⟨m - 1, by omega⟩
    have hi : i = f.length := by omega
    subst hi
    have hN : (adAt a.1 f.length).length ≤ 1048576 := low_of (b := a) hA f.length
    rw [rest_end f a ha hl] at hs ⊢
    have q := bkA_a (adAt a.1 f.length) [] (f.drop f.length) b
    rw [List.append_nil] at q
    rw [q]
    have ea1 : at_ (e := .list YElem) a.1 (f.length : Int) = adAt a.1 f.length := rfl
    rw [L_R_Back_0_step]
    have hd : decide ((f.length : Int) ≤ (f.length : Int)) = true := decide_eq_true (Int.le_refl _)
    simp only [bcond_if, hd, if_true, inb, show f.length < a.1.length by omega, ea1]
    simp only [List.length_map] at hs
    have := back_inner f a (adAt a.1 f.length).length hN f.length m (adAt a.1 f.length).length 0 big b (by omega) (big_ge (n := (adAt a.1 f.length).length + 1) (by omega)) hb.ok (by have := hb.sz; omega)
    refine Eq.trans this ?_
    rw [show (1 : Nat) = 0 + 1 from rfl, L_R_Back_1_step]
    simp only [bcond_if, dlt_self, Bool.false_eq_true, if_false, beq_self_eq_true, if_true]
    rfl
  | succ d ih =>
    intro i m b k hi hm hb hs
    obtain ⟨m, rfl⟩ : ∃ k, m = k + 1 := ⟨m - 1, by omega⟩
    have hi' : i < f.length := by omega
    have hN : (adAt a.1 i).length ≤ 1048576 := low_of (b := a) hA i
    rw [rest_step f a ha hl i hi', bkA_a]
    rw [rest_step f a ha hl i hi'] at hs
    simp only [List.length_append, List.length_map, List.length_cons] at hs
    have ea1 : at_ (e := .list YElem) a.1 (i : Int) = adAt a.1 i := rfl
    have ea2 : at_ (e := .bool) a.2.1 (i : Int) = cutAt a.2.1 i := rfl
    have ea3 : at_ (e := .list YAttr) a.2.2 (i : Int) = atrAt a.2.2 i := rfl
    have ea4 : at_ (e := YElem) f (i : Int) = atE f i := rfl
    have ea5 : (atE f i).2.2 = ea (atE f i) := rfl
    have hx : atE f i ∈ f := atE_mem f hi'
    have ht : atrAt a.2.2 i ∈ a.2.2 := by
      have : atrAt a.2.2 i = a.2.2[i]'(by omega) := at_get (e := .list YAttr) a.2.2 i (by omega)
      rw [this]; exact List.getElem_mem _
    have e4 : f.drop i = atE f i :: f.drop (i + 1) := drop_elem f hi'
    have hab' := hab _ hx _ ht
    have ch := chd_eq (ea (atE f i)) (atrAt a.2.2 i) (by omega)
    have bt := btw_eq (chd (ea (atE f i)) (atrAt a.2.2 i)) (ea (atE f i)) (by have := chd_len (ea (atE f i)) (atrAt a.2.2 i); omega)
    rw [e4, L_R_Back_0_step]
    have hd : decide ((i : Int) ≤ (f.length : Int)) = true := decide_eq_true (by omega)
    simp only [bcond_if, hd, if_true, inb, show i < a.1.length by omega, ea1]
    have hin := back_inner f a (adAt a.1 i).length hN i m (adAt a.1 i).length 0 big b (by omega) (big_ge (n := (adAt a.1 i).length + 1) (by omega)) hb.ok (by have := hb.sz; omega)
    refine Eq.trans hin ?_
    have hb2 := hb.aUn (adAt a.1 i).length
    generalize aUn (adAt a.1 i).length b = c at hb2 ⊢
    generalize hk : k + (adAt a.1 i).length = k2 at hb2
    have c1' := hb2.ok.h1
    have c2' := hb2.ok.h2
    have c3' := hb2.sz
    have hne : ((i : Int) == (f.length : Int)) = false := by simpa using (show ¬ (i : Int) = (f.length : Int) by omega)
    have w1 := wsucc hi' (show f.length ≤ 4611686018427387904 by omega)
    rw [show (1 : Nat) = 0 + 1 from rfl, L_R_Back_1_step]
    simp only [bcond_if, dlt_self, Bool.false_eq_true, if_false, hne, inb, hi', show i < a.2.1.length by omega, show i < a.2.2.length by omega, if_true, ea2, ea3, ea4, ea5, ch, bt, Option.bind_some, res_R_Changed_0_ret, res_R_Between_0_ret, w1]
    cases hc : cutAt a.2.1 i with
    | true =>
      have w2 : IntKind.i64.wrap ((c.1.length : Int) - 1) = ((c.1.length - 1 : Nat) : Int) := wnat (by omega) (by omega)
      have low := low_of hb2.lo (c.1.length - 1)
      have g : at_ (e := .list YElem) c.1 ((c.1.length - 1 : Nat) : Int) = c.1.getD (c.1.length - 1) [] := rfl
      have b1 : (List.length ([] : Flow) + (c.1.getD (c.1.length - 1) []).length) * 40 ≤ 140737488355328 := c40 _ _ (by simp only [List.length_nil]; omega)
      have b2 : (List.length ([] ++ c.1.getD (c.1.length - 1) []) + List.length [atE f i]) * 40 ≤ 140737488355328 := c40 _ _ (by simp only [List.nil_append, List.length_cons, List.length_nil]; omega)
      simp only [if_true, w2, inb, show c.1.length - 1 < c.1.length by omega, g]
      rw [if_pos b1, if_pos b2]
      have := ih (i + 1) m (aE [atE f i] c) k2 (by omega) (by omega) (hb2.aE _) (by omega)
      refine Eq.trans ?_ (this.trans ?_)
      · simp [aE]
      · simp [uni, bkA]
    | false =>
      have b1 : (c.1.length + List.length ([[]] : List Flow)) * 24 ≤ 140737488355328 := c24 _ _ (by simp; omega)
      have b2 : (c.2.1.length + List.length [false]) * 1 ≤ 140737488355328 := c1 _ _ (by simp; omega)
      have b3 : (c.2.2.length + List.length [btw (chd (ea (atE f i)) (atrAt a.2.2 i)) (ea (atE f i))]) * 24 ≤ 140737488355328 := c24 _ _ (by simp; omega)
      simp only [Bool.false_eq_true, if_false]
      rw [if_pos b1, if_pos b2, if_pos b3]
      have := ih (i + 1) m (aU false (btw (chd (ea (atE f i)) (atrAt a.2.2 i)) (ea (atE f i))) c) (k2 + 1) (by omega) (by omega) ((hb2.aU _ _).mono (by omega) (by omega)) (by omega)
      refine Eq.trans ?_ (this.trans ?_)
      · rfl
      · simp [uni, bkA]
theorem back_all (hab : ∀ x ∈ f, ∀ t ∈ a.2.2, 2 * (ea x).length + t.length ≤ 1048576) (hA : ∀ x ∈ a.1, x.length ≤ 1048576) (hs : (il a).length ≤ 3900000) : C_R_Back F_R_Back f a = some (ret_R_Back (bkA (il a) f A0)) := by
  rw [e_R_Back]
  have := back_loop f a ha hl hf hab hA f.length 0 big A0 0 (by omega) (big_ge (n := f.length + 2) (by omega)) ⟨⟨rfl, rfl⟩, fun x hx => by simp [A0] at hx; simp [hx], by simp [A0]⟩ (by simpa [rest, il] using hs)
  simp only [rest, List.drop_zero] at this
  exact this
end
end Go.Ev.Delta
