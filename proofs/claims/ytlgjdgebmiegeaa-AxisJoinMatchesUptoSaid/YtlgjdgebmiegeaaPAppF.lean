
import Derived.Test.YtlgjdgebmiegeaaPTidyC
import Derived.Test.YtlgjdgebmiegeaaGUndo
import Derived.Test.YtlgjdgebmiegeaaPSame
namespace Go.Ev.Attr
open Go.Ev
set_option linter.unusedVariables false
set_option linter.unusedSimpArgs false
def Nv (emp : Bool) (l : Attrs) : Prop := ∀ x ∈ l, nm (an x) = true ∧ (vl (av x) = true ∨ emp = true ∧ av x = [])
theorem nv_of {emp : Bool} {l : Attrs} (h : err emp l = 0) : Nv emp l := fun x hx => ⟨((err_srt emp l none h).2 x hx).1, ((err_srt emp l none h).2 x hx).2.1⟩
theorem srt_aerr (emp : Bool) : ∀ (l : Attrs) (p : Option Str), Srt l → Nv emp l → (∀ q, p = some q → ∀ x ∈ l, strLess q (an x) = true) → aErr emp p l = 0
  | [], p, _, _, _ => rfl
  | a :: l, p, h, hn, hp => by
    obtain ⟨n1, n2⟩ := hn a (by simp)
    have e : eOne emp p a = 0 := by
      unfold eOne
      rw [if_neg (by rw [n1]; decide), if_neg ?_]
      · cases p with
        | none => rfl
        | some q => simp [hp q rfl a (by simp)]
      · rintro ⟨q1, q2⟩
        rcases n2 with z | z
        · rw [q1] at z; cases z
        · exact q2 z
    simp only [aErr, e, ne_eq, not_true, if_false]
    refine srt_aerr emp l _ h.2 (fun x hx => hn x (by simp [hx])) (fun q hq x hx => ?_)
    injection hq with hq
    subst hq
    exact h.1 x hx
theorem srt_err {emp : Bool} {l : Attrs} (h : Srt l) (hn : Nv emp l) : err emp l = 0 := srt_aerr emp l none h hn (fun q h => by cases h)
theorem chd_nv {l c : Attrs} (hl : err false l = 0) (hc : err true c = 0) : Nv true (chd l c) := by
  intro x hx
  have h1 := nv_of hl
  have h2 := nv_of hc
  rw [show chd l c = keepv (puts (puts [] l) c) from rfl, keepv_mem, puts_mem _ _ (err_srt true c none hc).1, puts_mem _ _ (err_srt false l none hl).1] at hx
  rcases hx with ⟨hx | ⟨hx | hx, _⟩, _⟩
  · exact h2 x hx
  · refine ⟨(h1 x hx).1, .inl ?_⟩
    rcases (h1 x hx).2 with z | z
    · exact z
    · cases z.1
  · simp at hx
end Go.Ev.Attr
namespace Go.Ev.Delta
open Go.Ev Go.Ev.Attr Go.Ev.Track
set_option linter.unusedVariables false
set_option linter.unusedSimpArgs false
def apE (t : Attrs) (x : YElem.den) : YElem.den := mkE (ec x) (er x) (chd (ea x) t)
def bkE (t : Attrs) (x : YElem.den) : U := .k (btw (chd (ea x) t) (ea x))
def ap : List U → Flow → Flow
  | [], _ => []
  | .a x :: us, f => x :: ap us f
  | .c :: us, f => ap us (f.drop 1)
  | .k t :: us, f => (f.take 1).map (apE t) ++ ap us (f.drop 1)
def bk : List U → Flow → List U
  | [], _ => []
  | .a x :: us, f => .c :: bk us f
  | .c :: us, f => (f.take 1).map U.a ++ bk us (f.drop 1)
  | .k t :: us, f => (f.take 1).map (bkE t) ++ bk us (f.drop 1)
theorem ap_a : ∀ (x : Flow) (us : List U) (f : Flow), ap (x.map U.a ++ us) f = x ++ ap us f
  | [], us, f => rfl
  | y :: x, us, f => by
    show y :: ap (x.map U.a ++ us) f = _
    rw [ap_a x]; rfl
theorem ap_c (us : List U) : ∀ (n : Nat) (f : Flow), ap (List.replicate n U.c ++ us) f = ap us (f.drop n)
  | 0, f => rfl
  | n + 1, f => by
    show ap (List.replicate n U.c ++ us) (f.drop 1) = _
    rw [ap_c us n, List.drop_drop, Nat.add_comm]
theorem ap_k (t : Attrs) (us : List U) : ∀ (n : Nat) (f : Flow), ap (List.replicate n (U.k t) ++ us) f = (f.take n).map (apE t) ++ ap us (f.drop n)
  | 0, f => rfl
  | n + 1, [] => by
    show [] ++ ap (List.replicate n (U.k t) ++ us) [] = _
    rw [ap_k t us n]; simp
  | n + 1, x :: f => by
    show [apE t x] ++ ap (List.replicate n (U.k t) ++ us) f = _
    rw [ap_k t us n]; simp
theorem bk_a : ∀ (x : Flow) (us : List U) (f : Flow), bk (x.map U.a ++ us) f = List.replicate x.length U.c ++ bk us f
  | [], us, f => rfl
  | y :: x, us, f => by
    show U.c :: bk (x.map U.a ++ us) f = _
    rw [bk_a x]; rfl
theorem bk_c (us : List U) : ∀ (n : Nat) (f : Flow), bk (List.replicate n U.c ++ us) f = (f.take n).map U.a ++ bk us (f.drop n)
  | 0, f => rfl
  | n + 1, [] => by
    show [] ++ bk (List.replicate n U.c ++ us) [] = _
    rw [bk_c us n]; simp
  | n + 1, x :: f => by
    show [U.a x] ++ bk (List.replicate n U.c ++ us) f = _
    rw [bk_c us n]; simp
theorem bk_k (t : Attrs) (us : List U) : ∀ (n : Nat) (f : Flow), bk (List.replicate n (U.k t) ++ us) f = (f.take n).map (bkE t) ++ bk us (f.drop n)
  | 0, f => rfl
  | n + 1, [] => by
    show [] ++ bk (List.replicate n (U.k t) ++ us) [] = _
    rw [bk_k t us n]; simp
  | n + 1, x :: f => by
    show [bkE t x] ++ bk (List.replicate n (U.k t) ++ us) f = _
    rw [bk_k t us n]; simp
/-- What Undo writes. -/
def unE (c : Attrs) (x : YElem.den) : U := .k (chg (raw (ea x) c) (ea x))
def un : Steps → Flow → List U
  | [], _ => []
  | s :: d, f => if sk s = 0 then (f.take (sn s).toNat).map (unE (sa s)) ++ un d (f.drop (sn s).toNat) else if sk s = 1 then List.replicate (se s).length U.c ++ un d f
    else (f.take (sn s).toNat).map U.a ++ un d (f.drop (sn s).toNat)
theorem sErr_attr {s : YStep.den} (h : sErr s = 0) : Attr.err true (sa s) = 0 := by
  rcases sErr_zero h with ⟨_, _, h3, _, _⟩ | ⟨_, _, _, _, h5⟩
  · rw [h3]; rfl
  · exact h5
theorem ex_il_step (s : YStep.den) (a : Act) (h : AOk a) : il (stA s a) = il a ++ exS s := by
  unfold exS
  split
  · rename_i k
    have : stA s a = aE (se s) a := by unfold stA; rw [if_pos k]; rfl
    rw [this, aE_il _ h]
  · rename_i k
    have : ∀ (n : Nat) (a : Act), AOk a → il (a.1 ++ List.replicate n [], a.2.1 ++ List.replicate n (sk s == 2), a.2.2 ++ List.replicate n (sa s)) = il a ++ List.replicate n (uni (sk s == 2) (sa s)) := by
      intro n
      induction n with
      | zero => intro a h; simp
      | succ n ih =>
        intro a h
        have := ih (aU (sk s == 2) (sa s) a) (aU_ok _ _ h)
        rw [aU_il _ _ h] at this
        simp only [aU, List.append_assoc, List.singleton_append] at this
        simp only [List.replicate_succ]
        exact this
    have e : stA s a = (a.1 ++ List.replicate (sn s).toNat [], a.2.1 ++ List.replicate (sn s).toNat (sk s == 2), a.2.2 ++ List.replicate (sn s).toNat (sa s)) := by unfold stA; rw [if_neg k]
    rw [e, this _ _ h]
theorem ex_il : ∀ (l : Steps) (a : Act), AOk a → AOk (actL l a) ∧ il (actL l a) = il a ++ ex l
  | [], a, h => ⟨h, by simp [actL, ex]⟩
  | s :: l, a, h => by
    obtain ⟨q1, q2⟩ := ex_il l (stA s a) (stA_ok s h)
    refine ⟨q1, ?_⟩
    show il (actL l (stA s a)) = il a ++ (exS s ++ ex l)
    rw [q2, ex_il_step s a h, List.append_assoc]
theorem act_ex (l : Steps) : AOk (actL l A0) ∧ il (actL l A0) = ex l := by
  obtain ⟨h1, h2⟩ := ex_il l A0 ⟨rfl, rfl⟩
  exact ⟨h1, h2.trans rfl⟩
end Go.Ev.Delta
namespace Go.Ev.Delta
open Go.Ev Go.Ev.Attr Go.Ev.Track
set_option linter.unusedVariables false
set_option linter.unusedSimpArgs false
theorem c40 (n k : Nat) (h : n + k ≤ 3000000) : (n + k) * 40 ≤ 140737488355328 := Nat.le_trans (Nat.mul_le_mul_right 40 h) (by decide)
section
variable (f : Flow) (a : Act) (ha : AOk a) (hl : a.2.1.length = f.length) (hf : f.length ≤ 1048576)
def rest (i : Nat) : List U := ilL (a.1.drop i) (a.2.1.drop i) (a.2.2.drop i)
include ha hl
theorem rest_step (i : Nat) (hi : i < f.length) : rest a i = (adAt a.1 i).map U.a ++ uni (cutAt a.2.1 i) (atrAt a.2.2 i) :: rest a (i + 1) := by
  have h1 := ha.h1
  have h2 := ha.h2
  have e1 : a.1.drop i = adAt a.1 i :: a.1.drop (i + 1) := drop_l (e := .list YElem) a.1 (by omega)
  have e2 : a.2.1.drop i = cutAt a.2.1 i :: a.2.1.drop (i + 1) := drop_l (e := .bool) a.2.1 (by omega)
  have e3 : a.2.2.drop i = atrAt a.2.2 i :: a.2.2.drop (i + 1) := drop_l (e := .list YAttr) a.2.2 (by omega)
  show ilL (a.1.drop i) (a.2.1.drop i) (a.2.2.drop i) = _
  rw [e1, e2, e3]
  rfl
theorem rest_end : rest a f.length = (adAt a.1 f.length).map U.a := by
  have h1 := ha.h1
  have h2 := ha.h2
  have e1 : a.1.drop f.length = adAt a.1 f.length :: a.1.drop (f.length + 1) := drop_l (e := .list YElem) a.1 (by omega)
  have e2 : a.2.1.drop f.length = [] := List.drop_eq_nil_of_le (by omega)
  have e4 : a.1.drop (f.length + 1) = [] := List.drop_eq_nil_of_le (by omega)
  show ilL (a.1.drop f.length) (a.2.1.drop f.length) (a.2.2.drop f.length) = _
  rw [e1, e2, e4]
  rfl
include hf
theorem done_loop (hab : ∀ x ∈ f, ∀ t ∈ a.2.2, (ea x).length + t.length ≤ 1048576) : ∀ (d i m : Nat) (o : Flow), i + d = f.length → d < m → o.length + (ap (rest a i) (f.drop i)).length ≤ 3000000 →
    L_R_Done_0 big m f a.1 a.2.1 a.2.2 o (f.length : Int) (i : Int) = some (ret_R_Done (o ++ ap (rest a i) (f.drop i))) := by
  have h1 := ha.h1
  have h2 := ha.h2
  intro d
  induction d with
  | zero =>
    intro i m o hi hm hb
    obtain ⟨m, rfl⟩ : ∃ k, m = k + 1 := ⟨m - 1, by omega⟩
    have hi : i = f.length := by omega
    subst hi
    rw [rest_end f a ha hl] at hb ⊢
    have q := ap_a (adAt a.1 f.length) [] (f.drop f.length)
    rw [List.append_nil] at q
    rw [q] at hb ⊢
    have ea1 : at_ (e := .list YElem) a.1 (f.length : Int) = adAt a.1 f.length := rfl
    simp only [ap, List.append_nil] at hb ⊢
    rw [L_R_Done_0_step]
    simp only [bcond_if, dlt_self, Bool.false_eq_true, if_false, inb, show f.length < a.1.length by omega, if_true, ea1, c40 _ _ hb]
  | succ d ih =>
    intro i m o hi hm hb
    obtain ⟨m, rfl⟩ : ∃ k, m = k + 1 := ⟨m - 1, by omega⟩
    have hi' : i < f.length := by omega
    rw [rest_step f a ha hl i hi', ap_a] at hb ⊢
    have ea1 : at_ (e := .list YElem) a.1 (i : Int) = adAt a.1 i := rfl
    have ea2 : at_ (e := .bool) a.2.1 (i : Int) = cutAt a.2.1 i := rfl
    have ea3 : at_ (e := .list YAttr) a.2.2 (i : Int) = atrAt a.2.2 i := rfl
    have ea4 : at_ (e := YElem) f (i : Int) = atE f i := rfl
    have ea5 : (atE f i).2.2 = ea (atE f i) := rfl
    have hx : atE f i ∈ f := atE_mem f hi'
    have ht : atrAt a.2.2 i ∈ a.2.2 := by
      have : atrAt a.2.2 i = a.2.2[i]'(by omega) := at_get (e := .list YAttr) a.2.2 i (by omega)
      rw [this]; exact List.getElem_mem _
    have e4 : f.drop i = atE f i :: f.drop (i + 1) := drop_elem f hi'
    have ch := chd_eq (ea (atE f i)) (atrAt a.2.2 i) (hab _ hx _ ht)
    rw [e4] at hb ⊢
    rw [L_R_Done_0_step]
    simp only [List.length_append] at hb
    have b1 : (o.length + (adAt a.1 i).length) * 40 ≤ 140737488355328 := c40 _ _ (by omega)
    simp only [bcond_if, dlt hi', inb, hi', show i < a.1.length by omega, show i < a.2.1.length by omega, show i < a.2.2.length by omega, if_true, ea1, ea2, ea3, ea4, ea5, b1, ch, Option.bind_some, res_R_Changed_0_ret]
    have w1 := wsucc hi' (show f.length ≤ 4611686018427387904 by omega)
    cases hc : cutAt a.2.1 i with
    | true =>
      simp only [uni, if_true, ap, List.drop_succ_cons, List.drop_zero, hc, Bool.not_true, Bool.false_eq_true, if_false, w1] at hb ⊢
      rw [ih (i + 1) m _ (by omega) (by omega) (by simp only [List.length_append]; omega), List.append_assoc]
    | false =>
      simp only [uni, if_false, Bool.false_eq_true, ap, List.drop_succ_cons, List.drop_zero, List.take_succ_cons, List.take_zero, List.map_cons, List.map_nil, hc, Bool.not_false, if_true, w1, List.length_append, List.length_cons, List.length_nil] at hb ⊢
      have b2 : (o.length + (adAt a.1 i).length + (0 + 1)) * 40 ≤ 140737488355328 := c40 _ _ (by omega)
      rw [if_pos b2]
      have := ih (i + 1) m ((o ++ adAt a.1 i) ++ [apE (atrAt a.2.2 i) (atE f i)]) (by omega) (by omega) (by simp only [List.length_append, List.length_cons, List.length_nil]; omega)
      refine Eq.trans this ?_
      simp
theorem done_all (hab : ∀ x ∈ f, ∀ t ∈ a.2.2, (ea x).length + t.length ≤ 1048576) (hb : (ap (il a) f).length ≤ 3000000) : C_R_Done F_R_Done f a = some (ret_R_Done (ap (il a) f)) := by
  rw [e_R_Done]
  have := done_loop f a ha hl hf hab f.length 0 big [] (by omega) (big_ge (n := f.length + 1) (by omega)) (by simpa [rest, il] using hb)
  simpa [rest, il] using this
end
end Go.Ev.Delta
namespace Go.Ev.Delta
open Go.Ev Go.Ev.Attr Go.Ev.Track
set_option linter.unusedVariables false
set_option linter.unusedSimpArgs false
def bkA : List U → Flow → Act → Act
  | [], _, b => b
  | .a x :: us, f, b => bkA us f (aU true [] b)
  | .c :: us, f, b => bkA us (f.drop 1) (aE (f.take 1) b)
  | .k t :: us, [], b => bkA us [] b
  | .k t :: us, x :: f, b => bkA us f (aU false (btw (chd (ea x) t) (ea x)) b)
theorem bkA_il : ∀ (us : List U) (f : Flow) (b : Act), AOk b → AOk (bkA us f b) ∧ il (bkA us f b) = il b ++ bk us f
  | [], f, b, h => ⟨h, by simp [bkA, bk]⟩
  | .a x :: us, f, b, h => by
    obtain ⟨q1, q2⟩ := bkA_il us f (aU true [] b) (aU_ok _ _ h)
    refine ⟨q1, ?_⟩
    show il (bkA us f (aU true [] b)) = il b ++ (U.c :: bk us f)
    rw [q2, aU_il _ _ h]; simp [uni]
  | .c :: us, f, b, h => by
    obtain ⟨q1, q2⟩ := bkA_il us (f.drop 1) (aE (f.take 1) b) (aE_ok _ h)
    refine ⟨q1, ?_⟩
    show il (bkA us (f.drop 1) (aE (f.take 1) b)) = il b ++ ((f.take 1).map U.a ++ bk us (f.drop 1))
    rw [q2, aE_il _ h, List.append_assoc]
  | .k t :: us, [], b, h => by
    obtain ⟨q1, q2⟩ := bkA_il us [] b h
    exact ⟨q1, q2⟩
  | .k t :: us, x :: f, b, h => by
    obtain ⟨q1, q2⟩ := bkA_il us f (aU false (btw (chd (ea x) t) (ea x)) b) (aU_ok _ _ h)
    refine ⟨q1, ?_⟩
    show il (bkA us f (aU false (btw (chd (ea x) t) (ea x)) b)) = il b ++ ([bkE t x] ++ bk us f)
    rw [q2, aU_il _ _ h]; simp [uni, bkE]
def aUn (n : Nat) (b : Act) : Act := (b.1 ++ List.replicate n [], b.2.1 ++ List.replicate n true, b.2.2 ++ List.replicate n [])
theorem aUn_zero (b : Act) : aUn 0 b = b := by unfold aUn; simp
theorem aUn_succ (n : Nat) (b : Act) : aUn (n + 1) b = aUn n (aU true [] b) := by unfold aUn aU; simp [List.replicate_succ]
theorem bkA_a : ∀ (x : Flow) (us : List U) (f : Flow) (b : Act), bkA (x.map U.a ++ us) f b = bkA us f (aUn x.length b)
  | [], us, f, b => by rw [show List.length ([] : Flow) = 0 from rfl, aUn_zero]; rfl
  | y :: x, us, f, b => by
    show bkA (x.map U.a ++ us) f (aU true [] b) = _
    rw [bkA_a x, List.length_cons, aUn_succ]
theorem aUn_ok (n : Nat) {b : Act} (h : AOk b) : AOk (aUn n b) := ⟨by have := h.h1; simp [aUn]; omega, by have := h.h2; simp [aUn]; omega⟩
theorem c24 (n k : Nat) (h : n + k ≤ 4000000) : (n + k) * 24 ≤ 140737488355328 := Nat.le_trans (Nat.mul_le_mul_right 24 h) (by decide)
theorem c1 (n k : Nat) (h : n + k ≤ 4000000) : (n + k) * 1 ≤ 140737488355328 := Nat.le_trans (Nat.mul_le_mul_right 1 h) (by decide)
/-- Every row of what is added is short. -/
def Low (n : Nat) (b : Act) : Prop := ∀ k, (b.1.getD k []).length ≤ n
theorem low_of {b : Act} {n : Nat} (h : ∀ x ∈ b.1, x.length ≤ n) : Low n b := fun k => by
  by_cases hk : k < b.1.length
  · rw [List.getD_eq_getElem?_getD, List.getElem?_eq_getElem hk]; exact h _ (List.getElem_mem hk)
  · rw [List.getD_eq_getElem?_getD, List.getElem?_eq_none (by omega)]; simp
structure BI (n k : Nat) (b : Act) : Prop where
  ok : AOk b
  lo : ∀ x ∈ b.1, x.length ≤ n
  sz : b.2.1.length ≤ k
theorem BI.aUn {n k : Nat} {b : Act} (h : BI n k b) (d : Nat) : BI n (k + d) (aUn d b) := ⟨aUn_ok d h.ok, fun x hx => by
  rcases List.mem_append.1 hx with hx | hx
  · exact h.lo x hx
  · rw [List.eq_of_mem_replicate hx]; exact Nat.zero_le _, by have := h.sz; simp [Delta.aUn]; omega⟩
theorem BI.aU {n k : Nat} {b : Act} (h : BI n k b) (c : Bool) (t : Attrs) : BI n (k + 1) (aU c t b) := ⟨aU_ok _ _ h.ok, fun x hx => by
  rcases List.mem_append.1 hx with hx | hx
  · exact h.lo x hx
  · rw [List.mem_singleton.1 hx]; exact Nat.zero_le _, by have := h.sz; simp [Delta.aU]; omega⟩
theorem BI.aE {n k : Nat} {b : Act} (h : BI n k b) (y : YElem.den) : BI (n + 1) k (aE [y] b) := ⟨aE_ok _ h.ok, fun x hx => by
  have hw := low_of h.lo (b.1.length - 1)
  rcases List.mem_or_eq_of_mem_set hx with hx | hx
  · have := h.lo x hx; omega
  · rw [hx]; simp only [List.length_append, List.length_cons, List.length_nil]; omega, h.sz⟩
theorem BI.mono {n k n' k' : Nat} {b : Act} (h : BI n k b) (h1 : n ≤ n') (h2 : k ≤ k') : BI n' k' b := ⟨h.ok, fun x hx => Nat.le_trans (h.lo x hx) h1, Nat.le_trans h.sz h2⟩
section
variable (f : Flow) (a : Act) (ha : AOk a) (hl : a.2.1.length = f.length) (hf : f.length ≤ 1048576)
theorem back_inner (N : Nat) (hN : N ≤ 1048576) (i m1 : Nat) : ∀ (d j m : Nat) (b : Act), j + d = N → d < m → AOk b → b.2.1.length + d ≤ 3999999 →
    L_R_Back_1 big m1 m f a.1 a.2.1 a.2.2 b.1 b.2.1 b.2.2 (i : Int) (N : Int) (j : Int) = L_R_Back_1 big m1 1 f a.1 a.2.1 a.2.2 (aUn d b).1 (aUn d b).2.1 (aUn d b).2.2 (i : Int) (N : Int) (N : Int) := by
  intro d
  induction d with
  | zero =>
    intro j m b hj hm hb hs
    obtain ⟨m, rfl⟩ : ∃ k, m = k + 1 := ⟨m - 1, by omega⟩
    have : j = N := by omega
    subst this
    rw [aUn_zero, L_R_Back_1_step, show (1 : Nat) = 0 + 1 from rfl, L_R_Back_1_step]
    simp only [bcond_if, dlt_self, Bool.false_eq_true, if_false]
  | succ d ih =>
    intro j m b hj hm hb hs
    obtain ⟨m, rfl⟩ : ∃ k, m = k + 1 := ⟨m - 1, by omega⟩
    have h1 := hb.h1
    have h2 := hb.h2
    have b1 : (b.1.length + List.length ([[]] : List Flow)) * 24 ≤ 140737488355328 := c24 _ _ (by simp; omega)
    have b2 : (b.2.1.length + List.length [true]) * 1 ≤ 140737488355328 := c1 _ _ (by simp; omega)
    have b3 : (b.2.2.length + List.length ([[]] : List Attrs)) * 24 ≤ 140737488355328 := c24 _ _ (by simp; omega)
    have w1 := wsucc (show j < N by omega) (show N ≤ 4611686018427387904 by omega)
    have := ih (j + 1) m (aU true [] b) (by omega) (by omega) (aU_ok _ _ hb) (by simp [aU]; omega)
    rw [aUn_succ, ← this, L_R_Back_1_step]
    simp only [bcond_if, dlt (show j < N by omega), if_true, w1]
    rw [if_pos b1, if_pos b2, if_pos b3]
    rfl
include ha hl hf
theorem back_loop (hab : ∀ x ∈ f, ∀ t ∈ a.2.2, 2 * (ea x).length + t.length ≤ 1048576) (hA : ∀ x ∈ a.1, x.length ≤ 1048576) : ∀ (d i m : Nat) (b : Act) (k : Nat), i + d = f.length → d + 1 < m → BI i k b → k + (rest a i).length ≤ 3900000 →
    L_R_Back_0 big m f a.1 a.2.1 a.2.2 b.1 b.2.1 b.2.2 (i : Int) = some (ret_R_Back (bkA (rest a i) (f.drop i) b)) := by
  have h1 := ha.h1
  have h2 := ha.h2
  intro d
  induction d with
  | zero =>
    intro i m b k hi hm hb hs
    obtain ⟨m, rfl⟩ : ∃ k, m = k + 1 := ⟨m - 1, by omega⟩
    have hi : i = f.length := by omega
    subst hi
    have hN : (adAt a.1 f.length).length ≤ 1048576 := low_of (b := a) hA f.length
    rw [rest_end f a ha hl] at hs ⊢
    have q := bkA_a (adAt a.1 f.length) [] (f.drop f.length) b
    rw [List.append_nil] at q
    rw [q]
    have ea1 : at_ (e := .list YElem) a.1 (f.length : Int) = adAt a.1 f.length := rfl
    rw [L_R_Back_0_step]
    have hd : decide ((f.length : Int) ≤ (f.length : Int)) = true := decide_eq_true (Int.le_refl _)
    simp only [bcond_if, hd, if_true, inb, show f.length < a.1.length by omega, ea1]
    simp only [List.length_map] at hs
    have := back_inner f a (adAt a.1 f.length).length hN f.length m (adAt a.1 f.length).length 0 big b (by omega) (big_ge (n := (adAt a.1 f.length).length + 1) (by omega)) hb.ok (by have := hb.sz; omega)
    refine Eq.trans this ?_
    rw [show (1 : Nat) = 0 + 1 from rfl, L_R_Back_1_step]
    simp only [bcond_if, dlt_self, Bool.false_eq_true, if_false, beq_self_eq_true, if_true]
    rfl
  | succ d ih =>
    intro i m b k hi hm hb hs
    obtain ⟨m, rfl⟩ : ∃ k, m = k + 1 := ⟨m - 1, by omega⟩
    have hi' : i < f.length := by omega
    have hN : (adAt a.1 i).length ≤ 1048576 := low_of (b := a) hA i
    rw [rest_step f a ha hl i hi', bkA_a]
    rw [rest_step f a ha hl i hi'] at hs
    simp only [List.length_append, List.length_map, List.length_cons] at hs
    have ea1 : at_ (e := .list YElem) a.1 (i : Int) = adAt a.1 i := rfl
    have ea2 : at_ (e := .bool) a.2.1 (i : Int) = cutAt a.2.1 i := rfl
    have ea3 : at_ (e := .list YAttr) a.2.2 (i : Int) = atrAt a.2.2 i := rfl
    have ea4 : at_ (e := YElem) f (i : Int) = atE f i := rfl
    have ea5 : (atE f i).2.2 = ea (atE f i) := rfl
    have hx : atE f i ∈ f := atE_mem f hi'
    have ht : atrAt a.2.2 i ∈ a.2.2 := by
      have : atrAt a.2.2 i = a.2.2[i]'(by omega) := at_get (e := .list YAttr) a.2.2 i (by omega)
      rw [this]; exact List.getElem_mem _
    have e4 : f.drop i = atE f i :: f.drop (i + 1) := drop_elem f hi'
    have hab' := hab _ hx _ ht
    have ch := chd_eq (ea (atE f i)) (atrAt a.2.2 i) (by omega)
    have bt := btw_eq (chd (ea (atE f i)) (atrAt a.2.2 i)) (ea (atE f i)) (by have := chd_len (ea (atE f i)) (atrAt a.2.2 i); omega)
    rw [e4, L_R_Back_0_step]
    have hd : decide ((i : Int) ≤ (f.length : Int)) = true := decide_eq_true (by omega)
    simp only [bcond_if, hd, if_true, inb, show i < a.1.length by omega, ea1]
    have hin := back_inner f a (adAt a.1 i).length hN i m (adAt a.1 i).length 0 big b (by omega) (big_ge (n := (adAt a.1 i).length + 1) (by omega)) hb.ok (by have := hb.sz; omega)
    refine Eq.trans hin ?_
    have hb2 := hb.aUn (adAt a.1 i).length
    generalize aUn (adAt a.1 i).length b = c at hb2 ⊢
    generalize hk : k + (adAt a.1 i).length = k2 at hb2
    have c1' := hb2.ok.h1
    have c2' := hb2.ok.h2
    have c3' := hb2.sz
    have hne : ((i : Int) == (f.length : Int)) = false := by simpa using (show ¬ (i : Int) = (f.length : Int) by omega)
    have w1 := wsucc hi' (show f.length ≤ 4611686018427387904 by omega)
    rw [show (1 : Nat) = 0 + 1 from rfl, L_R_Back_1_step]
    simp only [bcond_if, dlt_self, Bool.false_eq_true, if_false, hne, inb, hi', show i < a.2.1.length by omega, show i < a.2.2.length by omega, if_true, ea2, ea3, ea4, ea5, ch, bt, Option.bind_some, res_R_Changed_0_ret, res_R_Between_0_ret, w1]
    cases hc : cutAt a.2.1 i with
    | true =>
      have w2 : IntKind.i64.wrap ((c.1.length : Int) - 1) = ((c.1.length - 1 : Nat) : Int) := wnat (by omega) (by omega)
      have low := low_of hb2.lo (c.1.length - 1)
      have g : at_ (e := .list YElem) c.1 ((c.1.length - 1 : Nat) : Int) = c.1.getD (c.1.length - 1) [] := rfl
      have b1 : (List.length ([] : Flow) + (c.1.getD (c.1.length - 1) []).length) * 40 ≤ 140737488355328 := c40 _ _ (by simp only [List.length_nil]; omega)
      have b2 : (List.length ([] ++ c.1.getD (c.1.length - 1) []) + List.length [atE f i]) * 40 ≤ 140737488355328 := c40 _ _ (by simp only [List.nil_append, List.length_cons, List.length_nil]; omega)
      simp only [if_true, w2, inb, show c.1.length - 1 < c.1.length by omega, g]
      rw [if_pos b1, if_pos b2]
      have := ih (i + 1) m (aE [atE f i] c) k2 (by omega) (by omega) (hb2.aE _) (by omega)
      refine Eq.trans ?_ (this.trans ?_)
      · simp [aE]
      · simp [uni, bkA]
    | false =>
      have b1 : (c.1.length + List.length ([[]] : List Flow)) * 24 ≤ 140737488355328 := c24 _ _ (by simp; omega)
      have b2 : (c.2.1.length + List.length [false]) * 1 ≤ 140737488355328 := c1 _ _ (by simp; omega)
      have b3 : (c.2.2.length + List.length [btw (chd (ea (atE f i)) (atrAt a.2.2 i)) (ea (atE f i))]) * 24 ≤ 140737488355328 := c24 _ _ (by simp; omega)
      simp only [Bool.false_eq_true, if_false]
      rw [if_pos b1, if_pos b2, if_pos b3]
      have := ih (i + 1) m (aU false (btw (chd (ea (atE f i)) (atrAt a.2.2 i)) (ea (atE f i))) c) (k2 + 1) (by omega) (by omega) ((hb2.aU _ _).mono (by omega) (by omega)) (by omega)
      refine Eq.trans ?_ (this.trans ?_)
      · rfl
      · simp [uni, bkA]
theorem back_all (hab : ∀ x ∈ f, ∀ t ∈ a.2.2, 2 * (ea x).length + t.length ≤ 1048576) (hA : ∀ x ∈ a.1, x.length ≤ 1048576) (hs : (il a).length ≤ 3900000) : C_R_Back F_R_Back f a = some (ret_R_Back (bkA (il a) f A0)) := by
  rw [e_R_Back]
  have := back_loop f a ha hl hf hab hA f.length 0 big A0 0 (by omega) (big_ge (n := f.length + 2) (by omega)) ⟨⟨rfl, rfl⟩, fun x hx => by simp [A0] at hx; simp [hx], by simp [A0]⟩ (by simpa [rest, il] using hs)
  simp only [rest, List.drop_zero] at this
  exact this
end
end Go.Ev.Delta
namespace Go.Ev.Delta
open Go.Ev Go.Ev.Attr Go.Ev.Track
set_option linter.unusedVariables false
set_option linter.unusedSimpArgs false
theorem DI.cut {w : W} {k : Nat} (h : DI w k) (n : Nat) : DI (w.1, w.2.1, w.2.2 + n) (k + n) := ⟨by have := h.lo; show w.1.length ≤ _; omega, fun s hs => by have := h.sn s hs; omega, h.sa, by have := h.c; show 0 ≤ w.2.2 + n ∧ w.2.2 + n ≤ ((k + n : Nat) : Int); omega⟩
theorem runP_c (n : Nat) (w : W) : runP (List.replicate n U.c) w = (w.1, w.2.1, w.2.2 + n) := by
  have := runP_units n true [] w
  rw [units_cut] at this
  exact this
theorem undo_inner (f : Flow) (c : Attrs) (hc : c.length ≤ 1048576) (hf : f.length ≤ 1048576) (hab : ∀ x ∈ f, 2 * (ea x).length + c.length ≤ 1048576) (m1 : Nat) (x0 : Flow) (k0 k1 : Int) (k3 : Flow) (l : Steps) (n0 i : Int) :
    ∀ (d j m : Nat) (w : W) (k : Nat), j + d = f.length → d < m → DI w k → k + d ≤ 1048576 →
    L_delta_Undo_1 big m1 m x0 w.1 w.2.1 w.2.2 k0 k1 c k3 l n0 i f (f.length : Int) (j : Int) =
      L_delta_Undo_1 big m1 1 x0 (runP ((f.drop j).map (unE c)) w).1 (runP ((f.drop j).map (unE c)) w).2.1 (runP ((f.drop j).map (unE c)) w).2.2 k0 k1 c k3 l n0 i f (f.length : Int) (f.length : Int) ∧
    DI (runP ((f.drop j).map (unE c)) w) (k + d) ∧ (runP ((f.drop j).map (unE c)) w).2.1.length ≤ w.2.1.length := by
  intro d
  induction d with
  | zero =>
    intro j m w k hj hm hw hk
    obtain ⟨m, rfl⟩ : ∃ q, m = q + 1 := ⟨m - 1, by omega⟩
    have : j = f.length := by omega
    subst this
    rw [List.drop_length]
    refine ⟨?_, hw, Nat.le_refl _⟩
    show _ = L_delta_Undo_1 big m1 1 x0 w.1 w.2.1 w.2.2 _ _ _ _ _ _ _ _ _ _
    rw [show (1 : Nat) = 0 + 1 from rfl, L_delta_Undo_1_step, L_delta_Undo_1_step]
    simp only [bcond_if, dlt_self, Bool.false_eq_true, if_false]
  | succ d ih =>
    intro j m w k hj hm hw hk
    obtain ⟨m, rfl⟩ : ∃ q, m = q + 1 := ⟨m - 1, by omega⟩
    have hj' : j < f.length := by omega
    have hx : atE f j ∈ f := atE_mem f hj'
    have ha := hab _ hx
    have e4 : f.drop j = atE f j :: f.drop (j + 1) := drop_elem f hj'
    have ea4 : at_ (e := YElem) f (j : Int) = atE f j := rfl
    have ea5 : (atE f j).2.2 = ea (atE f j) := rfl
    have l1 := raw_len (ea (atE f j)) c
    have l2 := chg_len (raw (ea (atE f j)) c) (ea (atE f j))
    have r1 := raw_eq (ea (atE f j)) c (by omega) hc
    have r2 := chg_eq (raw (ea (atE f j)) c) (ea (atE f j)) (by omega) (by omega)
    have hlo := hw.lo
    have hwy := hw.wy (by omega)
    have ht : (chg (raw (ea (atE f j)) c) (ea (atE f j))).length ≤ 1048576 := by omega
    have r3 := keep_eq 1 (chg (raw (ea (atE f j)) c) (ea (atE f j))) w.1 w.2.1 w.2.2 (by omega) hwy (by decide) ht
    rw [if_neg (by decide)] at r3
    have w1 := wsucc hj' (show f.length ≤ 4611686018427387904 by omega)
    obtain ⟨q1, q2, q3⟩ := ih (j + 1) m (uK (chg (raw (ea (atE f j)) c) (ea (atE f j))) w) (k + 1) (by omega) (by omega) (hw.unit false _ ht) (by omega)
    rw [e4]
    have er : runP ((atE f j :: f.drop (j + 1)).map (unE c)) w = runP ((f.drop (j + 1)).map (unE c)) (uK (chg (raw (ea (atE f j)) c) (ea (atE f j))) w) := rfl
    rw [er]
    refine ⟨?_, by rw [show k + (d + 1) = k + 1 + d by omega]; exact q2, Nat.le_trans q3 (Nat.zero_le _)⟩
    rw [← q1, L_delta_Undo_1_step]
    simp only [bcond_if, dlt hj', inb, hj', if_true, ea4, ea5, r1, r2, r3, Option.bind_some, res_attr_Raw_0_ret, res_attr_Change_0_ret, res_delta_writer_keep_0_ret, res_delta_writer_keep_1_ret, res_delta_writer_keep_2_ret, w1]
    rfl
theorem undo_loop (l : Steps) (hl : Ds l) (hv : ∀ s ∈ l, sErr s = 0) : ∀ (d i m : Nat) (f : Flow) (w : W) (k : Nat), i + d = l.length → d < m → Fs f → befs (l.drop i) = f.length → (∀ x ∈ f, ∀ s ∈ l, 2 * (ea x).length + (sa s).length ≤ 1048576) →
    DI w k → k + f.length + eb (l.drop i) ≤ 1048576 → w.2.1.length + f.length ≤ 1048576 →
    L_delta_Undo_0 big m f w.1 w.2.1 w.2.2 l (l.length : Int) i = (C_delta_writer_done F_delta_writer_done (runP (un (l.drop i) f) w).1 (runP (un (l.drop i) f) w).2.1 (runP (un (l.drop i) f) w).2.2).bind fun r1 => some (ret_delta_Undo (res_delta_writer_done_0 r1) (res_delta_writer_done_1 r1)) := by
  have hlen := hl.1
  intro d
  induction d with
  | zero =>
    intro i m f w k hi hm hf hb hab hw hk ho
    obtain ⟨m, rfl⟩ : ∃ q, m = q + 1 := ⟨m - 1, by omega⟩
    have : i = l.length := by omega
    subst this
    rw [L_delta_Undo_0_step, List.drop_length]
    simp only [bcond_if, dlt_self, Bool.false_eq_true, if_false]
    rfl
  | succ d ih =>
    intro i m f w k hi hm hf hb hab hw hk ho
    obtain ⟨m, rfl⟩ : ∃ q, m = q + 1 := ⟨m - 1, by omega⟩
    have hil : i < l.length := by omega
    have w1 := wsucc hil (show l.length ≤ 4611686018427387904 by omega)
    have ea0 : at_ (e := YStep) l (i : Int) = atT l i := rfl
    have e1 : (atT l i).1 = sk (atT l i) := rfl
    have e2 : (atT l i).2.1 = sn (atT l i) := rfl
    have e3 : (atT l i).2.2.1 = sa (atT l i) := rfl
    have e4 : (atT l i).2.2.2 = se (atT l i) := rfl
    have hm1 := atT_mem l hil
    have hz := hv _ hm1
    have hS := hl.2 i
    have hdr : ∀ s ∈ l.drop (i + 1), s ∈ l := fun s h => List.mem_of_mem_drop h
    obtain ⟨p1, p2⟩ := adds_pos (fun s h => hv s (hdr s h)) (fun s h => ss_mem hl (hdr s h))
    have ct : List.take (Int.toNat (f.length : Int)) f = f := by simp
    have lf := hf.1
    have kz : ¬ sk (atT l i) = 1 → 1 ≤ sn (atT l i) := fun h => ((ssz_valid hz hS).2.2.1 h).1
    have hc := hw.c
    rw [drop_step l hil] at hb hk ⊢
    simp only [befs, addB, eb] at hb hk
    rw [L_delta_Undo_0_step]
    simp only [bcond_if, dlt hil, if_true, inb, hil, w1, ea0, e1, e2, e3, e4, ct, un]
    rcases sErr_kind hz with hkd | hkd | hkd
    · rw [hkd] at hb
      simp only [show ¬ ((0 : Int) = 1) from by decide, if_false] at hb
      have hn := kz (by omega)
      obtain ⟨N, hN⟩ : ∃ N : Nat, sn (atT l i) = (N : Int) := ⟨(sn (atT l i)).toNat, by omega⟩
      rw [hN] at hb ⊢
      have hNl : N ≤ f.length := by omega
      have lt : (f.take N).length = N := by simp; omega
      have ld : (f.drop N).length = f.length - N := by simp
      have q1 : (0 ≤ (N : Int) ∧ (N : Int) ≤ (f.length : Int) ∧ 0 ≤ (0 : Int) ∧ (0 : Int) ≤ (N : Int)) := by omega
      have q2 : (0 ≤ (f.length : Int) ∧ (f.length : Int) ≤ (f.length : Int) ∧ 0 ≤ (N : Int) ∧ (N : Int) ≤ (f.length : Int)) := by omega
      obtain ⟨r1, r2, r3⟩ := undo_inner (f.take N) (sa (atT l i)) hS.1.1 (by omega) (fun x hx => hab x (List.mem_of_mem_take hx) _ hm1) m f 0 (N : Int) (se (atT l i)) l (l.length : Int) (i : Int) N 0 big w k (by omega) (big_ge (n := N + 1) (by omega)) hw (by omega)
      rw [List.drop_zero] at r1 r2 r3
      have := ih (i + 1) m (f.drop N) (runP ((f.take N).map (unE (sa (atT l i)))) w) (k + N) (by omega) (by omega) (fs_drop hf N) (by rw [ld]; omega) (fun x hx => hab x (List.mem_of_mem_drop hx)) r2 (by rw [ld]; omega) (by rw [ld]; omega)
      simp only [hkd, beq_self_eq_true, if_true, if_pos q1, Int.toNat_natCast, Int.toNat_zero, List.drop_zero]
      rw [runP_append, ← this]
      refine Eq.trans r1 ?_
      rw [show (1 : Nat) = 0 + 1 from rfl, L_delta_Undo_1_step]
      simp only [bcond_if, dlt_self, Bool.false_eq_true, if_false, if_pos q2, Int.toNat_natCast, List.take_length, Nat.zero_add, w1]
    · rw [hkd] at hb
      simp only [if_true] at hb
      have wc : IntKind.i64.wrap (w.2.2 + ((se (atT l i)).length : Int)) = w.2.2 + ((se (atT l i)).length : Int) := w64 (by omega) (by omega)
      have := ih (i + 1) m f (w.1, w.2.1, w.2.2 + ((se (atT l i)).length : Int)) (k + (se (atT l i)).length) (by omega) (by omega) hf (by omega) hab (hw.cut _) (by omega) ho
      simp only [hkd, show ((1 : Int) == 0) = false from rfl, show ¬ ((1 : Int) = 0) from by decide, beq_self_eq_true, if_true, if_false, Bool.false_eq_true, wc]
      rw [runP_append, runP_c]
      exact this
    · rw [hkd] at hb
      simp only [show ¬ ((2 : Int) = 1) from by decide, if_false] at hb
      have hn := kz (by omega)
      obtain ⟨N, hN⟩ : ∃ N : Nat, sn (atT l i) = (N : Int) := ⟨(sn (atT l i)).toNat, by omega⟩
      rw [hN] at hb ⊢
      have hNl : N ≤ f.length := by omega
      have lt : (f.take N).length = N := by simp; omega
      have ld : (f.drop N).length = f.length - N := by simp
      have q1 : (0 ≤ (N : Int) ∧ (N : Int) ≤ (f.length : Int) ∧ 0 ≤ (0 : Int) ∧ (0 : Int) ≤ (N : Int)) := by omega
      have q2 : (0 ≤ (f.length : Int) ∧ (f.length : Int) ≤ (f.length : Int) ∧ 0 ≤ (N : Int) ∧ (N : Int) ≤ (f.length : Int)) := by omega
      have el := elems_eq (f.take N) w.1 w.2.1 w.2.2 (fs_take hf N) (by omega)
      have := ih (i + 1) m (f.drop N) (uE (f.take N) w) k (by omega) (by omega) (fs_drop hf N) (by rw [ld]; omega) (fun x hx => hab x (List.mem_of_mem_drop hx)) (hw.uE _) (by rw [ld]; omega) (by show (w.2.1 ++ f.take N).length + _ ≤ _; rw [List.length_append, lt, ld]; omega)
      simp only [hkd, show ((2 : Int) == 0) = false from rfl, show ((2 : Int) == 1) = false from rfl, show ¬ ((2 : Int) = 0) from by decide, show ¬ ((2 : Int) = 1) from by decide, if_false, Bool.false_eq_true, if_pos q1, if_pos q2, Int.toNat_natCast, Int.toNat_zero, List.drop_zero, el, Option.bind_some, res_delta_writer_elems_0_ret, res_delta_writer_elems_1_ret, res_delta_writer_elems_2_ret]
      rw [runP_append, runP_a]
      exact this
end Go.Ev.Delta
namespace Go.Ev.Delta
open Go.Ev Go.Ev.Attr Go.Ev.Track
set_option linter.unusedVariables false
set_option linter.unusedSimpArgs false
theorem size_loop (l : Steps) (hlen : l.length ≤ 1048576) (hv : ∀ s ∈ l, sErr s = 0) (hs : ∀ s ∈ l, Ss s) : ∀ (d i m : Nat) (b : Int), i + d = l.length → d < m → 0 ≤ b → b + befs (l.drop i) ≤ 2147483647 →
    L_R_DeltaSize_0 big m l b (l.length : Int) i = some (ret_R_DeltaSize (b + befs (l.drop i))) := by
  intro d
  induction d with
  | zero =>
    intro i m b hi hm hb hx
    obtain ⟨m, rfl⟩ : ∃ q, m = q + 1 := ⟨m - 1, by omega⟩
    have : i = l.length := by omega
    subst this
    rw [L_R_DeltaSize_0_step, List.drop_length]
    simp [bcond_if, dlt_self, befs]
  | succ d ih =>
    intro i m b hi hm hb hx
    obtain ⟨m, rfl⟩ : ∃ q, m = q + 1 := ⟨m - 1, by omega⟩
    have hil : i < l.length := by omega
    have w1 := wsucc hil (show l.length ≤ 4611686018427387904 by omega)
    have ea0 : at_ (e := YStep) l (i : Int) = atT l i := rfl
    have e2 : (atT l i).2.1 = sn (atT l i) := rfl
    have hm1 := atT_mem l hil
    have hz := hv _ hm1
    have hB : addB (atT l i) 0 = sn (atT l i) := by
      unfold addB
      split
      · rename_i k
        rcases sErr_zero hz with ⟨_, h2, _⟩ | ⟨h1, _⟩
        · omega
        · rcases h1 with h1 | h1 <;> omega
      · omega
    have hn : 0 ≤ sn (atT l i) := by rw [← hB]; exact (one_pos (p := none) (one_of hz (fun q h => by cases h))).1
    have hdr : ∀ s ∈ l.drop (i + 1), s ∈ l := fun s h => List.mem_of_mem_drop h
    obtain ⟨p1, p2⟩ := adds_pos (fun s h => hv s (hdr s h)) (fun s h => hs s (hdr s h))
    rw [drop_step l hil] at hx ⊢
    simp only [befs, hB] at hx ⊢
    have w2 : IntKind.i64.wrap (b + sn (atT l i)) = b + sn (atT l i) := w64 (by omega) (by omega)
    rw [L_R_DeltaSize_0_step]
    simp only [bcond_if, dlt hil, inb, hil, if_true, ea0, e2, w1, w2]
    rw [ih (i + 1) m (b + sn (atT l i)) (by omega) (by omega) (by omega) (by omega), Int.add_assoc]
theorem rsize_eq (l : Steps) (hl : Ds l) (h : err l = 0) : C_R_DeltaSize F_R_DeltaSize l = some (ret_R_DeltaSize (befs l)) := by
  obtain ⟨h1, h2, h3⟩ := dErr_zero l none 0 0 h
  rw [e_R_DeltaSize]
  have := size_loop l hl.1 h1 (fun s hs => ss_mem hl hs) l.length 0 big 0 (by omega) (big_ge (n := l.length + 1) (by have := hl.1; omega)) (by omega) (by rw [List.drop_zero]; omega)
  rw [List.drop_zero, Int.zero_add] at this
  exact this
theorem len_AB : ∀ (us : List U), us.length ≤ cA us + cB us
  | [] => Nat.le_refl _
  | .a x :: us => by have := len_AB us; show us.length + 1 ≤ cA us + 1 + cB us; omega
  | .c :: us => by have := len_AB us; show us.length + 1 ≤ cA us + (cB us + 1); omega
  | .k t :: us => by have := len_AB us; show us.length + 1 ≤ cA us + 1 + (cB us + 1); omega
theorem bk_AB : ∀ (us : List U) (f : Flow), cB (bk us f) ≤ cA us ∧ cA (bk us f) ≤ cB us
  | [], f => ⟨Nat.le_refl _, Nat.le_refl _⟩
  | .a x :: us, f => by have := bk_AB us f; show cB (bk us f) + 1 ≤ cA us + 1 ∧ cA (bk us f) ≤ cB us; omega
  | .c :: us, f => by
    have := bk_AB us (f.drop 1)
    show cB ((f.take 1).map U.a ++ bk us (f.drop 1)) ≤ cA us ∧ cA ((f.take 1).map U.a ++ bk us (f.drop 1)) ≤ cB us + 1
    rw [cB_append, cA_append, (cB_a _).1, (cB_a _).2, List.length_take]; omega
  | .k t :: us, f => by
    have := bk_AB us (f.drop 1)
    show cB ((f.take 1).map (bkE t) ++ bk us (f.drop 1)) ≤ cA us + 1 ∧ cA ((f.take 1).map (bkE t) ++ bk us (f.drop 1)) ≤ cB us + 1
    rw [cB_append, cA_append]
    have : cB ((f.take 1).map (bkE t)) ≤ 1 ∧ cA ((f.take 1).map (bkE t)) ≤ 1 := by
      cases f with
      | nil => exact ⟨Nat.zero_le _, Nat.zero_le _⟩
      | cons x f => exact ⟨Nat.le_refl _, Nat.le_refl _⟩
    omega
theorem il_AB : ∀ (xs : List Flow) (cs : List Bool) (ts : List Attrs), xs.length = cs.length + 1 → ts.length = cs.length → cB (ilL xs cs ts) = cs.length ∧ ebl xs ≤ cA (ilL xs cs ts)
  | [], cs, ts, h1, h2 => by simp at h1
  | [x], [], [], h1, h2 => by
    show cB (x.map U.a) = 0 ∧ ebl [x] ≤ cA (x.map U.a)
    rw [(cB_a x).1, (cB_a x).2]; exact ⟨rfl, by simp [ebl]⟩
  | x :: y :: xs, [], ts, h1, h2 => by simp at h1
  | [x], [], _ :: _, h1, h2 => by simp at h2
  | [x], _ :: _, ts, h1, h2 => by simp at h1
  | x :: y :: xs, d :: cs, [], h1, h2 => by simp at h2
  | x :: y :: xs, c :: cs, t :: ts, h1, h2 => by
    obtain ⟨q1, q2⟩ := il_AB (y :: xs) cs ts (by simpa using h1) (by simpa using h2)
    show cB (x.map U.a ++ uni c t :: ilL (y :: xs) cs ts) = cs.length + 1 ∧ x.length + ebl (y :: xs) ≤ cA (x.map U.a ++ uni c t :: ilL (y :: xs) cs ts)
    rw [cB_append, cA_append, (cB_a x).1, (cB_a x).2]
    cases c
    · show 0 + (cB (ilL (y :: xs) cs ts) + 1) = _ ∧ _ ≤ x.length + (cA (ilL (y :: xs) cs ts) + 1); omega
    · show 0 + (cB (ilL (y :: xs) cs ts) + 1) = _ ∧ _ ≤ x.length + cA (ilL (y :: xs) cs ts); omega
theorem ebl_mem : ∀ (xs : List Flow) (x : Flow), x ∈ xs → x.length ≤ ebl xs
  | y :: xs, x, h => by
    show x.length ≤ y.length + ebl xs
    rcases List.mem_cons.1 h with rfl | h
    · omega
    · have := ebl_mem xs x h; omega
theorem bkA_all (Q : Attrs → Prop) (h0 : Q []) : ∀ (us : List U) (f : Flow) (b : Act), (∀ t ∈ b.2.2, Q t) → (∀ x ∈ f, ∀ t, U.k t ∈ us → Q (btw (chd (ea x) t) (ea x))) → ∀ t ∈ (bkA us f b).2.2, Q t
  | [], f, b, h, _ => h
  | .a x :: us, f, b, h, h2 => bkA_all Q h0 us f (aU true [] b) (fun t ht => (List.mem_append.1 ht).elim (h t) (fun q => by rw [List.mem_singleton.1 q]; exact h0)) (fun x hx t ht => h2 x hx t (by simp [ht]))
  | .c :: us, f, b, h, h2 => bkA_all Q h0 us (f.drop 1) (aE (f.take 1) b) h (fun x hx t ht => h2 x (List.mem_of_mem_drop hx) t (by simp [ht]))
  | .k t :: us, [], b, h, h2 => bkA_all Q h0 us [] b h (fun x hx => by simp at hx)
  | .k t :: us, x :: f, b, h, h2 => bkA_all Q h0 us f (aU false (btw (chd (ea x) t) (ea x)) b) (fun u hu => (List.mem_append.1 hu).elim (h u) (fun q => by rw [List.mem_singleton.1 q]; exact h2 x (by simp) t (by simp))) (fun y hy u hu => h2 y (by simp [hy]) u (by simp [hu]))
theorem nv_sh {emp : Bool} {l : Attrs} (hl : l.length ≤ 1048576) (h : Nv emp l) : Sh l := ⟨hl, fun i => by
  have hb : ∀ x ∈ l, (an x).length ≤ 1048576 ∧ (av x).length ≤ 1048576 := fun x hx => by
    obtain ⟨h1, h2⟩ := h x hx
    constructor
    · unfold nm at h1
      split at h1
      · cases h1
      · simp only [Bool.and_eq_true, decide_eq_true_eq] at h1; omega
    · rcases h2 with h2 | ⟨_, h2⟩
      · unfold vl at h2
        simp only [Bool.and_eq_true, decide_eq_true_eq] at h2; omega
      · rw [h2]; simp
  by_cases hi : i < l.length
  · have : atA l i = l[i] := at_get (e := YAttr) l i hi
    rw [this]; exact hb _ (List.getElem_mem hi)
  · have : atA l i = mkA [] [] := by
      show l.getD i (Ty.zero YAttr) = _
      rw [List.getD_eq_getElem?_getD, List.getElem?_eq_none (by omega)]; rfl
    rw [this]; exact ⟨by decide, by decide⟩⟩
end Go.Ev.Delta
namespace Go.Ev.Delta
open Go.Ev Go.Ev.Attr Go.Ev.Track
set_option linter.unusedVariables false
set_option linter.unusedSimpArgs false
def shU : U → Prop
  | .a x => Sh (ea x)
  | .c => True
  | .k t => Sh t
structure SI (w : W) (k : Nat) : Prop where
  lo : w.1.length ≤ 3 * k
  ss : ∀ s ∈ w.1, Ss s
  a : ∀ x ∈ w.2.1, Sh (ea x)
theorem SI.outs {w : W} {k : Nat} (h : SI w k) (hl : w.2.1.length ≤ 1048576) : (out w).length ≤ 3 * k + 2 ∧ ∀ s ∈ out w, Ss s := by
  have h1 := h.lo
  refine ⟨by have := fl_len w.1 w.2.1 w.2.2; unfold out; omega, fun s hs => ?_⟩
  rcases fl_mem hs with q | q | q
  · exact h.ss s q
  · rw [q.1]; exact ⟨sh_nil, fs_of hl h.a⟩
  · rw [q.1]; exact ⟨sh_nil, fs_nil⟩
theorem SI.run : ∀ (us : List U) (w : W) (k : Nat), SI w k → (∀ u ∈ us, shU u) → w.2.1.length + cA us ≤ 1048576 → SI (runP us w) (k + us.length) ∧ (runP us w).2.1.length ≤ 1048576
  | [], w, k, h, _, hl => ⟨h, by have : cA [] = 0 := rfl; show w.2.1.length ≤ _; omega⟩
  | .a x :: us, w, k, h, hu, hl => by
    have hx : Sh (ea x) := hu (.a x) (by simp)
    have e : (uE [x] w).2.1.length = w.2.1.length + 1 := by show (w.2.1 ++ [x]).length = _; simp
    have c : cA (.a x :: us) = cA us + 1 := rfl
    have := SI.run us (uE [x] w) (k + 1) ⟨by have := h.lo; show w.1.length ≤ _; omega, h.ss, fun y hy => (List.mem_append.1 hy).elim (h.a y) (fun q => by rw [List.mem_singleton.1 q]; exact hx)⟩ (fun u q => hu u (by simp [q])) (by omega)
    rw [List.length_cons, show k + (us.length + 1) = k + 1 + us.length by omega]
    exact this
  | .c :: us, w, k, h, hu, hl => by
    have := SI.run us (uC w) (k + 1) ⟨by have := h.lo; show w.1.length ≤ _; omega, h.ss, h.a⟩ (fun u q => hu u (by simp [q])) hl
    rw [List.length_cons, show k + (us.length + 1) = k + 1 + us.length by omega]
    exact this
  | .k t :: us, w, k, h, hu, hl => by
    have ht : Sh t := hu (.k t) (by simp)
    have c : cA (.k t :: us) = cA us + 1 := rfl
    obtain ⟨o1, o2⟩ := h.outs (by omega)
    have := SI.run us (uK t w) (k + 1) ⟨by have := mrg_len (out w) 1 t; show (mrgK (out w) 1 t).length ≤ _; omega, fun s hs => by
        rcases mrg_mem hs with q | q | ⟨r, r1, r2, r3, r4⟩
        · exact o2 s q
        · rw [q]; exact ⟨ht, fs_nil⟩
        · have := o2 r r1; rw [r4]; exact this, fun y hy => by simp [uK] at hy⟩ (fun u q => hu u (by simp [q])) (by show 0 + cA us ≤ _; omega)
    rw [List.length_cons, show k + (us.length + 1) = k + 1 + us.length by omega]
    exact this
theorem ex_mem : ∀ (d : Steps) (u : U), u ∈ ex d → (∃ s ∈ d, ∃ x ∈ se s, u = .a x) ∨ u = .c ∨ ∃ s ∈ d, u = .k (sa s)
  | [], u, h => by simp [ex] at h
  | s :: d, u, h => by
    rcases List.mem_append.1 (show u ∈ exS s ++ ex d from h) with h | h
    · unfold exS at h
      split at h
      · obtain ⟨x, h1, h2⟩ := List.mem_map.1 h
        exact .inl ⟨s, by simp, x, h1, h2.symm⟩
      · rw [List.eq_of_mem_replicate h]
        unfold uni
        split
        · exact .inr (.inl rfl)
        · exact .inr (.inr ⟨s, by simp, rfl⟩)
    · rcases ex_mem d u h with ⟨t, t1, t2⟩ | q | ⟨t, t1, t2⟩
      · exact .inl ⟨t, by simp [t1], t2⟩
      · exact .inr (.inl q)
      · exact .inr (.inr ⟨t, by simp [t1], t2⟩)
theorem nb_befs : ∀ {l : Steps}, (∀ s ∈ l, sErr s = 0) → (nb l : Int) = befs l
  | [], _ => rfl
  | s :: l, h => by
    have ih := nb_befs (l := l) (fun t ht => h t (by simp [ht]))
    have hz := h s (by simp)
    show (((if sk s = 1 then 0 else (sn s).toNat) + nb l : Nat) : Int) = addB s 0 + befs l
    unfold addB
    split
    · omega
    · rcases sErr_zero hz with ⟨h1, _⟩ | ⟨_, _, h3, _⟩
      · contradiction
      · omega
theorem len_ba : ∀ (l : Steps), (∀ s ∈ l, sErr s = 0) → (l.length : Int) ≤ befs l + afts l
  | [], _ => by simp [befs, afts]
  | s :: l, h => by
    have ih := len_ba l (fun t ht => h t (by simp [ht]))
    have hz := h s (by simp)
    have : 1 ≤ addB s 0 + addA s 0 := by
      unfold addB addA ssz
      rcases sErr_zero hz with ⟨h1, _, _, h4, _⟩ | ⟨h1, _, h3, _⟩
      · have : 1 ≤ (se s).length := by
          cases hq : se s with
          | nil => exact absurd hq h4
          | cons x y => simp
        simp only [h1, if_true, show ¬ ((1 : Int) = 2) from by decide, if_false]
        omega
      · have k1 : ¬ sk s = 1 := by rcases h1 with q | q <;> omega
        simp only [k1, if_false]
        split <;> omega
    simp only [befs, afts, List.length_cons]
    omega
section
variable (f : Flow) (d : Steps) (hf : Fs f) (hd : Ds d) (hsz : f.length + eb d ≤ 349525) (hab : ∀ x ∈ f, ∀ s ∈ d, 2 * (ea x).length + (sa s).length ≤ 1048576)
include hf hd hsz hab
end
end Go.Ev.Delta
