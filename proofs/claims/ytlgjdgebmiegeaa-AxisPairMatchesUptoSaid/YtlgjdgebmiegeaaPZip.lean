
import Derived.Test.YtlgjdgebmiegeaaPAppF
namespace Go.Ev.Delta
open Go.Ev Go.Ev.Attr Go.Ev.Track
set_option linter.unusedVariables false
set_option linter.unusedSimpArgs false
/-- What is added comes first, the first list's before the second's; other units meet in pairs. -/
def zp (fa fb : YElem.den → List U) (fk : U → U → List U) : List U → List U → List U
  | .a x :: us, vs => fa x ++ zp fa fb fk us vs
  | us, .a y :: vs => fb y ++ zp fa fb fk us vs
  | u :: us, v :: vs => fk u v ++ zp fa fb fk us vs
  | _, _ => []
termination_by us vs => us.length + vs.length
def noA (us : List U) : Prop := ∀ x us', us ≠ .a x :: us'
theorem noA_nil : noA [] := fun x us' h => by cases h
theorem noA_uni (c : Bool) (t : Attrs) (us : List U) : noA (uni c t :: us) := fun x us' h => by cases c <;> cases h
section
variable (fa fb : YElem.den → List U) (fk : U → U → List U)
theorem zp_a1 (x : YElem.den) (us vs : List U) : zp fa fb fk (.a x :: us) vs = fa x ++ zp fa fb fk us vs := by rw [zp]
theorem zp_b1 (y : YElem.den) (us vs : List U) (h : noA us) : zp fa fb fk us (.a y :: vs) = fb y ++ zp fa fb fk us vs := by
  rw [zp]
  intro x us' h1 
  exact h x us' h1
theorem zp_k1 (c d : Bool) (s t : Attrs) (us vs : List U) : zp fa fb fk (uni c s :: us) (uni d t :: vs) = fk (uni c s) (uni d t) ++ zp fa fb fk us vs := by
  cases c <;> cases d <;> (simp only [uni]; rw [zp] <;> (intros; simp_all))
theorem zp_nil : zp fa fb fk [] [] = [] := by rw [zp] <;> (intros; simp_all)
theorem zp_a : ∀ (x : Flow) (us vs : List U), zp fa fb fk (x.map U.a ++ us) vs = x.flatMap fa ++ zp fa fb fk us vs
  | [], us, vs => rfl
  | y :: x, us, vs => by
    show zp fa fb fk (.a y :: (x.map U.a ++ us)) vs = _
    rw [zp_a1, zp_a x]; simp
theorem zp_b (us : List U) (h : noA us) : ∀ (y : Flow) (vs : List U), zp fa fb fk us (y.map U.a ++ vs) = y.flatMap fb ++ zp fa fb fk us vs
  | [], vs => rfl
  | x :: y, vs => by
    show zp fa fb fk us (.a x :: (y.map U.a ++ vs)) = _
    rw [zp_b1 fa fb fk _ _ _ h, zp_b us h y]; simp
theorem zp_k (c d : Bool) (s t : Attrs) (us vs : List U) : ∀ (n : Nat), zp fa fb fk (List.replicate n (uni c s) ++ us) (List.replicate n (uni d t) ++ vs) = (List.replicate n (fk (uni c s) (uni d t))).flatten ++ zp fa fb fk us vs
  | 0 => rfl
  | n + 1 => by
    rw [List.replicate_succ, List.replicate_succ, List.replicate_succ, List.cons_append, List.cons_append, zp_k1, zp_k c d s t us vs n, List.flatten_cons, List.append_assoc]
/-- What units of two lists are put together from. -/
theorem zp_all (Q : U → Prop) : ∀ (n : Nat) (us vs : List U), us.length + vs.length ≤ n → (∀ x, U.a x ∈ us → ∀ u ∈ fa x, Q u) → (∀ x, U.a x ∈ vs → ∀ u ∈ fb x, Q u) → (∀ u ∈ us, ∀ v ∈ vs, ∀ q ∈ fk u v, Q q) → ∀ u ∈ zp fa fb fk us vs, Q u
  | n, us, vs, hn, h1, h2, h3, q, hq => by
    induction n generalizing us vs with
    | zero =>
      have e1 : us = [] := List.eq_nil_of_length_eq_zero (by omega)
      have e2 : vs = [] := List.eq_nil_of_length_eq_zero (by omega)
      rw [e1, e2, zp_nil] at hq; simp at hq
    | succ n ih =>
      unfold zp at hq
      split at hq
      · rename_i x us
        rcases List.mem_append.1 hq with hq | hq
        · exact h1 x (by simp) q hq
        · exact ih us vs (by simp at hn; omega) (fun x hx => h1 x (by simp [hx])) h2 (fun u hu v hv => h3 u (by simp [hu]) v hv) hq
      · rename_i y vs _
        rcases List.mem_append.1 hq with hq | hq
        · exact h2 y (by simp) q hq
        · exact ih us vs (by simp at hn; omega) h1 (fun x hx => h2 x (by simp [hx])) (fun u hu v hv => h3 u hu v (by simp [hv])) hq
      · rename_i u us v vs _ _
        rcases List.mem_append.1 hq with hq | hq
        · exact h3 u (by simp) v (by simp) q hq
        · exact ih us vs (by simp at hn; omega) (fun x hx => h1 x (by simp [hx])) (fun x hx => h2 x (by simp [hx])) (fun u hu v hv => h3 u (by simp [hu]) v (by simp [hv])) hq
      · simp at hq
/-- How many there are. -/
theorem zp_len (h1 : ∀ x, (fa x).length ≤ 1) (h2 : ∀ x, (fb x).length ≤ 1) (h3 : ∀ u v, (fk u v).length ≤ 1) : ∀ (n : Nat) (us vs : List U), us.length + vs.length ≤ n → (zp fa fb fk us vs).length ≤ us.length + vs.length
  | n, us, vs, hn => by
    induction n generalizing us vs with
    | zero =>
      have e1 : us = [] := List.eq_nil_of_length_eq_zero (by omega)
      have e2 : vs = [] := List.eq_nil_of_length_eq_zero (by omega)
      rw [e1, e2, zp_nil]; exact Nat.zero_le _
    | succ n ih =>
      unfold zp
      split
      · rename_i x us
        have := ih us vs (by simp at hn; omega)
        have := h1 x
        simp only [List.length_append, List.length_cons]; omega
      · rename_i y vs _
        have := ih us vs (by simp at hn; omega)
        have := h2 y
        simp only [List.length_append, List.length_cons]; omega
      · rename_i u us v vs _ _
        have := ih us vs (by simp at hn; omega)
        have := h3 u v
        simp only [List.length_append, List.length_cons]; omega
      · exact Nat.zero_le _
end
def k1 : U → U → List U
  | _, .c => []
  | .c, .k _ => [.c]
  | .k s, .k t => [.k (lack t s)]
  | _, _ => []
def k2 : U → U → List U
  | .c, _ => []
  | _, v => [v]
def z1 : List U → List U → List U := zp (fun x => [.a x]) (fun _ => [.k []]) k1
def z2 : List U → List U → List U := zp (fun _ => [.k []]) (fun y => [.a y]) k2
theorem k1_uni (c d : Bool) (s t : Attrs) : k1 (uni c s) (uni d t) = if d = true then [] else [uni c (lack t s)] := by cases c <;> cases d <;> rfl
theorem k2_uni (c d : Bool) (s t : Attrs) : k2 (uni c s) (uni d t) = if c = true then [] else [uni d t] := by cases c <;> cases d <;> rfl
theorem flat_a (x : Flow) : x.flatMap (fun x => [U.a x]) = x.map U.a := by induction x with
  | nil => rfl
  | cons y x ih => rw [List.flatMap_cons, ih]; rfl
theorem flat_k (x : Flow) : x.flatMap (fun _ => [U.k []]) = List.replicate x.length (U.k []) := by induction x with
  | nil => rfl
  | cons y x ih => rw [List.flatMap_cons, ih]; rfl
/-- As many units that keep. -/
def aUk (n : Nat) (b : Act) : Act := (b.1 ++ List.replicate n [], b.2.1 ++ List.replicate n false, b.2.2 ++ List.replicate n [])
theorem aUk_zero (b : Act) : aUk 0 b = b := by unfold aUk; simp
theorem aUk_succ (n : Nat) (b : Act) : aUk (n + 1) b = aUk n (aU false [] b) := by unfold aUk aU; simp [List.replicate_succ]
theorem aUk_ok (n : Nat) {b : Act} (h : AOk b) : AOk (aUk n b) := ⟨by have := h.h1; simp [aUk]; omega, by have := h.h2; simp [aUk]; omega⟩
theorem aUk_il : ∀ (n : Nat) (b : Act), AOk b → il (aUk n b) = il b ++ List.replicate n (.k [])
  | 0, b, h => by rw [aUk_zero]; simp
  | n + 1, b, h => by
    rw [aUk_succ, aUk_il n _ (aU_ok _ _ h), aU_il _ _ h, List.append_assoc]
    rfl
/-- What Behind does at a gap, and at an element. -/
def bhS (first : Bool) (x y : Flow) (o : Act) : Act := if first = true then aUk y.length (aE x o) else aE x (aUk y.length o)
def bhU (first : Bool) (ca : Bool) (ta : Attrs) (cb : Bool) (tb : Attrs) (o : Act) : Act := if cb = true then o else aU ca (if first = true then lack tb ta else ta) o
def bh (first : Bool) (a b : Act) : Nat → Nat → Act → Act
  | 0, i, o => bhS first (adAt a.1 i) (adAt b.1 i) o
  | d + 1, i, o => bh first a b d (i + 1) (bhU first (cutAt a.2.1 i) (atrAt a.2.2 i) (cutAt b.2.1 i) (atrAt b.2.2 i) (bhS first (adAt a.1 i) (adAt b.1 i) o))
theorem bhS_ok (first : Bool) (x y : Flow) {o : Act} (h : AOk o) : AOk (bhS first x y o) := by
  unfold bhS
  split
  · exact aUk_ok _ (aE_ok _ h)
  · exact aE_ok _ (aUk_ok _ h)
theorem bhU_ok (first : Bool) (ca : Bool) (ta : Attrs) (cb : Bool) (tb : Attrs) {o : Act} (h : AOk o) : AOk (bhU first ca ta cb tb o) := by
  unfold bhU
  split
  · exact h
  · exact aU_ok _ _ h
theorem bhS1_il (x y : Flow) {o : Act} (h : AOk o) : il (bhS true x y o) = il o ++ (x.map U.a ++ List.replicate y.length (.k [])) := by
  show il (aUk y.length (aE x o)) = _
  rw [aUk_il _ _ (aE_ok _ h), aE_il _ h, List.append_assoc]
theorem bhS2_il (x y : Flow) {o : Act} (h : AOk o) : il (bhS false x y o) = il o ++ (List.replicate y.length (.k []) ++ x.map U.a) := by
  show il (aE x (aUk y.length o)) = _
  rw [aE_il _ (aUk_ok _ h), aUk_il _ _ h, List.append_assoc]
def fz (n : Nat) : Flow := List.replicate n (mkE 0 0 [])
theorem fz_len (n : Nat) : (fz n).length = n := by simp [fz]
theorem rest_s (a : Act) (ha : AOk a) (i : Nat) (hi : i < a.2.1.length) : rest a i = (adAt a.1 i).map U.a ++ uni (cutAt a.2.1 i) (atrAt a.2.2 i) :: rest a (i + 1) :=
  rest_step (fz a.2.1.length) a ha (fz_len _).symm i (by rw [fz_len]; exact hi)
theorem rest_e (a : Act) (ha : AOk a) : rest a a.2.1.length = (adAt a.1 a.2.1.length).map U.a := by
  have := rest_end (fz a.2.1.length) a ha (fz_len _).symm
  rw [fz_len] at this
  exact this
theorem zp_end (fa fb : YElem.den → List U) (fk : U → U → List U) (x y : Flow) : zp fa fb fk (x.map U.a) (y.map U.a) = x.flatMap fa ++ y.flatMap fb := by
  have h1 := zp_a fa fb fk x [] (y.map U.a)
  have h2 := zp_b fa fb fk [] noA_nil y []
  rw [List.append_nil] at h1 h2
  rw [h1, h2, zp_nil, List.append_nil]
theorem zp_gap (fa fb : YElem.den → List U) (fk : U → U → List U) (x y : Flow) (c d : Bool) (s t : Attrs) (us vs : List U) :
    zp fa fb fk (x.map U.a ++ uni c s :: us) (y.map U.a ++ uni d t :: vs) = x.flatMap fa ++ (y.flatMap fb ++ (fk (uni c s) (uni d t) ++ zp fa fb fk us vs)) := by
  rw [zp_a, zp_b _ _ _ _ (noA_uni _ _ _), zp_k1]
theorem bh1_il (a b : Act) (ha : AOk a) (hb : AOk b) (hl : b.2.1.length = a.2.1.length) : ∀ (d i : Nat) (o : Act), i + d = a.2.1.length → AOk o → AOk (bh true a b d i o) ∧ il (bh true a b d i o) = il o ++ z1 (rest a i) (rest b i)
  | 0, i, o, hi, h => by
    obtain rfl : i = a.2.1.length := by omega
    refine ⟨bhS_ok _ _ _ h, ?_⟩
    show il (bhS true _ _ o) = _
    have e := rest_e b hb
    rw [hl] at e
    rw [bhS1_il _ _ h, rest_e a ha, e]
    unfold z1
    rw [zp_end, flat_a, flat_k]
  | d + 1, i, o, hi, h => by
    have h2 := bhS_ok true (adAt a.1 i) (adAt b.1 i) h
    have h3 := bhU_ok true (cutAt a.2.1 i) (atrAt a.2.2 i) (cutAt b.2.1 i) (atrAt b.2.2 i) h2
    obtain ⟨q1, q2⟩ := bh1_il a b ha hb hl d (i + 1) _ (by omega) h3
    refine ⟨q1, ?_⟩
    show il (bh true a b d (i + 1) _) = _
    rw [q2, rest_s a ha i (by omega), rest_s b hb i (by omega)]
    unfold z1
    rw [zp_gap, flat_a, flat_k, k1_uni]
    unfold bhU
    cases hc : cutAt b.2.1 i
    · simp only [Bool.false_eq_true, if_false, if_true]
      rw [aU_il _ _ h2, bhS1_il _ _ h]
      simp only [List.append_assoc]
    · simp only [if_true]
      rw [bhS1_il _ _ h]
      simp only [List.append_assoc, List.nil_append]
theorem bh2_il (a b : Act) (ha : AOk a) (hb : AOk b) (hl : b.2.1.length = a.2.1.length) : ∀ (d i : Nat) (o : Act), i + d = a.2.1.length → AOk o → AOk (bh false a b d i o) ∧ il (bh false a b d i o) = il o ++ z2 (rest b i) (rest a i)
  | 0, i, o, hi, h => by
    obtain rfl : i = a.2.1.length := by omega
    refine ⟨bhS_ok _ _ _ h, ?_⟩
    show il (bhS false _ _ o) = _
    have e := rest_e b hb
    rw [hl] at e
    rw [bhS2_il _ _ h, rest_e a ha, e]
    unfold z2
    rw [zp_end, flat_a, flat_k]
  | d + 1, i, o, hi, h => by
    have h2 := bhS_ok false (adAt a.1 i) (adAt b.1 i) h
    have h3 := bhU_ok false (cutAt a.2.1 i) (atrAt a.2.2 i) (cutAt b.2.1 i) (atrAt b.2.2 i) h2
    obtain ⟨q1, q2⟩ := bh2_il a b ha hb hl d (i + 1) _ (by omega) h3
    refine ⟨q1, ?_⟩
    show il (bh false a b d (i + 1) _) = _
    rw [q2, rest_s a ha i (by omega), rest_s b hb i (by omega)]
    unfold z2
    rw [zp_gap, flat_a, flat_k, k2_uni]
    unfold bhU
    cases hc : cutAt b.2.1 i
    · simp only [Bool.false_eq_true, if_false, if_true]
      rw [aU_il _ _ h2, bhS2_il _ _ h]
      simp only [List.append_assoc]
    · simp only [if_true]
      rw [bhS2_il _ _ h]
      simp only [List.append_assoc, List.nil_append]
end Go.Ev.Delta
