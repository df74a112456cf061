
import Derived.Test.YtlgjdgebmiegeaaPPairB
import Derived.Test.YtlgjdgebmiegeaaGJoin
namespace Go.Ev.Delta
open Go.Ev Go.Ev.Attr Go.Ev.Track
set_option linter.unusedVariables false
set_option linter.unusedSimpArgs false
/-- What the first list removes is gone; what the second one adds comes next; other units meet in pairs. -/
def jn (fx : Attrs → YElem.den → YElem.den) (fj : Attrs → Attrs → Attrs) : List U → List U → List U
  | .c :: us, vs => .c :: jn fx fj us vs
  | us, .a y :: vs => .a y :: jn fx fj us vs
  | .a x :: us, .k t :: vs => .a (fx t x) :: jn fx fj us vs
  | .a _ :: us, .c :: vs => jn fx fj us vs
  | .k s :: us, .k t :: vs => .k (fj s t) :: jn fx fj us vs
  | .k _ :: us, .c :: vs => .c :: jn fx fj us vs
  | _, _ => []
termination_by us vs => us.length + vs.length
def noC (us : List U) : Prop := ∀ us', us ≠ .c :: us'
theorem noC_nil : noC [] := fun us' h => by cases h
theorem noC_a (x : YElem.den) (us : List U) : noC (.a x :: us) := fun us' h => by cases h
theorem noC_k (t : Attrs) (us : List U) : noC (.k t :: us) := fun us' h => by cases h
section
variable (fx : Attrs → YElem.den → YElem.den) (fj : Attrs → Attrs → Attrs)
theorem jn_c1 (us vs : List U) : jn fx fj (.c :: us) vs = .c :: jn fx fj us vs := by rw [jn]
theorem jn_b1 (y : YElem.den) (us vs : List U) (h : noC us) : jn fx fj us (.a y :: vs) = .a y :: jn fx fj us vs := by
  rw [jn]
  intro us' h1
  exact h us' h1
theorem jn_ak1 (x : YElem.den) (t : Attrs) (us vs : List U) : jn fx fj (.a x :: us) (.k t :: vs) = .a (fx t x) :: jn fx fj us vs := by rw [jn]
theorem jn_ac1 (x : YElem.den) (us vs : List U) : jn fx fj (.a x :: us) (.c :: vs) = jn fx fj us vs := by rw [jn]
theorem jn_kk1 (s t : Attrs) (us vs : List U) : jn fx fj (.k s :: us) (.k t :: vs) = .k (fj s t) :: jn fx fj us vs := by rw [jn]
theorem jn_kc1 (s : Attrs) (us vs : List U) : jn fx fj (.k s :: us) (.c :: vs) = .c :: jn fx fj us vs := by rw [jn]
theorem jn_nil : jn fx fj [] [] = [] := by rw [jn] <;> (intros; simp_all)
theorem jn_c (us vs : List U) : ∀ n, jn fx fj (List.replicate n .c ++ us) vs = List.replicate n .c ++ jn fx fj us vs
  | 0 => rfl
  | n + 1 => by rw [List.replicate_succ, List.cons_append, jn_c1, jn_c us vs n]; rfl
theorem jn_b (us : List U) (h : noC us) : ∀ (y : Flow) (vs : List U), jn fx fj us (y.map U.a ++ vs) = y.map U.a ++ jn fx fj us vs
  | [], vs => rfl
  | x :: y, vs => by
    show jn fx fj us (.a x :: (y.map U.a ++ vs)) = _
    rw [jn_b1 fx fj _ _ _ h, jn_b us h y]; rfl
theorem jn_ak (t : Attrs) (us vs : List U) : ∀ (x : Flow), jn fx fj (x.map U.a ++ us) (List.replicate x.length (U.k t) ++ vs) = (x.map (fx t)).map U.a ++ jn fx fj us vs
  | [] => rfl
  | y :: x => by
    show jn fx fj (.a y :: (x.map U.a ++ us)) (List.replicate (x.length + 1) (U.k t) ++ vs) = _
    rw [List.replicate_succ, List.cons_append, jn_ak1, jn_ak t us vs x]; rfl
theorem jn_ac (us vs : List U) : ∀ (x : Flow), jn fx fj (x.map U.a ++ us) (List.replicate x.length U.c ++ vs) = jn fx fj us vs
  | [] => rfl
  | y :: x => by
    show jn fx fj (.a y :: (x.map U.a ++ us)) (List.replicate (x.length + 1) U.c ++ vs) = _
    rw [List.replicate_succ, List.cons_append, jn_ac1, jn_ac us vs x]
theorem jn_kk (s t : Attrs) (us vs : List U) : ∀ n, jn fx fj (List.replicate n (U.k s) ++ us) (List.replicate n (U.k t) ++ vs) = List.replicate n (U.k (fj s t)) ++ jn fx fj us vs
  | 0 => rfl
  | n + 1 => by rw [List.replicate_succ, List.replicate_succ, List.cons_append, List.cons_append, jn_kk1, jn_kk s t us vs n]; rfl
theorem jn_kc (s : Attrs) (us vs : List U) : ∀ n, jn fx fj (List.replicate n (U.k s) ++ us) (List.replicate n U.c ++ vs) = List.replicate n U.c ++ jn fx fj us vs
  | 0 => rfl
  | n + 1 => by rw [List.replicate_succ, List.replicate_succ, List.cons_append, List.cons_append, jn_kc1, jn_kc s us vs n]; rfl
/-- What units of a join there are; how many. -/
theorem jn_all (Q : U → Prop) (hc : Q .c) : ∀ (n : Nat) (us vs : List U), us.length + vs.length ≤ n → (∀ y, U.a y ∈ vs → Q (.a y)) → (∀ x t, U.a x ∈ us → U.k t ∈ vs → Q (.a (fx t x))) → (∀ s t, U.k s ∈ us → U.k t ∈ vs → Q (.k (fj s t))) → (∀ u ∈ jn fx fj us vs, Q u) ∧ (jn fx fj us vs).length ≤ us.length + vs.length
  | n, us, vs, hn, h1, h2, h3 => by
    induction n generalizing us vs with
    | zero =>
      have e1 : us = [] := List.eq_nil_of_length_eq_zero (by omega)
      have e2 : vs = [] := List.eq_nil_of_length_eq_zero (by omega)
      rw [e1, e2, jn_nil]; exact ⟨fun u hu => by simp at hu, Nat.zero_le _⟩
    | succ n ih =>
      have cons : ∀ (u : U) (us' vs' : List U), Q u → us'.length + vs'.length + 1 ≤ us.length + vs.length → ((∀ u ∈ jn fx fj us' vs', Q u) ∧ (jn fx fj us' vs').length ≤ us'.length + vs'.length) →
          (∀ q ∈ u :: jn fx fj us' vs', Q q) ∧ (u :: jn fx fj us' vs').length ≤ us.length + vs.length := fun u us' vs' hu hl hh => by
        refine ⟨fun q hq => ?_, by simp only [List.length_cons]; omega⟩
        rcases List.mem_cons.1 hq with hq | hq
        · rw [hq]; exact hu
        · exact hh.1 q hq
      unfold jn
      split
      · rename_i us
        exact cons _ us vs hc (by simp only [List.length_cons]; omega) (ih us vs (by simp at hn; omega) h1 (fun x t hx ht => h2 x t (by simp [hx]) ht) (fun s t hs ht => h3 s t (by simp [hs]) ht))
      · rename_i y vs _
        exact cons _ us vs (h1 y (by simp)) (by simp only [List.length_cons]; omega) (ih us vs (by simp at hn; omega) (fun y hy => h1 y (by simp [hy])) (fun x t hx ht => h2 x t hx (by simp [ht])) (fun s t hs ht => h3 s t hs (by simp [ht])))
      · rename_i x us t vs
        exact cons _ us vs (h2 x t (by simp) (by simp)) (by simp only [List.length_cons]; omega) (ih us vs (by simp at hn; omega) (fun y hy => h1 y (by simp [hy])) (fun x t hx ht => h2 x t (by simp [hx]) (by simp [ht])) (fun s t hs ht => h3 s t (by simp [hs]) (by simp [ht])))
      · rename_i x us vs
        have := ih us vs (by simp at hn; omega) (fun y hy => h1 y (by simp [hy])) (fun x t hx ht => h2 x t (by simp [hx]) (by simp [ht])) (fun s t hs ht => h3 s t (by simp [hs]) (by simp [ht]))
        exact ⟨this.1, by simp only [List.length_cons]; omega⟩
      · rename_i s us t vs
        exact cons _ us vs (h3 s t (by simp) (by simp)) (by simp only [List.length_cons]; omega) (ih us vs (by simp at hn; omega) (fun y hy => h1 y (by simp [hy])) (fun x t hx ht => h2 x t (by simp [hx]) (by simp [ht])) (fun s t hs ht => h3 s t (by simp [hs]) (by simp [ht])))
      · rename_i s us vs
        exact cons _ us vs hc (by simp only [List.length_cons]; omega) (ih us vs (by simp at hn; omega) (fun y hy => h1 y (by simp [hy])) (fun x t hx ht => h2 x t (by simp [hx]) (by simp [ht])) (fun s t hs ht => h3 s t (by simp [hs]) (by simp [ht])))
      · exact ⟨fun u hu => by simp at hu, Nat.zero_le _⟩
end
/-- The same functions on what there is. -/
theorem jn_congr {fx fx' : Attrs → YElem.den → YElem.den} {fj fj' : Attrs → Attrs → Attrs} : ∀ (n : Nat) (us vs : List U), us.length + vs.length ≤ n → (∀ x t, U.a x ∈ us → U.k t ∈ vs → fx t x = fx' t x) → (∀ s t, U.k s ∈ us → U.k t ∈ vs → fj s t = fj' s t) → jn fx fj us vs = jn fx' fj' us vs
  | n, us, vs, hn, h2, h3 => by
    induction n generalizing us vs with
    | zero =>
      have e1 : us = [] := List.eq_nil_of_length_eq_zero (by omega)
      have e2 : vs = [] := List.eq_nil_of_length_eq_zero (by omega)
      rw [e1, e2, jn_nil, jn_nil]
    | succ n ih =>
      have both : ∀ (u v : U) (us' vs' : List U), us = u :: us' → vs = v :: vs' → jn fx fj us' vs' = jn fx' fj' us' vs' := fun u v us' vs' e1 e2 => by
        subst e1 e2
        exact ih us' vs' (by simp at hn; omega) (fun x t hx ht => h2 x t (by simp [hx]) (by simp [ht])) (fun s t hs ht => h3 s t (by simp [hs]) (by simp [ht]))
      cases us with
      | nil =>
        cases vs with
        | nil => rw [jn_nil, jn_nil]
        | cons v vs =>
          cases v with
          | a y =>
            rw [jn_b1 _ _ _ _ _ noC_nil, jn_b1 _ _ _ _ _ noC_nil]
            rw [ih [] vs (by simp at hn ⊢; omega) (fun x t hx ht => h2 x t hx (by simp [ht])) (fun s t hs ht => h3 s t hs (by simp [ht]))]
          | c => rw [jn, jn] <;> (intros; simp_all)
          | k t => rw [jn, jn] <;> (intros; simp_all)
      | cons u us =>
        cases u with
        | c =>
          rw [jn_c1, jn_c1, ih us vs (by simp at hn; omega) (fun x t hx ht => h2 x t (by simp [hx]) ht) (fun s t hs ht => h3 s t (by simp [hs]) ht)]
        | a x =>
          cases vs with
          | nil => rw [jn, jn] <;> (intros; simp_all)
          | cons v vs =>
            cases v with
            | a y =>
              rw [jn_b1 _ _ _ _ _ (noC_a _ _), jn_b1 _ _ _ _ _ (noC_a _ _)]
              rw [ih (.a x :: us) vs (by simp at hn ⊢; omega) (fun x t hx ht => h2 x t hx (by simp [ht])) (fun s t hs ht => h3 s t hs (by simp [ht]))]
            | c => rw [jn_ac1, jn_ac1, both _ _ us vs rfl rfl]
            | k t => rw [jn_ak1, jn_ak1, both _ _ us vs rfl rfl, h2 x t (by simp) (by simp)]
        | k s =>
          cases vs with
          | nil => rw [jn, jn] <;> (intros; simp_all)
          | cons v vs =>
            cases v with
            | a y =>
              rw [jn_b1 _ _ _ _ _ (noC_k _ _), jn_b1 _ _ _ _ _ (noC_k _ _)]
              rw [ih (.k s :: us) vs (by simp at hn ⊢; omega) (fun x t hx ht => h2 x t hx (by simp [ht])) (fun s t hs ht => h3 s t hs (by simp [ht]))]
            | c => rw [jn_kc1, jn_kc1, both _ _ us vs rfl rfl]
            | k t => rw [jn_kk1, jn_kk1, both _ _ us vs rfl rfl, h3 s t (by simp) (by simp)]
theorem pErr_all : ∀ {f : Flow}, (∀ x ∈ f, eErr x = 0) → pErr f = 0
  | [], _ => rfl
  | x :: f, h => by
    show (if eErr x ≠ 0 then eErr x else pErr f) = 0
    rw [if_neg (by simp [h x (by simp)])]
    exact pErr_all fun y hy => h y (by simp [hy])
theorem eErr_at {x : YElem.den} (h : eErr x = 0) : Attr.err false (ea x) = 0 := by
  unfold eErr at h
  split at h
  · cases h
  · split at h
    · cases h
    · exact h
theorem raw_ok {l c : Attrs} (hl : Attr.err false l = 0) (hc : Attr.err true c = 0) : Attr.err false (raw l c) = 0 := by
  obtain ⟨s, n, v⟩ := raw_full hl hc
  refine srt_err s fun x hx => ?_
  have hx' := hx
  rw [raw_chd hl hc] at hx'
  obtain ⟨h1, h2⟩ := chd_nv hl hc x hx'
  refine ⟨h1, .inl ?_⟩
  rcases h2 with z | z
  · exact z
  · exact absurd z.2 (v x hx)
theorem eErr_chg {x : YElem.den} {t : Attrs} (h : eErr x = 0) (ht : Attr.err true t = 0) : eErr (chgE t x) = 0 := by
  have ha := raw_ok (eErr_at h) ht
  unfold eErr at h ⊢
  have e1 : ec (chgE t x) = ec x := rfl
  have e2 : er (chgE t x) = er x := rfl
  have e3 : ea (chgE t x) = raw (ea x) t := rfl
  rw [e1, e2, e3]
  split at h
  · cases h
  · rename_i q1
    rw [if_neg q1]
    split at h
    · cases h
    · rename_i q2
      rw [if_neg q2]; exact ha
theorem joined_ok {s t : Attrs} (hs : Attr.err true s = 0) (ht : Attr.err true t = 0) : Attr.err true (joined s t) = 0 := by
  rw [joined_puts hs ht]
  refine srt_err (puts_srt t _ (puts_srt s [] trivial)) fun x hx => ?_
  rw [puts_mem t _ (err_srt true t none ht).1, puts_mem s [] (err_srt true s none hs).1] at hx
  rcases hx with hx | ⟨hx | ⟨hx, _⟩, _⟩
  · exact nv_of ht x hx
  · exact nv_of hs x hx
  · simp at hx
theorem joined_len (s t : Attrs) : (joined s t).length ≤ s.length + t.length := by
  have := flat_len gBoth (fun x y => by simp only [gBoth]; split <;> simp) (mrg s t)
  have := Attr.mrg_len s t
  unfold joined; omega
theorem chg_flow {f : Flow} {t : Attrs} (hf : Fs f) (hp : ∀ x ∈ f, eErr x = 0) (ht : Attr.err true t = 0) (hl : ∀ x ∈ f, (ea x).length + t.length ≤ 1048576) : Fs (f.map (chgE t)) ∧ pErr (f.map (chgE t)) = 0 := by
  have hv : ∀ y ∈ f.map (chgE t), eErr y = 0 ∧ (ea y).length ≤ 1048576 := fun y hy => by
    obtain ⟨x, hx, rfl⟩ := List.mem_map.1 hy
    exact ⟨eErr_chg (hp x hx) ht, Nat.le_trans (raw_len _ _) (hl x hx)⟩
  exact ⟨fs_of (by rw [List.length_map]; exact hf.1) fun y hy => nv_sh (hv y hy).2 (nv_of (eErr_at (hv y hy).1)), pErr_all fun y hy => (hv y hy).1⟩
end Go.Ev.Delta
namespace Go.Ev.Delta
open Go.Ev Go.Ev.Attr Go.Ev.Track
set_option linter.unusedVariables false
set_option linter.unusedSimpArgs false
structure P1 (l : Steps) (p : Nat) : Prop where
  v : ∀ s ∈ l, sErr s = 0 ∧ Ss s
  p : p = 0 ∨ ∃ s l', l = s :: l' ∧ sk s ≠ 2 ∧ (p : Int) < ssz s
def nx (s : YStep.den) (l : Steps) (p n : Nat) : Steps × Nat := if ((p + n : Nat) : Int) = ssz s then (l, 0) else (s :: l, p + n)
theorem nx_nxt {s : YStep.den} {l : Steps} {p n : Nat} (h : ssz s = sn s) : nx s l p n = nxt s l p n := by unfold nx nxt; rw [h]
/-- A step's size: that of its kind. -/
theorem ssz_pos {s : YStep.den} (h : sErr s = 0) (hs : Ss s) : 1 ≤ ssz s ∧ ssz s ≤ 2147483647 := by
  by_cases hk : sk s = 1
  · obtain ⟨q1, _, _, q4, _⟩ := is_add h hs hk
    have := hs.2.1
    omega
  · obtain ⟨_, q1, q2, _, _, q5⟩ := non_add h hs hk
    omega
theorem p1_lt {s : YStep.den} {l : Steps} {p : Nat} (h : P1 (s :: l) p) : (p : Int) < ssz s := by
  have hv := h.v s (by simp)
  have := ssz_pos hv.1 hv.2
  rcases h.p with q | ⟨t, l', e, k, h2⟩
  · omega
  · injection e with e1 e2; rw [e1]; exact h2
theorem p1_cut {s : YStep.den} {l : Steps} {p : Nat} (h : P1 (s :: l) p) (hk : sk s = 2) : p = 0 := by
  rcases h.p with q | ⟨t, l', e, k, _⟩
  · exact q
  · injection e with e1 e2; rw [← e1] at k; exact absurd hk k
theorem p1_tail {s : YStep.den} {l : Steps} {p : Nat} (h : P1 (s :: l) p) : P1 l 0 := ⟨fun t ht => h.v t (by simp [ht]), .inl rfl⟩
theorem p1_nx {s : YStep.den} {l : Steps} {p n : Nat} (h : P1 (s :: l) p) (hk : sk s ≠ 2) (hn : ((p + n : Nat) : Int) ≤ ssz s) : P1 (nx s l p n).1 (nx s l p n).2 ∧ (nx s l p n).1.length ≤ (s :: l).length ∧ (((p + n : Nat) : Int) = ssz s → (nx s l p n).1.length = l.length) ∧ ∀ t ∈ (nx s l p n).1, t ∈ s :: l := by
  unfold nx
  split
  · exact ⟨p1_tail h, by simp, fun _ => rfl, fun t ht => by simp [show t ∈ l from ht]⟩
  · rename_i hx
    exact ⟨⟨h.v, .inr ⟨s, l, rfl, hk, by show ((p + n : Nat) : Int) < ssz s; omega⟩⟩, Nat.le_refl _, fun z => absurd z hx, fun t ht => ht⟩
theorem ru_part {s : YStep.den} {l : Steps} {p n : Nat} (hk : sk s = 1) (hn : p + n ≤ (se s).length) : ru (s :: l) p = (((se s).drop p).take n).map U.a ++ ru (nx s l p n).1 (nx s l p n).2 := by
  have e : exS s = (se s).map U.a := by unfold exS; rw [if_pos hk]
  have hz : ssz s = ((se s).length : Int) := by unfold ssz; rw [if_pos hk]
  have key : ∀ q : Nat, q ≤ (se s).length → ru (s :: l) q = ((se s).drop q).map U.a ++ ex l := by
    intro q hq
    show (exS s ++ ex l).drop q = _
    rw [e, List.drop_append_of_le_length (by simpa using hq), List.map_drop]
  rw [key p (by omega)]
  unfold nx
  rw [hz]
  split
  · rename_i h
    show _ = _ ++ ru l 0
    rw [ru_zero, List.take_of_length_le (by simp; omega)]
  · show _ = _ ++ ru (s :: l) (p + n)
    rw [key (p + n) (by omega), ← List.append_assoc, ← List.map_append, ← List.drop_drop, List.take_append_drop]
theorem take_part (s : YStep.den) (l : Steps) (p n : Nat) (hk : sk s = 1) (hl : (se s).length ≤ 1048576) (hn : p + n ≤ (se s).length) :
    ∃ u : YStep.den, u.1 = sk s ∧ u.2.2.2 = ((se s).drop p).take n ∧ C_delta_reader_take F_delta_reader_take n (s :: l) p = some (ret_delta_reader_take u (nx s l p n).1 (nx s l p n).2) := by
  have hz : ssz s = ((se s).length : Int) := by unfold ssz; rw [if_pos hk]
  have e1 : (s : YStep.den).1 = sk s := rfl
  have e4 : s.2.2.2 = se s := rfl
  have w : IntKind.i64.wrap ((p : Int) + n) = ((p + n : Nat) : Int) := wnat (by omega) (by omega)
  have q1 : (0 ≤ ((p + n : Nat) : Int) ∧ ((p + n : Nat) : Int) ≤ ((se s).length : Int) ∧ 0 ≤ (p : Int) ∧ (p : Int) ≤ ((p + n : Nat) : Int)) := by omega
  have q2 : (0 ≤ ((s :: l).length : Int) ∧ ((s :: l).length : Int) ≤ ((s :: l).length : Int) ∧ 0 ≤ (1 : Int) ∧ (1 : Int) ≤ ((s :: l).length : Int)) := by simp only [List.length_cons]; omega
  refine ⟨(sk s, (sn s, (sa s, List.drop (Int.toNat p) (List.take (Int.toNat ((p + n : Nat) : Int)) (se s))))), rfl, ?_, ?_⟩
  · show List.drop (Int.toNat p) (List.take (Int.toNat ((p + n : Nat) : Int)) (se s)) = _
    rw [Int.toNat_natCast, Int.toNat_natCast, List.drop_take]
    congr 1; omega
  rw [e_delta_reader_take, if_pos (in0 s l), at_head, size_eq, e1, hk]
  simp only [Option.bind_some, res_delta_size_0_ret, beq_self_eq_true, bcond_if, if_true, w, e4, if_pos q1, if_pos (in0 s l), hz, if_pos q2]
  rw [drop1 s l]
  unfold nx
  rw [hz]
  by_cases h : ((p + n : Nat) : Int) = ((se s).length : Int)
  · rw [if_pos h, h]; simp only [beq_self_eq_true, if_true]; rfl
  · have : (((p + n : Nat) : Int) == ((se s).length : Int)) = false := by simpa using h
    rw [if_neg h]; simp only [this, Bool.false_eq_true, if_false]; rfl
theorem take_nonJ (s : YStep.den) (l : Steps) (p n : Nat) (hk : sk s ≠ 1) (hs : sn s ≤ 2147483647) (hn : ((p + n : Nat) : Int) ≤ sn s) : ∃ u : YStep.den, u.1 = sk s ∧ u.2.1 = (n : Int) ∧ u.2.2.1 = sa s ∧ C_delta_reader_take F_delta_reader_take n (s :: l) p = some (ret_delta_reader_take u (nx s l p n).1 (nx s l p n).2) := by
  have hz : ssz s = sn s := by unfold ssz; rw [if_neg hk]
  have e1 : (s : YStep.den).1 = sk s := rfl
  have w : IntKind.i64.wrap ((p : Int) + n) = ((p + n : Nat) : Int) := wnat (by omega) (by omega)
  have q2 : (0 ≤ ((s :: l).length : Int) ∧ ((s :: l).length : Int) ≤ ((s :: l).length : Int) ∧ 0 ≤ (1 : Int) ∧ (1 : Int) ≤ ((s :: l).length : Int)) := by simp only [List.length_cons]; omega
  have k1 : (sk s == 1) = false := by simpa using hk
  refine ⟨(sk s, (n, s.2.2)), rfl, rfl, rfl, ?_⟩
  rw [e_delta_reader_take, if_pos (in0 s l), at_head, size_eq, e1]
  simp only [Option.bind_some, res_delta_size_0_ret, bcond_if, k1, Bool.false_eq_true, if_false, w, if_pos (in0 s l), hz, if_pos q2]
  rw [drop1 s l, nx_nxt hz]
  unfold nxt
  by_cases h : ((p + n : Nat) : Int) = sn s
  · rw [if_pos h, h]; simp
  · have : (((p + n : Nat) : Int) == sn s) = false := by simpa using h
    rw [if_neg h]; simp only [this, Bool.false_eq_true, if_false]
def nE : List U → Nat
  | [] => 0
  | .a _ :: us => nE us + 1
  | _ :: us => nE us
theorem nE_append : ∀ (x y : List U), nE (x ++ y) = nE x + nE y
  | [], y => by simp [nE]
  | .a _ :: x, y => by show nE (x ++ y) + 1 = nE x + 1 + nE y; rw [nE_append x]; omega
  | .c :: x, y => nE_append x y
  | .k _ :: x, y => nE_append x y
theorem nE_a : ∀ (x : Flow), nE (x.map U.a) = x.length
  | [] => rfl
  | y :: x => by show nE (x.map U.a) + 1 = x.length + 1; rw [nE_a x]
theorem nE_uni (c : Bool) (t : Attrs) : ∀ n, nE (List.replicate n (uni c t)) = 0
  | 0 => rfl
  | n + 1 => by
    rw [List.replicate_succ]
    have := nE_uni c t n
    cases c <;> exact this
theorem nE_ex : ∀ (l : Steps), nE (ex l) ≤ eb l
  | [] => Nat.le_refl _
  | s :: l => by
    show nE (exS s ++ ex l) ≤ (se s).length + eb l
    have := nE_ex l
    rw [nE_append]
    unfold exS
    split
    · rw [nE_a]; omega
    · rw [nE_uni]; omega
structure Wj (w : W) (k : Nat) (us vs : List U) : Prop where
  t : Ti w k
  a : w.2.1.length + nE us + nE vs ≤ 1048576
  c : w.2.2 + cB us ≤ 2147483647
noncomputable def finJ (x : W) : Option sig_delta_Join.Out :=
  ((C_delta_writer_done F_delta_writer_done x.1 x.2.1 x.2.2).bind fun r3 =>
       (some (ret_delta_Join (res_delta_writer_done_0 r3) (res_delta_writer_done_1 r3))))
abbrev jD : List U → List U → List U := jn chgE joined
theorem uni_c (t : Attrs) : uni true t = .c := rfl
theorem uni_k (t : Attrs) : uni false t = .k t := rfl
theorem join_loop : ∀ (d m : Nat) (l1 l2 : Steps) (p1 p2 : Nat) (w : W) (k : Nat), l1.length + l2.length = d → d < m → P1 l1 p1 → PR l2 p2 → cA (ru l1 p1) = cB (ru l2 p2) → Wj w k (ru l1 p1) (ru l2 p2) →
    (∀ s ∈ l1, ∀ t ∈ l2, (∀ x ∈ se s, (ea x).length + (sa t).length ≤ 1048576) ∧ (sa s).length + (sa t).length ≤ 1048576) → k + d ≤ 300000 →
    L_delta_Join_0 big m w.1 w.2.1 w.2.2 l1 p1 l2 p2 = finJ (runP (jD (ru l1 p1) (ru l2 p2)) w) ∧ Ti (runP (jD (ru l1 p1) (ru l2 p2)) w) (k + d) ∧ (runP (jD (ru l1 p1) (ru l2 p2)) w).2.1.length ≤ 1048576 := by
  intro d
  induction d using Nat.strongRecOn with
  | _ d ih =>
  intro m l1 l2 p1 p2 w k hd hm h1 h2 hb hw hx hk
  obtain ⟨m, rfl⟩ : ∃ q, m = q + 1 := ⟨m - 1, by omega⟩
  have hwa := hw.a
  have hwc := hw.c
  have hwt := hw.t.c
  have kd1 : decide ((1 : Int) ≥ 0) = true := id rfl
  have kd2 : decide ((2 : Int) ≥ 0) = true := id rfl
  -- what comes next is added
  have add2 : ∀ (t : YStep.den) (l2' : Steps), l2 = t :: l2' → sk t = 1 → (l1 = [] ∨ ∃ s l1', l1 = s :: l1' ∧ sk s ≠ 2) → noC (ru l1 p1) →
      L_delta_Join_0 big (m + 1) w.1 w.2.1 w.2.2 l1 p1 l2 p2 = finJ (runP (jD (ru l1 p1) (ru l2 p2)) w) ∧ Ti (runP (jD (ru l1 p1) (ru l2 p2)) w) (k + d) ∧ (runP (jD (ru l1 p1) (ru l2 p2)) w).2.1.length ≤ 1048576 := by
    intro t l2' e kt hl1 hno
    subst e
    simp only [List.length_cons] at hd
    obtain ⟨p0, t1, t2, t3⟩ := pr_tail h2 kt
    subst p0
    have hv := h2.v t (by simp)
    obtain ⟨q1, q2, q3, q4, q5⟩ := is_add hv.1 hv.2 kt
    have hF := hv.2.2
    have hFl := hF.1
    have hru := ru_add (l := l2') q5
    rw [hru, nE_append, nE_a] at hwa
    rw [hru, cB_append, (cB_a _).1, Nat.zero_add] at hb
    obtain ⟨e1, e2, e3, e4⟩ := elems_w hw.t (se t) hF q2 (by omega)
    obtain ⟨u, u1, u2⟩ := take_add t l2' kt hFl
    obtain ⟨r1, r2, r3⟩ := ih (l1.length + l2'.length) (by omega) m l1 l2' p1 0 (runP ((se t).map U.a) w) (k + 1) rfl (by omega) h1 t1 hb ⟨e2, by omega, by omega⟩ (fun s hs u hu => hx s hs u (by simp [hu])) (by omega)
    have ze : jD (ru l1 p1) (ru (t :: l2') 0) = (se t).map U.a ++ jD (ru l1 p1) (ru l2' 0) := by rw [hru]; exact jn_b _ _ _ hno _ _
    rw [ze, runP_append]
    refine ⟨?_, r2.mono (by omega), r3⟩
    rw [← r1, L_delta_Join_0_step]
    have lf := left_cons t l2' 0 (by have := ssz_pos hv.1 hv.2; omega) (by decide)
    have lf2 : ssz t - ((0 : Nat) : Int) = ssz t := by omega
    rw [lf2] at lf
    rcases hl1 with rfl | ⟨s, l1', rfl, ks⟩
    · have kn := kind_nil p1
      have kc := kind_cons t l2' ((0 : Nat) : Int)
      simp only [kn, kc, Option.bind_some, rk0, res_delta_reader_kind_1_ret, res_delta_reader_kind_2_ret, bcond_if, kt, kd1, neg1, show ((-1 : Int) == 2) = false from rfl, beq_self_eq_true, if_true, if_false, Bool.false_eq_true, lf, rl0, res_delta_reader_left_1_ret, res_delta_reader_left_2_ret, u2, res_delta_reader_take_0_ret, res_delta_reader_take_1_ret, res_delta_reader_take_2_ret, u1, e1, res_delta_writer_elems_0_ret, res_delta_writer_elems_1_ret, res_delta_writer_elems_2_ret]
    · have hs := h1.v s (by simp)
      have kk : decide (sk s ≥ 0) = true := decide_eq_true (by
        by_cases z : sk s = 1
        · omega
        · rcases (non_add hs.1 hs.2 z).1 with q | q <;> omega)
      have k2f : (sk s == 2) = false := by simpa using ks
      have kn := kind_cons s l1' p1
      have kc := kind_cons t l2' ((0 : Nat) : Int)
      simp only [kn, kc, Option.bind_some, rk0, res_delta_reader_kind_1_ret, res_delta_reader_kind_2_ret, bcond_if, kt, kd1, kk, k2f, show (true == false) = false from rfl, beq_self_eq_true, if_true, if_false, Bool.false_eq_true, lf, rl0, res_delta_reader_left_1_ret, res_delta_reader_left_2_ret, u2, res_delta_reader_take_0_ret, res_delta_reader_take_1_ret, res_delta_reader_take_2_ret, u1, e1, res_delta_writer_elems_0_ret, res_delta_writer_elems_1_ret, res_delta_writer_elems_2_ret]
  rcases l1 with _ | ⟨s, l1⟩
  · have e1 : ru [] p1 = [] := by simp [ru, ex]
    rcases l2 with _ | ⟨t, l2⟩
    · have e2 : ru [] p2 = [] := by simp [ru, ex]
      rw [e1, e2]
      have ze : jD [] [] = [] := jn_nil _ _
      rw [ze]
      refine ⟨?_, hw.t.mono (by omega), by show w.2.1.length ≤ _; omega⟩
      have kn := kind_nil p1
      have kc := kind_nil p2
      rw [L_delta_Join_0_step]
      simp only [kn, kc, Option.bind_some, rk0, neg1, bcond_if, beq_self_eq_true, if_true, if_false, Bool.false_eq_true]
      rfl
    · by_cases kt : sk t = 1
      · exact add2 t l2 rfl kt (.inl rfl) (by rw [e1]; exact noC_nil)
      · have rt := rb_non h2 kt
        have hru := ru_non (l := l2) (p := p2) (n := 1) kt (by omega)
        rw [e1, hru, cB_append, (cB_uni _ _ _).1] at hb
        have : cA [] = 0 := rfl
        omega
  · have hs := h1.v s (by simp)
    have sz := ssz_pos hs.1 hs.2
    have plt := p1_lt h1
    by_cases ks : sk s = 2
    · -- it is removed
      simp only [List.length_cons] at hd
      have p0 := p1_cut h1 ks
      subst p0
      have k1 : sk s ≠ 1 := by omega
      obtain ⟨s1, s2, s3, s4, s5, s6⟩ := non_add hs.1 hs.2 k1
      obtain ⟨n, hn⟩ : ∃ n : Nat, sn s = (n : Int) := ⟨(sn s).toNat, by omega⟩
      have hru := ru_non (l := l1) (p := 0) (n := n) k1 (by omega)
      have hnx : nxt s l1 0 n = (l1, 0) := by unfold nxt; rw [if_pos (by omega)]
      have hnx2 : nx s l1 0 n = (l1, 0) := by rw [nx_nxt s6, hnx]
      rw [hnx, show (sk s == 2) = true by rw [ks]; rfl, uni_c] at hru
      have hru : ru (s :: l1) 0 = List.replicate n U.c ++ ru l1 0 := hru
      have cn := cB_uni n true []
      rw [uni_c] at cn
      have nn := nE_uni true [] n
      rw [uni_c] at nn
      rw [hru, nE_append, nn] at hwa
      rw [hru, cB_append, cn.1] at hwc
      rw [hru, cA_append, cn.2, if_pos rfl, Nat.zero_add] at hb
      obtain ⟨c1, c2, c3⟩ := cut_w hw.t (by omega) n (by omega)
      obtain ⟨u, u1, u2, u3, u4⟩ := take_nonJ s l1 0 n k1 s3 (by omega)
      rw [hnx2] at u4
      obtain ⟨r1, r2, r3⟩ := ih (l1.length + l2.length) (by omega) m l1 l2 0 p2 (w.1, w.2.1, w.2.2 + n) (k + 1) rfl (by omega) (p1_tail h1) h2 hb ⟨c3, by show w.2.1.length + _ + _ ≤ _; omega, by show w.2.2 + n + _ ≤ _; omega⟩ (fun s hs u hu => hx s (by simp [hs]) u hu) (by omega)
      have ze : jD (ru (s :: l1) 0) (ru l2 p2) = List.replicate n U.c ++ jD (ru l1 0) (ru l2 p2) := by rw [hru]; exact jn_c _ _ _ _ _
      rw [ze, runP_append, c2]
      refine ⟨?_, r2.mono (by omega), r3⟩
      rw [← r1, L_delta_Join_0_step]
      have lf := left_cons s l1 0 (by omega) (by decide)
      have lf2 : ssz s - ((0 : Nat) : Int) = (n : Int) := by omega
      rw [lf2] at lf
      have kn := kind_cons s l1 ((0 : Nat) : Int)
      simp only [kn, Option.bind_some, rk0, res_delta_reader_kind_1_ret, res_delta_reader_kind_2_ret, bcond_if, ks, kd2, beq_self_eq_true, if_true, if_false, show (true == false) = false from rfl, Bool.false_eq_true, lf, rl0, res_delta_reader_left_1_ret, res_delta_reader_left_2_ret, u4, res_delta_reader_take_0_ret, res_delta_reader_take_1_ret, res_delta_reader_take_2_ret, u2, c1]
    · -- the left of the first step
      obtain ⟨N1, hN1⟩ : ∃ n : Nat, ssz s - p1 = (n : Int) := ⟨(ssz s - p1).toNat, by omega⟩
      have hnoC : noC (ru (s :: l1) p1) := by
        by_cases k1 : sk s = 1
        · have hz : ssz s = ((se s).length : Int) := by unfold ssz; rw [if_pos k1]
          rw [ru_part (n := 1) k1 (by omega)]
          obtain ⟨y, ys, hy⟩ : ∃ y ys, ((se s).drop p1).take 1 = y :: ys := by
            cases hq : ((se s).drop p1).take 1 with
            | nil => have : (((se s).drop p1).take 1).length = 0 := by rw [hq]; rfl
                     simp at this; omega
            | cons y ys => exact ⟨y, ys, rfl⟩
          rw [hy]; exact noC_a _ _
        · obtain ⟨s1, s2, s3, s4, s5, s6⟩ := non_add hs.1 hs.2 k1
          rw [ru_non (n := 1) k1 (by omega), show (sk s == 2) = false by simpa using ks, uni_k]
          exact noC_k _ _
      rcases l2 with _ | ⟨t, l2⟩
      · -- nothing is left for the second one
        exfalso
        have e2 : ru [] p2 = [] := by simp [ru, ex]
        rw [e2] at hb
        have e3 : cB [] = 0 := rfl
        by_cases k1 : sk s = 1
        · have hz : ssz s = ((se s).length : Int) := by unfold ssz; rw [if_pos k1]
          rw [ru_part (n := 1) k1 (by omega), cA_append, (cB_a _).2] at hb
          simp at hb; omega
        · obtain ⟨s1, s2, s3, s4, s5, s6⟩ := non_add hs.1 hs.2 k1
          rw [ru_non (n := 1) k1 (by omega), cA_append, (cB_uni _ _ _).2, show (sk s == 2) = false by simpa using ks, if_neg (by decide)] at hb
          omega
      · by_cases kt : sk t = 1
        · exact add2 t l2 rfl kt (.inr ⟨s, l1, rfl, ks⟩) hnoC
        · have rt := rb_non h2 kt
          have ht := h2.v t (by simp)
          obtain ⟨t1, t2, t3, t4, t5, t6⟩ := non_add ht.1 ht.2 kt
          obtain ⟨N2, hN2⟩ : ∃ n : Nat, sn t - p2 = (n : Int) := ⟨(sn t - p2).toNat, by omega⟩
          obtain ⟨n, hn⟩ : ∃ n : Nat, n = if N2 < N1 then N2 else N1 := ⟨_, rfl⟩
          have hmin : (if (N2 : Int) < (N1 : Int) then (N2 : Int) else (N1 : Int)) = (n : Int) := by
            rw [hn]; split <;> split <;> omega
          have n1 : 1 ≤ n := by rw [hn]; split <;> omega
          have n2 : n ≤ N1 := by rw [hn]; split <;> omega
          have n3 : n ≤ N2 := by rw [hn]; split <;> omega
          have n4 : n = N1 ∨ n = N2 := by rw [hn]; split <;> omega
          obtain ⟨a1, a4, a5, a6⟩ := p1_nx (n := n) h1 ks (by omega)
          obtain ⟨b1, b2, b3, b4, b5⟩ := pr_nxt (n := n) h2 kt (by omega)
          have hnt : nx t l2 p2 n = nxt t l2 p2 n := nx_nxt t6
          have hru2 := ru_non (l := l2) (p := p2) (n := n) kt (by omega)
          obtain ⟨v, v1, v1', v2, v3⟩ := take_nonJ t l2 p2 n kt t3 (by omega)
          rw [hnt] at v3
          have lf1 := left_cons s l1 p1 (by omega) (by omega)
          have lf2 := left_cons t l2 p2 (by omega) (by omega)
          rw [hN1] at lf1
          rw [t6, hN2] at lf2
          have hlen : (nx s l1 p1 n).1.length + (nxt t l2 p2 n).1.length < d := by
            rw [← hd]
            simp only [List.length_cons] at a4 b4 ⊢
            rcases n4 with q | q
            · have := a5 (by omega); omega
            · have := b5 (by omega); omega
          have hxn : ∀ s' ∈ (nx s l1 p1 n).1, ∀ t' ∈ (nxt t l2 p2 n).1, (∀ x ∈ se s', (ea x).length + (sa t').length ≤ 1048576) ∧ (sa s').length + (sa t').length ≤ 1048576 := fun s' hs' t' ht' => by
            refine hx s' (a6 s' hs') t' ?_
            unfold nxt at ht'
            split at ht'
            · simp [show t' ∈ l2 from ht']
            · exact ht'
          have hxst := hx s (by simp) t (by simp)
          have kk : decide (sk s ≥ 0) = true := decide_eq_true (by
            by_cases z : sk s = 1
            · omega
            · rcases (non_add hs.1 hs.2 z).1 with q | q <;> omega)
          have k2f : (sk s == 2) = false := by simpa using ks
          have k1f : (sk t == 1) = false := by simpa using kt
          have kn := kind_cons s l1 p1
          have kc := kind_cons t l2 p2
          have st := L_delta_Join_0_step big m w.1 w.2.1 w.2.2 (s :: l1) p1 (t :: l2) p2
          simp only [kn, kc, Option.bind_some, rk0, res_delta_reader_kind_1_ret, res_delta_reader_kind_2_ret, bcond_if, kk, k2f, k1f, beq_self_eq_true, if_true, if_false, show (true == false) = false from rfl, Bool.false_eq_true, lf1, lf2, rl0, res_delta_reader_left_1_ret, res_delta_reader_left_2_ret, hmin] at st
          have ta1 := sErr_attr ht.1
          have go : ∀ (us vs zs : List U) (w' : W), ru (s :: l1) p1 = us ++ ru (nx s l1 p1 n).1 (nx s l1 p1 n).2 → ru (t :: l2) p2 = vs ++ ru (nxt t l2 p2 n).1 (nxt t l2 p2 n).2 → cA us = cB vs →
              jD (ru (s :: l1) p1) (ru (t :: l2) p2) = zs ++ jD (ru (nx s l1 p1 n).1 (nx s l1 p1 n).2) (ru (nxt t l2 p2 n).1 (nxt t l2 p2 n).2) → w' = runP zs w →
              L_delta_Join_0 big (m + 1) w.1 w.2.1 w.2.2 (s :: l1) p1 (t :: l2) p2 = L_delta_Join_0 big m w'.1 w'.2.1 w'.2.2 (nx s l1 p1 n).1 (nx s l1 p1 n).2 (nxt t l2 p2 n).1 (nxt t l2 p2 n).2 →
              Ti w' (k + 1) → w'.2.1.length ≤ w.2.1.length + nE us → w'.2.2 ≤ w.2.2 + cB us →
              L_delta_Join_0 big (m + 1) w.1 w.2.1 w.2.2 (s :: l1) p1 (t :: l2) p2 = finJ (runP (jD (ru (s :: l1) p1) (ru (t :: l2) p2)) w) ∧ Ti (runP (jD (ru (s :: l1) p1) (ru (t :: l2) p2)) w) (k + d) ∧ (runP (jD (ru (s :: l1) p1) (ru (t :: l2) p2)) w).2.1.length ≤ 1048576 := by
            intro us vs zs w' e1 e2 e3 ze ew hstep ht1 ht2 ht3
            rw [e1, e2, nE_append, nE_append] at hwa
            rw [e1, cB_append] at hwc
            rw [e1, e2, cA_append, cB_append] at hb
            obtain ⟨r1, r2, r3⟩ := ih _ hlen m (nx s l1 p1 n).1 (nxt t l2 p2 n).1 (nx s l1 p1 n).2 (nxt t l2 p2 n).2 w' (k + 1) rfl (by omega) a1 b1 (by omega) ⟨ht1, by omega, by omega⟩ hxn (by omega)
            rw [ze, runP_append, ← ew]
            exact ⟨hstep.trans r1, r2.mono (by omega), r3⟩
          by_cases k1 : sk s = 1
          · have hz : ssz s = ((se s).length : Int) := by unfold ssz; rw [if_pos k1]
            obtain ⟨q1, q2, q3, q4, q5⟩ := is_add hs.1 hs.2 k1
            have hF := hs.2.2
            have hru1 := ru_part (l := l1) (p := p1) (n := n) k1 (by omega)
            obtain ⟨u, u1, u2, u3⟩ := take_part s l1 p1 n k1 hF.1 (by omega)
            have hpl : (((se s).drop p1).take n).length = n := by simp; omega
            have hsub : ∀ x ∈ ((se s).drop p1).take n, x ∈ se s := fun x hx => List.mem_of_mem_drop (List.mem_of_mem_take hx)
            generalize ((se s).drop p1).take n = y at hru1 u2 hpl hsub
            simp only [u3, v3, Option.bind_some, res_delta_reader_take_0_ret, res_delta_reader_take_1_ret, res_delta_reader_take_2_ret, u1, v1, k1, v2, u2, show ((1 : Int) == 0) = false from rfl, show (false == true) = false from rfl, if_false, Bool.false_eq_true] at st
            have cy := cB_a y
            have ny := nE_a y
            rcases t1 with q' | q'
            · have hru2' : ru (t :: l2) p2 = List.replicate n (U.k (sa t)) ++ ru (nxt t l2 p2 n).1 (nxt t l2 p2 n).2 := by rw [hru2, q']; rfl
              have cn := cB_uni n false (sa t)
              rw [uni_k] at cn
              have hfy : Fs y := fs_of (by have := hF.1; omega) fun x hx => fs_mem hF (hsub x hx)
              have hpy : ∀ x ∈ y, eErr x = 0 := fun x hx => pErr_mem q2 x (hsub x hx)
              obtain ⟨g1, g2⟩ := chg_flow hfy hpy ta1 (fun x hx => hxst.1 x (hsub x hx))
              have ch := changed_eq y (sa t) hfy.1 (fun i => (hfy.2 i).1) ht.2.1.1
              rw [hru1, nE_append, ny] at hwa
              obtain ⟨e1, e2, e3, e4⟩ := elems_w hw.t (y.map (chgE (sa t))) g1 g2 (by rw [List.length_map]; omega)
              refine go (y.map U.a) (List.replicate n (U.k (sa t))) ((y.map (chgE (sa t))).map U.a) _ hru1 hru2' (by rw [cy.2, cn.1, hpl]) ?_ rfl ?_ e2 (by rw [e3, List.length_map, ny]; exact Nat.le_refl _) (by rw [e4]; omega)
              · rw [hru1, hru2', ← hpl]; exact jn_ak _ _ _ _ _ _
              · rw [st, q']
                simp only [beq_self_eq_true, if_true, ch, Option.bind_some, res_delta_changed_0_ret, e1, res_delta_writer_elems_0_ret, res_delta_writer_elems_1_ret, res_delta_writer_elems_2_ret]
            · have hru2' : ru (t :: l2) p2 = List.replicate n U.c ++ ru (nxt t l2 p2 n).1 (nxt t l2 p2 n).2 := by rw [hru2, q']; rfl
              have cn := cB_uni n true (sa t)
              rw [uni_c] at cn
              refine go (y.map U.a) (List.replicate n U.c) [] w hru1 hru2' (by rw [cy.2, cn.1, hpl]) ?_ rfl ?_ (hw.t.mono (by omega)) (by omega) (by omega)
              · rw [hru1, hru2', ← hpl]; exact jn_ac _ _ _ _ _
              · rw [st, q']
                simp only [show ((2 : Int) == 0) = false from rfl, if_false, Bool.false_eq_true]
          · obtain ⟨s1, s2, s3, s4, s5, s6⟩ := non_add hs.1 hs.2 k1
            have q : sk s = 0 := by rcases s1 with q | q; exact q; exact absurd q ks
            have hns : nx s l1 p1 n = nxt s l1 p1 n := nx_nxt s6
            have hru1 := ru_non (l := l1) (p := p1) (n := n) k1 (by omega)
            rw [← hns, k2f, uni_k] at hru1
            obtain ⟨u, u1, u1', u2, u3⟩ := take_nonJ s l1 p1 n k1 s3 (by omega)
            simp only [u3, v3, Option.bind_some, res_delta_reader_take_0_ret, res_delta_reader_take_1_ret, res_delta_reader_take_2_ret, u1, v1, u2, v2, q, beq_self_eq_true, if_true] at st
            have sa1 := sErr_attr hs.1
            have cm := cB_uni n false (sa s)
            rw [uni_k] at cm
            have nm := nE_uni false (sa s) n
            rw [uni_k] at nm
            rcases t1 with q' | q'
            · have hru2' : ru (t :: l2) p2 = List.replicate n (U.k (sa t)) ++ ru (nxt t l2 p2 n).1 (nxt t l2 p2 n).2 := by rw [hru2, q']; rfl
              have cn := cB_uni n false (sa t)
              rw [uni_k] at cn
              have jo := joined_eq (sa s) (sa t) hs.2.1.1 ht.2.1.1
              have jok := joined_ok sa1 ta1
              have jl := Nat.le_trans (joined_len (sa s) (sa t)) hxst.2
              obtain ⟨g1, g2, g3, g4⟩ := keep_w hw.t (by omega) (by omega) n n1 (by omega) (joined (sa s) (sa t)) (nv_sh jl (nv_of jok)) jok
              refine go (List.replicate n (U.k (sa s))) (List.replicate n (U.k (sa t))) (List.replicate n (U.k (joined (sa s) (sa t)))) _ hru1 hru2' (by rw [cm.2, cn.1, if_neg (by decide)]) ?_ rfl ?_ g2 (by omega) (by omega)
              · rw [hru1, hru2']; exact jn_kk _ _ _ _ _ _ _
              · rw [st, q']
                simp only [beq_self_eq_true, if_true, jo, g1, Option.bind_some, res_attr_Both_0_ret, res_delta_writer_keep_0_ret, res_delta_writer_keep_1_ret, res_delta_writer_keep_2_ret]
            · have hru2' : ru (t :: l2) p2 = List.replicate n U.c ++ ru (nxt t l2 p2 n).1 (nxt t l2 p2 n).2 := by rw [hru2, q']; rfl
              have cn := cB_uni n true (sa t)
              rw [uni_c] at cn
              have hcw : w.2.2 + n ≤ 2147483647 := by rw [hru1, cB_append, cm.1] at hwc; omega
              obtain ⟨c1, c2, c3⟩ := cut_w hw.t (by omega) n hcw
              refine go (List.replicate n (U.k (sa s))) (List.replicate n U.c) (List.replicate n U.c) (w.1, w.2.1, w.2.2 + n) hru1 hru2' (by rw [cm.2, cn.1, if_neg (by decide)]) ?_ c2.symm ?_ c3 (by show w.2.1.length ≤ _; omega) (by show w.2.2 + n ≤ _; rw [cm.1]; omega)
              · rw [hru1, hru2']; exact jn_kc _ _ _ _ _ _
              · rw [st, q']
                simp only [show ((2 : Int) == 0) = false from rfl, if_false, Bool.false_eq_true, c1]
end Go.Ev.Delta
namespace Go.Ev.Delta
open Go.Ev Go.Ev.Attr Go.Ev.Track
set_option linter.unusedVariables false
set_option linter.unusedSimpArgs false
def rj (s t : Attrs) : Attrs := puts (puts [] s) t
abbrev jR : List U → List U → List U := jn apE rj
def btE (b : Act) (q : Nat) (x : YElem.den) (o : Act) : Act := if cutAt b.2.1 q = true then aE (adAt b.1 q) o else aE (adAt b.1 q ++ [apE (atrAt b.2.2 q) x]) o
def btX (b : Act) : Flow → Nat → Act → Act
  | [], _, o => o
  | x :: xs, q, o => btX b xs (q + 1) (btE b q x o)
def btU (a b : Act) (i q : Nat) (o : Act) : Act := aU (cutAt b.2.1 q) (rj (atrAt a.2.2 i) (atrAt b.2.2 q)) (aE (adAt b.1 q) o)
def bt (a b : Act) : Nat → Nat → Nat → Act → Act
  | 0, i, q, o => aE (adAt b.1 (q + (adAt a.1 i).length)) (btX b (adAt a.1 i) q o)
  | d + 1, i, q, o => if cutAt a.2.1 i = true then bt a b d (i + 1) (q + (adAt a.1 i).length) (aU true [] (btX b (adAt a.1 i) q o))
    else bt a b d (i + 1) (q + (adAt a.1 i).length + 1) (btU a b i (q + (adAt a.1 i).length) (btX b (adAt a.1 i) q o))
theorem btE_ok (b : Act) (q : Nat) (x : YElem.den) {o : Act} (h : AOk o) : AOk (btE b q x o) := by
  unfold btE; split <;> exact aE_ok _ h
theorem btE_il (b : Act) (hb : AOk b) (q : Nat) (hq : q < b.2.1.length) (x : YElem.den) {o : Act} (h : AOk o) (us : List U) : il o ++ jR (.a x :: us) (rest b q) = il (btE b q x o) ++ jR us (rest b (q + 1)) := by
  rw [rest_s b hb q hq]
  have e : jR (.a x :: us) ((adAt b.1 q).map U.a ++ uni (cutAt b.2.1 q) (atrAt b.2.2 q) :: rest b (q + 1)) = (adAt b.1 q).map U.a ++ jR (.a x :: us) (uni (cutAt b.2.1 q) (atrAt b.2.2 q) :: rest b (q + 1)) := jn_b _ _ _ (noC_a _ _) _ _
  rw [e]
  unfold btE
  cases cutAt b.2.1 q
  · rw [if_neg (by decide), aE_il _ h, uni_k, show jR (.a x :: us) (.k (atrAt b.2.2 q) :: rest b (q + 1)) = .a (apE (atrAt b.2.2 q) x) :: jR us (rest b (q + 1)) from jn_ak1 _ _ _ _ _ _]
    simp
  · rw [if_pos rfl, aE_il _ h, uni_c, show jR (.a x :: us) (.c :: rest b (q + 1)) = jR us (rest b (q + 1)) from jn_ac1 _ _ _ _ _]
    simp
theorem btX_il (b : Act) (hb : AOk b) (us : List U) : ∀ (xs : Flow) (q : Nat) (o : Act), q + xs.length ≤ b.2.1.length → AOk o → AOk (btX b xs q o) ∧ il o ++ jR (xs.map U.a ++ us) (rest b q) = il (btX b xs q o) ++ jR us (rest b (q + xs.length))
  | [], q, o, hq, h => ⟨h, rfl⟩
  | x :: xs, q, o, hq, h => by
    simp only [List.length_cons] at hq
    obtain ⟨h1, h2⟩ := btX_il b hb us xs (q + 1) (btE b q x o) (by omega) (btE_ok b q x h)
    refine ⟨h1, ?_⟩
    show il o ++ jR (.a x :: (xs.map U.a ++ us)) (rest b q) = il (btX b xs (q + 1) (btE b q x o)) ++ _
    rw [btE_il b hb q (by omega) x h, h2, List.length_cons, show q + (xs.length + 1) = q + 1 + xs.length by omega]
theorem btU_il (a b : Act) (hb : AOk b) (i q : Nat) (hq : q < b.2.1.length) {o : Act} (h : AOk o) (us : List U) : AOk (btU a b i q o) ∧ il o ++ jR (.k (atrAt a.2.2 i) :: us) (rest b q) = il (btU a b i q o) ++ jR us (rest b (q + 1)) := by
  refine ⟨aU_ok _ _ (aE_ok _ h), ?_⟩
  rw [rest_s b hb q hq]
  have e : jR (.k (atrAt a.2.2 i) :: us) ((adAt b.1 q).map U.a ++ uni (cutAt b.2.1 q) (atrAt b.2.2 q) :: rest b (q + 1)) = (adAt b.1 q).map U.a ++ jR (.k (atrAt a.2.2 i) :: us) (uni (cutAt b.2.1 q) (atrAt b.2.2 q) :: rest b (q + 1)) := jn_b _ _ _ (noC_k _ _) _ _
  rw [e]
  unfold btU
  rw [aU_il _ _ (aE_ok _ h), aE_il _ h]
  cases cutAt b.2.1 q
  · rw [uni_k, uni_k, show jR (.k (atrAt a.2.2 i) :: us) (.k (atrAt b.2.2 q) :: rest b (q + 1)) = .k (rj (atrAt a.2.2 i) (atrAt b.2.2 q)) :: jR us (rest b (q + 1)) from jn_kk1 _ _ _ _ _ _]
    simp
  · rw [uni_c, uni_c, show jR (.k (atrAt a.2.2 i) :: us) (.c :: rest b (q + 1)) = .c :: jR us (rest b (q + 1)) from jn_kc1 _ _ _ _ _]
    simp
theorem bt_il (a b : Act) (ha : AOk a) (hb : AOk b) : ∀ (d i q : Nat) (o : Act), i + d = a.2.1.length → q + cA (rest a i) = b.2.1.length → AOk o → AOk (bt a b d i q o) ∧ il (bt a b d i q o) = il o ++ jR (rest a i) (rest b q)
  | 0, i, q, o, hi, hq, h => by
    obtain rfl : i = a.2.1.length := by omega
    rw [rest_e a ha] at hq ⊢
    rw [(cB_a _).2] at hq
    obtain ⟨h1, h2⟩ := btX_il b hb [] (adAt a.1 a.2.1.length) q o (by omega) h
    rw [List.append_nil] at h2
    refine ⟨aE_ok _ h1, ?_⟩
    show il (aE _ _) = _
    rw [aE_il _ h1, h2, hq, rest_e b hb]
    have e := jn_b apE rj [] noC_nil (adAt b.1 b.2.1.length) []
    rw [jn_nil, List.append_nil] at e
    rw [show jR [] ((adAt b.1 b.2.1.length).map U.a) = _ from e]
  | d + 1, i, q, o, hi, hq, h => by
    rw [rest_s a ha i (by omega)] at hq ⊢
    obtain ⟨h1, h2⟩ := btX_il b hb (uni (cutAt a.2.1 i) (atrAt a.2.2 i) :: rest a (i + 1)) (adAt a.1 i) q o (by rw [cA_append, (cB_a _).2] at hq; omega) h
    rw [h2]
    rw [cA_append, (cB_a _).2] at hq
    unfold bt
    cases hc : cutAt a.2.1 i
    · rw [hc, uni_k] at hq
      have hq : q + ((adAt a.1 i).length + (cA (rest a (i + 1)) + 1)) = b.2.1.length := hq
      rw [if_neg (by decide), uni_k]
      obtain ⟨h3, h4⟩ := btU_il a b hb i (q + (adAt a.1 i).length) (by omega) h1 (rest a (i + 1))
      rw [h4]
      exact bt_il a b ha hb d (i + 1) _ _ (by omega) (by omega) h3
    · rw [hc, uni_c] at hq
      have hq : q + ((adAt a.1 i).length + cA (rest a (i + 1))) = b.2.1.length := hq
      rw [if_pos rfl, uni_c, show jR (.c :: rest a (i + 1)) (rest b (q + (adAt a.1 i).length)) = .c :: jR (rest a (i + 1)) (rest b (q + (adAt a.1 i).length)) from jn_c1 _ _ _ _]
      obtain ⟨h3, h4⟩ := bt_il a b ha hb d (i + 1) (q + (adAt a.1 i).length) _ (by omega) (by omega) (aU_ok true [] h1)
      refine ⟨h3, ?_⟩
      rw [h4, aU_il _ _ h1, uni_c]
      simp
theorem il_size {o : Act} (h : AOk o) : o.2.1.length ≤ (il o).length ∧ ebl o.1 ≤ (il o).length := by
  obtain ⟨h1, h2⟩ := il_AB o.1 o.2.1 o.2.2 h.h1 h.h2
  have h3 := cA_len (il o)
  have h4 : cB (il o) = o.2.1.length := h1
  have h5 : ebl o.1 ≤ cA (il o) := h2
  omega
theorem put_ok {o : Act} (h : AOk o) {x : Flow} (hx : (il o).length + x.length ≤ 2000000) : IntKind.i64.wrap ((o.1.length : Int) - 1) = ((o.1.length - 1 : Nat) : Int) ∧ o.1.length - 1 < o.1.length ∧
    (List.length ([] : Flow) + (o.1.getD (o.1.length - 1) []).length) * 40 ≤ 140737488355328 ∧ (List.length ([] ++ o.1.getD (o.1.length - 1) []) + x.length) * 40 ≤ 140737488355328 ∧ ((o.1.getD (o.1.length - 1) [] ++ x).length + 1) * 40 ≤ 140737488355328 := by
  obtain ⟨h1, h2⟩ := il_size h
  have k1 := h.h1
  have k2 := last_ebl o
  refine ⟨wnat (by omega) (by omega), by omega, c40 _ _ (by simp only [List.length_nil]; omega), c40 _ _ (by simp only [List.nil_append]; omega), c40 _ _ (by rw [List.length_append]; omega)⟩
theorem deq (x : Int) : decide (x = x) = true := decide_eq_true rfl
section
variable (a b : Act) (ha : AOk a) (hb : AOk b) (hla : a.2.1.length ≤ 1048576) (hlb : b.2.1.length ≤ 1048576)
  (hX : ∀ i q, ∀ x ∈ adAt a.1 i, (ea x).length + (atrAt b.2.2 q).length ≤ 1048576)
include ha hb hla hlb hX
omit hla in
theorem both_inner (i m1 : Nat) (hi : i ≤ a.2.1.length) (us : List U) (q0 : Nat) (hq : q0 + (adAt a.1 i).length ≤ b.2.1.length) : ∀ (d j m : Nat) (o : Act), j + d = (adAt a.1 i).length → d < m → AOk o →
    (il o ++ jR (((adAt a.1 i).drop j).map U.a ++ us) (rest b (q0 + j))).length ≤ 2000000 →
    L_R_Both_1 big m1 m a.1 a.2.1 a.2.2 b.1 b.2.1 b.2.2 o.1 o.2.1 o.2.2 ((q0 + j : Nat) : Int) (i : Int) ((adAt a.1 i).length : Int) (j : Int) =
    L_R_Both_1 big m1 1 a.1 a.2.1 a.2.2 b.1 b.2.1 b.2.2 (btX b ((adAt a.1 i).drop j) (q0 + j) o).1 (btX b ((adAt a.1 i).drop j) (q0 + j) o).2.1 (btX b ((adAt a.1 i).drop j) (q0 + j) o).2.2 ((q0 + (adAt a.1 i).length : Nat) : Int) (i : Int) ((adAt a.1 i).length : Int) ((adAt a.1 i).length : Int) := by
  have a1 := ha.h1
  have b1 := hb.h1
  have b2 := hb.h2
  intro d
  induction d with
  | zero =>
    intro j m o hj hm ho hs
    obtain ⟨m, rfl⟩ : ∃ k, m = k + 1 := ⟨m - 1, by omega⟩
    have : j = (adAt a.1 i).length := by omega
    subst this
    rw [List.drop_length, L_R_Both_1_step, show (1 : Nat) = 0 + 1 from rfl, L_R_Both_1_step]
    show _ = _
    simp only [bcond_if, dlt_self, Bool.false_eq_true, if_false]
    rfl
  | succ d ih =>
    intro j m o hj hm ho hs
    obtain ⟨m, rfl⟩ : ∃ k, m = k + 1 := ⟨m - 1, by omega⟩
    have hjl : j < (adAt a.1 i).length := by omega
    have ed : (adAt a.1 i).drop j = at_ (e := YElem) (adAt a.1 i) (j : Int) :: (adAt a.1 i).drop (j + 1) := drop_l (e := YElem) _ hjl
    have hmem : at_ (e := YElem) (adAt a.1 i) (j : Int) ∈ adAt a.1 i := List.mem_of_mem_drop (i := j) (by rw [ed]; simp)
    have hch := hX i (q0 + j) _ hmem
    have ch := chd_eq _ _ hch
    have hqj : q0 + j < b.2.1.length := by omega
    have w1 := wsucc (show j < (adAt a.1 i).length from hjl) (show (adAt a.1 i).length ≤ 4611686018427387904 by omega)
    have w2 := wsucc (show q0 + j < b.2.1.length from hqj) (show b.2.1.length ≤ 4611686018427387904 by omega)
    have ea1 : at_ (e := .list YElem) a.1 (i : Int) = adAt a.1 i := rfl
    have eb1 : at_ (e := .list YElem) b.1 ((q0 + j : Nat) : Int) = adAt b.1 (q0 + j) := rfl
    have eb2 : at_ (e := .bool) b.2.1 ((q0 + j : Nat) : Int) = cutAt b.2.1 (q0 + j) := rfl
    have eb3 : at_ (e := .list YAttr) b.2.2 ((q0 + j : Nat) : Int) = atrAt b.2.2 (q0 + j) := rfl
    have g : at_ (e := .list YElem) o.1 ((o.1.length - 1 : Nat) : Int) = o.1.getD (o.1.length - 1) [] := rfl
    rw [ed] at hs ⊢
    generalize hx : at_ (e := YElem) (adAt a.1 i) (j : Int) = x at hs ch ed
    have hs1 := hs
    rw [List.map_cons, List.cons_append, btE_il b hb (q0 + j) hqj x ho] at hs1
    have hs2 : (il o).length + (adAt b.1 (q0 + j)).length ≤ 2000000 := by
      rw [List.map_cons, List.cons_append, rest_s b hb (q0 + j) hqj] at hs
      have e : jR (.a x :: (List.map U.a (List.drop (j + 1) (adAt a.1 i)) ++ us)) ((adAt b.1 (q0 + j)).map U.a ++ uni (cutAt b.2.1 (q0 + j)) (atrAt b.2.2 (q0 + j)) :: rest b (q0 + j + 1)) = (adAt b.1 (q0 + j)).map U.a ++ jR (.a x :: (List.map U.a (List.drop (j + 1) (adAt a.1 i)) ++ us)) (uni (cutAt b.2.1 (q0 + j)) (atrAt b.2.2 (q0 + j)) :: rest b (q0 + j + 1)) := jn_b _ _ _ (noC_a _ _) _ _
      rw [e, List.length_append, List.length_append, List.length_map] at hs
      omega
    obtain ⟨w, p1, p2, p3, p4⟩ := put_ok ho hs2
    have := ih (j + 1) m (btE b (q0 + j) x o) (by omega) (by omega) (btE_ok b _ x ho) hs1
    show _ = L_R_Both_1 big m1 1 a.1 a.2.1 a.2.2 b.1 b.2.1 b.2.2 (btX b ((adAt a.1 i).drop (j + 1)) (q0 + j + 1) (btE b (q0 + j) x o)).1 _ _ _ _ _ _
    refine Eq.trans ?_ this
    rw [L_R_Both_1_step]
    simp only [bcond_if, dlt hjl, if_true, w, inb, p1, g, eb1, eb2, eb3, ea1, show q0 + j < b.1.length by omega, hqj, show q0 + j < b.2.2.length by omega, show i < a.1.length by omega, hjl]
    rw [if_pos p2, if_pos p3, hx]
    unfold btE
    cases cutAt b.2.1 (q0 + j)
    · have chx : C_R_Changed F_R_Changed x.2.2 (atrAt b.2.2 (q0 + j)) = some (ret_R_Changed (chd (ea x) (atrAt b.2.2 (q0 + j)))) := ch
      simp only [Bool.not_false, if_true, chx, Option.bind_some, res_R_Changed_0_ret, deq, List.nil_append, List.length_cons, List.length_nil, Nat.zero_add, Int.toNat_natCast, Bool.false_eq_true, if_false, w1, w2]
      rw [if_pos p4]
      rw [show o.1.getD (o.1.length - 1) [] ++ adAt b.1 (q0 + j) ++ [(x.1, (x.2.1, chd (ea x) (atrAt b.2.2 (q0 + j))))] = o.1.getD (o.1.length - 1) [] ++ (adAt b.1 (q0 + j) ++ [apE (atrAt b.2.2 (q0 + j)) x]) from by rw [List.append_assoc]; rfl]
      rfl
    · simp only [Bool.not_true, Bool.false_eq_true, if_false, List.nil_append, Int.toNat_natCast, if_true, w1, w2]
      rfl
theorem both_loop (hJ : ∀ i q, (atrAt a.2.2 i).length + (atrAt b.2.2 q).length ≤ 1048576) : ∀ (d i q m : Nat) (o : Act), i + d = a.2.1.length → q + cA (rest a i) = b.2.1.length → d + 1 < m → AOk o → (il o ++ jR (rest a i) (rest b q)).length ≤ 2000000 →
    L_R_Both_0 big m a.1 a.2.1 a.2.2 b.1 b.2.1 b.2.2 o.1 o.2.1 o.2.2 (q : Int) (i : Int) = some (ret_R_Both (bt a b d i q o)) := by
  have a1 := ha.h1
  have a2 := ha.h2
  have b1 := hb.h1
  have b2 := hb.h2
  intro d
  induction d with
  | zero =>
    intro i q m o hi hq hm ho hs
    obtain ⟨m, rfl⟩ : ∃ k, m = k + 1 := ⟨m - 1, by omega⟩
    obtain rfl : i = a.2.1.length := by omega
    have re := rest_e a ha
    rw [re] at hq hs
    rw [(cB_a _).2] at hq
    have hs' : (il o ++ jR (((adAt a.1 a.2.1.length).drop 0).map U.a ++ []) (rest b (q + 0))).length ≤ 2000000 := by simpa using hs
    have hin := both_inner a b ha hb hlb hX a.2.1.length m (by omega) [] q (by omega) (adAt a.1 a.2.1.length).length 0 big o (by omega) (big_ge (n := (adAt a.1 a.2.1.length).length + 1) (by omega)) ho hs'
    rw [List.drop_zero] at hin
    obtain ⟨h1, h2⟩ := btX_il b hb [] (adAt a.1 a.2.1.length) q o (by omega) ho
    rw [List.append_nil] at h2
    have hs2 : (il (btX b (adAt a.1 a.2.1.length) q o)).length + (adAt b.1 b.2.1.length).length ≤ 2000000 := by
      have e := jn_b apE rj [] noC_nil (adAt b.1 b.2.1.length) []
      rw [jn_nil, List.append_nil] at e
      rw [h2, hq, rest_e b hb, show jR [] ((adAt b.1 b.2.1.length).map U.a) = _ from e, List.length_append, List.length_map] at hs
      exact hs
    have h0 := h1.h1
    obtain ⟨w, p1, p2, p3, p4⟩ := put_ok h1 hs2
    have hd : decide ((a.2.1.length : Int) ≤ (a.2.1.length : Int)) = true := decide_eq_true (Int.le_refl _)
    have ea1 : at_ (e := .list YElem) a.1 ((a.2.1.length : Nat) : Int) = adAt a.1 a.2.1.length := rfl
    rw [L_R_Both_0_step]
    simp only [bcond_if, hd, if_true, inb, show a.2.1.length < a.1.length by omega, ea1]
    refine Eq.trans hin ?_
    show _ = some (ret_R_Both (aE (adAt b.1 (q + (adAt a.1 a.2.1.length).length)) (btX b (adAt a.1 a.2.1.length) q o)))
    rw [hq]
    have eb1 : at_ (e := .list YElem) b.1 ((b.2.1.length : Nat) : Int) = adAt b.1 b.2.1.length := rfl
    have g : at_ (e := .list YElem) (btX b (adAt a.1 a.2.1.length) q o).1 (((btX b (adAt a.1 a.2.1.length) q o).1.length - 1 : Nat) : Int) = (btX b (adAt a.1 a.2.1.length) q o).1.getD ((btX b (adAt a.1 a.2.1.length) q o).1.length - 1) [] := rfl
    rw [show q + 0 = q from rfl, show (1 : Nat) = 0 + 1 from rfl, L_R_Both_1_step]
    simp only [bcond_if, dlt_self, Bool.false_eq_true, if_false, beq_self_eq_true, if_true, w, inb, p1, show b.2.1.length < b.1.length by omega, g, eb1]
    rw [if_pos p2, if_pos p3]
    simp only [Int.toNat_natCast, List.nil_append]
    rfl
  | succ d ih =>
    intro i q m o hi hq hm ho hs
    obtain ⟨m, rfl⟩ : ∃ k, m = k + 1 := ⟨m - 1, by omega⟩
    have re := rest_s a ha i (by omega)
    rw [re] at hq hs
    rw [cA_append, (cB_a _).2] at hq
    have hs' : (il o ++ jR (((adAt a.1 i).drop 0).map U.a ++ uni (cutAt a.2.1 i) (atrAt a.2.2 i) :: rest a (i + 1)) (rest b (q + 0))).length ≤ 2000000 := by simpa using hs
    have hin := both_inner a b ha hb hlb hX i m (by omega) (uni (cutAt a.2.1 i) (atrAt a.2.2 i) :: rest a (i + 1)) q (by omega) (adAt a.1 i).length 0 big o (by omega) (big_ge (n := (adAt a.1 i).length + 1) (by omega)) ho hs'
    rw [List.drop_zero] at hin
    obtain ⟨h1, h2⟩ := btX_il b hb (uni (cutAt a.2.1 i) (atrAt a.2.2 i) :: rest a (i + 1)) (adAt a.1 i) q o (by omega) ho
    rw [h2] at hs
    have hd : decide ((i : Int) ≤ (a.2.1.length : Int)) = true := decide_eq_true (by omega)
    have ea1 : at_ (e := .list YElem) a.1 (i : Int) = adAt a.1 i := rfl
    have ea2 : at_ (e := .bool) a.2.1 (i : Int) = cutAt a.2.1 i := rfl
    have ea3 : at_ (e := .list YAttr) a.2.2 (i : Int) = atrAt a.2.2 i := rfl
    have hne : ((i : Int) == (a.2.1.length : Int)) = false := by simpa using (show ¬ (i : Int) = (a.2.1.length : Int) by omega)
    have w1 := wsucc (show i < a.2.1.length by omega) (show a.2.1.length ≤ 4611686018427387904 by omega)
    rw [L_R_Both_0_step]
    simp only [bcond_if, hd, if_true, inb, show i < a.1.length by omega, ea1]
    refine Eq.trans hin ?_
    unfold bt
    have h0 := h1.h1
    have h0' := h1.h2
    obtain ⟨z1, z2⟩ := il_size h1
    generalize btX b (adAt a.1 i) q o = p at h1 h2 hs h0 h0' z1 z2
    generalize hQ : q + (adAt a.1 i).length = Q at hs hq
    rw [show (1 : Nat) = 0 + 1 from rfl, L_R_Both_1_step]
    have hpl : (il p).length ≤ 2000000 := by rw [List.length_append] at hs; omega
    have c24' : (p.1.length + List.length ([[]] : List Flow)) * 24 ≤ 140737488355328 := c24 _ _ (by simp; omega)
    cases hc : cutAt a.2.1 i
    · rw [hc, uni_k] at hq hs
      have hq : q + ((adAt a.1 i).length + (cA (rest a (i + 1)) + 1)) = b.2.1.length := hq
      have hQb : Q < b.2.1.length := by omega
      obtain ⟨h3, h4⟩ := btU_il a b hb i Q hQb h1 (rest a (i + 1))
      have hs2 : (il p).length + (adAt b.1 Q).length ≤ 2000000 := by
        have e : jR (.k (atrAt a.2.2 i) :: rest a (i + 1)) ((adAt b.1 Q).map U.a ++ uni (cutAt b.2.1 Q) (atrAt b.2.2 Q) :: rest b (Q + 1)) = (adAt b.1 Q).map U.a ++ jR (.k (atrAt a.2.2 i) :: rest a (i + 1)) (uni (cutAt b.2.1 Q) (atrAt b.2.2 Q) :: rest b (Q + 1)) := jn_b _ _ _ (noC_k _ _) _ _
        rw [rest_s b hb Q hQb, e, List.length_append, List.length_append, List.length_map] at hs
        omega
      obtain ⟨w, p1, p2, p3, p4⟩ := put_ok h1 hs2
      rw [h4] at hs
      have w2 := wsucc hQb (show b.2.1.length ≤ 4611686018427387904 by omega)
      have eb1 : at_ (e := .list YElem) b.1 (Q : Int) = adAt b.1 Q := rfl
      have eb2 : at_ (e := .bool) b.2.1 (Q : Int) = cutAt b.2.1 Q := rfl
      have eb3 : at_ (e := .list YAttr) b.2.2 (Q : Int) = atrAt b.2.2 Q := rfl
      have jo := rjoined_eq (atrAt a.2.2 i) (atrAt b.2.2 Q) (hJ i Q)
      have g : at_ (e := .list YElem) p.1 ((p.1.length - 1 : Nat) : Int) = p.1.getD (p.1.length - 1) [] := rfl
      have c24s : ∀ X : Flow, (List.length (p.1.set (p.1.length - 1) X) + List.length ([[]] : List Flow)) * 24 ≤ 140737488355328 := fun X => by rw [List.length_set]; exact c24'
      have c1' : ∀ z : Bool, (p.2.1.length + List.length [z]) * 1 ≤ 140737488355328 := fun z => c1 _ _ (by simp; omega)
      have c24t : ∀ t : Attrs, (p.2.2.length + List.length [t]) * 24 ≤ 140737488355328 := fun t => c24 _ _ (by simp; omega)
      have := ih (i + 1) (Q + 1) m (btU a b i Q p) (by omega) (by omega) (by omega) h3 hs
      rw [if_neg (show ¬ (false = true) by decide), ← this]
      simp only [bcond_if, dlt_self, Bool.false_eq_true, if_false, hne, inb, show i < a.2.1.length by omega, if_true, ea2, hc, w, p1, show Q < b.1.length by omega, g, eb1, eb2, eb3, ea3, hQb, show i < a.2.2.length by omega, show Q < b.2.2.length by omega, Int.toNat_natCast]
      rw [if_pos p2, if_pos p3, if_pos (c24s _), if_pos (c1' _)]
      simp only [jo, Option.bind_some, res_R_Joined_0_ret, w1, w2]
      rw [if_pos (c24t _)]
      rfl
    · rw [hc, uni_c] at hq hs
      have hq : q + ((adAt a.1 i).length + cA (rest a (i + 1))) = b.2.1.length := hq
      have e : jR (.c :: rest a (i + 1)) (rest b Q) = .c :: jR (rest a (i + 1)) (rest b Q) := jn_c1 _ _ _ _
      have c1' : (p.2.1.length + List.length [true]) * 1 ≤ 140737488355328 := c1 _ _ (by simp; omega)
      have c24t : (p.2.2.length + List.length ([[]] : List Attrs)) * 24 ≤ 140737488355328 := c24 _ _ (by simp; omega)
      have := ih (i + 1) Q m (aU true [] p) (by omega) (by omega) (by omega) (aU_ok _ _ h1) (by
        rw [aU_il _ _ h1, uni_c]
        rw [e] at hs
        simpa using hs)
      rw [if_pos (show true = true from rfl), ← this]
      simp only [bcond_if, dlt_self, Bool.false_eq_true, if_false, hne, inb, show i < a.2.1.length by omega, if_true, ea2, hc]
      rw [if_pos c24', if_pos c1', if_pos c24t, w1]
      rfl
theorem both_all (hJ : ∀ i q, (atrAt a.2.2 i).length + (atrAt b.2.2 q).length ≤ 1048576) (hq : cA (il a) = b.2.1.length) (hs : (jR (il a) (il b)).length ≤ 2000000) : C_R_Both F_R_Both a b = some (ret_R_Both (bt a b a.2.1.length 0 0 A0)) := by
  rw [e_R_Both]
  have z : il A0 = [] := rfl
  have ra : rest a 0 = il a := rfl
  have rb' : rest b 0 = il b := rfl
  exact both_loop a b ha hb hla hlb hX hJ a.2.1.length 0 0 big A0 (by omega) (by rw [ra, hq]; omega) (big_ge (n := a.2.1.length + 2) (by omega)) ⟨rfl, rfl⟩ (by rw [z, ra, rb']; exact hs)
end
/-- The attributes of what is done. -/
theorem bt_all (Q : Attrs → Prop) (h0 : Q []) (a b : Act) (hq : ∀ i q, Q (rj (atrAt a.2.2 i) (atrAt b.2.2 q))) : ∀ (d i q : Nat) (o : Act), (∀ t ∈ o.2.2, Q t) → ∀ t ∈ (bt a b d i q o).2.2, Q t := by
  have hX : ∀ (xs : Flow) (q : Nat) (o : Act), (btX b xs q o).2.2 = o.2.2 := by
    intro xs
    induction xs with
    | nil => intro q o; rfl
    | cons x xs ih =>
      intro q o
      show (btX b xs (q + 1) (btE b q x o)).2.2 = _
      rw [ih]
      unfold btE
      split <;> rfl
  intro d
  induction d with
  | zero =>
    intro i q o ho t ht
    have ht : t ∈ (btX b (adAt a.1 i) q o).2.2 := ht
    rw [hX] at ht
    exact ho t ht
  | succ d ih =>
    intro i q o ho t ht
    unfold bt at ht
    split at ht
    · refine ih _ _ _ (fun u hu => ?_) t ht
      have hu : u ∈ (btX b (adAt a.1 i) q o).2.2 ++ [[]] := hu
      rw [hX] at hu
      rcases List.mem_append.1 hu with z | z
      · exact ho u z
      · rw [List.mem_singleton.1 z]; exact h0
    · refine ih _ _ _ (fun u hu => ?_) t ht
      have hu : u ∈ (btX b (adAt a.1 i) q o).2.2 ++ [rj (atrAt a.2.2 i) (atrAt b.2.2 (q + (adAt a.1 i).length))] := hu
      rw [hX] at hu
      rcases List.mem_append.1 hu with z | z
      · exact ho u z
      · rw [List.mem_singleton.1 z]; exact hq _ _
end Go.Ev.Delta
namespace Go.Ev.Delta
open Go.Ev Go.Ev.Attr Go.Ev.Track
set_option linter.unusedVariables false
set_option linter.unusedSimpArgs false
theorem cA_ex : ∀ {l : Steps}, (∀ s ∈ l, sErr s = 0) → (cA (ex l) : Int) = afts l
  | [], _ => rfl
  | s :: l, h => by
    have ih := cA_ex (l := l) fun t ht => h t (by simp [ht])
    have hz := h s (by simp)
    show (cA (exS s ++ ex l) : Int) = addA s 0 + afts l
    rw [cA_append]
    unfold exS addA ssz
    rcases sErr_zero hz with ⟨h1, _, _, h4, _⟩ | ⟨h1, _, h3, _⟩
    · rw [if_pos h1, (cB_a _).2]
      simp only [h1, if_true, show ¬ ((1 : Int) = 2) from by decide, if_false]
      omega
    · have k1 : ¬ sk s = 1 := by rcases h1 with q | q <;> omega
      rw [if_neg k1, (cB_uni _ _ _).2]
      simp only [k1, if_false]
      rcases h1 with q | q
      · rw [q]
        simp only [show ((0 : Int) == 2) = false from rfl, Bool.false_eq_true, show ¬ ((0 : Int) = 2) from by decide, if_false]
        omega
      · rw [q.1]
        simp only [beq_self_eq_true, if_true]
        omega
/-- Where what an act does comes from. -/
theorem actL_from (Q : Attrs → Prop) : ∀ (l : Steps) (a : Act), (∀ t ∈ a.2.2, Q t) → (∀ s ∈ l, Q (sa s)) → ∀ t ∈ (actL l a).2.2, Q t
  | [], a, h1, h2 => h1
  | s :: l, a, h1, h2 => by
    refine actL_from Q l (stA s a) ?_ (fun q hq => h2 q (by simp [hq]))
    unfold stA
    split
    · exact h1
    · intro t ht
      rcases List.mem_append.1 ht with ht | ht
      · exact h1 t ht
      · rw [List.eq_of_mem_replicate ht]; exact h2 s (by simp)
theorem ilL_mem : ∀ (xs : List Flow) (cs : List Bool) (ts : List Attrs), xs.length = cs.length + 1 → ts.length = cs.length → ∀ r ∈ xs, ∀ x ∈ r, U.a x ∈ ilL xs cs ts
  | [], cs, ts, h1, h2, r, hr => by simp at hr
  | [y], [], [], h1, h2, r, hr => fun x hx => by
    rw [List.mem_singleton.1 hr] at hx
    exact List.mem_map.2 ⟨x, hx, rfl⟩
  | x :: y :: xs, [], ts, h1, h2, r, hr => by simp at h1
  | [x], [], _ :: _, h1, h2, r, hr => by simp at h2
  | [x], _ :: _, ts, h1, h2, r, hr => by simp at h1
  | x :: y :: xs, d :: cs, [], h1, h2, r, hr => by simp at h2
  | x :: y :: xs, c :: cs, t :: ts, h1, h2, r, hr => fun z hz => by
    have q := ilL_mem (y :: xs) cs ts (by simpa using h1) (by simpa using h2)
    show U.a z ∈ x.map U.a ++ uni c t :: ilL (y :: xs) cs ts
    rcases List.mem_cons.1 hr with e | e
    · rw [e] at hz
      exact List.mem_append_left _ (List.mem_map.2 ⟨z, hz, rfl⟩)
    · exact List.mem_append_right _ (List.mem_cons_of_mem _ (q r e z hz))
theorem adAt_il {o : Act} (h : AOk o) {i : Nat} {x : YElem.den} (hx : x ∈ adAt o.1 i) : U.a x ∈ il o := by
  by_cases hi : i < o.1.length
  · have e : adAt o.1 i = o.1[i] := by simp [adAt, at_, List.getD_eq_getElem?_getD, hi]
    rw [e] at hx
    exact ilL_mem _ _ _ h.h1 h.h2 _ (List.getElem_mem hi) x hx
  · have e : adAt o.1 i = [] := by simp [adAt, at_, List.getD_eq_getElem?_getD, Nat.le_of_not_lt hi]; rfl
    rw [e] at hx
    simp at hx
def cF : List Bool → Nat
  | [] => 0
  | c :: cs => (if c = true then 0 else 1) + cF cs
theorem cA_il : ∀ (xs : List Flow) (cs : List Bool) (ts : List Attrs), xs.length = cs.length + 1 → ts.length = cs.length → cA (ilL xs cs ts) = ebl xs + cF cs
  | [], cs, ts, h1, h2 => by simp at h1
  | [x], [], [], h1, h2 => by
    show cA (x.map U.a) = x.length + 0 + 0
    rw [(cB_a x).2]; rfl
  | x :: y :: xs, [], ts, h1, h2 => by simp at h1
  | [x], [], _ :: _, h1, h2 => by simp at h2
  | [x], _ :: _, ts, h1, h2 => by simp at h1
  | x :: y :: xs, d :: cs, [], h1, h2 => by simp at h2
  | x :: y :: xs, c :: cs, t :: ts, h1, h2 => by
    have q := cA_il (y :: xs) cs ts (by simpa using h1) (by simpa using h2)
    show cA (x.map U.a ++ uni c t :: ilL (y :: xs) cs ts) = x.length + ebl (y :: xs) + ((if c = true then 0 else 1) + cF cs)
    rw [cA_append, (cB_a x).2]
    cases c
    · show x.length + (cA (ilL (y :: xs) cs ts) + 1) = _; rw [q, if_neg (by decide)]; omega
    · show x.length + cA (ilL (y :: xs) cs ts) = _; rw [q, if_pos rfl]; omega
theorem cF_le : ∀ (cs : List Bool), cF cs ≤ cs.length
  | [] => Nat.le_refl _
  | c :: cs => by
    have := cF_le cs
    show (if c = true then 0 else 1) + cF cs ≤ cs.length + 1
    split <;> omega
section
variable (X : Act) (hX : AOk X) (hs : (il X).length ≤ 2000000)
include hX hs
theorem count0 (c : Steps) (e : Int) (Y : Act) : ∀ (d i m n : Nat), i + d = X.1.length → d < m → n + ebl (X.1.drop i) ≤ 4000000 →
    L_law_DeltaJoinMatches_0 big m c e X.1 X.2.1 X.2.2 Y.1 Y.2.1 Y.2.2 (n : Int) (X.1.length : Int) (i : Int) = L_law_DeltaJoinMatches_1 big big c e X.1 X.2.1 X.2.2 Y.1 Y.2.1 Y.2.2 ((n + ebl (X.1.drop i) : Nat) : Int) (X.2.1.length : Int) 0 := by
  have hl := (il_size hX).1
  have h1 := hX.h1
  intro d
  induction d with
  | zero =>
    intro i m n hi hm hn
    obtain ⟨m, rfl⟩ : ∃ k, m = k + 1 := ⟨m - 1, by omega⟩
    obtain rfl : i = X.1.length := by omega
    rw [L_law_DeltaJoinMatches_0_step, List.drop_length]
    simp only [bcond_if, dlt_self, Bool.false_eq_true, if_false]
    rfl
  | succ d ih =>
    intro i m n hi hm hn
    obtain ⟨m, rfl⟩ : ∃ k, m = k + 1 := ⟨m - 1, by omega⟩
    have ed : X.1.drop i = adAt X.1 i :: X.1.drop (i + 1) := drop_l (e := .list YElem) X.1 (by omega)
    have w1 := wsucc (show i < X.1.length by omega) (show X.1.length ≤ 4611686018427387904 by omega)
    have ea1 : at_ (e := .list YElem) X.1 (i : Int) = adAt X.1 i := rfl
    rw [ed] at hn ⊢
    simp only [ebl] at hn ⊢
    have w2 : IntKind.i64.wrap ((n : Int) + ((adAt X.1 i).length : Int)) = ((n + (adAt X.1 i).length : Nat) : Int) := wnat (by omega) (by omega)
    have := ih (i + 1) m (n + (adAt X.1 i).length) (by omega) (by omega) (by omega)
    rw [L_law_DeltaJoinMatches_0_step]
    simp only [bcond_if, dlt (show i < X.1.length by omega), if_true, inb, show i < X.1.length by omega, ea1, w1, w2]
    rw [this, Nat.add_assoc]
theorem count1 (c : Steps) (e : Int) (Y : Act) : ∀ (d i m n : Nat), i + d = X.2.1.length → d < m → n + cF (X.2.1.drop i) ≤ 8000000 →
    L_law_DeltaJoinMatches_1 big m c e X.1 X.2.1 X.2.2 Y.1 Y.2.1 Y.2.2 (n : Int) (X.2.1.length : Int) (i : Int) = L_law_DeltaJoinMatches_1 big 1 c e X.1 X.2.1 X.2.2 Y.1 Y.2.1 Y.2.2 ((n + cF (X.2.1.drop i) : Nat) : Int) (X.2.1.length : Int) (X.2.1.length : Int) := by
  have hl := (il_size hX).1
  intro d
  induction d with
  | zero =>
    intro i m n hi hm hn
    obtain ⟨m, rfl⟩ : ∃ k, m = k + 1 := ⟨m - 1, by omega⟩
    obtain rfl : i = X.2.1.length := by omega
    rw [List.drop_length, L_law_DeltaJoinMatches_1_step, show (1 : Nat) = 0 + 1 from rfl, L_law_DeltaJoinMatches_1_step]
    simp only [bcond_if, dlt_self, Bool.false_eq_true, if_false]
    rfl
  | succ d ih =>
    intro i m n hi hm hn
    obtain ⟨m, rfl⟩ : ∃ k, m = k + 1 := ⟨m - 1, by omega⟩
    have ed : X.2.1.drop i = cutAt X.2.1 i :: X.2.1.drop (i + 1) := drop_at' (e := .bool) X.2.1 (by omega)
    have w1 := wsucc (show i < X.2.1.length by omega) (show X.2.1.length ≤ 4611686018427387904 by omega)
    have ea1 : at_ (e := .bool) X.2.1 (i : Int) = cutAt X.2.1 i := rfl
    rw [ed] at hn ⊢
    simp only [cF] at hn ⊢
    rw [L_law_DeltaJoinMatches_1_step]
    simp only [bcond_if, dlt (show i < X.2.1.length by omega), if_true, inb, show i < X.2.1.length by omega, ea1, w1]
    cases hc : cutAt X.2.1 i
    · rw [hc, if_neg (by decide)] at hn
      have w2 : IntKind.i64.wrap ((n : Int) + 1) = ((n + 1 : Nat) : Int) := wnat (by omega) (by omega)
      have := ih (i + 1) m (n + 1) (by omega) (by omega) (by omega)
      simp only [Bool.not_false, if_true, w2, Bool.false_eq_true, if_false]
      rw [this, Nat.add_assoc]
    · rw [hc, if_pos rfl] at hn
      have := ih (i + 1) m n (by omega) (by omega) (by omega)
      simp only [Bool.not_true, Bool.false_eq_true, if_false, if_true, Nat.zero_add]
      rw [this]
end
section
variable (a b : Steps) (ha : Ds a) (hb : Ds b) (hlen : a.length + b.length ≤ 300000) (heb : eb a + eb b ≤ 400000)
  (hx : ∀ s ∈ a, ∀ t ∈ b, (∀ x ∈ se s, (ea x).length + (sa t).length ≤ 1048576) ∧ (sa s).length + (sa t).length ≤ 1048576)
include ha hb hlen heb hx
/-- What Join returns. -/
theorem join_eq : C_delta_Join F_delta_Join a b = some (if err a ≠ 0 then ret_delta_Join [] (err a) else if err b ≠ 0 then ret_delta_Join [] (err b) else if befs b ≠ afts a then ret_delta_Join [] 14 else
    if err (out (runP (jD (ex a) (ex b)) w0)) = 0 then ret_delta_Join (out (runP (jD (ex a) (ex b)) w0)) 0 else ret_delta_Join [] 3) ∧
    (err a = 0 → err b = 0 → befs b = afts a → Ti (runP (jD (ex a) (ex b)) w0) 300000 ∧ (runP (jD (ex a) (ex b)) w0).2.1.length ≤ 1048576) := by
  by_cases h1 : err a = 0
  · by_cases h2 : err b = 0
    · by_cases h3 : befs b = afts a
      · obtain ⟨v1, v2, v3⟩ := dErr_zero a none 0 0 h1
        obtain ⟨u1, u2, u3⟩ := dErr_zero b none 0 0 h2
        have pa : P1 a 0 := ⟨fun s hs => ⟨v1 s hs, ss_mem ha hs⟩, .inl rfl⟩
        have pb : PR b 0 := ⟨fun s hs => ⟨u1 s hs, ss_mem hb hs⟩, .inl rfl⟩
        have na := nb_befs v1
        have nb' := nb_befs u1
        have ca := cA_ex v1
        have cb := (cB_ex b).1
        have cba := (cB_ex a).1
        have ea' := nE_ex a
        have eb'' := nE_ex b
        obtain ⟨r1, r2, r3⟩ := join_loop (a.length + b.length) big a b 0 0 w0 0 rfl (big_ge (n := a.length + b.length + 1) (by omega)) pa pb (by rw [ru_zero, ru_zero]; omega)
          ⟨ti0, by rw [ru_zero, ru_zero]; show 0 + nE (ex a) + nE (ex b) ≤ _; omega, by rw [ru_zero]; show (0 : Int) + cB (ex a) ≤ _; omega⟩ hx (by omega)
        rw [ru_zero, ru_zero] at r1 r2 r3
        have t1 := r2.mono (k' := 300000) (by omega)
        refine ⟨?_, fun _ _ _ => ⟨t1, r3⟩⟩
        rw [if_neg (show ¬ err a ≠ 0 by simp [h1]), if_neg (show ¬ err b ≠ 0 by simp [h2]), if_neg (show ¬ befs b ≠ afts a by simp [h3])]
        have d1 := t1.wy r3 (by omega)
        have l1 := t1.lo
        rw [e_delta_Join, (check_eq a ha).1, (check_eq b hb).1, len_eq a ha h1, len_eq b hb h2]
        simp only [Option.bind_some, res_delta_Check_0_ret, res_delta_lengths_0_ret, res_delta_lengths_1_ret, bcond_if, h1, h2, h3, bne_self_eq_false, Bool.false_eq_true, if_false]
        refine Eq.trans r1 ?_
        generalize runP (jD (ex a) (ex b)) w0 = x at d1 l1 ⊢
        obtain ⟨q, q1, q2, q3⟩ := done_eq x.1 x.2.1 x.2.2 (by omega) d1.2
        unfold finJ
        rw [q1]
        simp only [Option.bind_some, q2, q3]
        show _ = some (if err (fl x.1 x.2.1 x.2.2) = 0 then ret_delta_Join (fl x.1 x.2.1 x.2.2) 0 else ret_delta_Join [] 3)
        by_cases z1 : err (fl x.1 x.2.1 x.2.2) = 0
        · simp [z1]
        · simp [z1]
      · refine ⟨?_, fun _ _ z => absurd z h3⟩
        rw [e_delta_Join, (check_eq a ha).1, (check_eq b hb).1, len_eq a ha h1, len_eq b hb h2]
        have z2 : (befs b != afts a) = true := by simpa using h3
        simp [bcond_if, h1, h2, h3, z2]
    · refine ⟨?_, fun _ z => absurd z h2⟩
      rw [e_delta_Join, (check_eq a ha).1, (check_eq b hb).1]
      have z2 : (err b != 0) = true := by simpa using h2
      simp [bcond_if, h1, h2, z2]
  · refine ⟨?_, fun z => absurd z h1⟩
    rw [e_delta_Join, (check_eq a ha).1]
    have z2 : (err a != 0) = true := by simpa using h1
    simp [bcond_if, h1, z2]
theorem law_join : C_law_DeltaJoinMatches F_law_DeltaJoinMatches a b = some (ret_law_DeltaJoinMatches true) := by
  obtain ⟨pe, pt⟩ := join_eq a b ha hb hlen heb hx
  have key : ∀ t, t = (if err a = 0 then err b else err a) → ∀ z, z = (if err a ≠ 0 then ret_delta_Join [] (err a) else if err b ≠ 0 then ret_delta_Join [] (err b) else if befs b ≠ afts a then ret_delta_Join [] 14 else
    if err (out (runP (jD (ex a) (ex b)) w0)) = 0 then ret_delta_Join (out (runP (jD (ex a) (ex b)) w0)) 0 else ret_delta_Join [] 3) →
      J_law_DeltaJoinMatches_0 big a b (res_delta_Join_0 z) (res_delta_Join_1 z) t = some (ret_law_DeltaJoinMatches true) := by
    intro t ht z hz
    unfold J_law_DeltaJoinMatches_0
    by_cases h1 : err a = 0
    · rw [if_pos h1] at ht
      rw [if_neg (show ¬ err a ≠ 0 by simp [h1])] at hz
      by_cases h2 : err b = 0
      · rw [if_neg (show ¬ err b ≠ 0 by simp [h2])] at hz
        rw [short_eq a ha h1, short_eq b hb h2, ht, h2]
        simp only [bcond_if, bne_self_eq_false, Bool.false_eq_true, if_false, Option.bind_some, res_law_short_0_ret]
        have other : (if (res_delta_Join_1 z == 0) == false then some (ret_law_DeltaJoinMatches (((res_delta_Join_0 z).length : Int) == 0)) else some (ret_law_DeltaJoinMatches true)) = some (ret_law_DeltaJoinMatches true) := by
          rw [hz]
          by_cases h3 : befs b = afts a
          · rw [if_neg (show ¬ befs b ≠ afts a by simp [h3])]
            split
            · rfl
            · rfl
          · rw [if_pos h3]; rfl
        by_cases s1 : befs a ≤ 300
        · by_cases s2 : befs b ≤ 300
          · simp only [decide_eq_true s1, decide_eq_true s2, Bool.not_true, beq_self_eq_true, if_true, Bool.false_eq_true, if_false]
            obtain ⟨v1, v2, v3⟩ := dErr_zero a none 0 0 h1
            obtain ⟨u1, u2, u3⟩ := dErr_zero b none 0 0 h2
            have na := nb_befs v1
            have nb' := nb_befs u1
            have ca := cA_ex v1
            have pos : ∀ {l : Steps}, (∀ s ∈ l, sErr s = 0) → ∀ s ∈ l, sk s = 1 ∨ 0 ≤ sn s := fun hv s hs => by
              rcases sErr_zero (hv s hs) with ⟨h1, _⟩ | ⟨_, _, h3, _⟩
              · exact .inl h1
              · exact .inr (by omega)
            have aa := act_eq a ha.1 (pos v1) (by omega) (by omega)
            have ab := act_eq b hb.1 (pos u1) (by omega) (by omega)
            obtain ⟨oa, ia⟩ := act_ex a
            obtain ⟨ob, ib⟩ := act_ex b
            obtain ⟨la, ea'⟩ := actL_size a A0 ⟨rfl, rfl⟩
            obtain ⟨lb, eb'⟩ := actL_size b A0 ⟨rfl, rfl⟩
            have y1 : A0.2.1.length = 0 := rfl
            have y2 : ebl A0.1 = 0 := rfl
            have ta := actL_attrs a A0 (fun t h => by simp [A0] at h) (fun s hs => (ss_mem ha hs).1.1)
            have tb := actL_attrs b A0 (fun t h => by simp [A0] at h) (fun s hs => (ss_mem hb hs).1.1)
            obtain ⟨x1, x2⟩ := cB_ex a
            obtain ⟨x3, x4⟩ := cB_ex b
            have n1 := len_AB (ex a)
            have n2 := len_AB (ex b)
            have ila : (il (actL a A0)).length ≤ 2000000 := by rw [ia]; omega
            have c0 := count0 (actL a A0) oa ila (res_delta_Join_0 z) (res_delta_Join_1 z) (actL b A0) (actL a A0).1.length 0 big 0 (by omega) (big_ge (n := (actL a A0).1.length + 1) (by have := oa.h1; omega)) (by rw [List.drop_zero]; omega)
            have hcF := cF_le (actL a A0).2.1
            have c1 := count1 (actL a A0) oa ila (res_delta_Join_0 z) (res_delta_Join_1 z) (actL b A0) (actL a A0).2.1.length 0 big (ebl (actL a A0).1) (by omega) (big_ge (n := (actL a A0).2.1.length + 1) (by omega)) (by rw [List.drop_zero]; omega)
            have cs := cA_il _ _ _ oa.h1 oa.h2
            have cs : cA (il (actL a A0)) = ebl (actL a A0).1 + cF (actL a A0).2.1 := cs
            rw [ia] at cs
            rw [List.drop_zero, Nat.zero_add] at c0
            rw [List.drop_zero, ← cs] at c1
            rw [aa, ab]
            simp only [Option.bind_some, res_R_ActOf_0_ret]
            refine Eq.trans c0 (Eq.trans c1 ?_)
            rw [show (1 : Nat) = 0 + 1 from rfl, L_law_DeltaJoinMatches_1_step]
            simp only [bcond_if, dlt_self, Bool.false_eq_true, if_false]
            by_cases h3 : befs b = afts a
            · have hl : cA (ex a) = (actL b A0).2.1.length := by omega
              obtain ⟨t1, t2⟩ := pt h1 h2 h3
              have ok1 := ok_ex (l := a) fun s hs => ⟨fun k => by
                rcases sErr_zero (v1 s hs) with ⟨_, _, _, _, q⟩ | ⟨q, _⟩
                · exact q
                · rcases q with q | q <;> omega, sErr_attr (v1 s hs)⟩
              have ok2 := ok_ex (l := b) fun s hs => ⟨fun k => by
                rcases sErr_zero (u1 s hs) with ⟨_, _, _, _, q⟩ | ⟨q, _⟩
                · exact q
                · rcases q with q | q <;> omega, sErr_attr (u1 s hs)⟩
              obtain ⟨m1, m2⟩ := jn_all chgE joined okU trivial _ (ex a) (ex b) (Nat.le_refl _) (fun y hy => ok2 _ hy) (fun x t hx ht => eErr_chg (ok1 _ hx) (ok2 _ ht)) (fun s t hs ht => joined_ok (ok1 _ hs) (ok2 _ ht))
              have m2 : (jD (ex a) (ex b)).length ≤ (ex a).length + (ex b).length := m2
              have m1 : ∀ u ∈ jD (ex a) (ex b), okU u := m1
              have c2 := cA_len (jD (ex a) (ex b))
              have o1 := (valid_out _ m1 (by omega) (by omega)).1
              have hjr : jR (ex a) (ex b) = jD (ex a) (ex b) := jn_congr _ _ _ (Nat.le_refl _) (fun x t hx ht => by
                  have z1 : eErr x = 0 := ok1 _ hx
                  have z2 : Attr.err true t = 0 := ok2 _ ht
                  show mkE (ec x) (er x) (chd (ea x) t) = mkE (ec x) (er x) (raw (ea x) t)
                  rw [raw_chd (eErr_at z1) z2]) (fun s t hs ht => by
                  have z1 : Attr.err true s = 0 := ok1 _ hs
                  have z2 : Attr.err true t = 0 := ok2 _ ht
                  exact (joined_puts z1 z2).symm)
              rw [if_neg (show ¬ befs b ≠ afts a by simp [h3]), if_pos o1] at hz
              subst hz
              have d1 := t1.wy t2 (by omega)
              -- what the document says
              have atm : ∀ (l : Steps) (i : Nat), atrAt (actL l A0).2.2 i = [] ∨ ∃ s ∈ l, atrAt (actL l A0).2.2 i = sa s := fun l i => by
                by_cases hi : i < (actL l A0).2.2.length
                · have hm : atrAt (actL l A0).2.2 i ∈ (actL l A0).2.2 := by
                    have e : atrAt (actL l A0).2.2 i = (actL l A0).2.2[i] := by simp [atrAt, at_, List.getD_eq_getElem?_getD, hi]
                    rw [e]; exact List.getElem_mem hi
                  exact actL_from (fun t => t = [] ∨ ∃ s ∈ l, t = sa s) l A0 (fun t h => by simp [A0] at h) (fun s hs => .inr ⟨s, hs, rfl⟩) _ hm
                · exact .inl (by simp [atrAt, at_, List.getD_eq_getElem?_getD, Nat.le_of_not_lt hi]; rfl)
              have hJ : ∀ i q, (atrAt (actL a A0).2.2 i).length + (atrAt (actL b A0).2.2 q).length ≤ 1048576 := fun i q => by
                have sb := atr_small _ tb q
                have sa' := atr_small _ ta i
                rcases atm a i with e | ⟨s, hs, e⟩
                · rw [e]; simpa using sb
                · rcases atm b q with e' | ⟨t, ht, e'⟩
                  · rw [e']; simpa using sa'
                  · rw [e, e']; exact (hx s hs t ht).2
              have hXx : ∀ i q, ∀ x ∈ adAt (actL a A0).1 i, (ea x).length + (atrAt (actL b A0).2.2 q).length ≤ 1048576 := fun i q x hxm => by
                have hmem : U.a x ∈ ex a := by
                  rw [← ia]
                  exact adAt_il oa hxm
                rcases ex_mem a _ hmem with ⟨s, hs, y, hy, e⟩ | e | ⟨s, hs, e⟩
                · injection e with e
                  subst e
                  rcases atm b q with e' | ⟨t, ht, e'⟩
                  · rw [e']; have := (fs_mem (ss_mem ha hs).2 hy).1; simpa using this
                  · rw [e']; exact (hx s hs t ht).1 x hy
                · cases e
                · cases e
              have hjl : (jR (ex a) (ex b)).length ≤ 2000000 := by rw [hjr]; omega
              have b1 := both_all (actL a A0) (actL b A0) oa ob (by omega) (by omega) hXx hJ (by rw [ia]; exact hl) (by rw [ia, ib]; exact hjl)
              obtain ⟨g1, g2⟩ := bt_il (actL a A0) (actL b A0) oa ob (actL a A0).2.1.length 0 0 A0 (by omega) (by rw [show rest (actL a A0) 0 = il (actL a A0) from rfl, ia]; omega) ⟨rfl, rfl⟩
              have g3 : il (bt (actL a A0) (actL b A0) (actL a A0).2.1.length 0 0 A0) = jD (ex a) (ex b) := by
                rw [g2, show rest (actL a A0) 0 = il (actL a A0) from rfl, show rest (actL b A0) 0 = il (actL b A0) from rfl, ia, ib, hjr]; rfl
              obtain ⟨z1, z2⟩ := il_size g1
              rw [g3] at z1 z2
              have q1 := delta_eq _ g1 (by omega) (atr_small _ (bt_all (fun t => t.length ≤ 1048576) (Nat.zero_le _) _ _ (fun i q => by
                have h1 := puts_len (atrAt (actL b A0).2.2 q) (puts [] (atrAt (actL a A0).2.2 i))
                have h2 := puts_len (atrAt (actL a A0).2.2 i) []
                have := hJ i q
                show (puts (puts [] _) _).length ≤ _
                simp only [List.length_nil] at h2
                omega) _ 0 0 A0 (fun t h => by simp [A0] at h))) (by omega)
              rw [runA_il] at q1
              have g4 : ilL (bt (actL a A0) (actL b A0) (actL a A0).2.1.length 0 0 A0).1 (bt (actL a A0) (actL b A0) (actL a A0).2.1.length 0 0 A0).2.1 (bt (actL a A0) (actL b A0) (actL a A0).2.1.length 0 0 A0).2.2 = jD (ex a) (ex b) := g3
              rw [g4] at q1
              have s1' := sdelta_self (out (runP (jD (ex a) (ex b)) w0)) d1.1.l (fun s hs => ⟨(ss_mem d1.2 hs).1.1, (ss_mem d1.2 hs).2⟩)
              have hne : (((cA (ex a) : Nat) : Int) != ((actL b A0).2.1.length : Int)) = false := by rw [hl]; exact bne_self_eq_false _
              have b1 : C_R_Both F_R_Both ((actL a A0).1, (actL a A0).2.1, (actL a A0).2.2) ((actL b A0).1, (actL b A0).2.1, (actL b A0).2.2) = _ := b1
              simp only [hne, Bool.false_eq_true, if_false, res_delta_Join_0_ret, res_delta_Join_1_ret, beq_self_eq_true, if_true, b1, Option.bind_some, res_R_Both_0_ret, q1, res_R_DeltaOf_0_ret, s1', res_R_SameDelta_0_ret]
            · rw [if_pos h3] at hz
              subst hz
              have hne : (((cA (ex a) : Nat) : Int) != ((actL b A0).2.1.length : Int)) = true := bne_iff_ne.2 (by omega)
              simp only [hne, if_true, res_delta_Join_0_ret, res_delta_Join_1_ret, beq_self_eq_true]
              rfl
          · simp only [decide_eq_true s1, decide_eq_false s2, Bool.not_true, Bool.not_false, beq_self_eq_true, if_true, Bool.false_eq_true, if_false]
            exact other
        · simp only [decide_eq_false s1, Bool.not_false, show (true == false) = false from rfl, Bool.false_eq_true, if_false]
          exact other
      · rw [if_pos (show err b ≠ 0 from h2)] at hz
        have z2 : (err b != 0) = true := by simpa using h2
        rw [ht, hz]
        simp only [bcond_if, z2, if_true, res_delta_Join_0_ret, res_delta_Join_1_ret, beq_self_eq_true]
        rfl
    · rw [if_neg h1] at ht
      rw [if_pos (show err a ≠ 0 from h1)] at hz
      have z2 : (err a != 0) = true := by simpa using h1
      rw [ht, hz]
      simp only [bcond_if, z2, if_true, res_delta_Join_0_ret, res_delta_Join_1_ret, beq_self_eq_true]
      rfl
  rw [e_law_DeltaJoinMatches, delta_facts, pe, (check_eq a ha).2, (check_eq b hb).2]
  by_cases h1 : err a = 0
  · have := key (err b) (by rw [if_pos h1]) _ rfl
    have e0 : (err a == 0) = true := by simpa using h1
    simp only [Option.bind_some, res_law_deltas_0_ret, bct, bcf, Bool.not_true, res_R_DeltaError_0_ret, e0]
    exact this
  · have := key (err a) (by rw [if_neg h1]) _ rfl
    have e0 : (err a == 0) = false := by simpa using h1
    simp only [Option.bind_some, res_law_deltas_0_ret, bct, bcf, Bool.not_true, res_R_DeltaError_0_ret, e0]
    exact this
end
end Go.Ev.Delta
