
import Derived.Test.YtlgjdgebmiegeaaPDaxis
import Derived.Test.YtlgjdgebmiegeaaPAxU
import Derived.Test.YtlgjdgebmiegeaaPSpB
namespace Go.Ev.AxisP
open Go.Ev Go.Ev.Attr Go.Ev.Track Go.Ev.Delta
set_option linter.unusedVariables false
set_option linter.unusedSimpArgs false
theorem pd_len : ∀ (d y : Delta.Steps), (pd y d).length ≤ y.length + d.length
  | [], y => Nat.le_refl _
  | s :: d, y => by
    have h1 := pd_len d (pst y s)
    have h2 : (pst y s).length ≤ y.length + 1 := by
      unfold pst
      split
      · exact mrg_len _ _ _
      · split <;> simp
    show (pd (pst y s) d).length ≤ y.length + (d.length + 1)
    omega
theorem cA_afts : ∀ {d : Delta.Steps}, (∀ s ∈ d, Delta.sErr s = 0) → (cA (ex d) : Int) = afts d
  | [], _ => rfl
  | s :: d, h => by
    have ih := cA_afts (d := d) (fun t ht => h t (by simp [ht]))
    have : (cA (exS s) : Int) = Delta.addA s 0 := by
      unfold exS Delta.addA ssz
      rcases Delta.sErr_zero (h s (by simp)) with ⟨k1, k2, k3, k4, k5⟩ | ⟨k1, k2, k3, k4, k5⟩
      · rw [if_pos k1, if_neg (by omega), if_pos k1, (cB_a _).2]; omega
      · have n1 : ¬ sk s = 1 := by rcases k1 with k1 | ⟨k1, _⟩ <;> omega
        rw [if_neg n1, if_neg n1, (cB_uni _ _ _).2]
        rcases k1 with k1 | ⟨k1, _⟩
        · rw [k1]; simp; omega
        · rw [k1]; simp
    show (cA (exS s ++ ex d) : Int) = Delta.addA s 0 + afts d
    rw [cA_append]; omega
theorem sum_ph : ∀ {y : Delta.Steps}, (∀ s ∈ y, Delta.sErr s = 0) → Axis.sumB (y.map ph) = befs y ∧ Axis.sumA (y.map ph) = afts y
  | [], _ => ⟨rfl, rfl⟩
  | s :: y, h => by
    obtain ⟨i1, i2⟩ := sum_ph (y := y) (fun t ht => h t (by simp [ht]))
    show (if sk s = 1 then 0 else pn s) + Axis.sumB (y.map ph) = Delta.addB s 0 + befs y ∧ (if sk s = 2 then 0 else pn s) + Axis.sumA (y.map ph) = Delta.addA s 0 + afts y
    rw [i1, i2]
    unfold Delta.addB Delta.addA ssz pn
    rcases Delta.sErr_zero (h s (by simp)) with ⟨k1, k2, k3, k4, k5⟩ | ⟨k1, k2, k3, k4, k5⟩
    · rw [if_pos k1, if_pos k1, if_neg (by omega), if_neg (by omega), if_pos k1, k2]
      exact ⟨rfl, by omega⟩
    · have n1 : ¬ sk s = 1 := by rcases k1 with k1 | ⟨k1, _⟩ <;> omega
      rw [if_neg n1, if_neg n1, if_neg n1, k2]
      refine ⟨by simp, ?_⟩
      split <;> simp
def ax (d : Delta.Steps) : Ax := (pd [] d).map ph
theorem ax_ok (d : Delta.Steps) (hd : Ds d) (he : err d = 0) : Axis.E (ax d) = 0 ∧ Axis.sumB (ax d) = befs d ∧ Axis.sumA (ax d) = afts d ∧ (ax d).length ≤ d.length := by
  obtain ⟨hv, hb, ha⟩ := dErr_zero d none 0 0 he
  have nb' := nb_befs hv
  have ca := cA_afts hv
  have hok := ok_ex (l := d) fun s hs => ⟨fun k => by
    rcases Delta.sErr_zero (hv s hs) with ⟨_, _, _, _, q⟩ | ⟨q, _⟩
    · exact q
    · rcases q with q | q <;> omega, sErr_attr (hv s hs)⟩
  obtain ⟨x1, x2⟩ := cB_ex d
  obtain ⟨z1, z2⟩ := befs_pl (ex d)
  obtain ⟨v1, v2, v3⟩ := valid_out _ (pl_ok _ hok) (by omega) (by omega)
  rw [← pd_eq he] at v1 v2 v3
  obtain ⟨s1, s2⟩ := sum_ph (dErr_zero _ none 0 0 v1).1
  refine ⟨err_ph _ none 0 0 v1 (by decide) (pd_att d) (fun q h => by cases h), ?_, ?_, ?_⟩
  · show Axis.sumB ((pd [] d).map ph) = _; omega
  · show Axis.sumA ((pd [] d).map ph) = _; omega
  · have := pd_len d []
    show ((pd [] d).map ph).length ≤ _
    rw [List.length_map]; simpa using this
theorem pl_ge (p : Int) : ∀ (l : Ax), Axis.Good l → ∀ (f t : Int), f ≤ p → 0 ≤ t → 0 ≤ Axis.pl p f t l → t ≤ Axis.pl p f t l
  | [], _, f, t, _, _, h => by have : Axis.pl p f t [] = -1 := rfl; omega
  | s :: l, g, f, t, hf, ht, h => by
    obtain ⟨k, n1, n2, g'⟩ := good_cons g
    unfold Axis.pl at h ⊢
    by_cases k1 : Axis.sk s = 1
    · rw [if_pos k1] at h ⊢
      have := pl_ge p l g' f (t + Axis.sn s) hf (by omega) h; omega
    · rw [if_neg k1] at h ⊢
      by_cases k0 : Axis.sk s = 0
      · rw [if_pos k0] at h ⊢
        by_cases hp : p < f + Axis.sn s
        · rw [if_pos hp] at h ⊢; omega
        · rw [if_neg hp] at h ⊢
          have := pl_ge p l g' (f + Axis.sn s) (t + Axis.sn s) (by omega) (by omega) h; omega
      · rw [if_neg k0] at h ⊢
        by_cases hp : p < f + Axis.sn s
        · rw [if_pos hp] at h ⊢; omega
        · rw [if_neg hp] at h ⊢
          exact pl_ge p l g' (f + Axis.sn s) t (by omega) ht h
theorem pl_mono (p q : Int) (hpq : p < q) : ∀ (l : Ax), Axis.Good l → ∀ (f t : Int), f ≤ p → 0 ≤ t → 0 ≤ Axis.pl p f t l → 0 ≤ Axis.pl q f t l → Axis.pl p f t l < Axis.pl q f t l
  | [], _, f, t, _, _, h, _ => by have : Axis.pl p f t [] = -1 := rfl; omega
  | s :: l, g, f, t, hf, ht, h, h2 => by
    obtain ⟨k, n1, n2, g'⟩ := good_cons g
    unfold Axis.pl at h h2 ⊢
    by_cases k1 : Axis.sk s = 1
    · rw [if_pos k1] at h h2 ⊢
      rw [if_pos k1]
      exact pl_mono p q hpq l g' f (t + Axis.sn s) hf (by omega) h h2
    · rw [if_neg k1] at h h2 ⊢
      rw [if_neg k1]
      by_cases k0 : Axis.sk s = 0
      · rw [if_pos k0] at h h2 ⊢
        rw [if_pos k0]
        by_cases hp : p < f + Axis.sn s
        · rw [if_pos hp]
          by_cases hq : q < f + Axis.sn s
          · rw [if_pos hq]; omega
          · rw [if_neg hq] at h2 ⊢
            have := pl_ge q l g' (f + Axis.sn s) (t + Axis.sn s) (by omega) (by omega) h2; omega
        · rw [if_neg hp] at h ⊢
          have hq : ¬ q < f + Axis.sn s := by omega
          rw [if_neg hq] at h2 ⊢
          exact pl_mono p q hpq l g' (f + Axis.sn s) (t + Axis.sn s) (by omega) (by omega) h h2
      · rw [if_neg k0] at h h2 ⊢
        rw [if_neg k0]
        by_cases hp : p < f + Axis.sn s
        · rw [if_pos hp] at h; omega
        · have hq : ¬ q < f + Axis.sn s := by omega
          rw [if_neg hp] at h ⊢
          rw [if_neg hq] at h2 ⊢
          exact pl_mono p q hpq l g' (f + Axis.sn s) t (by omega) ht h h2
theorem fst_spec (K : Int → Int) : ∀ (n : Nat) (s : Int), (∀ v, Axis.fstK K n s = some v → ∃ x, s ≤ x ∧ x < s + n ∧ v = K x ∧ 0 ≤ K x) ∧ (Axis.fstK K n s = none → ∀ x, s ≤ x → x < s + n → ¬ 0 ≤ K x)
  | 0, s => ⟨fun v h => by simp [Axis.fstK] at h, fun _ x h1 h2 => by omega⟩
  | n + 1, s => by
    obtain ⟨i1, i2⟩ := fst_spec K n (s + 1)
    unfold Axis.fstK
    by_cases h : 0 ≤ K s
    · rw [if_pos h]
      exact ⟨fun v e => by injection e with e; exact ⟨s, by omega, by omega, e.symm, h⟩, fun e => by cases e⟩
    · rw [if_neg h]
      refine ⟨fun v e => ?_, fun e x h1 h2 => ?_⟩
      · obtain ⟨x, q1, q2, q3⟩ := i1 v e
        exact ⟨x, by omega, by omega, q3⟩
      · by_cases hx : x = s
        · rw [hx]; exact h
        · exact i2 e x (by omega) (by omega)
theorem lst_spec (K : Int → Int) : ∀ (n : Nat) (s : Int), (∀ v, Axis.lstK K n s = some v → ∃ x, s ≤ x ∧ x < s + n ∧ v = K x ∧ 0 ≤ K x ∧ ∀ y, s ≤ y → y < s + n → 0 ≤ K y → y ≤ x) ∧ (Axis.lstK K n s = none → ∀ x, s ≤ x → x < s + n → ¬ 0 ≤ K x)
  | 0, s => ⟨fun v h => by simp [Axis.lstK] at h, fun _ x h1 h2 => by omega⟩
  | n + 1, s => by
    obtain ⟨i1, i2⟩ := lst_spec K n s
    unfold Axis.lstK
    by_cases h : 0 ≤ K (s + n)
    · rw [if_pos h]
      exact ⟨fun v e => by injection e with e; exact ⟨s + n, by omega, by omega, e.symm, h, fun y _ hy _ => by omega⟩, fun e => by cases e⟩
    · rw [if_neg h]
      refine ⟨fun v e => ?_, fun e x h1 h2 => ?_⟩
      · obtain ⟨x, q1, q2, q3, q4, q5⟩ := i1 v e
        refine ⟨x, q1, by omega, q3, q4, fun y y1 y2 y3 => ?_⟩
        by_cases hy : y = s + n
        · rw [hy] at y3; exact absurd y3 h
        · exact q5 y y1 (by omega) y3
      · by_cases hx : x = s + n
        · rw [hx]; exact h
        · exact i2 e x h1 (by omega)
def K (a : Ax) (x : Int) : Int := Axis.pl x 0 0 a
theorem hull_spec (a : Ax) (g : Axis.Good a) (p q : Int) (hp : 0 ≤ p) (hq : p ≤ q) : (Axis.hull a p q = (0, 0)) ∨ (∃ x0 x1, p ≤ x0 ∧ x0 ≤ x1 ∧ x1 < q ∧ 0 ≤ K a x0 ∧ 0 ≤ K a x1 ∧ (Axis.hull a p q).1 = K a x0 ∧ (Axis.hull a p q).2 = K a x1 + 1 ∧ K a x0 ≤ K a x1) := by
  have e : Axis.hull a p q = ((Axis.fstK (K a) (q - p).toNat p).getD 0, ((Axis.lstK (K a) (q - p).toNat p).map (· + 1)).getD 0) := by
    show Axis.asc (K a) (q - p).toNat p 0 0 = _
    rw [Axis.asc_eq]; rfl
  obtain ⟨f1, f2⟩ := fst_spec (K a) (q - p).toNat p
  obtain ⟨l1, l2⟩ := lst_spec (K a) (q - p).toNat p
  rw [e]
  cases hf : Axis.fstK (K a) (q - p).toNat p with
  | none =>
    cases hl : Axis.lstK (K a) (q - p).toNat p with
    | none => exact .inl rfl
    | some v =>
      obtain ⟨x, q1, q2, q3, q4, _⟩ := l1 v hl
      exact absurd q4 (f2 hf x q1 q2)
  | some u =>
    obtain ⟨x, q1, q2, q3, q4⟩ := f1 u hf
    cases hl : Axis.lstK (K a) (q - p).toNat p with
    | none => exact absurd q4 (l2 hl x q1 q2)
    | some v =>
      obtain ⟨y, r1, r2, r3, r4, r5⟩ := l1 v hl
      have hxy := r5 x q1 q2 q4
      refine .inr ⟨x, y, q1, hxy, by omega, q4, r4, q3, ?_, ?_⟩
      · show v + 1 = _; rw [r3]
      · by_cases e : x = y
        · rw [e]; exact Int.le_refl _
        · exact Int.le_of_lt (pl_mono x y (by omega) a g 0 0 (by omega) (Int.le_refl _) q4 r4)
theorem hull_eq (a : Ax) (hl : a.length ≤ 1048576) (he : Axis.E a = 0) (p q : Int) (hp : 0 ≤ p) (hq : p ≤ q) (hq2 : q ≤ 2147483647) : C_axis_Hull F_axis_Hull a p q = some (ret_axis_Hull (Axis.hull a p q).1 (Axis.hull a p q).2) := by
  obtain ⟨g, hb, ha⟩ := Axis.E_good he
  have := Axis.hull_loop a hl g p q hp (by omega) (by omega) hq2 big a.length 0 big 0 0 0 0 (by omega) (big_ge (n := a.length + 1) (by omega)) (by omega) (by omega) (by omega) (by simpa using hb) (by simpa using ha)
  rw [show ((0 : Nat) : Int) = 0 from rfl, show max p 0 = p by omega, List.drop_zero] at this
  rw [e_axis_Hull, this]; rfl
theorem lens_eq (a : Ax) (hl : a.length ≤ 1048576) (he : Axis.E a = 0) : C_axis_Lengths F_axis_Lengths a = some (ret_axis_Lengths (Axis.sumB a) (Axis.sumA a) 0) := by
  rw [e_axis_Lengths, Axis.check_eq a hl, he]
  simp only [Option.bind_some, res_axis_Check_0_ret, bne_self_eq_false, bcf, Axis.lengths_eq a hl he, res_axis_lengths_0_ret, res_axis_lengths_1_ret]
abbrev Set_ := List YSpan.den
def addW : Set_ → YSpan.den → Set_
  | [], h => [h]
  | t :: l, h => match l with
    | [] => if Span.hi t = Span.lo h then [Span.mkS (Span.lo t) (Span.hi h)] else [t, h]
    | _ :: _ => t :: addW l h
theorem addW_last (D : Set_) (t h : YSpan.den) : addW (D ++ [t]) h = if Span.hi t = Span.lo h then D ++ [Span.mkS (Span.lo t) (Span.hi h)] else D ++ [t] ++ [h] := by
  induction D with
  | nil => simp [addW]
  | cons x D ih =>
    have : x :: D ++ [t] = x :: (D ++ [t]) := rfl
    rw [this, addW.eq_def]
    cases hd : D ++ [t] with
    | nil => simp at hd
    | cons y l =>
      simp only
      rw [← hd, ih]
      split <;> simp
theorem addW_len (W : Set_) (h : YSpan.den) : (addW W h).length ≤ W.length + 1 := by
  rcases List.eq_nil_or_concat W with e | ⟨D, t, e⟩
  · rw [e]; simp [addW]
  · rw [e, List.concat_eq_append, addW_last]; split <;> simp
def thr1 (a : Ax) (W : Set_) (s : YSpan.den) : Set_ := if (Axis.hull a (Span.lo s) (Span.hi s)).1 < (Axis.hull a (Span.lo s) (Span.hi s)).2 then addW W (Span.mkS (Axis.hull a (Span.lo s) (Span.hi s)).1 (Axis.hull a (Span.lo s) (Span.hi s)).2) else W
def thr (a : Ax) : Set_ → Set_ → Set_
  | W, [] => W
  | W, s :: l => thr a (thr1 a W s) l
def Iv (a : Ax) (W : Set_) (c : Int) : Prop := W = [] ∨ ∃ D t x, W = D ++ [t] ∧ 0 ≤ x ∧ x < c ∧ 0 ≤ K a x ∧ Span.hi t = K a x + 1
theorem iv_step {a : Ax} (g : Axis.Good a) {W : Set_} {c : Int} (h : Iv a W c) {s : YSpan.den} (h1 : c < Span.lo s) (h0 : 0 ≤ Span.lo s) (h2 : Span.lo s < Span.hi s) : Iv a (thr1 a W s) (Span.hi s) ∧
    ((Axis.hull a (Span.lo s) (Span.hi s)).1 = (Axis.hull a (Span.lo s) (Span.hi s)).2 ∨ (Axis.hull a (Span.lo s) (Span.hi s)).1 < (Axis.hull a (Span.lo s) (Span.hi s)).2 ∧ ∀ D t, W = D ++ [t] → Span.hi t ≤ (Axis.hull a (Span.lo s) (Span.hi s)).1) := by
  have mono : Iv a W (Span.hi s) := by
    rcases h with h | ⟨D, t, x, e, q1, q2, q3⟩
    · exact .inl h
    · exact .inr ⟨D, t, x, e, q1, by omega, q3⟩
  unfold thr1
  rcases hull_spec a g (Span.lo s) (Span.hi s) h0 (by omega) with e | ⟨x0, x1, p1, p2, p3, p4, p5, p6, p7, p8⟩
  · rw [e]
    exact ⟨by rw [if_neg (by decide)]; exact mono, .inl rfl⟩
  · generalize Axis.hull a (Span.lo s) (Span.hi s) = H at p6 p7
    have lt : H.1 < H.2 := by omega
    have hle : ∀ D t, W = D ++ [t] → Span.hi t ≤ H.1 := fun D t e => by
      rcases h with h | ⟨D', t', x, e', q1, q2, q3, q4⟩
      · rw [h] at e; simp at e
      · rw [e'] at e
        have := List.append_inj' e rfl
        have : t' = t := by simpa using this.2
        rw [← this, q4, p6]
        have := pl_mono x x0 (by omega) a g 0 0 q1 (Int.le_refl _) q3 p4
        show K a x + 1 ≤ K a x0
        exact this
    refine ⟨?_, .inr ⟨lt, hle⟩⟩
    rw [if_pos lt]
    rcases List.eq_nil_or_concat W with e | ⟨D, t, e⟩
    · rw [e]
      exact .inr ⟨[], Span.mkS H.1 H.2, x1, rfl, by omega, p3, p5, p7⟩
    · rw [e, List.concat_eq_append, addW_last]
      split
      · exact .inr ⟨D, _, x1, rfl, by omega, p3, p5, p7⟩
      · exact .inr ⟨D ++ [t], _, x1, rfl, by omega, p3, p5, p7⟩
theorem add_eq (W : Set_) (h : YSpan.den) (hl : W.length ≤ 4194304) (h1 : Span.lo h < Span.hi h) (hle : ∀ D t, W = D ++ [t] → Span.hi t ≤ Span.lo h) : C_span_add F_span_add W h = some (ret_span_add (addW W h)) := by
  rcases List.eq_nil_or_concat W with e | ⟨D, t, e⟩
  · rw [e, Span.add_nil]; rfl
  · rw [List.concat_eq_append] at e
    have := hle D t e
    rw [e, Span.add_last D t h (by rw [e] at hl; simp at hl; omega), addW_last]
    by_cases z : Span.hi t = Span.lo h
    · rw [if_pos (by omega), if_pos z, if_pos (by omega)]
    · rw [if_neg (by omega), if_neg z]
section
variable (a : Ax) (hl : a.length ≤ 1048576) (he : Axis.E a = 0) (l : Set_) (hll : l.length ≤ 1048576) (hv : ∀ s ∈ l, 0 ≤ Span.lo s ∧ Span.lo s < Span.hi s ∧ Span.hi s ≤ 2147483647)
include hl he hll hv
theorem through_loop : ∀ (d i m : Nat) (W : Set_) (c : Int), i + d = l.length → d < m → W.length ≤ i → Iv a W c → Span.VS c (l.drop i) →
    L_span_Through_0 big m a W l (l.length : Int) (i : Int) = some (ret_span_Through (thr a W (l.drop i)) 0) := by
  intro d
  induction d with
  | zero =>
    intro i m W c hi hm hw hI hvs
    obtain ⟨m, rfl⟩ : ∃ k, m = k + 1 := ⟨m - 1, by omega⟩
    have : i = l.length := by omega
    subst this
    rw [L_span_Through_0_step, List.drop_length]
    simp only [bcond_if, dlt_self, Bool.false_eq_true, if_false, thr]
  | succ d ih =>
    intro i m W c hi hm hw hI hvs
    obtain ⟨m, rfl⟩ : ∃ k, m = k + 1 := ⟨m - 1, by omega⟩
    have hil : i < l.length := by omega
    have w1 := wsucc hil (show l.length ≤ 4611686018427387904 by omega)
    have ex : at_ (e := YSpan) l (i : Int) = l[i] := at_get (e := YSpan) l i hil
    have e1 : (l[i] : YSpan.den).1 = Span.lo l[i] := rfl
    have e2 : (l[i] : YSpan.den).2 = Span.hi l[i] := rfl
    obtain ⟨v1, v2, v3⟩ := hv _ (List.getElem_mem hil)
    rw [List.drop_eq_getElem_cons hil] at hvs ⊢
    obtain ⟨s1, s2, s3⟩ := hvs
    obtain ⟨I1, I2⟩ := iv_step (Axis.E_good he).1 hI s1 v1 v2
    have hh := hull_eq a hl he (Span.lo l[i]) (Span.hi l[i]) v1 (by omega) v3
    have hw2 : (thr1 a W l[i]).length ≤ i + 1 := by
      unfold thr1
      split
      · have := addW_len W (Span.mkS (Axis.hull a (Span.lo l[i]) (Span.hi l[i])).1 (Axis.hull a (Span.lo l[i]) (Span.hi l[i])).2); omega
      · omega
    have := ih (i + 1) m (thr1 a W l[i]) (Span.hi l[i]) (by omega) (by omega) hw2 I1 s3
    show _ = some (ret_span_Through (thr a (thr1 a W l[i]) (l.drop (i + 1))) 0)
    rw [← this, L_span_Through_0_step]
    have r0 : res_axis_Hull_0 (ret_axis_Hull (Axis.hull a (Span.lo l[i]) (Span.hi l[i])).1 (Axis.hull a (Span.lo l[i]) (Span.hi l[i])).2) = (Axis.hull a (Span.lo l[i]) (Span.hi l[i])).1 := id rfl
    have r1 : res_axis_Hull_1 (ret_axis_Hull (Axis.hull a (Span.lo l[i]) (Span.hi l[i])).1 (Axis.hull a (Span.lo l[i]) (Span.hi l[i])).2) = (Axis.hull a (Span.lo l[i]) (Span.hi l[i])).2 := id rfl
    simp only [bcond_if, dlt hil, inb, hil, if_true, ex, e1, e2, hh, Option.bind_some, r0, r1, w1]
    unfold thr1
    rcases I2 with q | ⟨q, q2⟩
    · have c1 : decide ((Axis.hull a (Span.lo l[i]) (Span.hi l[i])).1 < (Axis.hull a (Span.lo l[i]) (Span.hi l[i])).2) = false := decide_eq_false (by omega)
      rw [c1, if_neg (show ¬ (Axis.hull a (Span.lo l[i]) (Span.hi l[i])).1 < (Axis.hull a (Span.lo l[i]) (Span.hi l[i])).2 by omega)]
      simp only [Bool.false_eq_true, if_false]
    · have c1 : decide ((Axis.hull a (Span.lo l[i]) (Span.hi l[i])).1 < (Axis.hull a (Span.lo l[i]) (Span.hi l[i])).2) = true := decide_eq_true q
      rw [if_pos q]
      have ad := add_eq W (Span.mkS (Axis.hull a (Span.lo l[i]) (Span.hi l[i])).1 (Axis.hull a (Span.lo l[i]) (Span.hi l[i])).2) (by omega) q q2
      have ad : C_span_add F_span_add W ((Axis.hull a (Span.lo l[i]) (Span.hi l[i])).1, (Axis.hull a (Span.lo l[i]) (Span.hi l[i])).2) = _ := ad
      simp only [c1, if_true, ad, Option.bind_some, res_span_add_0_ret]
end
end Go.Ev.AxisP
namespace Go.Ev.AxisP
open Go.Ev Go.Ev.Attr Go.Ev.Track Go.Ev.Delta
set_option linter.unusedVariables false
set_option linter.unusedSimpArgs false
theorem hi_last {l : Set_} {b : Int} (hv : Span.VS b l) : ∀ s ∈ l, Span.hi s ≤ Span.hi (Span.atS l (l.length - 1)) := by
  have key : ∀ k i, i + k = l.length - 1 → i < l.length → Span.hi (Span.atS l i) ≤ Span.hi (Span.atS l (l.length - 1)) := by
    intro k
    induction k with
    | zero => intro i hi _; rw [← hi]; exact Int.le_refl _
    | succ k ih =>
      intro i hi hlt
      have h1 := (Span.vs_idx hv i hlt).2 (by omega)
      have h2 := (Span.vs_idx hv (i + 1) (by omega)).1
      have h3 := ih (i + 1) (by omega) (by omega)
      omega
  intro s hs
  obtain ⟨i, hi, e⟩ := Span.mem_atS hs
  rw [← e]
  exact key (l.length - 1 - i) i (by omega) hi
theorem daxis_ok (d : Delta.Steps) (hd : Ds d) (he : err d = 0) : C_delta_Axis F_delta_Axis d = some (ret_delta_Axis (ax d) 0) := by
  rw [daxis_eq d hd, if_neg (show ¬ err d ≠ 0 by simp [he])]; rfl
theorem daxis_bad (d : Delta.Steps) (hd : Ds d) (he : err d ≠ 0) : C_delta_Axis F_delta_Axis d = some (ret_delta_Axis [] (err d)) := by
  rw [daxis_eq d hd, if_pos he]
section
variable (d : Delta.Steps) (hd : Ds d) (he : err d = 0)
include hd he
theorem range_eq (s : YSpan.den) (h0 : 0 ≤ Span.lo s) (h1 : Span.lo s < Span.hi s) (h2 : Span.hi s ≤ befs d) : C_span_Range F_span_Range d s = some (ret_span_Range ((Axis.hull (ax d) (Span.lo s) (Span.hi s)).1, (Axis.hull (ax d) (Span.lo s) (Span.hi s)).2) 0) := by
  obtain ⟨a1, a2, a3, a4⟩ := ax_ok d hd he
  have hl := hd.1
  have e1 : s.1 = Span.lo s := rfl
  have e2 : s.2 = Span.hi s := rfl
  have r := Axis.rest_eq (ax d) (by omega) (Span.lo s) (Span.hi s)
  rw [a1, if_neg (by simp), if_neg (by omega)] at r
  rw [e_span_Range, daxis_ok d hd he, e1, e2]
  simp only [Option.bind_some, res_delta_Axis_0_ret, res_delta_Axis_1_ret, bne_self_eq_false, bcf, r, res_axis_Rest_0_ret, res_axis_Rest_1_ret, res_axis_Rest_2_ret]
theorem restof (hs : befs d ≤ 300) (hN : Axis.sumN (ax d) ≤ 1048576) (p q : Int) (h0 : 0 ≤ p) (h1 : p < q) (h2 : q ≤ befs d) : C_R_RestOf F_R_RestOf (Axis.units (ax d)) p q = some (ret_R_RestOf (Axis.hull (ax d) p q).1 (Axis.hull (ax d) p q).2) := by
  obtain ⟨a1, a2, a3, a4⟩ := ax_ok d hd he
  have g := (Axis.E_good a1).1
  have hu := Axis.unitx_len g
  have eh : Axis.hull (ax d) p q = Axis.desc (fun x => Axis.find x 0 (Axis.rows 0 (Axis.units (ax d)))) (q - p).toNat p 0 0 := by
    unfold Axis.hull
    rw [← Axis.asc_desc]
    exact Axis.asc_congr _ _ _ _ _ _ (fun x h4 _ => (Axis.pl_find (ax d) g x 0 0 (by omega) (by omega)).symm)
  rw [Axis.restof_eq (Axis.units (ax d)) (by omega) p q h0 (by omega) (by omega), ← eh]
omit hd he in
theorem same1 (x : Set_) (hx : x.length ≤ 3000000) : ∀ (k i m : Nat), i + k = x.length → k < m → L_law_SpanThroughMatches_1 big m x x (x.length : Int) (i : Int) = some (ret_law_SpanThroughMatches true) := by
  intro k
  induction k with
  | zero =>
    intro i m hi hm
    obtain ⟨m, rfl⟩ : ∃ k, m = k + 1 := ⟨m - 1, by omega⟩
    have : i = x.length := by omega
    subst this
    rw [L_law_SpanThroughMatches_1_step]
    simp only [bcond_if, dlt_self, Bool.false_eq_true, if_false]
  | succ k ih =>
    intro i m hi hm
    obtain ⟨m, rfl⟩ : ∃ k, m = k + 1 := ⟨m - 1, by omega⟩
    have hil : i < x.length := by omega
    have w1 := wsucc hil (show x.length ≤ 4611686018427387904 by omega)
    rw [L_law_SpanThroughMatches_1_step]
    simp only [bcond_if, dlt hil, inb, hil, if_true, w1, beq_self_eq_true, Bool.and_self, Bool.and_true, Bool.not_true, Bool.false_eq_true, if_false]
    exact ih (i + 1) m (by omega) (by omega)
omit hd he in
theorem thr_len (a : Ax) : ∀ (l W : Set_), (thr a W l).length ≤ W.length + l.length
  | [], W => Nat.le_refl _
  | s :: l, W => by
    have h1 := thr_len a l (thr1 a W s)
    have h2 : (thr1 a W s).length ≤ W.length + 1 := by
      unfold thr1
      split
      · exact addW_len _ _
      · omega
    show (thr a (thr1 a W s) l).length ≤ W.length + (l.length + 1)
    omega
theorem law_loop0 (hs : befs d ≤ 300) (hN : Axis.sumN (ax d) ≤ 1048576) (l : Set_) (hll : l.length ≤ 1048576) (hv : ∀ s ∈ l, 0 ≤ Span.lo s ∧ Span.lo s < Span.hi s ∧ Span.hi s ≤ befs d) : ∀ (k i m : Nat) (W : Set_) (c : Int), i + k = l.length → k < m → W.length ≤ i → Iv (ax d) W c → Span.VS c (l.drop i) → thr (ax d) W (l.drop i) = thr (ax d) [] l →
    L_law_SpanThroughMatches_0 big m d l (thr (ax d) [] l) 0 (Axis.units (ax d)) W (l.length : Int) (i : Int) = some (ret_law_SpanThroughMatches true) := by
  obtain ⟨a1, a2, a3, a4⟩ := ax_ok d hd he
  intro k
  induction k with
  | zero =>
    intro i m W c hi hm hw hI hvs ht
    obtain ⟨m, rfl⟩ : ∃ k, m = k + 1 := ⟨m - 1, by omega⟩
    have : i = l.length := by omega
    subst this
    rw [List.drop_length] at ht
    have ht : W = thr (ax d) [] l := ht
    have hwl := thr_len (ax d) l []
    rw [L_law_SpanThroughMatches_0_step, ← ht]
    simp only [bcond_if, dlt_self, bne_self_eq_false, beq_self_eq_true, Bool.false_eq_true, if_false, if_true]
    exact same1 W (by omega) W.length 0 big (by omega) (big_ge (n := W.length + 1) (by omega))
  | succ k ih =>
    intro i m W c hi hm hw hI hvs ht
    obtain ⟨m, rfl⟩ : ∃ k, m = k + 1 := ⟨m - 1, by omega⟩
    have hil : i < l.length := by omega
    have w1 := wsucc hil (show l.length ≤ 4611686018427387904 by omega)
    have ex : at_ (e := YSpan) l (i : Int) = l[i] := at_get (e := YSpan) l i hil
    have e1 : (l[i] : YSpan.den).1 = Span.lo l[i] := rfl
    have e2 : (l[i] : YSpan.den).2 = Span.hi l[i] := rfl
    obtain ⟨v1, v2, v3⟩ := hv _ (List.getElem_mem hil)
    rw [List.drop_eq_getElem_cons hil] at hvs ht
    obtain ⟨s1, s2, s3⟩ := hvs
    obtain ⟨I1, I2⟩ := iv_step (Axis.E_good a1).1 hI s1 v1 v2
    have hw2 : (thr1 (ax d) W l[i]).length ≤ i + 1 := by
      unfold thr1
      split
      · have := addW_len W (Span.mkS (Axis.hull (ax d) (Span.lo l[i]) (Span.hi l[i])).1 (Axis.hull (ax d) (Span.lo l[i]) (Span.hi l[i])).2); omega
      · omega
    have := ih (i + 1) m (thr1 (ax d) W l[i]) (Span.hi l[i]) (by omega) (by omega) hw2 I1 s3 ht
    have rg := range_eq d hd he l[i] v1 v2 v3
    have ro := restof d hd he hs hN (Span.lo l[i]) (Span.hi l[i]) v1 v2 v3
    rw [← this, L_law_SpanThroughMatches_0_step]
    simp only [bcond_if, dlt hil, inb, hil, if_true, ex, e1, e2, rg, ro, Option.bind_some, res_R_RestOf_0_ret, res_R_RestOf_1_ret, res_span_Range_0_ret, res_span_Range_1_ret, bne_self_eq_false, beq_self_eq_true, Bool.and_self, Bool.not_true, Bool.false_eq_true, if_false, w1]
    unfold thr1
    generalize Axis.hull (ax d) (Span.lo l[i]) (Span.hi l[i]) = H at I2
    rcases I2 with q | ⟨q, q2⟩
    · have c1 : (H.1 == H.2) = true := by rw [q]; exact beq_self_eq_true _
      rw [if_neg (show ¬ H.1 < H.2 by omega)]
      simp only [c1, if_true]
    · have c1 : (H.1 == H.2) = false := beq_eq_false_iff_ne.2 (by omega)
      rw [if_pos q]
      simp only [c1, Bool.false_eq_true, if_false]
      have q5 : ((H.1, H.2) : YSpan.den) = Span.mkS H.1 H.2 := rfl
      have b1 : ∀ x : YSpan.den, (W.length + [x].length) * 16 ≤ 140737488355328 := fun x => c16 _ _ (by simp; omega)
      rcases List.eq_nil_or_concat W with e | ⟨D, t, e⟩
      · subst e
        have w' : IntKind.i64.wrap (((List.length ([] : Set_) : Nat) : Int) - 1) = -1 := rfl
        have cn : decide ((-1 : Int) ≥ 0) = false := id rfl
        simp only [w', cn, show (false == true) = false from rfl, Bool.false_eq_true, if_false]
        rw [if_pos (b1 _)]
        rfl
      · rw [List.concat_eq_append] at e
        subst e
        have hlen : (D ++ [t]).length = D.length + 1 := by simp
        have hdl : D.length + 1 ≤ i := by simpa using hw
        have wl : IntKind.i64.wrap (((D ++ [t]).length : Int) - 1) = ((D.length : Nat) : Int) := wnat (by rw [hlen]; omega) (by omega)
        have at1 := at_lastS D t
        have c3 : decide (((D.length : Nat) : Int) ≥ 0) = true := decide_eq_true (by omega)
        have c2 : D.length < (D ++ [t]).length := by omega
        have e3 : t.2 = Span.hi t := rfl
        have e4 : t.1 = Span.lo t := rfl
        rw [addW_last]
        simp only [wl, at1, c3, beq_self_eq_true, if_true, inb, c2, e3, e4]
        by_cases z : Span.hi t = H.1
        · have zb : (Span.hi t == H.1) = true := by rw [z]; exact beq_self_eq_true _
          rw [if_pos (show Span.hi t = Span.lo (Span.mkS H.1 H.2) from z)]
          simp only [zb, if_true, Int.toNat_natCast]
          have : List.set (D ++ [t]) D.length ((Span.lo t, H.2) : YSpan.den) = D ++ [(Span.lo t, H.2)] := by simp
          rw [this]; rfl
        · have zb : (Span.hi t == H.1) = false := beq_eq_false_iff_ne.2 z
          rw [if_neg (show ¬ Span.hi t = Span.lo (Span.mkS H.1 H.2) from z)]
          simp only [zb, Bool.false_eq_true, if_false]
          rw [if_pos (b1 _)]
          rfl
end
theorem ds0 (v : Int) : res_R_DeltaSize_0 (ret_R_DeltaSize v) = v := id rfl
/-- What Through returns. -/
theorem through_eq (d : Delta.Steps) (hd : Ds d) (l : Set_) (hll : l.length ≤ 1048576) : C_span_Through F_span_Through d l = some (if err d ≠ 0 then ret_span_Through [] (err d) else if Span.E l ≠ 0 then ret_span_Through [] (Span.E l) else if 0 < l.length ∧ befs d < Span.hi (Span.atS l (l.length - 1)) then ret_span_Through [] 2 else ret_span_Through (thr (ax d) [] l) 0) := by
  rw [e_span_Through]
  by_cases he : err d = 0
  · rw [daxis_ok d hd he, if_neg (show ¬ err d ≠ 0 by simp [he])]
    obtain ⟨a1, a2, a3, a4⟩ := ax_ok d hd he
    have hl := hd.1
    rw [(Span.check_eq l (by omega)).1]
    by_cases hz : Span.E l = 0
    · rw [if_neg (show ¬ Span.E l ≠ 0 by simp [hz]), hz]
      obtain ⟨vs, hb⟩ := (Span.E_val l).1 hz
      have lo' := Span.vs_lo vs
      have hle := lens_eq (ax d) (by omega) a1
      rw [a2] at hle
      have loop := through_loop (ax d) (by omega) a1 l hll (fun s hs => ⟨(hb s hs).2, (lo' s hs).2, (hb s hs).1⟩) l.length 0 big [] (-1) (by omega) (big_ge (n := l.length + 1) (by omega)) (Nat.le_refl _) (.inl rfl) vs
      rw [List.drop_zero] at loop
      have loop : L_span_Through_0 big big (ax d) [] l (l.length : Int) 0 = _ := loop
      simp only [res_delta_Axis_1_ret, bne_self_eq_false, bcf, Option.bind_some, res_span_Check_0_ret, res_delta_Axis_0_ret, hle, loop]
      have r0 : res_axis_Lengths_0 (ret_axis_Lengths (befs d) (Axis.sumA (ax d)) 0) = befs d := id rfl
      simp only [r0]
      by_cases hp : 0 < l.length
      · have c1 : decide ((l.length : Int) > 0) = true := decide_eq_true (by omega)
        have w : IntKind.i64.wrap ((l.length : Int) - 1) = ((l.length - 1 : Nat) : Int) := wnat (by omega) (by omega)
        have ea : (at_ (e := YSpan) l ((l.length - 1 : Nat) : Int)).2 = Span.hi (Span.atS l (l.length - 1)) := rfl
        simp only [c1, beq_self_eq_true, bct, w, inb, show l.length - 1 < l.length by omega, if_true, ea]
        by_cases hq : befs d < Span.hi (Span.atS l (l.length - 1))
        · rw [if_pos ⟨hp, hq⟩]
          have c2 : decide (Span.hi (Span.atS l (l.length - 1)) > befs d) = true := decide_eq_true hq
          rw [c2]; rfl
        · rw [if_neg (fun z => hq z.2)]
          have c2 : decide (Span.hi (Span.atS l (l.length - 1)) > befs d) = false := decide_eq_false hq
          rw [c2]; rfl
      · have c1 : decide ((l.length : Int) > 0) = false := decide_eq_false (by omega)
        rw [if_neg (show ¬ (0 < l.length ∧ befs d < Span.hi (Span.atS l (l.length - 1))) from fun z => hp z.1), c1]
        rfl
    · have b : (Span.E l != 0) = true := by simpa using hz
      rw [if_pos (show Span.E l ≠ 0 from hz)]
      simp only [Option.bind_some, res_delta_Axis_1_ret, bne_self_eq_false, bcf, res_span_Check_0_ret, b, bct]
  · rw [daxis_bad d hd he, if_pos (show err d ≠ 0 from he)]
    have b : (err d != 0) = true := by simpa using he
    simp only [Option.bind_some, res_delta_Axis_1_ret, b, bct]
/-- What Move returns. -/
theorem move_eq (d : Delta.Steps) (hd : Ds d) (q : Int) (r : Bool) : C_span_Move F_span_Move d q r = some (if err d ≠ 0 then ret_span_Move 0 (err d) else if q < 0 ∨ befs d < q then ret_span_Move 0 2 else ret_span_Move (Axis.gp q r 0 0 (ax d)) 0) := by
  rw [e_span_Move]
  by_cases he : err d = 0
  · rw [daxis_ok d hd he, if_neg (show ¬ err d ≠ 0 by simp [he])]
    obtain ⟨a1, a2, a3, a4⟩ := ax_ok d hd he
    have hl := hd.1
    have g := Axis.gap_eq (ax d) (by omega) q r
    rw [a1, if_neg (by simp), a2] at g
    simp only [Option.bind_some, res_delta_Axis_0_ret, res_delta_Axis_1_ret, bne_self_eq_false, bcf, g]
    by_cases h1 : q < 0 ∨ befs d < q
    · simp only [if_pos h1, res_axis_Gap_0_ret, res_axis_Gap_1_ret]
    · simp only [if_neg h1, res_axis_Gap_0_ret, res_axis_Gap_1_ret]
  · rw [daxis_bad d hd he, if_pos (show err d ≠ 0 from he)]
    have b : (err d != 0) = true := by simpa using he
    simp only [Option.bind_some, res_delta_Axis_1_ret, b, bct]
section
variable (d : Delta.Steps) (hd : Ds d) (l : Set_) (hll : l.length ≤ 1048576) (heb : eb d ≤ 349525) (at_0 : Int) (right : Bool)
include hd hll heb
theorem law_through : C_law_SpanThroughMatches F_law_SpanThroughMatches d l at_0 right = some (ret_law_SpanThroughMatches true) := by
  rw [e_law_SpanThroughMatches, Span.spans_facts, delta_facts, move_eq d hd, through_eq d hd l hll, (Delta.check_eq d hd).2]
  simp only [Option.bind_some, res_law_spans_0_ret, res_law_deltas_0_ret, Bool.not_true, beq_self_eq_true, bct, bcf, res_R_DeltaError_0_ret]
  by_cases he : err d = 0
  · obtain ⟨a1, a2, a3, a4⟩ := ax_ok d hd he
    obtain ⟨hv, hb, ha⟩ := dErr_zero d none 0 0 he
    have hl := hd.1
    have g := Axis.E_good a1
    have sp := Axis.sum_pos g.1
    rw [if_neg (show ¬ err d ≠ 0 by simp [he]), if_neg (show ¬ err d ≠ 0 by simp [he]), he]
    simp only [bne_self_eq_false, bcf, short_eq d hd he, Option.bind_some, res_law_short_0_ret]
    by_cases hs : befs d ≤ 300
    · have nb' := nb_befs hv
      have ca := cA_afts hv
      obtain ⟨x1, x2⟩ := cB_ex d
      have hN : Axis.sumN (ax d) ≤ 1048576 := by omega
      obtain ⟨r1, r2, r3, r4, r5, r6⟩ := raxis_eq d hd he hs (by omega)
      have hu := Axis.unitx_eq (ax d) (by omega) a1 hN
      have hul := Axis.unitx_len g.1
      have r3 : C_law_steps F_law_steps ((actL d A0).1, (actL d A0).2.1, List.replicate (actL d A0).2.1.length []) = some (ret_law_steps (ax d)) := r3
      have J : J_law_SpanThroughMatches_0 big d l (res_span_Through_0 (if Span.E l ≠ 0 then ret_span_Through [] (Span.E l) else if 0 < l.length ∧ befs d < Span.hi (Span.atS l (l.length - 1)) then ret_span_Through [] 2 else ret_span_Through (thr (ax d) [] l) 0))
          (res_span_Through_1 (if Span.E l ≠ 0 then ret_span_Through [] (Span.E l) else if 0 < l.length ∧ befs d < Span.hi (Span.atS l (l.length - 1)) then ret_span_Through [] 2 else ret_span_Through (thr (ax d) [] l) 0)) (Axis.units (ax d)) (befs d) = some (ret_law_SpanThroughMatches true) := by
        unfold J_law_SpanThroughMatches_0
        rw [(Span.check_eq l (by omega)).2]
        by_cases hz : Span.E l = 0
        · obtain ⟨vs, hbd⟩ := (Span.E_val l).1 hz
          have lo' := Span.vs_lo vs
          rw [if_neg (show ¬ Span.E l ≠ 0 by simp [hz]), hz]
          have fin : (¬ (0 < l.length ∧ befs d < Span.hi (Span.atS l (l.length - 1)))) → L_law_SpanThroughMatches_0 big big d l (thr (ax d) [] l) 0 (Axis.units (ax d)) [] (l.length : Int) 0 = some (ret_law_SpanThroughMatches true) := fun hq => by
            have hv' : ∀ s ∈ l, 0 ≤ Span.lo s ∧ Span.lo s < Span.hi s ∧ Span.hi s ≤ befs d := fun s hs => by
              have h1 := hi_last vs s hs
              have h2 : 0 < l.length := List.length_pos_of_mem hs
              have h3 : ¬ befs d < Span.hi (Span.atS l (l.length - 1)) := fun z => hq ⟨h2, z⟩
              exact ⟨(hbd s hs).2, (lo' s hs).2, by omega⟩
            have := law_loop0 d hd he hs hN l hll hv' l.length 0 big [] (-1) (by omega) (big_ge (n := l.length + 1) (by omega)) (Nat.le_refl _) (.inl rfl) vs rfl
            exact this
          simp only [Option.bind_some, res_law_setError_0_ret, bne_self_eq_false, beq_self_eq_true, bct, bcf]
          by_cases hp : 0 < l.length
          · have c1 : decide ((l.length : Int) > 0) = true := decide_eq_true (by omega)
            have w : IntKind.i64.wrap ((l.length : Int) - 1) = ((l.length - 1 : Nat) : Int) := wnat (by omega) (by omega)
            have ea : (at_ (e := YSpan) l ((l.length - 1 : Nat) : Int)).2 = Span.hi (Span.atS l (l.length - 1)) := rfl
            simp only [c1, beq_self_eq_true, bct, w, inb, show l.length - 1 < l.length by omega, if_true, ea]
            by_cases hq : befs d < Span.hi (Span.atS l (l.length - 1))
            · rw [if_pos ⟨hp, hq⟩]
              have c2 : decide (Span.hi (Span.atS l (l.length - 1)) > befs d) = true := decide_eq_true hq
              rw [c2]; rfl
            · have := fin (fun z => hq z.2)
              rw [if_neg (show ¬ (0 < l.length ∧ befs d < Span.hi (Span.atS l (l.length - 1))) from fun z => hq z.2)]
              have c2 : decide (Span.hi (Span.atS l (l.length - 1)) > befs d) = false := decide_eq_false hq
              rw [c2]; exact this
          · have := fin (fun z => hp z.1)
            have c1 : decide ((l.length : Int) > 0) = false := decide_eq_false (by omega)
            rw [if_neg (show ¬ (0 < l.length ∧ befs d < Span.hi (Span.atS l (l.length - 1))) from fun z => hp z.1), c1]
            exact this
        · have b : (Span.E l != 0) = true := by simpa using hz
          have b2 : (Span.E l == 0) = false := by simpa using hz
          rw [if_pos (show Span.E l ≠ 0 from hz)]
          simp only [Option.bind_some, res_law_setError_0_ret, b, b2, show (false == true) = false from rfl, beq_self_eq_true, bct, bcf, res_span_Through_0_ret, res_span_Through_1_ret]
          rfl
      simp only [decide_eq_true hs, Bool.not_true, bcf, r1, r2, r3, Option.bind_some, res_R_ActOf_0_ret, res_law_plain_0_ret, res_law_steps_0_ret, hu, res_R_Units_0_ret, rsize_eq d hd he, ds0, Axis.in_eq, res_R_In_0_ret]
      by_cases h1 : at_0 < 0 ∨ befs d < at_0
      · have c1 : (decide (0 ≤ at_0) && decide (at_0 ≤ befs d)) = false := by
          rcases h1 with h1 | h1
          · rw [decide_eq_false (by omega)]; rfl
          · rw [decide_eq_false (p := at_0 ≤ befs d) (by omega)]; simp
        rw [if_pos h1, c1]
        exact J
      · have c1 : (decide (0 ≤ at_0) && decide (at_0 ≤ befs d)) = true := by rw [decide_eq_true (by omega), decide_eq_true (by omega)]; rfl
        have eg := Axis.gp_gq at_0 right (ax d) g.1 0 0 (Int.le_refl _)
        rw [if_neg h1, c1, Axis.gapat_eq (Axis.units (ax d)) (by omega), ← eg, Int.zero_add]
        simp only [Bool.not_true, bcf, res_span_Move_0_ret, res_span_Move_1_ret, bne_self_eq_false, beq_self_eq_true, bct, Option.bind_some, res_R_GapAt_0_ret]
        exact J
    · simp only [decide_eq_false hs, Bool.not_false, bct]
  · have b : (err d != 0) = true := by simpa using he
    rw [if_pos (show err d ≠ 0 from he), if_pos (show err d ≠ 0 from he)]
    simp only [b, bct, res_span_Move_0_ret, res_span_Move_1_ret, res_span_Through_0_ret, res_span_Through_1_ret, beq_self_eq_true]
    rfl
end
theorem holdsThrough (d : Delta.Steps) (l : Set_) (at_0 : Int) (right : Bool) (o0 : (Ty.list YStep).ok d) (o1 : (Ty.list YSpan).ok l) (o2 : (Ty.int .i64).ok at_0) (o3 : Ty.bool.ok right) (hb : (Ty.list YStep).bulk d + (Ty.list YSpan).bulk l + (Ty.int .i64).bulk at_0 + Ty.bool.bulk right ≤ 1048576) : C_law_SpanThroughMatches F_law_SpanThroughMatches d l at_0 right = some (ret_law_SpanThroughMatches true) := by
  have h1 := step3 d
  have h3 := span_bulk l
  exact law_through d (ds_bulk (by omega)) l (by omega) (by omega) at_0 right
end Go.Ev.AxisP
