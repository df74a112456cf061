
import Derived.Test.YtlgjdgebmiegeaaPDifH
import Derived.Test.YtlgjdgebmiegeaaGMerge
namespace Go.Ev.Diff
open Go.Ev Go.Ev.Attr Go.Ev.Track Go.Ev.Delta
set_option linter.unusedVariables false
set_option linter.unusedSimpArgs false
/-- What is read so far, and what is not there yet. -/
def pad (o : Act) (n : Nat) : Act := (o.1 ++ List.replicate n [], o.2.1 ++ List.replicate n false, o.2.2 ++ List.replicate n [])
theorem pad_zero (o : Act) : pad o 0 = o := by unfold pad; simp
theorem set_mid {α : Type} (x y : α) (l r : List α) : (l ++ x :: r).set l.length y = l ++ y :: r := by
  simp
/-- Steps that are read: what is added comes once at a place. -/
def rdOk : Steps → Act → Prop
  | [], _ => True
  | s :: l, o => (sk s = 1 → o.1.getD (o.1.length - 1) [] = []) ∧ rdOk l (stA s o)
section
variable (l : Steps) (hl : l.length ≤ 1048576)
theorem read_1 (m1 i : Nat) (a0 : List Flow) (a2 : List Attrs) (p : Nat) (s : YStep.den) (hp : p ≤ 100000) (N : Nat) (hN : sn s = N) (hN2 : N ≤ 100000) : ∀ (d j m : Nat) (c : List Bool) (r : List Bool), j + d = N → d < m → c.length = p + j → d ≤ r.length →
    L_merge_read_1 big m1 m a0 (c ++ r) a2 (p : Int) s.1 s.2.1 s.2.2.1 s.2.2.2 l (l.length : Int) (i : Int) (N : Int) (j : Int) =
      L_merge_read_0 big m1 a0 (c ++ List.replicate d true ++ r.drop d) a2 ((p + N : Nat) : Int) l (l.length : Int) (IntKind.i64.wrap ((i : Int) + 1)) := by
  intro d
  induction d with
  | zero =>
    intro j m c r hj hm hc hr
    cases m with
    | zero => omega
    | succ m =>
    obtain rfl : j = N := by omega
    have w1 : IntKind.i64.wrap ((p : Int) + s.2.1) = ((p + j : Nat) : Int) := by
      show IntKind.i64.wrap ((p : Int) + sn s) = _
      rw [hN]; exact wnat (by omega) (by omega)
    rw [L_merge_read_1_step]
    simp only [dlt_self, bcf, w1, List.replicate_zero, List.append_nil, List.drop_zero]
  | succ d ih =>
    intro j m c r hj hm hc hr
    cases m with
    | zero => omega
    | succ m =>
    obtain ⟨x, r', rfl⟩ : ∃ x r', r = x :: r' := by
      cases r with
      | nil => simp at hr
      | cons x r' => exact ⟨x, r', rfl⟩
    have hjN : j < N := by omega
    have w1 : IntKind.i64.wrap ((p : Int) + (j : Int)) = (c.length : Int) := wnat (by omega) (by omega)
    have w2 : IntKind.i64.wrap ((j : Int) + 1) = ((j + 1 : Nat) : Int) := wnat (by omega) (by omega)
    have q : 0 ≤ (c.length : Int) ∧ (c.length : Int) < ((c ++ x :: r').length : Int) := by
      rw [List.length_append, List.length_cons]; omega
    rw [L_merge_read_1_step]
    simp only [dlt hjN, bct, w1, w2, if_pos q, Int.toNat_natCast, set_mid]
    have := ih (j + 1) m (c ++ [true]) r' (by omega) (by omega) (by simp; omega) (by simp at hr; omega)
    rw [List.append_assoc, List.singleton_append] at this
    rw [this, List.replicate_succ, List.drop_succ_cons]
    simp
theorem read_2 (m1 i : Nat) (a0 : List Flow) (a1 : List Bool) (p : Nat) (s : YStep.den) (hp : p ≤ 100000) (N : Nat) (hN : sn s = N) (hN2 : N ≤ 100000) : ∀ (d j m : Nat) (c : List Attrs) (r : List Attrs), j + d = N → d < m → c.length = p + j → d ≤ r.length →
    L_merge_read_2 big m1 m a0 a1 (c ++ r) (p : Int) s.1 s.2.1 s.2.2.1 s.2.2.2 l (l.length : Int) (i : Int) (N : Int) (j : Int) =
      L_merge_read_0 big m1 a0 a1 (c ++ List.replicate d (sa s) ++ r.drop d) ((p + N : Nat) : Int) l (l.length : Int) (IntKind.i64.wrap ((i : Int) + 1)) := by
  intro d
  induction d with
  | zero =>
    intro j m c r hj hm hc hr
    cases m with
    | zero => omega
    | succ m =>
    obtain rfl : j = N := by omega
    have w1 : IntKind.i64.wrap ((p : Int) + s.2.1) = ((p + j : Nat) : Int) := by
      show IntKind.i64.wrap ((p : Int) + sn s) = _
      rw [hN]; exact wnat (by omega) (by omega)
    rw [L_merge_read_2_step]
    simp only [dlt_self, bcf, w1, List.replicate_zero, List.append_nil, List.drop_zero]
  | succ d ih =>
    intro j m c r hj hm hc hr
    cases m with
    | zero => omega
    | succ m =>
    obtain ⟨x, r', rfl⟩ : ∃ x r', r = x :: r' := by
      cases r with
      | nil => simp at hr
      | cons x r' => exact ⟨x, r', rfl⟩
    have hjN : j < N := by omega
    have w1 : IntKind.i64.wrap ((p : Int) + (j : Int)) = (c.length : Int) := wnat (by omega) (by omega)
    have w2 : IntKind.i64.wrap ((j : Int) + 1) = ((j + 1 : Nat) : Int) := wnat (by omega) (by omega)
    have q : 0 ≤ (c.length : Int) ∧ (c.length : Int) < ((c ++ x :: r').length : Int) := by
      rw [List.length_append, List.length_cons]; omega
    have e : s.2.2.1 = sa s := rfl
    rw [L_merge_read_2_step]
    simp only [dlt hjN, bct, w1, w2, if_pos q, Int.toNat_natCast, set_mid]
    have := ih (j + 1) m (c ++ [sa s]) r' (by omega) (by omega) (by simp; omega) (by simp at hr; omega)
    rw [List.append_assoc, List.singleton_append] at this
    rw [e, e] at *
    rw [this, List.replicate_succ, List.drop_succ_cons]
    simp
include hl
theorem read_loop (hv : ∀ s ∈ l, sErr s = 0) : ∀ (d i m : Nat) (o : Act) (n : Nat), i + d = l.length → d < m → AOk o → o.2.1.length + n ≤ 100000 → nb (l.drop i) = n → rdOk (l.drop i) o →
    L_merge_read_0 big m (pad o n).1 (pad o n).2.1 (pad o n).2.2 (o.2.1.length : Int) l (l.length : Int) (i : Int) = some (ret_merge_read (actL (l.drop i) o)) := by
  intro d
  induction d with
  | zero =>
    intro i m o n hi hm ok hn hnb hr
    cases m with
    | zero => omega
    | succ m =>
    obtain rfl : i = l.length := by omega
    rw [List.drop_length] at hnb
    have : n = 0 := hnb.symm
    subst this
    rw [L_merge_read_0_step, List.drop_length, pad_zero]
    simp only [dlt_self, bcf]
    rfl
  | succ d ih =>
    intro i m o n hi hm ok hn hnb hr
    cases m with
    | zero => omega
    | succ m =>
    have hil : i < l.length := by omega
    have hs := hv (atT l i) (atT_mem l hil)
    have dr : l.drop i = atT l i :: l.drop (i + 1) := drop_at' l hil
    rw [dr] at hnb hr ⊢
    have qi : 0 ≤ (i : Int) ∧ (i : Int) < (l.length : Int) := by omega
    have w1 := wsucc hil (show l.length ≤ 4611686018427387904 by omega)
    have e0 : at_ (e := YStep) l (i : Int) = atT l i := rfl
    have ek : (atT l i).1 = sk (atT l i) := rfl
    have ee : (atT l i).2.2.2 = se (atT l i) := rfl
    have en : (atT l i).2.1 = sn (atT l i) := rfl
    have hnb : (if sk (atT l i) = 1 then 0 else (sn (atT l i)).toNat) + nb (l.drop (i + 1)) = n := hnb
    have hr1 := hr.1
    have hr2 := hr.2
    have h1 := ok.h1
    have h2 := ok.h2
    show _ = some (ret_merge_read (actL (l.drop (i + 1)) (stA (atT l i) o)))
    rw [L_merge_read_0_step]
    simp only [dlt hil, bct, if_pos qi, e0]
    rcases sErr_zero hs with ⟨k1, k2, k3, k4, k5⟩ | ⟨k1, k2, k3, k4, k5⟩
    · rw [if_pos k1, Nat.zero_add] at hnb
      have q0 : 0 ≤ (o.2.1.length : Int) ∧ (o.2.1.length : Int) < ((pad o n).1.length : Int) := by
        show _ ∧ _ < (((o.1 ++ List.replicate n []).length : Nat) : Int)
        rw [List.length_append]; omega
      have es : stA (atT l i) o = aE (se (atT l i)) o := by unfold stA; rw [if_pos k1]; rfl
      have z := hr1 k1
      rw [es] at hr2 ⊢
      have := ih (i + 1) m (aE (se (atT l i)) o) n (by omega) (by omega) (aE_ok _ ok) hn hnb hr2
      have ep : (pad o n).1.set o.2.1.length (se (atT l i)) = (pad (aE (se (atT l i)) o) n).1 := by
        obtain ⟨A, y, hA, hAl⟩ := snoc_of o.1 _ h1
        show (o.1 ++ List.replicate n []).set o.2.1.length _ = (o.1.set (o.1.length - 1) (o.1.getD (o.1.length - 1) [] ++ _)) ++ List.replicate n []
        rw [z, hA, ← hAl]
        simp
      rw [ek, k1, beq_self_eq_true, bct, if_pos q0, ee, Int.toNat_natCast, w1, ep]
      exact this
    · have k0 : ¬ sk (atT l i) = 1 := by rcases k1 with q | q <;> omega
      rw [if_neg k0] at hnb
      obtain ⟨N, hN⟩ : ∃ N : Nat, sn (atT l i) = N := ⟨(sn (atT l i)).toNat, by omega⟩
      rw [hN, Int.toNat_natCast] at hnb
      have es : stA (atT l i) o = (o.1 ++ List.replicate N [], o.2.1 ++ List.replicate N (sk (atT l i) == 2), o.2.2 ++ List.replicate N (sa (atT l i))) := by
        unfold stA; rw [if_neg k0, hN, Int.toNat_natCast]
      have ok' : AOk (stA (atT l i) o) := stA_ok _ ok
      rw [es] at hr2 ok' ⊢
      have key := ih (i + 1) m _ (n - N) (by omega) (by omega) ok' (by show (o.2.1 ++ List.replicate N _).length + _ ≤ _; simp; omega) (by omega) hr2
      have ln : (o.2.1 ++ List.replicate N (sk (atT l i) == 2)).length = o.2.1.length + N := by simp
      have p0 : (pad o n).1 = (pad (o.1 ++ List.replicate N [], o.2.1 ++ List.replicate N (sk (atT l i) == 2), o.2.2 ++ List.replicate N (sa (atT l i))) (n - N)).1 := by
        show o.1 ++ List.replicate n [] = o.1 ++ List.replicate N [] ++ List.replicate (n - N) []
        rw [List.append_assoc, List.replicate_append_replicate, show N + (n - N) = n by omega]
      rw [ln] at key
      by_cases c2 : sk (atT l i) = 2
      · have a0 : sa (atT l i) = [] := by
          rcases k1 with q | q
          · omega
          · exact q.2
        have hb : (sk (atT l i) == 2) = true := by rw [c2]; rfl
        rw [hb] at key p0
        rw [ek, beq_eq_false_iff_ne.2 k0, bcf, hb, bct, en, hN]
        have := read_1 l m i (pad o n).1 (pad o n).2.2 o.2.1.length (atT l i) (by omega) N hN (by omega) N 0 big o.2.1 (List.replicate n false) (by omega) (big_ge (n := N + 1) (by omega)) (by omega) (by simp; omega)
        rw [ek, en, hN, w1] at this
        refine Eq.trans this ?_
        rw [p0]
        have p1 : o.2.1 ++ List.replicate N true ++ (List.replicate n false).drop N = (pad (o.1 ++ List.replicate N [], o.2.1 ++ List.replicate N true, o.2.2 ++ List.replicate N (sa (atT l i))) (n - N)).2.1 := by
          rw [List.drop_replicate]; rfl
        have p2 : (pad o n).2.2 = (pad (o.1 ++ List.replicate N [], o.2.1 ++ List.replicate N true, o.2.2 ++ List.replicate N (sa (atT l i))) (n - N)).2.2 := by
          show o.2.2 ++ List.replicate n [] = o.2.2 ++ List.replicate N (sa (atT l i)) ++ List.replicate (n - N) []
          rw [a0, List.append_assoc, List.replicate_append_replicate, show N + (n - N) = n by omega]
        rw [p1, p2]
        exact key
      · have c0 : sk (atT l i) = 0 := by rcases k1 with q | q <;> omega
        have hb : (sk (atT l i) == 2) = false := beq_eq_false_iff_ne.2 c2
        rw [hb] at key p0
        rw [ek, beq_eq_false_iff_ne.2 k0, bcf, hb, bcf, en, hN]
        have := read_2 l m i (pad o n).1 (pad o n).2.1 o.2.1.length (atT l i) (by omega) N hN (by omega) N 0 big o.2.2 (List.replicate n []) (by omega) (big_ge (n := N + 1) (by omega)) (by omega) (by simp; omega)
        rw [ek, en, hN, w1] at this
        refine Eq.trans this ?_
        rw [p0]
        have p1 : (pad o n).2.1 = (pad (o.1 ++ List.replicate N [], o.2.1 ++ List.replicate N false, o.2.2 ++ List.replicate N (sa (atT l i))) (n - N)).2.1 := by
          show o.2.1 ++ List.replicate n false = o.2.1 ++ List.replicate N false ++ List.replicate (n - N) false
          rw [List.append_assoc, List.replicate_append_replicate, show N + (n - N) = n by omega]
        have p2 : o.2.2 ++ List.replicate N (sa (atT l i)) ++ (List.replicate n []).drop N = (pad (o.1 ++ List.replicate N [], o.2.1 ++ List.replicate N false, o.2.2 ++ List.replicate N (sa (atT l i))) (n - N)).2.2 := by
          rw [List.drop_replicate]; rfl
        rw [p1, p2]
        exact key
theorem read_eq (hv : ∀ s ∈ l, sErr s = 0) (n : Nat) (hn : nb l = n) (hn2 : n ≤ 100000) (hr : rdOk l A0) : C_merge_read F_merge_read (n : Int) l = some (ret_merge_read (actL l A0)) := by
  have w1 : IntKind.i64.wrap ((n : Int) + 1) = ((n + 1 : Nat) : Int) := wnat (by omega) (by omega)
  have k1 : 0 ≤ ((n + 1 : Nat) : Int) ∧ True ∧ ((n + 1 : Nat) : Int) * 24 ≤ 140737488355328 ∧ ((n + 1 : Nat) : Int) ≤ 140737488355328 := ⟨by omega, trivial, by omega, by omega⟩
  have k2 : 0 ≤ (n : Int) ∧ True ∧ (n : Int) * 1 ≤ 140737488355328 ∧ (n : Int) ≤ 140737488355328 := ⟨by omega, trivial, by omega, by omega⟩
  have k3 : 0 ≤ (n : Int) ∧ True ∧ (n : Int) * 24 ≤ 140737488355328 ∧ (n : Int) ≤ 140737488355328 := ⟨by omega, trivial, by omega, by omega⟩
  have := read_loop l hl hv l.length 0 big A0 n (by omega) (big_ge (n := l.length + 1) (by omega)) ⟨rfl, rfl⟩ (by show 0 + n ≤ _; omega) (by rw [List.drop_zero]; exact hn) (by rw [List.drop_zero]; exact hr)
  rw [List.drop_zero] at this
  rw [e_merge_read]
  simp only [w1, if_pos k1, if_pos k2, if_pos k3, Int.toNat_natCast]
  exact this
end
theorem rdOk_append : ∀ (l m : Steps) (o : Act), rdOk (l ++ m) o ↔ rdOk l o ∧ rdOk m (actL l o)
  | [], m, o => by simp [rdOk, actL]
  | s :: l, m, o => by
    show _ ∧ rdOk (l ++ m) (stA s o) ↔ (_ ∧ rdOk l (stA s o)) ∧ rdOk m (actL l (stA s o))
    rw [rdOk_append l m, and_assoc]
def lastE (o : Act) : Prop := o.1.getD (o.1.length - 1) [] = []
theorem lastE_aU (c : Bool) (t : Attrs) (o : Act) : lastE (aU c t o) := by
  unfold lastE aU
  simp [List.getD_eq_getElem?_getD]
theorem rdOk_fl (y : Steps) (e : Flow) (c : Int) (h : rdOk y A0) (hl : lastE (actL y A0)) : rdOk (fl y e c) A0 := by
  unfold fl
  rw [rdOk_append, rdOk_append]
  refine ⟨⟨h, ?_⟩, ?_⟩
  · split
    · trivial
    · exact ⟨fun _ => hl, trivial⟩
  · split
    · exact ⟨fun q => (by cases q), trivial⟩
    · trivial
theorem rdOk_mrg (y : Steps) (t : Attrs) (h : rdOk y A0) : rdOk (mrgK y 1 t) A0 := by
  rcases last_cases y with q | ⟨d, s, q⟩
  · subst q; exact ⟨fun q => (by cases q), trivial⟩
  · subst q
    rw [mrg_last]
    rw [rdOk_append] at h
    split
    · rename_i hc
      rw [rdOk_append]
      exact ⟨h.1, (fun q => (by rw [sk_mk, hc.1] at q; cases q)), trivial⟩
    · rw [rdOk_append, rdOk_append]
      exact ⟨h, fun q => (by cases q), trivial⟩
theorem rdOk_run : ∀ (us : List U) (w : W), (∀ s ∈ w.1, 0 ≤ Delta.sn s) → 0 ≤ w.2.2 → rdOk w.1 A0 → lastE (actL w.1 A0) → rdOk (runP us w).1 A0 ∧ lastE (actL (runP us w).1 A0)
  | [], w, _, _, h, hl => ⟨h, hl⟩
  | .a x :: us, w, hs, hc, h, hl => rdOk_run us (uE [x] w) hs hc h hl
  | .c :: us, w, hs, hc, h, hl => rdOk_run us (uC w) hs (by show 0 ≤ w.2.2 + 1; omega) h hl
  | .k t :: us, w, hs, hc, h, hl => by
    have fs := fl_sn w.1 w.2.1 w.2.2 hs
    refine rdOk_run us (uK t w) (mrg_sn _ _ fs) (Int.le_refl 0) (rdOk_mrg _ _ (rdOk_fl _ _ _ h hl)) ?_
    show lastE (actL (mrgK (out w) 1 t) A0)
    rw [actL_mrg (out w) t fs]
    exact lastE_aU _ _ _
theorem rdOk_out (us : List U) : rdOk (out (runP us w0)) A0 := by
  obtain ⟨h1, h2⟩ := rdOk_run us w0 (fun s h => by simp [w0] at h) (by decide) trivial rfl
  exact rdOk_fl _ _ _ h1 h2
end Go.Ev.Diff
namespace Go.Ev.Diff
open Go.Ev Go.Ev.Attr Go.Ev.Track Go.Ev.Delta
set_option linter.unusedVariables false
set_option linter.unusedSimpArgs false
set_option maxRecDepth 100000
theorem fsame_loop (a b : Flow) (hl : a.length ≤ 1048576) (he : a.length = b.length) (ha : ∀ x ∈ a, (ea x).length ≤ 1048576) (n : Nat) : ∀ (d i m : Nat), i + d = a.length → d < m →
    L_flow_Same_0 n m b a (a.length : Int) (i : Int) = some (ret_flow_Same (eqF (a.drop i) (b.drop i))) := by
  intro d
  induction d with
  | zero =>
    intro i m hi hm
    cases m with
    | zero => omega
    | succ m =>
    obtain rfl : i = a.length := by omega
    rw [L_flow_Same_0_step, List.drop_length, he, List.drop_length, (eqF_iff [] []).2 rfl]
    simp only [dlt_self, bcf]
  | succ d ih =>
    intro i m hi hm
    cases m with
    | zero => omega
    | succ m =>
    have hil : i < a.length := by omega
    have hib : i < b.length := by omega
    have w1 := wsucc hil (show a.length ≤ 4611686018427387904 by omega)
    have q1 : 0 ≤ (i : Int) ∧ (i : Int) < (a.length : Int) := by omega
    have q2 : 0 ≤ (i : Int) ∧ (i : Int) < (b.length : Int) := by omega
    have e1 : (at_ (e := YElem) a (i : Int)).1 = ec (atE a i) := rfl
    have e2 : (at_ (e := YElem) b (i : Int)).1 = ec (atE b i) := rfl
    have e3 : (at_ (e := YElem) a (i : Int)).2.1 = er (atE a i) := rfl
    have e4 : (at_ (e := YElem) b (i : Int)).2.1 = er (atE b i) := rfl
    have e5 : (at_ (e := YElem) a (i : Int)).2.2 = ea (atE a i) := rfl
    have e6 : (at_ (e := YElem) b (i : Int)).2.2 = ea (atE b i) := rfl
    have key : eqF (a.drop i) (b.drop i) = (eqE (atE a i) (atE b i) && eqF (a.drop (i + 1)) (b.drop (i + 1))) := by
      rw [Bool.eq_iff_iff, Bool.and_eq_true, eqF_iff, eqF_iff, eqE_iff, drop_elem a hil, drop_elem b hib]
      constructor
      · intro h; injection h with h1 h2; exact ⟨h1, h2⟩
      · rintro ⟨h1, h2⟩; rw [h1, h2]
    have ke : eqE (atE a i) (atE b i) = ((ec (atE a i) == ec (atE b i)) && ((er (atE a i) == er (atE b i)) && eqA (ea (atE a i)) (ea (atE b i)))) := by
      rw [Bool.eq_iff_iff, eqE_iff, Bool.and_eq_true, Bool.and_eq_true, beq_iff_eq, beq_iff_eq, eqA_iff]
      constructor
      · intro h; rw [h]; exact ⟨rfl, rfl, rfl⟩
      · rintro ⟨h1, h2, h3⟩
        have : ∀ x y : YElem.den, ec x = ec y → er x = er y → ea x = ea y → x = y := fun x y h1 h2 h3 => Prod.ext h1 (Prod.ext h2 h3)
        exact this _ _ h1 h2 h3
    rw [L_flow_Same_0_step, key, ke]
    simp only [dlt hil, bct, if_pos q1, if_pos q2, e1, e2, e3, e4, e5, e6, same38 _ _ (ha _ (atE_mem a hil)), Option.bind_some, res_attr_Same_0_ret, w1, ih (i + 1) m (by omega) (by omega)]
    unfold bne
    cases (ec (atE a i) == ec (atE b i)) with
    | false => rfl
    | true =>
      cases (er (atE a i) == er (atE b i)) with
      | false => rfl
      | true => cases eqA (ea (atE a i)) (ea (atE b i)) <;> rfl
theorem fsame_eq (a b : Flow) (hl : a.length ≤ 1048576) (ha : ∀ x ∈ a, (ea x).length ≤ 1048576) : C_flow_Same F_flow_Same a b = some (ret_flow_Same (eqF a b)) := by
  rw [e_flow_Same]
  by_cases he : a.length = b.length
  · have z : ((a.length : Int) != (b.length : Int)) = false := by rw [he]; exact bne_self_eq_false _
    rw [z, bcf]
    have := fsame_loop a b hl he ha big a.length 0 big (by omega) (big_ge (n := a.length + 1) (by omega))
    rw [List.drop_zero, List.drop_zero] at this
    exact this
  · have z : ((a.length : Int) != (b.length : Int)) = true := by
      rw [bne_iff_ne]; omega
    have : eqF a b = false := by
      cases h : eqF a b with
      | false => rfl
      | true => exact absurd (congrArg List.length ((eqF_iff a b).1 h)) he
    rw [z, bct, this]
abbrev Conf := YConflict.den
def mkC (k f t : Int) (nm : Str) : Conf := (k, (0, (f, (t, nm))))
abbrev MS := Flow × List Conf
noncomputable def gapS (x y : Flow) (s : MS) : MS := if eqF x y = true then (s.1 ++ x, s.2) else (s.1 ++ x ++ y, if emp x = false ∧ emp y = false then s.2 ++ [mkC 0 s.1.length (s.1 ++ x ++ y).length []] else s.2)
def cfl (at_' : Int) (q : Attrs) : Attrs → List Conf
  | [] => []
  | c :: p => (if has (an c) q = true ∧ get (an c) q ≠ av c then [mkC 2 at_' (at_' + 1) (an c)] else []) ++ cfl at_' q p
def elS (x : YElem.den) (p q : Attrs) (cp cq : Bool) (s : MS) : MS :=
  if cp = true ∨ cq = true then (s.1, if (cp = false ∧ emp p = false) ∨ (cq = false ∧ emp q = false) then s.2 ++ [mkC 1 s.1.length s.1.length []] else s.2)
  else (s.1 ++ [mkE (ec x) (er x) (chd (chd (ea x) q) p)], s.2 ++ cfl s.1.length q p)
theorem cfl_len (z : Int) (q : Attrs) : ∀ p, (cfl z q p).length ≤ p.length
  | [] => Nat.le_refl _
  | c :: p => by
    have := cfl_len z q p
    simp only [cfl, List.length_append, List.length_cons]
    split
    · show 1 + _ ≤ _; omega
    · show 0 + _ ≤ _; omega
theorem gap_eq (x y : Flow) (s : MS) (hx : x.length ≤ 1048576) (hy : y.length ≤ 1048576) (hs : s.1.length ≤ 1000000000) (hb : s.2.length ≤ 1000000000) (sx : ∀ e ∈ x, (ea e).length ≤ 1048576) :
    C_merge_joined_gap F_merge_joined_gap x y 0 s.1 s.2 = some (ret_merge_joined_gap 0 (gapS x y s).1 (gapS x y s).2) := by
  have b1 : (List.length (s.1 : List YElem.den) + List.length (x : List YElem.den)) * 40 ≤ 140737488355328 := by omega
  have b2 : (List.length ((s.1 ++ x) : List YElem.den) + List.length (y : List YElem.den)) * 40 ≤ 140737488355328 := by
    rw [List.length_append]; omega
  have b3 : ∀ c : Conf, (List.length (s.2 : List YConflict.den) + List.length ([c] : List YConflict.den)) * 48 ≤ 140737488355328 := fun c => by
    have : [c].length = 1 := rfl
    omega
  rw [e_merge_joined_gap]
  simp only [if_pos b1, len_zero, fsame_eq x y hx sx, Option.bind_some, res_flow_Same_0_ret, if_pos b2, if_pos (b3 _), len_pos]
  unfold gapS
  by_cases ye : emp y = true
  · rw [ye, show (true == false) = false from rfl, bcf]
    have y0 : y = [] := (emp_iff y).1 ye
    subst y0
    split
    · rfl
    · rw [if_neg (fun z => by cases z.2), List.append_nil]
  · rw [eq_false_of_ne_true ye, show (false == false) = true from rfl, bct]
    cases he : eqF x y with
    | true => rw [if_pos rfl, bct]
    | false =>
      rw [if_neg (by decide), bcf]
      cases xe : emp x with
      | true => rw [Bool.not_true, bcf, if_neg (fun z => by cases z.1)]
      | false => rw [Bool.not_false, bct, if_pos ⟨rfl, rfl⟩]; rfl
theorem idx_loop (q : Attrs) (hq : q.length ≤ 1048576) (nm v : Str) : ∀ (d i m : Nat), i + d = q.length → d < m → ∃ r : Int, L_slices_IndexFunc___api_Attr_api_Attr__merge_joined_elem_c1_0 big m q (q.length : Int) (i : Int) nm v = some (ret_slices_IndexFunc___api_Attr_api_Attr__merge_joined_elem_c1 r nm v) ∧
    ((has nm (q.drop i) = false ∧ r = -1) ∨ (has nm (q.drop i) = true ∧ ∃ k : Nat, r = k ∧ k < q.length ∧ av (atA q k) = get nm (q.drop i))) := by
  intro d
  induction d with
  | zero =>
    intro i m hi hm
    cases m with
    | zero => omega
    | succ m =>
    obtain rfl : i = q.length := by omega
    refine ⟨-1, ?_, .inl ⟨by rw [List.drop_length]; rfl, rfl⟩⟩
    rw [L_slices_IndexFunc___api_Attr_api_Attr__merge_joined_elem_c1_0_step]
    simp only [dlt_self, bcf]
  | succ d ih =>
    intro i m hi hm
    cases m with
    | zero => omega
    | succ m =>
    have hil : i < q.length := by omega
    have w1 := wsucc hil (show q.length ≤ 4611686018427387904 by omega)
    have q1 : 0 ≤ (i : Int) ∧ (i : Int) < (q.length : Int) := by omega
    have ex : at_ (e := YAttr) q (i : Int) = atA q i := rfl
    have en : (atA q i).1 = an (atA q i) := rfl
    have dr : q.drop i = atA q i :: q.drop (i + 1) := drop_at' q hil
    rw [dr]
    by_cases h : an (atA q i) = nm
    · have hb : ((an (atA q i) : List UInt8) == nm) = true := by simpa using h
      refine ⟨i, ?_, .inr ⟨?_, i, rfl, hil, ?_⟩⟩
      · rw [L_slices_IndexFunc___api_Attr_api_Attr__merge_joined_elem_c1_0_step]
        simp only [dlt hil, bct, if_pos q1, ex, e_merge_joined_elem_c1, Option.bind_some, res_merge_joined_elem_c1_0_ret, res_merge_joined_elem_c1_1_ret, res_merge_joined_elem_c1_2_ret, en, hb]
      · exact (has_iff nm _).2 ⟨_, by simp, h⟩
      · simp only [Attr.get]; rw [if_pos h]
    · have hb : ((an (atA q i) : List UInt8) == nm) = false := by simpa using h
      obtain ⟨r, h1, h2⟩ := ih (i + 1) m (by omega) (by omega)
      have hh : has nm (atA q i :: q.drop (i + 1)) = has nm (q.drop (i + 1)) := by
        rw [Bool.eq_iff_iff, has_iff, has_iff]
        constructor
        · rintro ⟨y, hy, e⟩
          rcases List.mem_cons.1 hy with rfl | hy
          · exact absurd e h
          · exact ⟨y, hy, e⟩
        · rintro ⟨y, hy, e⟩; exact ⟨y, by simp [hy], e⟩
      have hg : get nm (atA q i :: q.drop (i + 1)) = get nm (q.drop (i + 1)) := by
        simp only [Attr.get]; rw [if_neg h]
      refine ⟨r, ?_, by rw [hh, hg]; exact h2⟩
      rw [L_slices_IndexFunc___api_Attr_api_Attr__merge_joined_elem_c1_0_step]
      simp only [dlt hil, bct, bcf, if_pos q1, ex, e_merge_joined_elem_c1, Option.bind_some, res_merge_joined_elem_c1_0_ret, res_merge_joined_elem_c1_1_ret, res_merge_joined_elem_c1_2_ret, en, hb, w1]
      exact h1
theorem idx_eq (q : Attrs) (hq : q.length ≤ 1048576) (nm v : Str) : ∃ r : Int, C_slices_IndexFunc___api_Attr_api_Attr__merge_joined_elem_c1 F_slices_IndexFunc___api_Attr_api_Attr__merge_joined_elem_c1 q nm v = some (ret_slices_IndexFunc___api_Attr_api_Attr__merge_joined_elem_c1 r nm v) ∧
    ((has nm q = false ∧ r = -1) ∨ (has nm q = true ∧ ∃ k : Nat, r = k ∧ k < q.length ∧ av (atA q k) = get nm q)) := by
  have := idx_loop q hq nm v q.length 0 big (by omega) (big_ge (n := q.length + 1) (by omega))
  rw [List.drop_zero] at this
  rw [e_slices_IndexFunc___api_Attr_api_Attr__merge_joined_elem_c1]
  exact this
/-- Not by definition: so that what decides is written anew. -/
theorem ix0 (r : Int) (n v : Str) : res_slices_IndexFunc___api_Attr_api_Attr__merge_joined_elem_c1_0 (ret_slices_IndexFunc___api_Attr_api_Attr__merge_joined_elem_c1 r n v) = r := id rfl
/-- What is needed of an element's changes. -/
structure El (x : YElem.den) (p q : Attrs) : Prop where
  lx : (ea x).length ≤ 1048576
  lp : p.length ≤ 1048576
  lq : q.length ≤ 1048576
  xq : (ea x).length + q.length ≤ 1048576
  xqp : (chd (ea x) q).length + p.length ≤ 1048576
  r1 : raw (ea x) q = chd (ea x) q
  r2 : raw (chd (ea x) q) p = chd (chd (ea x) q) p
theorem elem_loop (x : YElem.den) (p q : Attrs) (h : El x p q) (f : Flow) (hf : f.length ≤ 1000000000) : ∀ (d i m : Nat) (b : List Conf), i + d = p.length → d < m → b.length + d ≤ 1000000000 →
    L_merge_joined_elem_0 big m p q x.1 x.2.1 x.2.2 (f.length : Int) p (p.length : Int) (i : Int) 0 f b = some (ret_merge_joined_elem 0 (f ++ [mkE (ec x) (er x) (chd (chd (ea x) q) p)]) (b ++ cfl f.length q (p.drop i))) := by
  intro d
  induction d with
  | zero =>
    intro i m b hi hm hb
    cases m with
    | zero => omega
    | succ m =>
    obtain rfl : i = p.length := by omega
    have e : x.2.2 = ea x := rfl
    have b1 : ∀ y : YElem.den, (List.length (f : List YElem.den) + List.length ([y] : List YElem.den)) * 40 ≤ 140737488355328 := fun y => by
      have : [y].length = 1 := rfl
      omega
    have xqp := h.xqp
    have h1 := raw_eq (ea x) q h.lx h.lq
    have h2 := raw_eq (chd (ea x) q) p (by omega) h.lp
    rw [h.r1] at h1
    rw [h.r2] at h2
    rw [L_merge_joined_elem_0_step, List.drop_length]
    simp only [dlt_self, bcf, e, h1, Option.bind_some, res_attr_Raw_0_ret, h2, if_pos (b1 _)]
    rw [show cfl f.length q [] = [] from rfl, List.append_nil]; rfl
  | succ d ih =>
    intro i m b hi hm hb
    cases m with
    | zero => omega
    | succ m =>
    have hp := h.lp
    have hil : i < p.length := by omega
    have w1 := wsucc hil (show p.length ≤ 4611686018427387904 by omega)
    have q1 : 0 ≤ (i : Int) ∧ (i : Int) < (p.length : Int) := by omega
    have ex : at_ (e := YAttr) p (i : Int) = atA p i := rfl
    have en : (atA p i).1 = an (atA p i) := rfl
    have ev : (atA p i).2 = av (atA p i) := rfl
    have dr : p.drop i = atA p i :: p.drop (i + 1) := drop_at' p hil
    have wf : IntKind.i64.wrap ((f.length : Int) + 1) = (f.length : Int) + 1 := w64 (by omega) (by omega)
    have b3 : ∀ c : Conf, (List.length (b : List YConflict.den) + List.length ([c] : List YConflict.den)) * 48 ≤ 140737488355328 := fun c => by
      have : [c].length = 1 := rfl
      omega
    obtain ⟨r, i1, i2⟩ := idx_eq q h.lq (an (atA p i)) (av (atA p i))
    rw [dr, L_merge_joined_elem_0_step]
    simp only [dlt hil, bct, if_pos q1, ex, en, ev, i1, Option.bind_some, ix0, res_slices_IndexFunc___api_Attr_api_Attr__merge_joined_elem_c1_1_ret, res_slices_IndexFunc___api_Attr_api_Attr__merge_joined_elem_c1_2_ret, w1, wf, if_pos (b3 _)]
    have ec' : cfl f.length q (atA p i :: p.drop (i + 1)) = (if has (an (atA p i)) q = true ∧ get (an (atA p i)) q ≠ av (atA p i) then [mkC 2 f.length (f.length + 1) (an (atA p i))] else []) ++ cfl f.length q (p.drop (i + 1)) := rfl
    rw [ec']
    rcases i2 with ⟨h1, h2⟩ | ⟨h1, k, h2, h3, h4⟩
    · subst h2
      have c1 : decide ((-1 : Int) ≥ 0) = false := rfl
      simp only [c1]
      rw [show (false == true) = false from rfl, bcf, if_neg (fun z => by rw [h1] at z; cases z.1), List.nil_append]
      exact ih (i + 1) m b (by omega) (by omega) (by omega)
    · subst h2
      have c1 : decide ((k : Int) ≥ 0) = true := decide_eq_true (by omega)
      have q2 : 0 ≤ (k : Int) ∧ (k : Int) < (q.length : Int) := by omega
      have eq' : (at_ (e := YAttr) q (k : Int)).2 = av (atA q k) := rfl
      rw [c1, show (true == true) = true from rfl, bct, if_pos q2, eq', h4]
      by_cases hv : get (an (atA p i)) q = av (atA p i)
      · have z : ((get (an (atA p i)) q : List UInt8) == av (atA p i)) = true := by simpa using hv
        rw [z, Bool.not_true, bcf, if_neg (fun w => w.2 hv), List.nil_append]
        exact ih (i + 1) m b (by omega) (by omega) (by omega)
      · have z : ((get (an (atA p i)) q : List UInt8) == av (atA p i)) = false := by simpa using hv
        rw [z, Bool.not_false, bct, if_pos ⟨h1, hv⟩]
        have := ih (i + 1) m (b ++ [mkC 2 f.length (f.length + 1) (an (atA p i))]) (by omega) (by omega) (by rw [List.length_append]; show _ + 1 + _ ≤ _; omega)
        rw [List.append_assoc] at this
        exact this
theorem elem_eq' (x : YElem.den) (p q : Attrs) (h : El x p q) (cp cq : Bool) (s : MS) (hs : s.1.length ≤ 1000000000) (hb : s.2.length + p.length ≤ 1000000000 - 1) :
    C_merge_joined_elem F_merge_joined_elem x p q cp cq 0 s.1 s.2 = some (ret_merge_joined_elem 0 (elS x p q cp cq s).1 (elS x p q cp cq s).2) := by
  have b3 : ∀ c : Conf, (List.length (s.2 : List YConflict.den) + List.length ([c] : List YConflict.den)) * 48 ≤ 140737488355328 := fun c => by
    have : [c].length = 1 := rfl
    omega
  have hp := h.lp
  have lp := elem_loop x p q h s.1 hs p.length 0 big s.2 (by omega) (big_ge (n := p.length + 1) (by omega)) (by omega)
  rw [List.drop_zero] at lp
  rw [e_merge_joined_elem]
  simp only [len_pos, if_pos (b3 _)]
  unfold elS
  cases cp <;> cases cq <;> cases emp p <;> cases emp q <;> first | exact lp | rfl
/-- The rest of a flow is merged, from element `i` on. -/
noncomputable def mgL (f : Flow) (P Q : Act) : Nat → Nat → MS → MS
  | 0, i, s => gapS (adAt P.1 i) (adAt Q.1 i) s
  | d + 1, i, s => mgL f P Q d (i + 1) (elS (atE f i) (atrAt P.2.2 i) (atrAt Q.2.2 i) (cutAt P.2.1 i) (cutAt Q.2.1 i) (gapS (adAt P.1 i) (adAt Q.1 i) s))
theorem gapS_len (x y : Flow) (s : MS) : (gapS x y s).1.length ≤ s.1.length + x.length + y.length ∧ (gapS x y s).2.length ≤ s.2.length + 1 := by
  unfold gapS
  split
  · simp
  · refine ⟨by simp; omega, ?_⟩
    show (if emp x = false ∧ emp y = false then s.2 ++ [_] else s.2).length ≤ _
    split
    · simp
    · omega
theorem elS_len (x : YElem.den) (p q : Attrs) (cp cq : Bool) (s : MS) : (elS x p q cp cq s).1.length ≤ s.1.length + 1 ∧ (elS x p q cp cq s).2.length ≤ s.2.length + 1 + p.length := by
  unfold elS
  split
  · refine ⟨by simp, ?_⟩
    show (if (cp = false ∧ emp p = false) ∨ (cq = false ∧ emp q = false) then s.2 ++ [_] else s.2).length ≤ _
    split
    · simp
    · omega
  · have := cfl_len s.1.length q p
    refine ⟨by simp, by simp; omega⟩
section
variable (f : Flow) (P Q : Act) (hP : AOk P) (hQ : AOk Q) (lP : P.2.1.length = f.length) (lQ : Q.2.1.length = f.length) (hf : f.length ≤ 100)
variable (hel : ∀ i, i < f.length → El (atE f i) (atrAt P.2.2 i) (atrAt Q.2.2 i)) (had : ∀ i, (adAt P.1 i).length ≤ 2000 ∧ (adAt Q.1 i).length ≤ 2000) (hsx : ∀ i, ∀ e ∈ adAt P.1 i, (ea e).length ≤ 1048576)
include hP hQ lP lQ hf hel had hsx
theorem flows_loop (K L M N : Nat) (hK : 4001 ≤ K) (hM : M ≤ 1000000) (hL : 1048578 ≤ L) (hN : N ≤ 900000000) : ∀ (d i m : Nat) (s : MS), i + d = f.length → d < m → s.1.length + (K * d + K) ≤ M → s.2.length + (L * d + L) ≤ N → (∀ e ∈ (mgL f P Q d i s).1, (ea e).length ≤ 1048576) →
    L_merge_flows_0 big m f P.1 P.2.1 P.2.2 Q.1 Q.2.1 Q.2.2 0 s.1 s.2 f (f.length : Int) (i : Int) = some (ret_merge_flows (mgL f P Q d i s).1 (mgL f P Q d i s).2) := by
  have p1 := hP.h1
  have p2 := hP.h2
  have r1 := hQ.h1
  have r2 := hQ.h2
  intro d
  induction d with
  | zero =>
    intro i m s hi hm h1 h2 h3
    cases m with
    | zero => omega
    | succ m =>
    obtain rfl : i = f.length := by omega
    have a1 := had f.length
    have g := gap_eq (adAt P.1 f.length) (adAt Q.1 f.length) s (by omega) (by omega) (by omega) (by omega) (hsx _)
    have gl := gapS_len (adAt P.1 f.length) (adAt Q.1 f.length) s
    have q1 : 0 ≤ (f.length : Int) ∧ (f.length : Int) < (P.1.length : Int) := by omega
    have q2 : 0 ≤ (f.length : Int) ∧ (f.length : Int) < (Q.1.length : Int) := by omega
    have e1 : at_ (e := .list YElem) P.1 (f.length : Int) = adAt P.1 f.length := rfl
    have e2 : at_ (e := .list YElem) Q.1 (f.length : Int) = adAt Q.1 f.length := rfl
    have h3' : ∀ e ∈ (gapS (adAt P.1 f.length) (adAt Q.1 f.length) s).1, (ea e).length ≤ 1048576 := h3
    have cp := copy_eq (gapS (adAt P.1 f.length) (adAt Q.1 f.length) s).1 (by omega) (fun k => by
      by_cases hk : k < (gapS (adAt P.1 f.length) (adAt Q.1 f.length) s).1.length
      · exact h3' _ (atE_mem _ hk)
      · unfold atE at_
        rw [List.getD_eq_getElem?_getD, Int.toNat_natCast, List.getElem?_eq_none (by omega)]
        exact Nat.zero_le _)
    rw [L_merge_flows_0_step]
    simp only [dlt_self, bcf, if_pos q1, if_pos q2, e1, e2, g, Option.bind_some, res_merge_joined_gap_1_ret, res_merge_joined_gap_2_ret, cp, res_flow_Copy_0_ret]
    rfl
  | succ d ih =>
    intro i m s hi hm h1 h2 h3
    cases m with
    | zero => omega
    | succ m =>
    have hil : i < f.length := by omega
    have a1 := had i
    rw [Nat.mul_succ] at h1 h2
    have g := gap_eq (adAt P.1 i) (adAt Q.1 i) s (by omega) (by omega) (by omega) (by omega) (hsx _)
    have gl := gapS_len (adAt P.1 i) (adAt Q.1 i) s
    have el := hel i hil
    have elp := el.lp
    have e := elem_eq' (atE f i) (atrAt P.2.2 i) (atrAt Q.2.2 i) el (cutAt P.2.1 i) (cutAt Q.2.1 i) (gapS (adAt P.1 i) (adAt Q.1 i) s) (by omega) (by omega)
    have ell := elS_len (atE f i) (atrAt P.2.2 i) (atrAt Q.2.2 i) (cutAt P.2.1 i) (cutAt Q.2.1 i) (gapS (adAt P.1 i) (adAt Q.1 i) s)
    have w1 := wsucc hil (show f.length ≤ 4611686018427387904 by omega)
    have q0 : 0 ≤ (i : Int) ∧ (i : Int) < (f.length : Int) := by omega
    have q1 : 0 ≤ (i : Int) ∧ (i : Int) < (P.1.length : Int) := by omega
    have q2 : 0 ≤ (i : Int) ∧ (i : Int) < (Q.1.length : Int) := by omega
    have q3 : 0 ≤ (i : Int) ∧ (i : Int) < (P.2.2.length : Int) := by omega
    have q4 : 0 ≤ (i : Int) ∧ (i : Int) < (Q.2.2.length : Int) := by omega
    have q5 : 0 ≤ (i : Int) ∧ (i : Int) < (P.2.1.length : Int) := by omega
    have q6 : 0 ≤ (i : Int) ∧ (i : Int) < (Q.2.1.length : Int) := by omega
    have e1 : at_ (e := .list YElem) P.1 (i : Int) = adAt P.1 i := rfl
    have e2 : at_ (e := .list YElem) Q.1 (i : Int) = adAt Q.1 i := rfl
    have e3 : at_ (e := YElem) f (i : Int) = atE f i := rfl
    have e4 : at_ (e := .list YAttr) P.2.2 (i : Int) = atrAt P.2.2 i := rfl
    have e5 : at_ (e := .list YAttr) Q.2.2 (i : Int) = atrAt Q.2.2 i := rfl
    have e6 : at_ (e := .bool) P.2.1 (i : Int) = cutAt P.2.1 i := rfl
    have e7 : at_ (e := .bool) Q.2.1 (i : Int) = cutAt Q.2.1 i := rfl
    rw [L_merge_flows_0_step]
    simp only [dlt hil, bct, if_pos q0, if_pos q1, if_pos q2, if_pos q3, if_pos q4, if_pos q5, if_pos q6, e1, e2, e3, e4, e5, e6, e7, g, Option.bind_some, res_merge_joined_gap_0_ret, res_merge_joined_gap_1_ret, res_merge_joined_gap_2_ret, e, res_merge_joined_elem_0_ret, res_merge_joined_elem_1_ret, res_merge_joined_elem_2_ret, w1]
    exact ih (i + 1) m _ (by omega) (by omega) (by omega) (by omega) h3
end
end Go.Ev.Diff
namespace Go.Ev.Diff
open Go.Ev Go.Ev.Attr Go.Ev.Track Go.Ev.Delta
set_option linter.unusedVariables false
set_option linter.unusedSimpArgs false
set_option maxRecDepth 100000
section
variable (f : Flow) (P Q : Act) (hP : AOk P) (hQ : AOk Q) (lP : P.2.1.length = f.length) (lQ : Q.2.1.length = f.length) (hf : f.length ≤ 100)
include hP hQ lP lQ hf
theorem merged_in (i : Nat) (hi : i < f.length) (el : El (atE f i) (atrAt P.2.2 i) (atrAt Q.2.2 i)) (m1 : Nat) (o : Flow) (ho : o.length ≤ 1000000000) : ∀ (d k m : Nat) (b : List Conf), k + d = (atrAt P.2.2 i).length → d < m → b.length + d ≤ 1000000000 →
    L_R_Merged_1 big m1 m f P.1 P.2.1 P.2.2 Q.1 Q.2.1 Q.2.2 o b (i : Int) (o.length : Int) ((atrAt P.2.2 i).length : Int) (k : Int) =
      L_R_Merged_0 big m1 f P.1 P.2.1 P.2.2 Q.1 Q.2.1 Q.2.2 (o ++ [mkE (ec (atE f i)) (er (atE f i)) (chd (chd (ea (atE f i)) (atrAt Q.2.2 i)) (atrAt P.2.2 i))]) (b ++ cfl o.length (atrAt Q.2.2 i) ((atrAt P.2.2 i).drop k)) ((i + 1 : Nat) : Int) := by
  have p2 := hP.h2
  have r2 := hQ.h2
  have lp := el.lp
  have q0 : 0 ≤ (i : Int) ∧ (i : Int) < (f.length : Int) := by omega
  have q3 : 0 ≤ (i : Int) ∧ (i : Int) < (P.2.2.length : Int) := by omega
  have q4 : 0 ≤ (i : Int) ∧ (i : Int) < (Q.2.2.length : Int) := by omega
  have e4 : at_ (e := .list YAttr) P.2.2 (i : Int) = atrAt P.2.2 i := rfl
  have e5 : at_ (e := .list YAttr) Q.2.2 (i : Int) = atrAt Q.2.2 i := rfl
  intro d
  induction d with
  | zero =>
    intro k m b hk hm hb
    cases m with
    | zero => omega
    | succ m =>
    obtain rfl : k = (atrAt P.2.2 i).length := by omega
    have x1 : (at_ (e := YElem) f (i : Int)).1 = ec (atE f i) := rfl
    have x2 : (at_ (e := YElem) f (i : Int)).2.1 = er (atE f i) := rfl
    have x3 : (at_ (e := YElem) f (i : Int)).2.2 = ea (atE f i) := rfl
    have w1 := wsucc hi (show f.length ≤ 4611686018427387904 by omega)
    have b1 : ∀ y : YElem.den, (List.length (o : List YElem.den) + List.length ([y] : List YElem.den)) * 40 ≤ 140737488355328 := fun y => by
      have : [y].length = 1 := rfl
      omega
    rw [L_R_Merged_1_step, List.drop_length]
    simp only [dlt_self, bcf, if_pos q0, if_pos q3, if_pos q4, e4, e5, x1, x2, x3, chd_eq _ _ el.xq, Option.bind_some, res_R_Changed_0_ret, chd_eq _ _ el.xqp, if_pos (b1 _), w1]
    rw [show cfl o.length (atrAt Q.2.2 i) [] = [] from rfl, List.append_nil]; rfl
  | succ d ih =>
    intro k m b hk hm hb
    cases m with
    | zero => omega
    | succ m =>
    have hkl : k < (atrAt P.2.2 i).length := by omega
    have w1 := wsucc hkl (show (atrAt P.2.2 i).length ≤ 4611686018427387904 by omega)
    have q1 : 0 ≤ (k : Int) ∧ (k : Int) < ((atrAt P.2.2 i).length : Int) := by omega
    have en : (at_ (e := YAttr) (atrAt P.2.2 i) (k : Int)).1 = an (atA (atrAt P.2.2 i) k) := rfl
    have ev : (at_ (e := YAttr) (atrAt P.2.2 i) (k : Int)).2 = av (atA (atrAt P.2.2 i) k) := rfl
    have dr : (atrAt P.2.2 i).drop k = atA (atrAt P.2.2 i) k :: (atrAt P.2.2 i).drop (k + 1) := drop_at' _ hkl
    have wf : IntKind.i64.wrap ((o.length : Int) + 1) = (o.length : Int) + 1 := w64 (by omega) (by omega)
    have b3 : ∀ c : Conf, (List.length (b : List YConflict.den) + List.length ([c] : List YConflict.den)) * 48 ≤ 140737488355328 := fun c => by
      have : [c].length = 1 := rfl
      omega
    have ec' : cfl o.length (atrAt Q.2.2 i) (atA (atrAt P.2.2 i) k :: (atrAt P.2.2 i).drop (k + 1)) = (if has (an (atA (atrAt P.2.2 i) k)) (atrAt Q.2.2 i) = true ∧ get (an (atA (atrAt P.2.2 i) k)) (atrAt Q.2.2 i) ≠ av (atA (atrAt P.2.2 i) k) then [mkC 2 o.length (o.length + 1) (an (atA (atrAt P.2.2 i) k))] else []) ++ cfl o.length (atrAt Q.2.2 i) ((atrAt P.2.2 i).drop (k + 1)) := rfl
    rw [dr, ec', L_R_Merged_1_step]
    simp only [dlt hkl, bct, if_pos q3, e4, e5, if_pos q1, if_pos q4, has_eq _ el.lq, rget_eq _ el.lq, Option.bind_some, res_R_Has_0_ret, res_R_Get_0_ret, en, ev, w1, wf, if_pos (b3 _)]
    cases hh : has (an (atA (atrAt P.2.2 i) k)) (atrAt Q.2.2 i) with
    | false =>
      rw [show (false == true) = false from rfl, bcf, if_neg (fun z => by cases z.1), List.nil_append]
      exact ih (k + 1) m b (by omega) (by omega) (by omega)
    | true =>
      rw [show (true == true) = true from rfl, bct]
      by_cases hv : get (an (atA (atrAt P.2.2 i) k)) (atrAt Q.2.2 i) = av (atA (atrAt P.2.2 i) k)
      · have z : ((get (an (atA (atrAt P.2.2 i) k)) (atrAt Q.2.2 i) : List UInt8) == av (atA (atrAt P.2.2 i) k)) = true := by simpa using hv
        rw [z, Bool.not_true, bcf, if_neg (fun w => w.2 hv), List.nil_append]
        exact ih (k + 1) m b (by omega) (by omega) (by omega)
      · have z : ((get (an (atA (atrAt P.2.2 i) k)) (atrAt Q.2.2 i) : List UInt8) == av (atA (atrAt P.2.2 i) k)) = false := by simpa using hv
        rw [z, Bool.not_false, bct, if_pos ⟨rfl, hv⟩]
        have := ih (k + 1) m (b ++ [mkC 2 o.length (o.length + 1) (an (atA (atrAt P.2.2 i) k))]) (by omega) (by omega) (by rw [List.length_append]; show _ + 1 + _ ≤ _; omega)
        rw [List.append_assoc] at this
        exact this
omit hP hQ lP lQ hf in
theorem merged_gap (i m1 : Nat) (s : MS) (h1 : (adAt P.1 i).length ≤ 2000) (h2 : (adAt Q.1 i).length ≤ 2000) (hs : s.1.length ≤ 1000000000) (hb : s.2.length ≤ 1000000000) (sx : Fs (adAt P.1 i)) :
    J_R_Merged_1 big m1 f P Q s.1 s.2 (i : Int) (adAt P.1 i) (adAt Q.1 i) = J_R_Merged_0 big m1 f P Q (gapS (adAt P.1 i) (adAt Q.1 i) s).1 (gapS (adAt P.1 i) (adAt Q.1 i) s).2 (i : Int) := by
  have b1 : (List.length (s.1 : List YElem.den) + List.length (adAt P.1 i : List YElem.den)) * 40 ≤ 140737488355328 := by omega
  have b2 : (List.length ((s.1 ++ adAt P.1 i) : List YElem.den) + List.length (adAt Q.1 i : List YElem.den)) * 40 ≤ 140737488355328 := by
    rw [List.length_append]; omega
  have b3 : ∀ c : Conf, (List.length (s.2 : List YConflict.den) + List.length ([c] : List YConflict.den)) * 48 ≤ 140737488355328 := fun c => by
    have : [c].length = 1 := rfl
    omega
  unfold J_R_Merged_1 gapS
  simp only [if_pos b1, sflow_eq _ _ sx, Option.bind_some, res_R_SameFlow_0_ret, if_pos b2, if_pos (b3 _), len_pos]
  cases eqF (adAt P.1 i) (adAt Q.1 i) with
  | true => rw [if_pos rfl, Bool.not_true, bcf]
  | false =>
    rw [if_neg (by decide), Bool.not_false, bct]
    cases emp (adAt P.1 i) <;> cases emp (adAt Q.1 i) <;> rfl
theorem merged_el (i : Nat) (hi : i < f.length) (el : El (atE f i) (atrAt P.2.2 i) (atrAt Q.2.2 i)) (m1 : Nat) (s : MS) (hs : s.1.length ≤ 1000000000) (hb : s.2.length + (atrAt P.2.2 i).length ≤ 1000000000 - 1) :
    J_R_Merged_0 big m1 f P Q s.1 s.2 (i : Int) = L_R_Merged_0 big m1 f P.1 P.2.1 P.2.2 Q.1 Q.2.1 Q.2.2 (elS (atE f i) (atrAt P.2.2 i) (atrAt Q.2.2 i) (cutAt P.2.1 i) (cutAt Q.2.1 i) s).1 (elS (atE f i) (atrAt P.2.2 i) (atrAt Q.2.2 i) (cutAt P.2.1 i) (cutAt Q.2.1 i) s).2 ((i + 1 : Nat) : Int) := by
  have p2 := hP.h2
  have r2 := hQ.h2
  have lp := el.lp
  have b3 : ∀ c : Conf, (List.length (s.2 : List YConflict.den) + List.length ([c] : List YConflict.den)) * 48 ≤ 140737488355328 := fun c => by
    have : [c].length = 1 := rfl
    omega
  have z : ((i : Int) == (f.length : Int)) = false := by rw [beq_eq_false_iff_ne]; omega
  have w1 := wsucc hi (show f.length ≤ 4611686018427387904 by omega)
  have q3 : 0 ≤ (i : Int) ∧ (i : Int) < (P.2.2.length : Int) := by omega
  have q4 : 0 ≤ (i : Int) ∧ (i : Int) < (Q.2.2.length : Int) := by omega
  have q5 : 0 ≤ (i : Int) ∧ (i : Int) < (P.2.1.length : Int) := by omega
  have q6 : 0 ≤ (i : Int) ∧ (i : Int) < (Q.2.1.length : Int) := by omega
  have e4 : at_ (e := .list YAttr) P.2.2 (i : Int) = atrAt P.2.2 i := rfl
  have e5 : at_ (e := .list YAttr) Q.2.2 (i : Int) = atrAt Q.2.2 i := rfl
  have e6 : at_ (e := .bool) P.2.1 (i : Int) = cutAt P.2.1 i := rfl
  have e7 : at_ (e := .bool) Q.2.1 (i : Int) = cutAt Q.2.1 i := rfl
  have li := merged_in f P Q hP hQ lP lQ hf i hi el m1 s.1 hs (atrAt P.2.2 i).length 0 big s.2 (by omega) (big_ge (n := (atrAt P.2.2 i).length + 1) (by omega)) (by omega)
  rw [List.drop_zero] at li
  unfold J_R_Merged_0 elS
  simp only [z, bcf, if_pos q3, if_pos q4, if_pos q5, if_pos q6, e4, e5, e6, e7, len_pos, w1, if_pos (b3 _)]
  cases cutAt P.2.1 i <;> cases cutAt Q.2.1 i <;> cases emp (atrAt P.2.2 i) <;> cases emp (atrAt Q.2.2 i) <;> first | exact li | rfl
omit hP hQ lP lQ hf in
theorem merged_end (m1 : Nat) (s : MS) : J_R_Merged_0 big m1 f P Q s.1 s.2 (f.length : Int) = some (ret_R_Merged s.1 s.2) := by
  unfold J_R_Merged_0
  rw [beq_self_eq_true, bct]
variable (hel : ∀ i, i < f.length → El (atE f i) (atrAt P.2.2 i) (atrAt Q.2.2 i)) (had : ∀ i, (adAt P.1 i).length ≤ 2000 ∧ (adAt Q.1 i).length ≤ 2000) (hsx : ∀ i, Fs (adAt P.1 i))
include hel had hsx
theorem merged_loop (K L M N : Nat) (hK : 4001 ≤ K) (hM : M ≤ 1000000) (hL : 1048578 ≤ L) (hN : N ≤ 900000000) : ∀ (d i m : Nat) (s : MS), i + d = f.length → d < m → s.1.length + (K * d + K) ≤ M → s.2.length + (L * d + L) ≤ N →
    L_R_Merged_0 big m f P.1 P.2.1 P.2.2 Q.1 Q.2.1 Q.2.2 s.1 s.2 (i : Int) = some (ret_R_Merged (mgL f P Q d i s).1 (mgL f P Q d i s).2) := by
  have p1 := hP.h1
  have r1 := hQ.h1
  intro d
  induction d with
  | zero =>
    intro i m s hi hm h1 h2
    cases m with
    | zero => omega
    | succ m =>
    obtain rfl : i = f.length := by omega
    have a1 := had f.length
    have q1 : 0 ≤ (f.length : Int) ∧ (f.length : Int) < (P.1.length : Int) := by omega
    have q2 : 0 ≤ (f.length : Int) ∧ (f.length : Int) < (Q.1.length : Int) := by omega
    have e1 : at_ (e := .list YElem) P.1 (f.length : Int) = adAt P.1 f.length := rfl
    have e2 : at_ (e := .list YElem) Q.1 (f.length : Int) = adAt Q.1 f.length := rfl
    have c0 : decide ((f.length : Int) ≤ (f.length : Int)) = true := decide_eq_true (Int.le_refl _)
    rw [L_R_Merged_0_step]
    simp only [c0, bct, if_pos q1, if_pos q2, e1, e2]
    show J_R_Merged_1 big m f P Q s.1 s.2 _ _ _ = _
    rw [merged_gap f P Q f.length m s a1.1 a1.2 (by omega) (by omega) (hsx _), merged_end f P Q]
    rfl
  | succ d ih =>
    intro i m s hi hm h1 h2
    cases m with
    | zero => omega
    | succ m =>
    have hil : i < f.length := by omega
    have a1 := had i
    rw [Nat.mul_succ] at h1 h2
    have gl := gapS_len (adAt P.1 i) (adAt Q.1 i) s
    have el := hel i hil
    have elp := el.lp
    have ell := elS_len (atE f i) (atrAt P.2.2 i) (atrAt Q.2.2 i) (cutAt P.2.1 i) (cutAt Q.2.1 i) (gapS (adAt P.1 i) (adAt Q.1 i) s)
    have q1 : 0 ≤ (i : Int) ∧ (i : Int) < (P.1.length : Int) := by omega
    have q2 : 0 ≤ (i : Int) ∧ (i : Int) < (Q.1.length : Int) := by omega
    have e1 : at_ (e := .list YElem) P.1 (i : Int) = adAt P.1 i := rfl
    have e2 : at_ (e := .list YElem) Q.1 (i : Int) = adAt Q.1 i := rfl
    have c0 : decide ((i : Int) ≤ (f.length : Int)) = true := decide_eq_true (by omega)
    rw [L_R_Merged_0_step]
    simp only [c0, bct, if_pos q1, if_pos q2, e1, e2]
    show J_R_Merged_1 big m f P Q s.1 s.2 _ _ _ = _
    rw [merged_gap f P Q i m s a1.1 a1.2 (by omega) (by omega) (hsx _), merged_el f P Q hP hQ lP lQ hf i hil el m _ (by omega) (by omega)]
    exact ih (i + 1) m _ (by omega) (by omega) (by omega) (by omega)
end
/-- The attributes of what units keep or cut. -/
def ats : List U → List Attrs
  | [] => []
  | .a _ :: us => ats us
  | .c :: us => [] :: ats us
  | .k t :: us => t :: ats us
theorem rdA_ats : ∀ (us : List U) (o : Act), (rdA us o).2.2 = o.2.2 ++ ats us
  | [], o => by rw [show ats [] = [] from rfl, List.append_nil]; rfl
  | .a x :: us, o => rdA_ats us (rdI x o)
  | .c :: us, o => by
    show (rdA us (aU true [] o)).2.2 = _
    rw [rdA_ats us]
    show (o.2.2 ++ [[]]) ++ ats us = _
    rw [List.append_assoc]; rfl
  | .k t :: us, o => by
    show (rdA us (aU false t o)).2.2 = _
    rw [rdA_ats us]
    show (o.2.2 ++ [t]) ++ ats us = _
    rw [List.append_assoc]; rfl
theorem ats_append : ∀ (us vs : List U), ats (us ++ vs) = ats us ++ ats vs
  | [], vs => rfl
  | .a x :: us, vs => ats_append us vs
  | .c :: us, vs => by show [] :: ats (us ++ vs) = _; rw [ats_append us vs]; rfl
  | .k t :: us, vs => by show t :: ats (us ++ vs) = _; rw [ats_append us vs]; rfl
/-- Each element's attributes are changed into those of an element of the other flow, or not at all. -/
def Alg : List Attrs → Flow → Flow → Prop
  | [], [], _ => True
  | t :: ts, x :: f, b => (t = [] ∨ ∃ y ∈ b, t = chg (ea x) (ea y)) ∧ Alg ts f b
  | _, _, _ => False
theorem alg_mono : ∀ (ts : List Attrs) (f b c : Flow), (∀ y ∈ b, y ∈ c) → Alg ts f b → Alg ts f c
  | [], [], _, _, _, _ => trivial
  | t :: ts, x :: f, b, c, h, ⟨h1, h2⟩ => ⟨h1.elim .inl fun ⟨y, hy, e⟩ => .inr ⟨y, h y hy, e⟩, alg_mono ts f b c h h2⟩
theorem alg_append : ∀ (ts ss : List Attrs) (f g b : Flow), Alg ts f b → Alg ss g b → Alg (ts ++ ss) (f ++ g) b
  | [], ss, [], g, b, _, h => h
  | t :: ts, ss, x :: f, g, b, ⟨h1, h2⟩, h => ⟨h1, alg_append ts ss f g b h2 h⟩
theorem alg_pa : ∀ (a b : Flow), Alg (ats (pa a b)) a b
  | [], b => by
    have : ∀ b : Flow, ats (b.map U.a) = [] := fun b => by
      induction b with
      | nil => rfl
      | cons x b ih => exact ih
    show Alg (ats (b.map U.a)) [] b
    rw [this]; trivial
  | x :: a, [] => ⟨.inl rfl, alg_pa a []⟩
  | x :: a, y :: b => by
    rw [pa_cc]
    split
    · exact ⟨.inr ⟨y, by simp, rfl⟩, alg_mono _ _ b _ (fun z hz => by simp [hz]) (alg_pa a b)⟩
    · split
      · exact ⟨.inl rfl, alg_pa a (y :: b)⟩
      · exact alg_mono _ _ b _ (fun z hz => by simp [hz]) (alg_pa (x :: a) b)
theorem alg_fu (a b : Flow) : Alg (ats (fu a b)) a b := by
  unfold fu
  split
  · rename_i h
    obtain ⟨t1, t2, t3, t4⟩ := tied_spec h
    rw [ats_append]
    have e := ini_lst t1
    have := alg_append (ats (pa (ini a) (ini b))) (ats [.k (chg (ea (lst a)) (ea (lst b)))]) (ini a) [lst a] b (alg_mono _ _ (ini b) _ (fun z hz => ini_mem hz) (alg_pa _ _)) ⟨.inr ⟨lst b, lst_mem t2, rfl⟩, trivial⟩
    rw [← e] at this
    exact this
  · exact alg_pa a b
theorem alg_at : ∀ (ts : List Attrs) (f b : Flow), Alg ts f b → ∀ i, i < f.length → atrAt ts i = [] ∨ ∃ y ∈ b, atrAt ts i = chg (ea (atE f i)) (ea y)
  | [], [], b, _, i, hi => by simp at hi
  | t :: ts, x :: f, b, ⟨h1, h2⟩, 0, hi => h1
  | t :: ts, x :: f, b, ⟨h1, h2⟩, i + 1, hi => alg_at ts f b h2 i (by simpa using hi)
theorem rdA_adds : ∀ (us : List U) (o : Act), ∀ r ∈ (rdA us o).1, ∀ e ∈ r, (∃ r' ∈ o.1, e ∈ r') ∨ U.a e ∈ us
  | [], o, r, hr, e, he => .inl ⟨r, hr, he⟩
  | .a x :: us, o, r, hr, e, he => by
    rcases rdA_adds us (rdI x o) r hr e he with ⟨r', h1, h2⟩ | h
    · rcases List.mem_or_eq_of_mem_set (show r' ∈ o.1.set _ _ from h1) with q | q
      · exact .inl ⟨r', q, h2⟩
      · rw [q] at h2
        rcases List.mem_append.1 h2 with z | z
        · rw [List.getD_eq_getElem?_getD] at z
          cases hq : o.1[o.2.1.length - tc o.2.1]? with
          | none => rw [hq] at z; simp at z
          | some y => rw [hq] at z; exact .inl ⟨y, List.mem_of_getElem? hq, z⟩
        · rw [List.mem_singleton.1 z]; exact .inr (by simp)
    · exact .inr (by simp [h])
  | .c :: us, o, r, hr, e, he => by
    rcases rdA_adds us (aU true [] o) r hr e he with ⟨r', h1, h2⟩ | h
    · rcases List.mem_append.1 (show r' ∈ o.1 ++ [[]] from h1) with q | q
      · exact .inl ⟨r', q, h2⟩
      · rw [List.mem_singleton.1 q] at h2; simp at h2
    · exact .inr (by simp [h])
  | .k t :: us, o, r, hr, e, he => by
    rcases rdA_adds us (aU false t o) r hr e he with ⟨r', h1, h2⟩ | h
    · rcases List.mem_append.1 (show r' ∈ o.1 ++ [[]] from h1) with q | q
      · exact .inl ⟨r', q, h2⟩
      · rw [List.mem_singleton.1 q] at h2; simp at h2
    · exact .inr (by simp [h])
theorem pa_adds : ∀ (a b : Flow) (e : YElem.den), U.a e ∈ pa a b → e ∈ b
  | [], b, e, h => by
    obtain ⟨x, hx, q⟩ := List.mem_map.1 h
    injection q with q
    rw [← q]; exact hx
  | x :: a, [], e, h => by
    rw [pa_c0] at h
    rcases List.mem_cons.1 h with q | q
    · cases q
    · exact pa_adds a [] e q
  | x :: a, y :: b, e, h => by
    rw [pa_cc] at h
    split at h
    · rcases List.mem_cons.1 h with q | q
      · cases q
      · simp [pa_adds a b e q]
    · split at h
      · rcases List.mem_cons.1 h with q | q
        · cases q
        · exact pa_adds a (y :: b) e q
      · rcases List.mem_cons.1 h with q | q
        · injection q with q; simp [q]
        · simp [pa_adds (x :: a) b e q]
theorem fu_adds (a b : Flow) (e : YElem.den) (h : U.a e ∈ fu a b) : e ∈ b := by
  unfold fu at h
  split at h
  · rcases List.mem_append.1 h with q | q
    · exact ini_mem (pa_adds _ _ e q)
    · cases List.mem_singleton.1 q
  · exact pa_adds a b e h
theorem ad_fu (a b : Flow) (i : Nat) : ∀ e ∈ adAt (rdA (fu a b) A0).1 i, e ∈ b := by
  intro e he
  unfold adAt at_ at he
  rw [Int.toNat_natCast, List.getD_eq_getElem?_getD] at he
  cases hq : (rdA (fu a b) A0).1[i]? with
  | none => rw [hq] at he; cases he
  | some r =>
    rw [hq] at he
    rcases rdA_adds (fu a b) A0 r (List.mem_of_getElem? hq) e he with ⟨r', h1, h2⟩ | h
    · have : r' = [] := by simpa [A0] using h1
      rw [this] at h2; simp at h2
    · exact fu_adds a b e h
theorem ad_len (l : List Flow) (i : Nat) : (adAt l i).length ≤ ebl l := by
  unfold adAt at_
  rw [Int.toNat_natCast, List.getD_eq_getElem?_getD]
  cases hq : l[i]? with
  | none => exact Nat.zero_le _
  | some r => exact ebl_mem l r (List.mem_of_getElem? hq)
theorem chd_va {l c : Attrs} (hl : Attr.err false l = 0) (hc : Attr.err true c = 0) : Attr.err false (chd l c) = 0 := by
  have f := raw_full hl hc
  rw [raw_chd hl hc] at f
  have nv := chd_nv hl hc
  exact srt_err f.1 (fun x hx => ⟨(nv x hx).1, (nv x hx).2.elim .inl fun q => absurd q.2 (f.2.2 x hx)⟩)
section
variable {f a b : Flow} (vf : Vf f) (va : Vf a) (vb : Vf b) (lf : f.length ≤ 8) (la : a.length ≤ 8) (lb : b.length ≤ 8)
  (hab : ∀ x ∈ f, ∀ y ∈ a, ∀ z ∈ b, 2 * (ea x).length + 2 * (ea y).length + 2 * (ea z).length ≤ 1048576) (hfa : ∀ x ∈ f, ∀ y ∈ a, 2 * (ea x).length + 2 * (ea y).length ≤ 1048576) (hfb : ∀ x ∈ f, ∀ y ∈ b, 2 * (ea x).length + 2 * (ea y).length ≤ 1048576)
include vf va lf la hfa
omit lf la in
theorem at_ok (i : Nat) (hi : i < f.length) : Attr.err true (atrAt (rdA (fu f a) A0).2.2 i) = 0 ∧ ((atrAt (rdA (fu f a) A0).2.2 i).length ≤ 1048576) ∧ (ea (atE f i)).length + (atrAt (rdA (fu f a) A0).2.2 i).length ≤ 1048576 := by
  rw [rdA_ats, show A0.2.2 = [] from rfl, List.nil_append]
  have hx := atE_mem f hi
  have hxl := (fs_mem vf.s hx).1
  rcases alg_at _ _ _ (alg_fu f a) i hi with h | ⟨y, hy, h⟩
  · rw [h]; exact ⟨rfl, Nat.zero_le _, by simp; omega⟩
  · have := chg_len (ea (atE f i)) (ea y)
    have := hfa _ hx y hy
    rw [h]
    exact ⟨chg_ok (vf.err _ hx) (va.err y hy), by omega, by omega⟩
theorem act_facts : AOk (rdA (fu f a) A0) ∧ (rdA (fu f a) A0).2.1.length = f.length ∧ (∀ i, (adAt (rdA (fu f a) A0).1 i).length ≤ 2000) ∧ ∀ i, Fs (adAt (rdA (fu f a) A0).1 i) := by
  obtain ⟨u1, u2, u3, u4, u5⟩ := units_all (fu f a)
  have z := actL_size (out (runP (fu f a) w0)) A0 ⟨rfl, rfl⟩
  obtain ⟨v1, v2, v3, v4, v5⟩ := fu_out vf va (by omega) (by omega) hfa
  have hv := (dErr_zero _ none 0 0 v1).1
  have hnb := nb_befs hv
  have y1 : A0.2.1.length = 0 := rfl
  have y2 : ebl A0.1 = 0 := rfl
  have heb := eb_small vf va (by omega) (by omega) hfa
  rw [u1] at z
  have l2 : ∀ i, (adAt (rdA (fu f a) A0).1 i).length ≤ 2000 := fun i => by
    have := ad_len (rdA (fu f a) A0).1 i
    omega
  exact ⟨u4, by omega, l2, fun i => fs_of (by have := l2 i; omega) (fun e he => fs_mem va.s (ad_fu f a i e he))⟩
include vb lb hfb hab
omit lf la lb in
theorem el_fu (i : Nat) (hi : i < f.length) : El (atE f i) (atrAt (rdA (fu f a) A0).2.2 i) (atrAt (rdA (fu f b) A0).2.2 i) := by
  have hx := atE_mem f hi
  have hxl := (fs_mem vf.s hx).1
  obtain ⟨p1, p2, p3⟩ := at_ok vf va hfa i hi
  obtain ⟨q1, q2, q3⟩ := at_ok vf vb hfb i hi
  refine ⟨hxl, p2, q2, q3, ?_, raw_chd (vf.err _ hx) q1, raw_chd (chd_va (vf.err _ hx) q1) p1⟩
  have e1 : atrAt (rdA (fu f b) A0).2.2 i = atrAt (ats (fu f b)) i := by rw [rdA_ats]; rfl
  have e2 : atrAt (rdA (fu f a) A0).2.2 i = atrAt (ats (fu f a)) i := by rw [rdA_ats]; rfl
  rw [e1, e2]
  have ch : (chd (ea (atE f i)) (atrAt (ats (fu f b)) i)).length ≤ (ea (atE f i)).length ∨ ∃ z ∈ b, (chd (ea (atE f i)) (atrAt (ats (fu f b)) i)).length ≤ (ea z).length := by
    rcases alg_at _ _ _ (alg_fu f b) i hi with h | ⟨z, hz, h⟩
    · rw [h, chd_nil (vf.ff _ hx)]; exact .inl (Nat.le_refl _)
    · rw [h, chg_btw (vf.ff _ hx) (vb.ff z hz), chd_btw (vf.ff _ hx) (vb.ff z hz)]; exact .inr ⟨z, hz, Nat.le_refl _⟩
  rcases alg_at _ _ _ (alg_fu f a) i hi with h | ⟨y, hy, h⟩
  · rw [h]
    rcases ch with c | ⟨z, hz, c⟩
    · simp; omega
    · have := (fs_mem vb.s hz).1
      simp; omega
  · rw [h]
    have := chg_len (ea (atE f i)) (ea y)
    have := hfa _ hx y hy
    rcases ch with c | ⟨z, hz, c⟩
    · omega
    · have := hab _ hx y hy z hz
      omega
/-- What is merged is small. -/
theorem mg_fs : Fs (mgL f (rdA (fu f a) A0) (rdA (fu f b) A0) f.length 0 ([], [])).1 ∧ ∀ c ∈ (mgL f (rdA (fu f a) A0) (rdA (fu f b) A0) f.length 0 ([], [])).2, c.2.1 = 0 := by
  obtain ⟨p1, p2, p3, p4⟩ := act_facts vf va lf la hfa
  obtain ⟨q1, q2, q3, q4⟩ := act_facts vf vb lf lb hfb
  have ell := el_fu vf va vb hab hfa hfb
  generalize hP : rdA (fu f a) A0 = P at p1 p2 p3 p4 ell
  generalize hQ : rdA (fu f b) A0 = Q at q1 q2 q3 q4 ell
  have gm : ∀ i (s : MS), (∀ e ∈ s.1, Sh (ea e)) → (∀ c ∈ s.2, c.2.1 = 0) → (∀ e ∈ (gapS (adAt P.1 i) (adAt Q.1 i) s).1, Sh (ea e)) ∧ ∀ c ∈ (gapS (adAt P.1 i) (adAt Q.1 i) s).2, c.2.1 = 0 := by
    intro i s h1 h2
    unfold gapS
    split
    · exact ⟨fun e he => (List.mem_append.1 he).elim (h1 e) (fun q => fs_mem (p4 i) q), h2⟩
    · refine ⟨fun e he => (List.mem_append.1 he).elim (fun q => (List.mem_append.1 q).elim (h1 e) (fun q => fs_mem (p4 i) q)) (fun q => fs_mem (q4 i) q), fun c hc => ?_⟩
      have hc : c ∈ (if emp (adAt P.1 i) = false ∧ emp (adAt Q.1 i) = false then s.2 ++ [mkC 0 s.1.length (s.1 ++ adAt P.1 i ++ adAt Q.1 i).length []] else s.2) := hc
      split at hc
      · rcases List.mem_append.1 hc with q | q
        · exact h2 c q
        · rw [List.mem_singleton.1 q]; rfl
      · exact h2 c hc
  have cz : ∀ (z : Int) (q p : Attrs), ∀ c ∈ cfl z q p, c.2.1 = 0 := by
    intro z q p
    induction p with
    | nil => intro c hc; simp [cfl] at hc
    | cons y p ih =>
      intro c hc
      rcases List.mem_append.1 (show c ∈ (if _ then [mkC 2 z (z + 1) (an y)] else []) ++ cfl z q p from hc) with w | w
      · split at w
        · rw [List.mem_singleton.1 w]; rfl
        · simp at w
      · exact ih c w
  have em : ∀ i, i < f.length → ∀ (s : MS), (∀ e ∈ s.1, Sh (ea e)) → (∀ c ∈ s.2, c.2.1 = 0) →
      (∀ e ∈ (elS (atE f i) (atrAt P.2.2 i) (atrAt Q.2.2 i) (cutAt P.2.1 i) (cutAt Q.2.1 i) s).1, Sh (ea e)) ∧ ∀ c ∈ (elS (atE f i) (atrAt P.2.2 i) (atrAt Q.2.2 i) (cutAt P.2.1 i) (cutAt Q.2.1 i) s).2, c.2.1 = 0 := by
    intro i hi s h1 h2
    unfold elS
    split
    · refine ⟨h1, fun c hc => ?_⟩
      have hc : c ∈ (if (cutAt P.2.1 i = false ∧ emp (atrAt P.2.2 i) = false) ∨ (cutAt Q.2.1 i = false ∧ emp (atrAt Q.2.2 i) = false) then s.2 ++ [mkC 1 s.1.length s.1.length []] else s.2) := hc
      split at hc
      · rcases List.mem_append.1 hc with q | q
        · exact h2 c q
        · rw [List.mem_singleton.1 q]; rfl
      · exact h2 c hc
    · refine ⟨fun e he => ?_, fun c hc => (List.mem_append.1 hc).elim (h2 c) (cz _ _ _ c)⟩
      rcases List.mem_append.1 he with q | q
      · exact h1 e q
      · rw [List.mem_singleton.1 q]
        have hx := atE_mem f hi
        have v1 := (at_ok vf va hfa i hi).1
        have v2 := (at_ok vf vb hfb i hi).1
        rw [hP] at v1
        rw [hQ] at v2
        have l1 := chd_len (chd (ea (atE f i)) (atrAt Q.2.2 i)) (atrAt P.2.2 i)
        have l2 := (ell i hi).xqp
        exact nv_sh (l := chd (chd (ea (atE f i)) (atrAt Q.2.2 i)) (atrAt P.2.2 i)) (by omega) (nv_of (chd_va (chd_va (vf.err _ hx) v2) v1))
  have all : ∀ (d i : Nat) (s : MS), i + d = f.length → (∀ e ∈ s.1, Sh (ea e)) → (∀ c ∈ s.2, c.2.1 = 0) → (∀ e ∈ (mgL f P Q d i s).1, Sh (ea e)) ∧ ∀ c ∈ (mgL f P Q d i s).2, c.2.1 = 0 := by
    intro d
    induction d with
    | zero => intro i s _ h1 h2; exact gm i s h1 h2
    | succ d ih =>
      intro i s hi h1 h2
      obtain ⟨g1, g2⟩ := gm i s h1 h2
      obtain ⟨g3, g4⟩ := em i (by omega) _ g1 g2
      exact ih (i + 1) _ (by omega) g3 g4
  have len : ∀ (d i : Nat) (s : MS), (mgL f P Q d i s).1.length ≤ s.1.length + 4001 * d + 4000 := by
    intro d
    induction d with
    | zero =>
      intro i s
      have := (gapS_len (adAt P.1 i) (adAt Q.1 i) s).1
      have := p3 i
      have := q3 i
      show (gapS (adAt P.1 i) (adAt Q.1 i) s).1.length ≤ _
      omega
    | succ d ih =>
      intro i s
      have h1 := (gapS_len (adAt P.1 i) (adAt Q.1 i) s).1
      have := p3 i
      have := q3 i
      have h2 := (elS_len (atE f i) (atrAt P.2.2 i) (atrAt Q.2.2 i) (cutAt P.2.1 i) (cutAt Q.2.1 i) (gapS (adAt P.1 i) (adAt Q.1 i) s)).1
      have h3 := ih (i + 1) (elS (atE f i) (atrAt P.2.2 i) (atrAt Q.2.2 i) (cutAt P.2.1 i) (cutAt Q.2.1 i) (gapS (adAt P.1 i) (adAt Q.1 i) s))
      show (mgL f P Q d (i + 1) _).1.length ≤ _
      omega
  obtain ⟨r1, r2⟩ := all f.length 0 ([], []) (by omega) (fun e he => by simp at he) (fun c hc => by simp at hc)
  have := len f.length 0 ([], [])
  exact ⟨fs_of (by simp at this; omega) r1, r2⟩
omit la lb in
theorem mg_clen : (mgL f (rdA (fu f a) A0) (rdA (fu f b) A0) f.length 0 ([], [])).2.length ≤ 1000000000 := by
  have ell := el_fu vf va vb hab hfa hfb
  generalize rdA (fu f a) A0 = P at ell
  generalize rdA (fu f b) A0 = Q at ell
  have all : ∀ (d i : Nat) (s : MS), i + d = f.length → (mgL f P Q d i s).2.length ≤ s.2.length + 1048578 * d + 1 := by
    intro d
    induction d with
    | zero => intro i s _; exact (gapS_len (adAt P.1 i) (adAt Q.1 i) s).2
    | succ d ih =>
      intro i s hi
      have h1 := (gapS_len (adAt P.1 i) (adAt Q.1 i) s).2
      have h2 := (elS_len (atE f i) (atrAt P.2.2 i) (atrAt Q.2.2 i) (cutAt P.2.1 i) (cutAt Q.2.1 i) (gapS (adAt P.1 i) (adAt Q.1 i) s)).2
      have h3 := ih (i + 1) (elS (atE f i) (atrAt P.2.2 i) (atrAt Q.2.2 i) (cutAt P.2.1 i) (cutAt Q.2.1 i) (gapS (adAt P.1 i) (adAt Q.1 i) s)) (by omega)
      have h4 := (ell i (by omega)).lp
      show (mgL f P Q d (i + 1) _).2.length ≤ _
      omega
  have := all f.length 0 ([], []) (by omega)
  have z : (([], []) : MS).2.length = 0 := rfl
  omega
theorem mflows_eq : C_merge_flows F_merge_flows 0 f a b = some (ret_merge_flows (mgL f (rdA (fu f a) A0) (rdA (fu f b) A0) f.length 0 ([], [])).1 (mgL f (rdA (fu f a) A0) (rdA (fu f b) A0) f.length 0 ([], [])).2) ∧
    C_R_Merged F_R_Merged f a b = some (ret_R_Merged (mgL f (rdA (fu f a) A0) (rdA (fu f b) A0) f.length 0 ([], [])).1 (mgL f (rdA (fu f a) A0) (rdA (fu f b) A0) f.length 0 ([], [])).2) := by
  obtain ⟨p1, p2, p3, p4⟩ := act_facts vf va lf la hfa
  obtain ⟨q1, q2, q3, q4⟩ := act_facts vf vb lf lb hfb
  have ell := el_fu vf va vb hab hfa hfb
  have fs := (mg_fs vf va vb lf la lb hab hfa hfb).1
  have rd : ∀ c : Flow, Vf c → c.length ≤ 8 → (∀ x ∈ f, ∀ y ∈ c, 2 * (ea x).length + 2 * (ea y).length ≤ 1048576) → C_merge_read F_merge_read (f.length : Int) (out (runP (fu f c) w0)) = some (ret_merge_read (rdA (fu f c) A0)) := by
    intro c vc lc hfc
    obtain ⟨v1, v2, v3, v4, v5⟩ := fu_out vf vc (by omega) (by omega) hfc
    have hv := (dErr_zero _ none 0 0 v1).1
    have hnb := nb_befs hv
    have := read_eq (out (runP (fu f c) w0)) (by omega) hv f.length (by omega) (by omega) (rdOk_out _)
    rw [(units_all (fu f c)).1] at this
    exact this
  have r1 := diff_raw_eq f a (by omega) (by omega) vf va (fun x hx y hy => by have := hfa x hx y hy; omega)
  have r2 := diff_raw_eq f b (by omega) (by omega) vf vb (fun x hx y hy => by have := hfb x hx y hy; omega)
  have d1 := dact_eq vf va (cx_of vf (by omega) (by omega) hfa)
  have d2 := dact_eq vf vb (cx_of vf (by omega) (by omega) hfb)
  constructor
  · rw [e_merge_flows]
    simp only [r1, r2, Option.bind_some, res_diff_Raw_0_ret, rd a va la hfa, rd b vb lb hfb, res_merge_read_0_ret]
    exact flows_loop f (rdA (fu f a) A0) (rdA (fu f b) A0) p1 q1 p2 q2 (by omega) ell (fun i => ⟨p3 i, q3 i⟩) (fun i e he => (fs_mem (p4 i) he).1) 4001 1048578 100000 20000000 (Nat.le_refl _) (by decide) (Nat.le_refl _) (by decide) f.length 0 big ([], []) (by omega) (big_ge (n := f.length + 1) (by omega)) (by show 0 + _ ≤ _; omega) (by show 0 + _ ≤ _; omega) (fun e he => (fs_mem fs he).1)
  · rw [e_R_Merged]
    simp only [d1, d2, Option.bind_some, res_R_DiffAct_0_ret]
    exact merged_loop f (rdA (fu f a) A0) (rdA (fu f b) A0) p1 q1 p2 q2 (by omega) ell (fun i => ⟨p3 i, q3 i⟩) p4 4001 1048578 100000 20000000 (Nat.le_refl _) (by decide) (Nat.le_refl _) (by decide) f.length 0 big ([], []) (by omega) (big_ge (n := f.length + 1) (by omega)) (by show 0 + _ ≤ _; omega) (by show 0 + _ ≤ _; omega)
end
end Go.Ev.Diff
namespace Go.Ev.Diff
open Go.Ev Go.Ev.Attr Go.Ev.Track Go.Ev.Delta
set_option linter.unusedVariables false
set_option linter.unusedSimpArgs false
set_option maxRecDepth 100000
/-- The first error of three flows. -/
def mErr (f a b : Flow) : Int := if pErr f ≠ 0 then pErr f else if pErr a ≠ 0 then pErr a else pErr b
noncomputable def mRes (f a b : Flow) : MS := mgL f (rdA (fu f a) A0) (rdA (fu f b) A0) f.length 0 ([], [])
/-- Enough room for the attributes of three. -/
structure Ab (f a b : Flow) : Prop where
  abc : ∀ x ∈ f, ∀ y ∈ a, ∀ z ∈ b, 2 * (ea x).length + 2 * (ea y).length + 2 * (ea z).length ≤ 1048576
  fa : ∀ x ∈ f, ∀ y ∈ a, 2 * (ea x).length + 2 * (ea y).length ≤ 1048576
  fb : ∀ x ∈ f, ∀ y ∈ b, 2 * (ea x).length + 2 * (ea y).length ≤ 1048576
section
variable (f a b : Flow) (sf : Fs f) (sa : Fs a) (sb : Fs b) (lf : f.length ≤ 8) (la : a.length ≤ 8) (lb : b.length ≤ 8) (hab : Ab f a b)
include sf sa sb lf la lb hab
theorem mFlows_eq : C_merge_Flows F_merge_Flows f a b = some (if mErr f a b = 0 then ret_merge_Flows (mRes f a b).1 (mRes f a b).2 0 else ret_merge_Flows [] [] (mErr f a b)) := by
  obtain ⟨m, hm⟩ := big_succ (n := 3) (by omega)
  have t0 : decide ((0 : Int) < 3) = true := rfl
  have t1 : decide ((1 : Int) < 3) = true := rfl
  have t2 : decide ((2 : Int) < 3) = true := rfl
  have t3 : decide ((3 : Int) < 3) = false := rfl
  have q0 : 0 ≤ (0 : Int) ∧ (0 : Int) < 3 := by decide
  have q1 : 0 ≤ (1 : Int) ∧ (1 : Int) < 3 := by decide
  have q2 : 0 ≤ (2 : Int) ∧ (2 : Int) < 3 := by decide
  have e0 : at_ (e := .list YElem) [f, a, b] 0 = f := rfl
  have e1 : at_ (e := .list YElem) [f, a, b] 1 = a := rfl
  have e2 : at_ (e := .list YElem) [f, a, b] 2 = b := rfl
  have w0' : IntKind.i64.wrap (0 + 1) = 1 := rfl
  have w1' : IntKind.i64.wrap (1 + 1) = 2 := rfl
  have w2' : IntKind.i64.wrap (2 + 1) = 3 := rfl
  have hb : big = m + 1 + 1 + 1 + 1 := by omega
  have c0 : decide ((f.length : Int) > 2000) = false := decide_eq_false (by omega)
  have c1 : decide ((a.length : Int) > 2000) = false := decide_eq_false (by omega)
  have c2 : decide ((b.length : Int) > 2000) = false := decide_eq_false (by omega)
  have two : pErr f = 0 → pErr a = 0 → pErr b = 0 → L_merge_Flows_1 big big f a b f a b 0 = some (ret_merge_Flows (mRes f a b).1 (mRes f a b).2 0) := by
    intro h1 h2 h3
    have mf := (mflows_eq ⟨h1, sf⟩ ⟨h2, sa⟩ ⟨h3, sb⟩ lf la lb hab.abc hab.fa hab.fb).1
    rw [show L_merge_Flows_1 big big f a b f a b 0 = L_merge_Flows_1 big (m + 1 + 1 + 1 + 1) f a b f a b 0 by rw [← hb], L_merge_Flows_1_step]
    simp only [t0, bct, if_pos q0, e0, c0, bcf, w0']
    rw [L_merge_Flows_1_step]
    simp only [t1, bct, if_pos q1, e1, c1, bcf, w1']
    rw [L_merge_Flows_1_step]
    simp only [t2, bct, if_pos q2, e2, c2, bcf, w2']
    rw [L_merge_Flows_1_step]
    simp only [t3, bcf, mf, Option.bind_some, res_merge_flows_0_ret, res_merge_flows_1_ret]
    rfl
  rw [e_merge_Flows, show L_merge_Flows_0 big big f a b f a b 0 = L_merge_Flows_0 big (m + 1 + 1 + 1 + 1) f a b f a b 0 by rw [← hb], L_merge_Flows_0_step]
  by_cases h1 : pErr f = 0
  · simp only [t0, bct, if_pos q0, e0, (part_eq f sf).1, Option.bind_some, res_flow_CheckPart_0_ret, h1, bne_self_eq_false, bcf, w0']
    rw [L_merge_Flows_0_step]
    by_cases h2 : pErr a = 0
    · simp only [t1, bct, if_pos q1, e1, (part_eq a sa).1, Option.bind_some, res_flow_CheckPart_0_ret, h2, bne_self_eq_false, bcf, w1']
      rw [L_merge_Flows_0_step]
      by_cases h3 : pErr b = 0
      · have me : mErr f a b = 0 := by
          unfold mErr
          rw [if_neg (show ¬ pErr f ≠ 0 by simp [h1]), if_neg (show ¬ pErr a ≠ 0 by simp [h2]), h3]
        rw [if_pos me]
        simp only [t2, bct, if_pos q2, e2, (part_eq b sb).1, Option.bind_some, res_flow_CheckPart_0_ret, h3, bne_self_eq_false, bcf, w2']
        rw [L_merge_Flows_0_step]
        simp only [t3, bcf]
        exact two h1 h2 h3
      · have z : (pErr b != 0) = true := by simpa using h3
        have me : mErr f a b = pErr b := by
          unfold mErr
          rw [if_neg (show ¬ pErr f ≠ 0 by simp [h1]), if_neg (show ¬ pErr a ≠ 0 by simp [h2])]
        rw [me, if_neg h3]
        simp only [t2, bct, if_pos q2, e2, (part_eq b sb).1, Option.bind_some, res_flow_CheckPart_0_ret, z]
    · have z : (pErr a != 0) = true := by simpa using h2
      have me : mErr f a b = pErr a := by
        unfold mErr
        rw [if_neg (show ¬ pErr f ≠ 0 by simp [h1]), if_pos (show pErr a ≠ 0 from h2)]
      rw [me, if_neg h2]
      simp only [t1, bct, if_pos q1, e1, (part_eq a sa).1, Option.bind_some, res_flow_CheckPart_0_ret, z]
  · have z : (pErr f != 0) = true := by simpa using h1
    have me : mErr f a b = pErr f := by
      unfold mErr
      rw [if_pos (show pErr f ≠ 0 from h1)]
    rw [me, if_neg h1]
    simp only [t0, bct, if_pos q0, e0, (part_eq f sf).1, Option.bind_some, res_flow_CheckPart_0_ret, z]
omit sf sa sb lf la lb hab in
theorem sc_loop (c : List Conf) (hl : c.length ≤ 1000000000) (hz : ∀ x ∈ c, x.2.1 = 0) : ∀ (d i m : Nat), i + d = c.length → d < m → L_R_SameConflicts_0 big m c c 0 (c.length : Int) (i : Int) = some (ret_R_SameConflicts true) := by
  intro d
  induction d with
  | zero =>
    intro i m hi hm
    cases m with
    | zero => omega
    | succ m =>
    obtain rfl : i = c.length := by omega
    rw [L_R_SameConflicts_0_step]
    simp only [dlt_self, bcf]
  | succ d ih =>
    intro i m hi hm
    cases m with
    | zero => omega
    | succ m =>
    have hil : i < c.length := by omega
    have w1 := wsucc hil (show c.length ≤ 4611686018427387904 by omega)
    have q1 : 0 ≤ (i : Int) ∧ (i : Int) < (c.length : Int) := by omega
    have z := hz _ (List.getElem_mem hil)
    rw [← at_get (e := YConflict) c i hil] at z
    rw [L_R_SameConflicts_0_step]
    simp only [dlt hil, bct, if_pos q1, z, beq_self_eq_true, Bool.and_true, Bool.not_true, bcf, w1]
    exact ih (i + 1) m (by omega) (by omega)
theorem law_main : ((C_merge_Flows F_merge_Flows f a b).bind fun r2 => L_law_MergeFlowsMatch_0 big big f a b (res_merge_Flows_0 r2) (res_merge_Flows_1 r2) (res_merge_Flows_2 r2) f a b 0) = some (ret_law_MergeFlowsMatch true) := by
  obtain ⟨m, hm⟩ := big_succ (n := 3) (by omega)
  have t0 : decide ((0 : Int) < 3) = true := rfl
  have t1 : decide ((1 : Int) < 3) = true := rfl
  have t2 : decide ((2 : Int) < 3) = true := rfl
  have t3 : decide ((3 : Int) < 3) = false := rfl
  have q0 : 0 ≤ (0 : Int) ∧ (0 : Int) < 3 := by decide
  have q1 : 0 ≤ (1 : Int) ∧ (1 : Int) < 3 := by decide
  have q2 : 0 ≤ (2 : Int) ∧ (2 : Int) < 3 := by decide
  have e0 : at_ (e := .list YElem) [f, a, b] 0 = f := rfl
  have e1 : at_ (e := .list YElem) [f, a, b] 1 = a := rfl
  have e2 : at_ (e := .list YElem) [f, a, b] 2 = b := rfl
  have w0' : IntKind.i64.wrap (0 + 1) = 1 := rfl
  have w1' : IntKind.i64.wrap (1 + 1) = 2 := rfl
  have w2' : IntKind.i64.wrap (2 + 1) = 3 := rfl
  have hb : big = m + 1 + 1 + 1 + 1 := by omega
  have wz : IntKind.i64.wrap ((List.length ([] : List YElem.den) : Int) + (List.length ([] : List YConflict.den) : Int)) = 0 := rfl
  rw [mFlows_eq f a b sf sa sb lf la lb hab]
  generalize hr : (if mErr f a b = 0 then ret_merge_Flows (mRes f a b).1 (mRes f a b).2 0 else ret_merge_Flows [] [] (mErr f a b)) = r
  simp only [Option.bind_some]
  rw [show L_law_MergeFlowsMatch_0 big big f a b (res_merge_Flows_0 r) (res_merge_Flows_1 r) (res_merge_Flows_2 r) f a b 0 = L_law_MergeFlowsMatch_0 big (m + 1 + 1 + 1 + 1) f a b (res_merge_Flows_0 r) (res_merge_Flows_1 r) (res_merge_Flows_2 r) f a b 0 by rw [← hb], L_law_MergeFlowsMatch_0_step]
  by_cases h1 : pErr f = 0
  · simp only [t0, bct, if_pos q0, e0, (part_eq f sf).2, Option.bind_some, res_R_PartError_0_ret, h1, bne_self_eq_false, bcf, w0']
    rw [L_law_MergeFlowsMatch_0_step]
    by_cases h2 : pErr a = 0
    · simp only [t1, bct, if_pos q1, e1, (part_eq a sa).2, Option.bind_some, res_R_PartError_0_ret, h2, bne_self_eq_false, bcf, w1']
      rw [L_law_MergeFlowsMatch_0_step]
      by_cases h3 : pErr b = 0
      · have me : mErr f a b = 0 := by
          unfold mErr
          rw [if_neg (show ¬ pErr f ≠ 0 by simp [h1]), if_neg (show ¬ pErr a ≠ 0 by simp [h2]), h3]
        rw [if_pos me] at hr
        subst hr
        have md := (mflows_eq ⟨h1, sf⟩ ⟨h2, sa⟩ ⟨h3, sb⟩ lf la lb hab.abc hab.fa hab.fb).2
        obtain ⟨fs, hz⟩ := mg_fs ⟨h1, sf⟩ ⟨h2, sa⟩ ⟨h3, sb⟩ lf la lb hab.abc hab.fa hab.fb
        have sfl := sflow_eq (mRes f a b).1 (mRes f a b).1 fs
        rw [(eqF_iff _ _).2 rfl] at sfl
        have cl : (mRes f a b).2.length ≤ 1000000000 := mg_clen ⟨h1, sf⟩ ⟨h2, sa⟩ ⟨h3, sb⟩ lf hab.abc hab.fa hab.fb
        have sc := sc_loop (mRes f a b).2 cl hz (mRes f a b).2.length 0 big (by omega) (big_ge (n := (mRes f a b).2.length + 1) (by omega))
        have sc' : C_R_SameConflicts F_R_SameConflicts (mRes f a b).2 (mRes f a b).2 0 = some (ret_R_SameConflicts true) := by
          rw [e_R_SameConflicts, bne_self_eq_false, bcf]; exact sc
        have md' : C_R_Merged F_R_Merged f a b = some (ret_R_Merged (mRes f a b).1 (mRes f a b).2) := md
        simp only [t2, bct, if_pos q2, e2, (part_eq b sb).2, Option.bind_some, res_R_PartError_0_ret, h3, bne_self_eq_false, bcf, w2']
        rw [L_law_MergeFlowsMatch_0_step]
        simp only [t3, bcf, bct, md', Option.bind_some, res_merge_Flows_0_ret, res_merge_Flows_1_ret, res_merge_Flows_2_ret, beq_self_eq_true, res_R_Merged_0_ret, res_R_Merged_1_ret, sfl, res_R_SameFlow_0_ret, sc', res_R_SameConflicts_0_ret]
      · have z : (pErr b != 0) = true := by simpa using h3
        have me : mErr f a b = pErr b := by
          unfold mErr
          rw [if_neg (show ¬ pErr f ≠ 0 by simp [h1]), if_neg (show ¬ pErr a ≠ 0 by simp [h2])]
        rw [me, if_neg h3] at hr
        subst hr
        simp only [t2, bct, if_pos q2, e2, (part_eq b sb).2, Option.bind_some, res_R_PartError_0_ret, z, res_merge_Flows_0_ret, res_merge_Flows_1_ret, res_merge_Flows_2_ret, beq_self_eq_true, wz]
    · have z : (pErr a != 0) = true := by simpa using h2
      have me : mErr f a b = pErr a := by
        unfold mErr
        rw [if_neg (show ¬ pErr f ≠ 0 by simp [h1]), if_pos (show pErr a ≠ 0 from h2)]
      rw [me, if_neg h2] at hr
      subst hr
      simp only [t1, bct, if_pos q1, e1, (part_eq a sa).2, Option.bind_some, res_R_PartError_0_ret, z, res_merge_Flows_0_ret, res_merge_Flows_1_ret, res_merge_Flows_2_ret, beq_self_eq_true, wz]
  · have z : (pErr f != 0) = true := by simpa using h1
    have me : mErr f a b = pErr f := by
      unfold mErr
      rw [if_pos (show pErr f ≠ 0 from h1)]
    rw [me, if_neg h1] at hr
    subst hr
    simp only [t0, bct, if_pos q0, e0, (part_eq f sf).2, Option.bind_some, res_R_PartError_0_ret, z, res_merge_Flows_0_ret, res_merge_Flows_1_ret, res_merge_Flows_2_ret, beq_self_eq_true, wz]
end
theorem merge_facts : C_law_merges F_law_merges = some (ret_law_merges true) := by
  have A1 := letters_eq [97, 98] (by decide)
  have A2 := letters_eq [97, 120, 98] (by decide)
  have A3 := letters_eq [97, 121, 98] (by decide)
  have A4 := letters_eq [97, 120, 121, 98] (by decide)
  have ab0 : ∀ x : YElem.den, ea x = [] → ∀ y : YElem.den, ea y = [] → 2 * (ea x).length + 2 * (ea y).length ≤ 1048576 := fun x hx y hy => by rw [hx, hy]; decide
  have hab : Ab (lts [97, 98]) (lts [97, 120, 98]) (lts [97, 121, 98]) := ⟨fun x hx y hy z hz => by rw [ea_lts _ x hx, ea_lts _ y hy, ea_lts _ z hz]; decide, fun x hx y hy => ab0 x (ea_lts _ x hx) y (ea_lts _ y hy), fun x hx y hy => ab0 x (ea_lts _ x hx) y (ea_lts _ y hy)⟩
  have M := mFlows_eq (lts [97, 98]) (lts [97, 120, 98]) (lts [97, 121, 98]) (fs_lts _ (by decide)) (fs_lts _ (by decide)) (fs_lts _ (by decide)) (by decide) (by decide) (by decide) hab
  have e1 : mErr (lts [97, 98]) (lts [97, 120, 98]) (lts [97, 121, 98]) = 0 := by kernel_rfl
  have f1 : fu (lts [97, 98]) (lts [97, 120, 98]) = [U.k [], U.a (mkE 120 0 []), U.k []] := by
    unfold fu
    rw [show tied (lts [97, 98]) (lts [97, 120, 98]) = false by kernel_rfl, if_neg (by decide)]
    have : pa (lts [97, 98]) (lts [97, 120, 98]) = [U.k (chg [] []), U.a (mkE 120 0 []), U.k (chg [] [])] := by kernel_rfl
    rw [this, chg_nil]
  have f2 : fu (lts [97, 98]) (lts [97, 121, 98]) = [U.k [], U.a (mkE 121 0 []), U.k []] := by
    unfold fu
    rw [show tied (lts [97, 98]) (lts [97, 121, 98]) = false by kernel_rfl, if_neg (by decide)]
    have : pa (lts [97, 98]) (lts [97, 121, 98]) = [U.k (chg [] []), U.a (mkE 121 0 []), U.k (chg [] [])] := by kernel_rfl
    rw [this, chg_nil]
  have g0 : ∀ s : MS, gapS [] [] s = s := fun s => by
    unfold gapS
    rw [(eqF_iff [] []).2 rfl, if_pos rfl, List.append_nil]
  have ne : eqF [mkE 120 0 []] [mkE 121 0 []] = false := by
    cases h : eqF [mkE 120 0 []] [mkE 121 0 []] with
    | false => rfl
    | true =>
      have := (eqF_iff _ _).1 h
      injection this with h1 _
      injection h1 with h2 _
      cases h2
  have g1 : ∀ s : MS, gapS [mkE 120 0 []] [mkE 121 0 []] s = (s.1 ++ [mkE 120 0 []] ++ [mkE 121 0 []], s.2 ++ [mkC 0 s.1.length (s.1 ++ [mkE 120 0 []] ++ [mkE 121 0 []]).length []]) := fun s => by
    unfold gapS
    rw [ne, if_neg (by decide), if_pos ⟨rfl, rfl⟩]
  have res : mRes (lts [97, 98]) (lts [97, 120, 98]) (lts [97, 121, 98]) = (lts [97, 120, 121, 98], [mkC 0 1 3 []]) := by
    unfold mRes
    rw [f1, f2]
    show gapS [] [] (elS (mkE 98 0 []) [] [] false false (gapS [mkE 120 0 []] [mkE 121 0 []] (elS (mkE 97 0 []) [] [] false false (gapS [] [] ([], []))))) = _
    rw [g0, g0, g1]
    rfl
  rw [if_pos e1, res] at M
  have sf := sflow_eq (lts [97, 120, 121, 98]) (lts [97, 120, 121, 98]) (fs_lts _ (by decide))
  rw [(eqF_iff _ _).2 rfl] at sf
  rw [e_law_merges, A1, A2, A3, A4]
  simp only [Option.bind_some, res_law_letters_0_ret, M, res_merge_Flows_0_ret, res_merge_Flows_1_ret, res_merge_Flows_2_ret, beq_self_eq_true, bct, sf, res_R_SameFlow_0_ret]
  rfl
theorem law_merge (f a b : Flow) (sf : Fs f) (sa : Fs a) (sb : Fs b) (hab : Ab f a b) : C_law_MergeFlowsMatch F_law_MergeFlowsMatch f a b = some (ret_law_MergeFlowsMatch true) := by
  have lf := sf.1
  have la := sa.1
  have lb := sb.1
  have t10 : Int.toNat 8 = 8 := rfl
  have t0 : Int.toNat 0 = 0 := rfl
  have l1 : (a.take 8).length ≤ 8 := by rw [List.length_take]; omega
  have l2 : (b.take 8).length ≤ 8 := by rw [List.length_take]; omega
  have l3 : (f.take 8).length ≤ 8 := by rw [List.length_take]; omega
  have J : ∀ f : Flow, Fs f → f.length ≤ 8 → Ab f a b → J_law_MergeFlowsMatch_0 big f a b = some (ret_law_MergeFlowsMatch true) := by
    intro f sf lf hab
    unfold J_law_MergeFlowsMatch_0
    simp only [t10, t0, List.drop_zero]
    by_cases ha : 8 < a.length
    · have c1 : decide ((a.length : Int) > 8) = true := decide_eq_true (by omega)
      have q1 : 0 ≤ (8 : Int) ∧ (8 : Int) ≤ (a.length : Int) ∧ 0 ≤ (0 : Int) ∧ (0 : Int) ≤ 8 := by omega
      by_cases hb : 8 < b.length
      · have c2 : decide ((b.length : Int) > 8) = true := decide_eq_true (by omega)
        have q2 : 0 ≤ (8 : Int) ∧ (8 : Int) ≤ (b.length : Int) ∧ 0 ≤ (0 : Int) ∧ (0 : Int) ≤ 8 := by omega
        simp only [c1, c2, bct, if_pos q1, if_pos q2]
        exact law_main f _ _ sf (fs_take sa 8) (fs_take sb 8) lf l1 l2 ⟨fun x hx y hy z hz => hab.abc x hx y (List.mem_of_mem_take hy) z (List.mem_of_mem_take hz), fun x hx y hy => hab.fa x hx y (List.mem_of_mem_take hy), fun x hx y hy => hab.fb x hx y (List.mem_of_mem_take hy)⟩
      · have c2 : decide ((b.length : Int) > 8) = false := decide_eq_false (by omega)
        simp only [c1, c2, bct, bcf, if_pos q1]
        exact law_main f _ _ sf (fs_take sa 8) sb lf l1 (by omega) ⟨fun x hx y hy z hz => hab.abc x hx y (List.mem_of_mem_take hy) z hz, fun x hx y hy => hab.fa x hx y (List.mem_of_mem_take hy), hab.fb⟩
    · have c1 : decide ((a.length : Int) > 8) = false := decide_eq_false (by omega)
      by_cases hb : 8 < b.length
      · have c2 : decide ((b.length : Int) > 8) = true := decide_eq_true (by omega)
        have q2 : 0 ≤ (8 : Int) ∧ (8 : Int) ≤ (b.length : Int) ∧ 0 ≤ (0 : Int) ∧ (0 : Int) ≤ 8 := by omega
        simp only [c1, c2, bct, bcf, if_pos q2]
        exact law_main f _ _ sf sa (fs_take sb 8) lf (by omega) l2 ⟨fun x hx y hy z hz => hab.abc x hx y hy z (List.mem_of_mem_take hz), hab.fa, fun x hx y hy => hab.fb x hx y (List.mem_of_mem_take hy)⟩
      · have c2 : decide ((b.length : Int) > 8) = false := decide_eq_false (by omega)
        simp only [c1, c2, bcf]
        exact law_main f _ _ sf sa sb lf (by omega) (by omega) hab
  rw [e_law_MergeFlowsMatch, merge_facts]
  simp only [Option.bind_some, res_law_merges_0_ret, Bool.not_true, bcf, t10, t0, List.drop_zero]
  by_cases hf : 8 < f.length
  · have c1 : decide ((f.length : Int) > 8) = true := decide_eq_true (by omega)
    have q1 : 0 ≤ (8 : Int) ∧ (8 : Int) ≤ (f.length : Int) ∧ 0 ≤ (0 : Int) ∧ (0 : Int) ≤ 8 := by omega
    simp only [c1, bct, if_pos q1]
    exact J _ (fs_take sf 8) l3 ⟨fun x hx => hab.abc x (List.mem_of_mem_take hx), fun x hx => hab.fa x (List.mem_of_mem_take hx), fun x hx => hab.fb x (List.mem_of_mem_take hx)⟩
  · have c1 : decide ((f.length : Int) > 8) = false := decide_eq_false (by omega)
    simp only [c1, bcf]
    exact J f sf (by omega) hab
theorem ea_bulk {f : Flow} {x : YElem.den} (hx : x ∈ f) : 2 * (ea x).length + 3 ≤ (Ty.list YElem).bulk f := by
  have q1 := bulk_mem f x hx
  have e1 : Ty.bulk YElem x = 1 + (1 + (Ty.list YAttr).bulk (ea x)) := rfl
  have q3 := bulk2 (ea x)
  rw [e1] at q1
  omega
theorem holdsMerge (f a b : Flow) (o0 : (Ty.list YElem).ok f) (o1 : (Ty.list YElem).ok a) (o2 : (Ty.list YElem).ok b) (hb : (Ty.list YElem).bulk f + (Ty.list YElem).bulk a + (Ty.list YElem).bulk b ≤ 1048576) :
    C_law_MergeFlowsMatch F_law_MergeFlowsMatch f a b = some (ret_law_MergeFlowsMatch true) :=
  law_merge f a b (fs_bulk (by omega)) (fs_bulk (by omega)) (fs_bulk (by omega)) ⟨fun x hx y hy z hz => by have := ea_bulk hx; have := ea_bulk hy; have := ea_bulk hz; omega, fun x hx y hy => by have := ea_bulk hx; have := ea_bulk hy; omega, fun x hx y hy => by have := ea_bulk hx; have := ea_bulk hy; omega⟩
end Go.Ev.Diff
