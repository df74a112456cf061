
/- Tidy: the law. -/
import Derived.Test.YtlgjdgebmiegeaaPTidyB
import Derived.Test.YtlgjdgebmiegeaaPSame
namespace Go.Ev.Delta
open Go.Ev Go.Ev.Attr Go.Ev.Track
set_option linter.unusedVariables false
set_option linter.unusedSimpArgs false

theorem cB_append : ∀ (x y : List U), cB (x ++ y) = cB x + cB y
  | [], y => by simp [cB]
  | .a e :: x, y => by simpa [cB] using cB_append x y
  | .c :: x, y => by have := cB_append x y; simp only [List.cons_append, cB]; omega
  | .k t :: x, y => by have := cB_append x y; simp only [List.cons_append, cB]; omega
theorem cA_append : ∀ (x y : List U), cA (x ++ y) = cA x + cA y
  | [], y => by simp [cA]
  | .a e :: x, y => by have := cA_append x y; simp only [List.cons_append, cA]; omega
  | .c :: x, y => by simpa [cA] using cA_append x y
  | .k t :: x, y => by have := cA_append x y; simp only [List.cons_append, cA]; omega
theorem cB_a : ∀ (x : Flow), cB (x.map U.a) = 0 ∧ cA (x.map U.a) = x.length
  | [] => ⟨rfl, rfl⟩
  | e :: x => by
    obtain ⟨h1, h2⟩ := cB_a x
    exact ⟨h1, by show cA (x.map U.a) + 1 = x.length + 1; rw [h2]⟩
theorem cB_uni (n : Nat) (c : Bool) (t : Attrs) : cB (List.replicate n (uni c t)) = n ∧ cA (List.replicate n (uni c t)) = if c = true then 0 else n := by
  induction n with
  | zero => cases c <;> exact ⟨rfl, rfl⟩
  | succ n ih =>
    rw [List.replicate_succ]
    cases c
    · exact ⟨by show cB _ + 1 = _; rw [ih.1], by show cA _ + 1 = _; rw [ih.2]; rfl⟩
    · exact ⟨by show cB _ + 1 = _; rw [ih.1], by show cA (List.replicate n (uni true t)) = _; rw [ih.2]; rfl⟩
theorem cB_ex : ∀ (l : Steps), cB (ex l) = nb l ∧ cA (ex l) ≤ nb l + eb l
  | [] => ⟨rfl, Nat.le_refl _⟩
  | s :: l => by
    obtain ⟨h1, h2⟩ := cB_ex l
    have hS : cB (exS s) = (if sk s = 1 then 0 else (sn s).toNat) ∧ cA (exS s) ≤ (if sk s = 1 then 0 else (sn s).toNat) + (se s).length := by
      unfold exS
      split
      · obtain ⟨q1, q2⟩ := cB_a (se s); exact ⟨q1, by omega⟩
      · obtain ⟨q1, q2⟩ := cB_uni (sn s).toNat (sk s == 2) (sa s)
        exact ⟨q1, by rw [q2]; split <;> omega⟩
    show cB (exS s ++ ex l) = (if sk s = 1 then 0 else (sn s).toNat) + nb l ∧ cA (exS s ++ ex l) ≤ (if sk s = 1 then 0 else (sn s).toNat) + nb l + ((se s).length + eb l)
    rw [cB_append, cA_append]
    omega
theorem pErr_mem : ∀ {f : Flow}, pErr f = 0 → ∀ x ∈ f, eErr x = 0
  | [], _, x, hx => by simp at hx
  | y :: f, h, x, hx => by
    simp only [pErr] at h
    split at h
    · rename_i h1; exact absurd h h1
    · rename_i h1
      rcases List.mem_cons.1 hx with rfl | hx
      · exact Decidable.not_not.1 h1
      · exact pErr_mem h x hx
theorem ok_exS {s : YStep.den} (h1 : sk s = 1 → pErr (se s) = 0) (h2 : Attr.err true (sa s) = 0) : ∀ u ∈ exS s, okU u := by
  intro u hu
  unfold exS at hu
  split at hu
  · rename_i k1
    obtain ⟨x, hx, rfl⟩ := List.mem_map.1 hu
    exact pErr_mem (h1 k1) x hx
  · rw [List.eq_of_mem_replicate hu]
    unfold uni
    split
    · exact trivial
    · exact h2
theorem ok_ex : ∀ {l : Steps}, (∀ s ∈ l, (sk s = 1 → pErr (se s) = 0) ∧ Attr.err true (sa s) = 0) → ∀ u ∈ ex l, okU u
  | [], _, u, hu => by simp [ex] at hu
  | s :: l, h, u, hu => by
    rcases List.mem_append.1 (show u ∈ exS s ++ ex l from hu) with hu | hu
    · exact ok_exS (h s (by simp)).1 (h s (by simp)).2 u hu
    · exact ok_ex (fun t ht => h t (by simp [ht])) u hu
theorem tErr_units {s : YStep.den} (h : tErr s = 0) : (sk s = 1 → pErr (se s) = 0) ∧ Attr.err true (sa s) = 0 := by
  have ht := tErr_zero h
  exact ⟨fun k => (ht.z k).2, ht.a⟩
theorem tst {s : YStep.den} (h : tErr s = 0) (w : W) : stT s w = stU s w := by
  have ht := tErr_zero h
  exact stT_stU s w ht.k (.inr ht.n.1)
def nsum : Steps → Int
  | [] => 0
  | s :: l => sn s + nsum l
theorem nb_nsum : ∀ {l : Steps}, (∀ s ∈ l, tErr s = 0) → (nb l : Int) = nsum l
  | [], _ => rfl
  | s :: l, h => by
    have ih := nb_nsum (l := l) (fun t ht => h t (by simp [ht]))
    have hs := tErr_zero (h s (by simp))
    have hn := hs.n
    show (((if sk s = 1 then 0 else (sn s).toNat) + nb l : Nat) : Int) = sn s + nsum l
    split
    · rename_i k1; have := (hs.z k1).1; omega
    · omega
theorem nsum_pos : ∀ {l : Steps}, (∀ s ∈ l, tErr s = 0) → 0 ≤ nsum l := fun h => by rw [← nb_nsum h]; omega
theorem tdy_run : ∀ (l : Steps) (w : W), (∀ s ∈ l, tErr s = 0) → 0 ≤ w.2.2 → w.2.2 + nsum l ≤ 2147483647 → tdy l w = if err (out (runU l w)) = 0 then (out (runU l w), 0) else ([], 3)
  | [], w, h, h1, h2 => rfl
  | s :: l, w, h, h1, h2 => by
    have hz := h s (by simp)
    have ht := tErr_zero hz
    have hn := ht.n
    have hp := nsum_pos (l := l) (fun t ht => h t (by simp [ht]))
    simp only [nsum] at h2
    unfold tdy
    rw [if_neg (show ¬ tErr s ≠ 0 by simp [hz]), if_neg (by omega), tst hz]
    have hc : 0 ≤ (stU s w).2.2 ∧ (stU s w).2.2 ≤ w.2.2 + sn s := by
      rw [← tst hz]
      unfold stT
      split
      · show 0 ≤ w.2.2 ∧ w.2.2 ≤ _; omega
      · split
        · show 0 ≤ w.2.2 + sn s ∧ w.2.2 + sn s ≤ _; omega
        · split
          · omega
          · show (0 : Int) ≤ 0 ∧ (0 : Int) ≤ _; omega
    exact tdy_run l (stU s w) (fun t ht => h t (by simp [ht])) hc.1 (by omega)
theorem ti_run : ∀ (l : Steps) (w : W) (k : Nat), Ti w k → (∀ s ∈ l, tErr s = 0 ∧ Ss s) → w.2.1.length + eb l ≤ 1048576 → w.2.2 + nsum l ≤ 2147483647 → Ti (runU l w) (k + l.length)
  | [], w, k, h, hs, h1, h2 => h
  | s :: l, w, k, h, hs, h1, h2 => by
    obtain ⟨hz, hS⟩ := hs s (by simp)
    have ht := tErr_zero hz
    have hn := ht.n
    have hp := nsum_pos (l := l) (fun t ht => (hs t (by simp [ht])).1)
    simp only [nsum] at h2
    simp only [eb] at h1
    have hw := h.c
    have st := h.step (by omega) ht hS (fun _ => by omega)
    have hl := stT_a s w
    have hc : (stT s w).2.2 ≤ w.2.2 + sn s := by
      unfold stT
      split
      · show w.2.2 ≤ _; omega
      · split
        · show w.2.2 + sn s ≤ _; omega
        · split
          · omega
          · show (0 : Int) ≤ _; omega
    have := ti_run l (stT s w) (k + 1) st (fun t ht => hs t (by simp [ht])) (by omega) (by omega)
    rw [tst hz] at this
    show Ti (runU l (stU s w)) (k + (l.length + 1))
    rw [show k + (l.length + 1) = k + 1 + l.length by omega]
    exact this
theorem eb_bulk : ∀ (d : Steps), 4 * d.length + eb d + 1 ≤ (Ty.list YStep).bulk d
  | [] => by simp [eb, Ty.bulk]
  | s :: d => by
    have ih := eb_bulk d
    have e : YStep.bulk s = 1 + (1 + ((Ty.list YAttr).bulk (sa s) + (Ty.list YElem).bulk (se s))) := rfl
    have h1 := bulk_len (e := YAttr) (sa s)
    have h2 := bulk_len (e := YElem) (se s)
    simp only [Ty.bulk, List.map_cons, List.sum_cons, List.length_cons, eb] at ih e h1 h2 ⊢
    omega

/-! ### The law -/
section
variable (d : Steps) (hd : Ds d) (hk : d.length ≤ 300000) (he : eb d ≤ 1048576)
def tF (s : Steps × Int) (x : YStep.den) : (Steps × Int) ⊕ sig_law_DeltaTidyMatches.Out :=
  if tErr x ≠ 0 then .inr (ret_law_DeltaTidyMatches (if (tdy d w0).2 = tErr x then emp (tdy d w0).1 else false))
  else if 300 < s.2 + sn x then .inr (ret_law_DeltaTidyMatches (if (tdy d w0).2 = 0 then true else emp (tdy d w0).1)) else .inl (s.1 ++ [x], s.2 + sn x)
def tI (i : Nat) (s : Steps × Int) : Prop := s.1 = d.take i ∧ (∀ t ∈ s.1, tErr t = 0) ∧ s.2 = nsum s.1 ∧ 0 ≤ s.2 ∧ s.2 ≤ 300
include hd hk he
omit hd hk he in
theorem tI_next {i : Nat} {s : Steps × Int} (hi : i < d.length) (h : tI d i s) (hz : tErr d[i] = 0) (hn : s.2 + sn d[i] ≤ 300) : tI d (i + 1) (s.1 ++ [d[i]], s.2 + sn d[i]) := by
  obtain ⟨h1, h2, h3, h4, h5⟩ := h
  have hp := (tErr_zero hz).n
  refine ⟨by rw [h1]; simp, fun t ht => ?_, ?_, by show 0 ≤ s.2 + sn d[i]; omega, hn⟩
  · rcases List.mem_append.1 ht with ht | ht
    · exact h2 t ht
    · have : t = d[i] := by simpa using ht
      rw [this]; exact hz
  · have : ∀ (l : Steps) (x : YStep.den), nsum (l ++ [x]) = nsum l + sn x := by
      intro l x
      induction l with
      | nil => simp [nsum]
      | cons y l ih => show sn y + nsum (l ++ [x]) = sn y + nsum l + sn x; rw [ih]; omega
    show s.2 + sn d[i] = nsum (s.1 ++ [d[i]])
    rw [this, h3]
theorem law_end (s : Steps × Int) (h : tI d d.length s) (m : Nat) : L_law_DeltaTidyMatches_0 big (m + 1) d (tdy d w0).1 (tdy d w0).2 s.1 s.2 (d.length : Int) (d.length : Int) = some (ret_law_DeltaTidyMatches true) := by
  obtain ⟨h1, h2, h3, h4, h5⟩ := h
  rw [List.take_length] at h1
  rw [h1] at h2 h3
  have hn : (nb d : Int) = nsum d := nb_nsum h2
  have hv : ∀ s ∈ d, sk s = 1 ∨ 0 ≤ sn s := fun t ht => .inr (tErr_zero (h2 t ht)).n.1
  obtain ⟨a1, a2⟩ := delta_act d hd hv (by omega) (by omega)
  have ho := valid_out (ex d) (ok_ex fun t ht => tErr_units (h2 t ht)) (by have := (cB_ex d).1; omega) (by have := (cB_ex d).2; omega)
  rw [← runU_ex] at ho
  have hr := tdy_run d w0 h2 (by decide) (by show (0 : Int) + nsum d ≤ _; omega)
  rw [if_pos ho.1] at hr
  have ti := ti_run d w0 0 ti0 (fun t ht => ⟨h2 t ht, ss_mem hd ht⟩) (by show 0 + eb d ≤ _; omega) (by show (0 : Int) + nsum d ≤ _; omega)
  have hl : (runU d w0).2.1.length ≤ 1048576 := by
    have : ∀ (l : Steps) (w : W), (∀ s ∈ l, tErr s = 0) → (runU l w).2.1.length ≤ w.2.1.length + eb l := by
      intro l
      induction l with
      | nil => intro w _; exact Nat.le_refl _
      | cons x l ih =>
        intro w hw
        have q := ih (stU x w) (fun t ht => hw t (by simp [ht]))
        have q2 := stT_a x w
        rw [tst (hw x (by simp))] at q2
        simp only [eb]
        show (runU l (stU x w)).2.1.length ≤ _
        omega
    have := this d w0 h2
    have z : w0.2.1.length = 0 := rfl
    omega
  obtain ⟨wy, ds⟩ := ti.wy hl (by omega)
  have ss := sdelta_self (out (runU d w0)) (by have := wy.l; omega) (fun s hs => ⟨(ss_mem ds hs).1.1, (ss_mem ds hs).2⟩)
  rw [L_law_DeltaTidyMatches_0_step, h1, hr]
  simp only [bcond_if, dlt_self, if_false, Bool.false_eq_true, a1, a2, Option.bind_some, res_R_ActOf_0_ret, res_R_DeltaOf_0_ret, ss, res_R_SameDelta_0_ret, beq_self_eq_true, if_true]
omit he in
theorem law_step (m i : Nat) (s : Steps × Int) (hi : i < d.length) (h : tI d i s) : Hop (tF d s d[i])
      (fun s' => tI d (i + 1) s' ∧ L_law_DeltaTidyMatches_0 big (m + 1) d (tdy d w0).1 (tdy d w0).2 s.1 s.2 (d.length : Int) (i : Int) = L_law_DeltaTidyMatches_0 big m d (tdy d w0).1 (tdy d w0).2 s'.1 s'.2 (d.length : Int) ((i + 1 : Nat) : Int))
      (fun o => L_law_DeltaTidyMatches_0 big (m + 1) d (tdy d w0).1 (tdy d w0).2 s.1 s.2 (d.length : Int) (i : Int) = some o) := by
  have hS := ss_mem hd (List.getElem_mem hi)
  generalize hc : (tdy d w0).1 = c
  generalize hE : (tdy d w0).2 = e
  have nx := tI_next d hi h
  have h5 := h.2.2.2.2
  have h4 := h.2.2.2.1
  have hlen : s.1.length = i := by rw [h.1]; simp; omega
  have e1 : (d[i] : YStep.den).1 = sk d[i] := rfl
  have e2 : (d[i] : YStep.den).2.1 = sn d[i] := rfl
  have e3 : (d[i] : YStep.den).2.2.1 = sa d[i] := rfl
  have e4 : (d[i] : YStep.den).2.2.2 = se d[i] := rfl
  have J : ∀ t, t = tErr d[i] → Hop (tF d s d[i])
      (fun s' => tI d (i + 1) s' ∧ J_law_DeltaTidyMatches_0 big m d c e s.1 s.2 d[i] t (d.length : Int) (i : Int) = L_law_DeltaTidyMatches_0 big m d c e s'.1 s'.2 (d.length : Int) ((i + 1 : Nat) : Int))
      (fun o => J_law_DeltaTidyMatches_0 big m d c e s.1 s.2 d[i] t (d.length : Int) (i : Int) = some o) := by
    intro t ht
    subst ht
    unfold tF J_law_DeltaTidyMatches_0
    rw [hc, hE]
    by_cases hz : tErr d[i] = 0
    · have hn := (tErr_zero hz).n
      have w2 : IntKind.i64.wrap (s.2 + sn d[i]) = s.2 + sn d[i] := w64 (by omega) (by omega)
      have b1 : (List.length (s.1 : List YStep.den) + List.length ([d[i]] : List YStep.den)) * 64 ≤ 140737488355328 := b64 _ 1 (by omega) (by decide)
      rw [hz] at nx ⊢
      by_cases hb : 300 < s.2 + sn d[i]
      · have hb' : s.2 + sn d[i] > 300 := hb
        by_cases z : e = 0
        · simp [bcond_if, e2, w2, hb', z]
        · have z2 : (e == 0) = false := by simpa using z
          simp [bcond_if, e2, w2, hb', z, z2, len_zero]
      · have hb' : ¬ s.2 + sn d[i] > 300 := hb
        have := nx rfl (by omega)
        have w1 := wsucc hi (show d.length ≤ 4611686018427387904 by omega)
        rw [if_neg (by simp), if_neg hb]
        refine ⟨this, ?_⟩
        simp only [bcond_if, e2, w2, decide_eq_false hb', b1, w1, if_true, if_false, Bool.false_eq_true, bne_self_eq_false]
    · rw [if_pos (show tErr d[i] ≠ 0 from hz)]
      have z2 : (tErr d[i] != 0) = true := by simpa using hz
      by_cases z : e = tErr d[i]
      · simp [bcond_if, z, hz, len_zero]
      · have z3 : (e == tErr d[i]) = false := by simpa using z
        simp [bcond_if, z, z2, z3]
  have st := L_law_DeltaTidyMatches_0_step big m d c e s.1 s.2 (d.length : Int) (i : Int)
  rw [at_get (e := YStep) d i hi, rstep_eq _ hS] at st
  simp only [J_law_DeltaTidyMatches_1, bcond_if, dlt hi, inb, hi, if_true, Option.bind_some, res_R_StepError_0_ret, e1, e2, e3, e4, len_zero, rerr_eq _ hS.1, res_R_AttrsError_0_ret] at st
  have key : L_law_DeltaTidyMatches_0 big (m + 1) d c e s.1 s.2 (d.length : Int) (i : Int) = J_law_DeltaTidyMatches_0 big m d c e s.1 s.2 d[i] (tErr d[i]) (d.length : Int) (i : Int) := by
    rw [st]
    unfold tErr
    by_cases k1 : sk d[i] = 1
    · by_cases p1 : emp (se d[i]) = true
      · by_cases s1 : sErr d[i] = 11
        · have a0 : sa d[i] = [] := (sErr_11 s1 k1 p1).2
          rw [a0, err_nil]
          simp [k1, p1, s1]
        · simp [k1, p1, s1]
      · simp [k1, p1]
    · by_cases n0 : sn d[i] = 0
      · by_cases s1 : sErr d[i] = 2
        · simp [k1, n0, s1]
        · simp [k1, n0, s1]
      · simp [k1, n0]
  rw [key]
  exact J _ rfl
omit hd hk he in
theorem law_fold (c : Steps) (e : Int) (hce : tdy d w0 = (c, e)) : ∀ (l : Steps) (s : Steps × Int) (w : W), tdy l w = (c, e) → 0 ≤ s.2 → w.2.2 ≤ s.2 → s.2 ≤ 300 →
    foldO (tF d) (fun _ => ret_law_DeltaTidyMatches true) s l = ret_law_DeltaTidyMatches true
  | [], s, w, h, h0, h1, h2 => rfl
  | x :: l, s, w, h, h0, h1, h2 => by
    have hf : tF d s x = if tErr x ≠ 0 then .inr (ret_law_DeltaTidyMatches (if e = tErr x then emp c else false))
        else if 300 < s.2 + sn x then .inr (ret_law_DeltaTidyMatches (if e = 0 then true else emp c)) else .inl (s.1 ++ [x], s.2 + sn x) := by
      unfold tF; rw [hce]
    rw [foldO, hf]
    unfold tdy at h
    by_cases hz : tErr x = 0
    · have hn := (tErr_zero hz).n
      rw [if_neg (show ¬ tErr x ≠ 0 by simp [hz])] at h ⊢
      by_cases hb : 300 < s.2 + sn x
      · rw [if_pos hb]
        simp only
        have := tdy_or d w0
        rw [hce] at this
        simp only at this
        rcases this with q | q
        · rw [if_pos q]
        · rw [q]
          split <;> rfl
      · rw [if_neg hb]
        simp only
        rw [if_neg (by omega)] at h
        refine law_fold c e hce l (s.1 ++ [x], s.2 + sn x) (stT x w) h (by show 0 ≤ s.2 + sn x; omega) ?_ (by show s.2 + sn x ≤ 300; omega)
        show (stT x w).2.2 ≤ s.2 + sn x
        have hc : (stT x w).2.2 ≤ s.2 + sn x := by
          unfold stT
          split
          · show w.2.2 ≤ _; omega
          · split
            · show w.2.2 + sn x ≤ _; omega
            · split
              · omega
              · rename_i q1 q2 q3
                show (0 : Int) ≤ s.2 + sn x
                omega
        exact hc
    · rw [if_pos (show tErr x ≠ 0 from hz)] at h ⊢
      injection h with h3 h4
      simp only
      rw [if_pos h4.symm, ← h3]
      rfl
theorem law_tidy : C_law_DeltaTidyMatches F_law_DeltaTidyMatches d = some (ret_law_DeltaTidyMatches true) := by
  have hl := hd.1
  have ft := delta_facts
  rw [e_law_DeltaTidyMatches, ft, tidy_eq d hd hk he]
  simp only [Option.bind_some, res_law_deltas_0_ret, res_delta_Tidy_0_ret, res_delta_Tidy_1_ret, bcond_if, Bool.not_true, Bool.false_eq_true, if_false]
  have q := range_all d (by omega) (fun m (s : Steps × Int) i => L_law_DeltaTidyMatches_0 big m d (tdy d w0).1 (tdy d w0).2 s.1 s.2 (d.length : Int) (i : Int)) (tF d) (fun _ => ret_law_DeltaTidyMatches true) (tI d)
    (fun m i s hi h => law_step d hd hk m i s hi h) (fun m s h => law_end d hd hk he s h m) ([], 0) ⟨by simp, fun t ht => by simp at ht, rfl, by decide, by decide⟩
  rw [law_fold d _ _ rfl d ([], 0) w0 rfl (by decide) (by decide) (by decide)] at q
  exact q
end
theorem holdsTidy (d : Steps) (o0 : (Ty.list YStep).ok d) (hb : (Ty.list YStep).bulk d ≤ 1048576) : C_law_DeltaTidyMatches F_law_DeltaTidyMatches d = some (ret_law_DeltaTidyMatches true) := by
  have := eb_bulk d
  exact law_tidy d (ds_bulk hb) (by omega) (by omega)
end Go.Ev.Delta
