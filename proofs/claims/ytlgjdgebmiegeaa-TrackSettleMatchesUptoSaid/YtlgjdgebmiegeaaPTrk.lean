
import Derived.Test.YtlgjdgebmiegeaaPZip
namespace Go.Ev.Attr
open Go.Ev
set_option linter.unusedVariables false
set_option linter.unusedSimpArgs false
/-- A change that takes away attributes, in their order. -/
def Off (t : Attrs) : Prop := Srt t ∧ ∀ y ∈ t, av y = []
theorem chd_off {l t : Attrs} (hl : err false l = 0) (ht : Off t) (x : YAttr.den) : x ∈ chd l t ↔ x ∈ l ∧ ∀ y ∈ t, an y ≠ an x := by
  have hf := full_of hl
  rw [show chd l t = keepv (puts (puts [] l) t) from rfl, keepv_mem, puts_mem _ _ ht.1, puts_mem _ _ hf.1]
  constructor
  · rintro ⟨h | ⟨h | h, h2⟩, h3⟩
    · exact absurd (ht.2 x h) h3
    · exact ⟨h, h2⟩
    · simp at h
  · rintro ⟨h1, h2⟩
    exact ⟨.inr ⟨.inl h1, h2⟩, hf.2.2 x h1⟩
theorem chd_srt (l t : Attrs) : Srt (chd l t) := keepv_srt _ (puts_srt _ _ (puts_srt _ _ trivial))
theorem chd_same {l t u : Attrs} (hl : err false l = 0) (ht : Off t) (hu : Off u) (h : ∀ x ∈ l, (∃ y ∈ t, an y = an x) ↔ ∃ y ∈ u, an y = an x) : chd l t = chd l u := by
  refine srt_ext (chd_srt _ _) (chd_srt _ _) fun x => ?_
  rw [chd_off hl ht, chd_off hl hu]
  constructor
  · rintro ⟨h1, h2⟩
    refine ⟨h1, fun y hy e => ?_⟩
    obtain ⟨z, hz, e2⟩ := (h x h1).2 ⟨y, hy, e⟩
    exact h2 z hz e2
  · rintro ⟨h1, h2⟩
    refine ⟨h1, fun y hy e => ?_⟩
    obtain ⟨z, hz, e2⟩ := (h x h1).1 ⟨y, hy, e⟩
    exact h2 z hz e2
theorem off_nil : Off [] := ⟨trivial, fun y h => by simp at h⟩
theorem off_one (s : Str) : Off [mkA s []] := ⟨⟨fun x h => by simp at h, trivial⟩, fun y h => by rw [List.mem_singleton.1 h]; rfl⟩
theorem off_two (s t : Str) (h : strLess s t = true) : Off [mkA s [], mkA t []] := ⟨⟨fun x hx => by rw [List.mem_singleton.1 hx]; exact h, fun x h => by simp at h, trivial⟩, fun y h => by
  rcases List.mem_cons.1 h with rfl | h
  · rfl
  · rw [List.mem_singleton.1 h]; rfl⟩
theorem chd_nil {l : Attrs} (hl : err false l = 0) : chd l [] = l := by
  refine srt_ext (chd_srt _ _) (full_of hl).1 fun x => ?_
  rw [chd_off hl off_nil]
  exact ⟨fun h => h.1, fun h => ⟨h, fun y hy => by simp at hy⟩⟩
theorem btw_off {l t : Attrs} (hl : err false l = 0) (ht : Off t) (h : ∀ y ∈ t, ∃ x ∈ l, an x = an y) : btw l (chd l t) = t := by
  have hf := full_of hl
  have hc := chd_srt l t
  refine srt_ext (puts_srt _ _ (puts_srt _ _ trivial)) ht.1 fun x => ?_
  rw [show btw l (chd l t) = puts (puts [] (dif l (chd l t))) (gone (chd l t) l) from rfl, puts_mem _ _ (gone_srt _ _ hf.1), puts_mem _ _ (dif_srt _ _ hc)]
  have nodif : ¬ x ∈ dif l (chd l t) := by
    intro hx
    obtain ⟨h1, h2⟩ := (dif_mem _ _ _).1 hx
    have := (chd_off hl ht x).1 h1
    exact h2 (get_some hf.1 x this.1)
  constructor
  · rintro (h1 | ⟨h1 | h1, _⟩)
    · obtain ⟨y, hy, h3, rfl⟩ := (gone_mem _ _ _).1 h1
      by_cases hq : ∃ z ∈ t, an z = an y
      · obtain ⟨z, hz, e⟩ := hq
        have : mkA (an y) [] = z := by rw [← e, ← ht.2 z hz]; rfl
        rw [this]; exact hz
      · have hm : y ∈ chd l t := (chd_off hl ht y).2 ⟨hy, fun z hz e => hq ⟨z, hz, e⟩⟩
        rw [get_some hc y hm] at h3
        exact absurd h3 (hf.2.2 y hy)
    · exact absurd h1 nodif
    · simp at h1
  · intro hx
    left
    obtain ⟨y, hy, e⟩ := h x hx
    refine (gone_mem _ _ _).2 ⟨y, hy, get_none (fun z hz e2 => ?_), ?_⟩
    · have := ((chd_off hl ht z).1 hz).2 x hx
      exact this (by rw [e2, e])
    · rw [e, ← ht.2 x hx]; rfl
end Go.Ev.Attr
namespace Go.Ev.Delta
open Go.Ev Go.Ev.Attr Go.Ev.Track
set_option linter.unusedVariables false
set_option linter.unusedSimpArgs false
theorem ex_append : ∀ (l m : Steps), ex (l ++ m) = ex l ++ ex m
  | [], m => rfl
  | s :: l, m => by
    show exS s ++ ex (l ++ m) = exS s ++ ex l ++ ex m
    rw [ex_append l m, List.append_assoc]
theorem ex_one (s : YStep.den) : ex [s] = exS s := by show exS s ++ [] = _; rw [List.append_nil]
structure Pn (w : W) : Prop where
  e : w.2.1 = []
  c : 0 ≤ w.2.2
  n : ∀ s ∈ w.1, sk s = 0 → 0 ≤ sn s
def isA : U → Bool
  | .a _ => true
  | _ => false
theorem ex_outs {w : W} (h : Pn w) : ex (out w) = ex w.1 ++ List.replicate w.2.2.toNat U.c := by
  have hc := h.c
  show ex (fl w.1 w.2.1 w.2.2) = _
  unfold fl
  rw [h.e, if_pos (show emp ([] : Flow) = true from rfl), List.append_nil, ex_append]
  by_cases h0 : 0 < w.2.2
  · rw [if_pos h0, ex_one]; rfl
  · rw [if_neg h0]
    have : w.2.2.toNat = 0 := by omega
    rw [this]; rfl
theorem ex_mrg (y : Steps) (hy : ∀ s ∈ y, sk s = 0 → 0 ≤ sn s) (t : Attrs) : ex (mrgK y 1 t) = ex y ++ [U.k t] ∧ ∀ s ∈ mrgK y 1 t, sk s = 0 → 0 ≤ sn s := by
  rcases last_cases y with h | ⟨d, s, h⟩
  · subst h
    exact ⟨rfl, fun s hs _ => by
      have : s = mkT 0 1 t [] := by simpa [mrgK] using hs
      rw [this, sn_mk]; omega⟩
  · subst h
    rw [mrg_last]
    split
    · rename_i hc
      have hn := hy s (by simp) hc.1
      have e := (eqA_iff _ _).1 hc.2
      refine ⟨?_, fun q hq h0 => ?_⟩
      · rw [ex_append, ex_append, ex_one, ex_one, List.append_assoc]
        congr 1
        unfold exS
        rw [sk_mk, sn_mk, sa_mk, hc.1, e]
        rw [if_neg (by decide), if_neg (by decide)]
        obtain ⟨N, hN⟩ : ∃ N : Nat, sn s = (N : Int) := ⟨(sn s).toNat, by omega⟩
        have e1 : (sn s + 1).toNat = N + 1 := by omega
        have e2 : (sn s).toNat = N := by omega
        rw [e1, e2, List.replicate_succ']
        rfl
      · rcases List.mem_append.1 hq with hq | hq
        · exact hy q (by simp [hq]) h0
        · rw [List.mem_singleton.1 hq, sn_mk]; omega
    · refine ⟨?_, fun q hq h0 => ?_⟩
      · rw [ex_append, ex_one]; rfl
      · rcases List.mem_append.1 hq with hq | hq
        · exact hy q hq h0
        · rw [List.mem_singleton.1 hq, sn_mk]; omega
theorem ex_run : ∀ (us : List U) (w : W), Pn w → (∀ u ∈ us, isA u = false) → Pn (runP us w) ∧ ex (out (runP us w)) = ex (out w) ++ us
  | [], w, h, _ => ⟨h, by show ex (out w) = _; rw [List.append_nil]⟩
  | .a x :: us, w, h, hu => by have := hu (.a x) (by simp); cases this
  | .c :: us, w, h, hu => by
    have hc := h.c
    have h2 : Pn (uC w) := ⟨h.e, by show 0 ≤ w.2.2 + 1; omega, h.n⟩
    obtain ⟨q1, q2⟩ := ex_run us (uC w) h2 (fun u q => hu u (by simp [q]))
    refine ⟨q1, ?_⟩
    show ex (out (runP us (uC w))) = _
    rw [q2, ex_outs h2, ex_outs h]
    have : (uC w).2.2.toNat = w.2.2.toNat + 1 := by show (w.2.2 + 1).toNat = _; omega
    rw [this, List.replicate_succ']
    show ex w.1 ++ _ ++ us = _
    simp
  | .k t :: us, w, h, hu => by
    have ho : ∀ s ∈ out w, sk s = 0 → 0 ≤ sn s := fun s hs h0 => by
      rcases fl_mem hs with q | q | q
      · exact h.n s q h0
      · rw [q.1] at h0; cases h0
      · rw [q.1] at h0; cases h0
    obtain ⟨m1, m2⟩ := ex_mrg (out w) ho t
    have h2 : Pn (uK t w) := ⟨rfl, Int.le_refl _, m2⟩
    obtain ⟨q1, q2⟩ := ex_run us (uK t w) h2 (fun u q => hu u (by simp [q]))
    refine ⟨q1, ?_⟩
    show ex (out (runP us (uK t w))) = _
    rw [q2]
    have : out (uK t w) = mrgK (out w) 1 t := fl_nil _
    rw [this, m1]
    simp
theorem ex_out (us : List U) (hu : ∀ u ∈ us, isA u = false) : ex (out (runP us w0)) = us := by
  have := (ex_run us w0 ⟨rfl, Int.le_refl _, fun s h => by simp [w0] at h⟩ hu).2
  rw [this]; rfl
theorem rest_drop (a : Act) (ha : AOk a) (us : List U) (h : il a = us) (hu : ∀ u ∈ us, isA u = false) : a.2.1.length = us.length ∧ ∀ i (hi : i < us.length), us[i] = uni (cutAt a.2.1 i) (atrAt a.2.2 i) := by
  have noadd : ∀ (x : Flow) (r s : List U), x.map U.a ++ r = s → (∀ u ∈ s, isA u = false) → x = [] := by
    intro x r s e hs
    cases x with
    | nil => rfl
    | cons y x =>
      have := hs (.a y) (by rw [← e]; simp)
      cases this
  have key : ∀ i, i ≤ a.2.1.length → rest a i = us.drop i := by
    intro i
    induction i with
    | zero => intro _; exact h
    | succ i ih =>
      intro hi
      have e := ih (by omega)
      rw [rest_s a ha i (by omega)] at e
      have ex := noadd _ _ _ e (fun u hu2 => hu u (List.mem_of_mem_drop hu2))
      rw [ex] at e
      have e2 : uni (cutAt a.2.1 i) (atrAt a.2.2 i) :: rest a (i + 1) = us.drop i := e
      have : us.drop (i + 1) = (us.drop i).drop 1 := by rw [List.drop_drop]
      rw [this, ← e2]; rfl
  have hl : a.2.1.length = us.length := by
    have e := key a.2.1.length (Nat.le_refl _)
    rw [rest_e a ha] at e
    have ex := noadd _ [] _ (by rw [List.append_nil]; exact e) (fun u hu2 => hu u (List.mem_of_mem_drop hu2))
    rw [ex] at e
    have h1 := congrArg List.length e
    simp at h1
    have h2 : ∀ i, i < a.2.1.length → i < us.length := by
      intro i hi
      have e := key i (by omega)
      rw [rest_s a ha i hi] at e
      have h3 := congrArg List.length e
      simp at h3
      omega
    by_cases h0 : a.2.1.length = 0
    · omega
    · have := h2 (a.2.1.length - 1) (by omega)
      omega
  refine ⟨hl, fun i hi => ?_⟩
  have e := key i (by omega)
  rw [rest_s a ha i (by omega)] at e
  have ex := noadd _ _ _ e (fun u hu2 => hu u (List.mem_of_mem_drop hu2))
  rw [ex, List.drop_eq_getElem_cons hi] at e
  have e2 : uni (cutAt a.2.1 i) (atrAt a.2.2 i) :: rest a (i + 1) = us[i] :: us.drop (i + 1) := e
  injection e2 with e3 _
  exact e3.symm
theorem cut_attrs : ∀ (l : Steps) (a : Act), AOk a → (∀ s ∈ l, sk s = 2 → sa s = []) → (∀ p ∈ a.2.1.zip a.2.2, p.1 = true → p.2 = []) → ∀ p ∈ (actL l a).2.1.zip (actL l a).2.2, p.1 = true → p.2 = []
  | [], a, ha, h1, h2 => h2
  | s :: l, a, ha, h1, h2 => by
    refine cut_attrs l (stA s a) (stA_ok s ha) (fun t ht => h1 t (by simp [ht])) ?_
    unfold stA
    split
    · exact h2
    · show ∀ p ∈ (a.2.1 ++ List.replicate (sn s).toNat (sk s == 2)).zip (a.2.2 ++ List.replicate (sn s).toNat (sa s)), p.1 = true → p.2 = []
      rw [List.zip_append ha.h2.symm]
      intro p hp h0
      rcases List.mem_append.1 hp with hp | hp
      · exact h2 p hp h0
      · have m1 := List.of_mem_zip (a := p.1) (b := p.2) hp
        have e1 := List.eq_of_mem_replicate m1.1
        have e2 := List.eq_of_mem_replicate m1.2
        rw [e2]
        rw [e1] at h0
        exact h1 s (by simp) (by simpa using h0)
theorem cut_attr (l : Steps) (h1 : ∀ s ∈ l, sk s = 2 → sa s = []) (i : Nat) (hi : i < (actL l A0).2.1.length) (hc : cutAt (actL l A0).2.1 i = true) : atrAt (actL l A0).2.2 i = [] := by
  obtain ⟨a1, a2⟩ := act_ex l
  have h2 := a1.h2
  have hz := cut_attrs l A0 ⟨rfl, rfl⟩ h1 (fun p hp => by simp [A0] at hp)
  have e1 : cutAt (actL l A0).2.1 i = (actL l A0).2.1[i] := at_get (e := .bool) _ i hi
  have e2 : atrAt (actL l A0).2.2 i = (actL l A0).2.2[i]'(by omega) := at_get (e := .list YAttr) _ i (by omega)
  rw [e1] at hc
  rw [e2]
  refine hz ((actL l A0).2.1[i], (actL l A0).2.2[i]'(by omega)) ?_ hc
  rw [← List.getElem_zip (i := i) (h := by simp; omega)]
  exact List.getElem_mem _
theorem eb_afts : ∀ {l : Steps}, (∀ s ∈ l, sErr s = 0) → (eb l : Int) ≤ afts l
  | [], _ => by simp [eb, afts]
  | s :: l, h => by
    have ih := eb_afts (l := l) (fun t ht => h t (by simp [ht]))
    have : ((se s).length : Int) ≤ addA s 0 := by
      unfold addA ssz
      rcases sErr_zero (h s (by simp)) with ⟨k1, k2, k3, k4, k5⟩ | ⟨k1, k2, k3, k4, k5⟩
      · rw [if_neg (by omega), if_pos k1]; omega
      · rw [k2]
        have n1 : ¬ sk s = 1 := by rcases k1 with k1 | ⟨k1, _⟩ <;> omega
        rw [if_neg n1]
        simp only [List.length_nil]
        split <;> omega
    simp only [eb, afts]
    omega
end Go.Ev.Delta
