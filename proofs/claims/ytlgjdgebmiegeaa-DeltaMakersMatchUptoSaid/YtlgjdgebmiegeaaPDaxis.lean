
import Derived.Test.YtlgjdgebmiegeaaPAxQ
import Derived.Test.YtlgjdgebmiegeaaGDaxis
namespace Go.Ev.AxisP
open Go.Ev Go.Ev.Attr Go.Ev.Track Go.Ev.Delta
set_option linter.unusedVariables false
set_option linter.unusedSimpArgs false
def pl : U → U
  | .k _ => .k []
  | u => u
/-- Steps with one more, as an axis has them. -/
def pst (y : Delta.Steps) (s : YStep.den) : Delta.Steps := if sk s = 0 then mrgK y (sn s) [] else if sk s = 1 then y ++ [mkT 1 0 [] (se s)] else y ++ [mkT 2 (sn s) [] []]
def pd : Delta.Steps → Delta.Steps → Delta.Steps
  | y, [] => y
  | y, s :: d => pd (pst y s) d
structure Jw (w : W) (p : Option YStep.den) : Prop where
  n : p = none → w = w0
  v : ∀ q, p = some q → sk q = 0 ∨ sk q = 1 ∨ sk q = 2
  k : ∀ q, p = some q → sk q = 0 → w.2.1 = [] ∧ w.2.2 = 0
  a : ∀ q, p = some q → sk q = 1 → w.2.2 = 0
theorem pl_exS (s : YStep.den) : (exS s).map pl = if sk s = 1 then (se s).map U.a else List.replicate (sn s).toNat (uni (sk s == 2) []) := by
  unfold exS
  split
  · rw [List.map_map]; rfl
  · rw [List.map_replicate]
    congr 1
    cases (sk s == 2) <;> rfl
theorem jw_step {w : W} {p : Option YStep.den} {s : YStep.den} (h : Jw w p) (h1 : dOne p s = 0) : Jw (runP ((exS s).map pl) w) (some s) ∧ out (runP ((exS s).map pl) w) = pst (out w) s := by
  obtain ⟨hz, ho⟩ := dOne_zero h1
  have hq : ∀ q, p = some q → ¬ (sk q = 1 ∧ sk s = 1) ∧ ¬ (sk q = 2 ∧ sk s = 1) ∧ ¬ (sk q = 2 ∧ sk s = 2) := fun q e => by
    have := ho q e
    unfold ord at this
    refine ⟨?_, ?_, ?_⟩ <;> rintro ⟨a, b⟩ <;> rw [a, b] at this <;> simp at this
  rw [pl_exS]
  rcases Delta.sErr_zero hz with ⟨k1, k2, k3, k4, k5⟩ | ⟨k1, k2, k3, k4, k5⟩
  · have e2 : w.2.1 = [] ∧ w.2.2 = 0 := by
      cases p with
      | none => rw [h.n rfl]; exact ⟨rfl, rfl⟩
      | some q =>
        obtain ⟨q1, q2, q3⟩ := hq q rfl
        rcases h.v q rfl with z | z | z
        · exact h.k q rfl z
        · exact absurd ⟨z, k1⟩ q1
        · exact absurd ⟨z, k1⟩ q2
    rw [if_pos k1, runP_a]
    refine ⟨⟨fun e => (by cases e), fun q e => (by injection e with e; rw [← e]; exact .inr (.inl k1)), fun q e k0 => (by injection e with e; rw [← e] at k0; omega), fun q e _ => e2.2⟩, ?_⟩
    unfold pst
    rw [if_neg (by omega), if_pos k1]
    show fl w.1 (w.2.1 ++ se s) w.2.2 = fl w.1 w.2.1 w.2.2 ++ [mkT 1 0 [] (se s)]
    rw [e2.1, e2.2, fl_nil, List.nil_append]
    unfold fl
    have : ¬ emp (se s) = true := fun z => k4 ((emp_iff _).1 z)
    rw [if_neg this, if_neg (by decide), List.append_nil]
  · obtain ⟨N, hN⟩ : ∃ N : Nat, sn s = (N : Int) := ⟨(sn s).toNat, by omega⟩
    rcases k1 with k1 | ⟨k1, _⟩
    · have e : (sk s == 2) = false := by rw [k1]; rfl
      rw [if_neg (by omega), hN, e]
      show Jw (runP (List.replicate N (U.k [])) w) _ ∧ _
      rw [Int.toNat_natCast]
      show Jw (runP (List.replicate N (U.k [])) w) _ ∧ out (runP (List.replicate N (U.k [])) w) = _
      rw [runP_k N (by omega)]
      refine ⟨⟨fun e => (by cases e), fun q e => (by injection e with e; rw [← e]; exact .inl k1), fun q e _ => ⟨rfl, rfl⟩, fun q e k0 => rfl⟩, ?_⟩
      unfold pst
      rw [if_pos k1, hN]
      exact fl_nil _
    · have e : (sk s == 2) = true := by rw [k1]; rfl
      have e2 : w.2.2 = 0 := by
        cases p with
        | none => rw [h.n rfl]; rfl
        | some q =>
          obtain ⟨q1, q2, q3⟩ := hq q rfl
          rcases h.v q rfl with z | z | z
          · exact (h.k q rfl z).2
          · exact h.a q rfl z
          · exact absurd ⟨z, k1⟩ q3
      rw [if_neg (by omega), hN, e, Int.toNat_natCast]
      show Jw (runP (List.replicate N U.c) w) _ ∧ out (runP (List.replicate N U.c) w) = _
      rw [runP_c]
      refine ⟨⟨fun e => (by cases e), fun q e => (by injection e with e; rw [← e]; exact .inr (.inr k1)), fun q e k0 => (by injection e with e; rw [← e] at k0; omega), fun q e k0 => (by injection e with e; rw [← e] at k0; omega)⟩, ?_⟩
      unfold pst
      rw [if_neg (by omega), if_neg (by omega), hN]
      show fl w.1 w.2.1 (w.2.2 + N) = fl w.1 w.2.1 w.2.2 ++ [mkT 2 N [] []]
      rw [e2, Int.zero_add]
      unfold fl
      rw [if_pos (show (0 : Int) < (N : Int) by omega), if_neg (show ¬ (0 : Int) < 0 by decide), List.append_nil]
theorem pd_out : ∀ (d : Delta.Steps) (p : Option YStep.den) (b a : Int) (w : W), dErr p b a d = 0 → Jw w p → out (runP ((ex d).map pl) w) = pd (out w) d
  | [], p, b, a, w, _, _ => rfl
  | s :: d, p, b, a, w, h, hj => by
    simp only [dErr] at h
    split at h
    · rename_i h1; exact absurd h h1
    rename_i h1
    have h1 : dOne p s = 0 := Decidable.not_not.1 h1
    obtain ⟨j1, j2⟩ := jw_step hj h1
    show out (runP ((exS s ++ ex d).map pl) w) = pd (pst (out w) s) d
    rw [List.map_append, runP_append, pd_out d (some s) _ _ _ h j1, j2]
/-- The axis of a valid delta, by its units. -/
theorem pd_eq {d : Delta.Steps} (h : err d = 0) : pd [] d = out (runP ((ex d).map pl) w0) := by
  have := pd_out d none 0 0 w0 h ⟨fun _ => rfl, fun q e => (by cases e), fun q e => (by cases e), fun q e => (by cases e)⟩
  rw [this]; rfl
structure Py (y : Delta.Steps) (b : Int) (k : Nat) : Prop where
  l : y.length ≤ k
  n : ∀ s ∈ y, sk s = 0 → 0 ≤ sn s ∧ sn s ≤ b ∧ sa s = [] ∧ se s = []
theorem pst_ph (y : Delta.Steps) (s : YStep.den) : sk s ≠ 0 → (sk s = 1 ∨ sk s = 2 ∧ se s = []) → sn s = (if sk s = 1 then 0 else sn s) → (pst y s).map ph = y.map ph ++ [(sk s, ssz s)] := by
  intro h0 h1 hn
  unfold pst ssz
  rw [if_neg h0]
  rcases h1 with h1 | ⟨h1, h2⟩
  · rw [if_pos h1, if_pos h1, List.map_append]
    show _ ++ [((1, (0 : Int) + ((se s).length : Int)) : YSpan.den)] = _
    rw [Int.zero_add, h1]
  · rw [if_neg (by omega), if_neg (by omega), List.map_append]
    show _ ++ [((2, sn s + ((0 : Nat) : Int)) : YSpan.den)] = _
    rw [show ((0 : Nat) : Int) = 0 from rfl, Int.add_zero, h1]
theorem axis_loop (d : Delta.Steps) (hd : Ds d) (hv : ∀ s ∈ d, Delta.sErr s = 0) (hb : befs d ≤ 2147483647) : ∀ (k i m : Nat) (y : Delta.Steps) (b : Int), i + k = d.length → k < m → Py y b i → 0 ≤ b → b + befs (d.drop i) ≤ 2147483647 →
    L_delta_Axis_0 big m (y.map ph) d (d.length : Int) (i : Int) = some (ret_delta_Axis ((pd y (d.drop i)).map ph) 0) := by
  have hl := hd.1
  intro k
  induction k with
  | zero =>
    intro i m y b hi hm hy hb0 hs
    obtain ⟨m, rfl⟩ : ∃ k, m = k + 1 := ⟨m - 1, by omega⟩
    have : i = d.length := by omega
    subst this
    rw [L_delta_Axis_0_step, List.drop_length]
    simp only [bcond_if, dlt_self, Bool.false_eq_true, if_false, pd]
  | succ k ih =>
    intro i m y b hi hm hy hb0 hs
    obtain ⟨m, rfl⟩ : ∃ k, m = k + 1 := ⟨m - 1, by omega⟩
    have hil : i < d.length := by omega
    have w1 := wsucc hil (show d.length ≤ 4611686018427387904 by omega)
    have ea0 : at_ (e := YStep) d (i : Int) = atT d i := rfl
    have e1 : (atT d i).1 = sk (atT d i) := rfl
    have e2 : (atT d i).2.1 = sn (atT d i) := rfl
    have hm1 := atT_mem d hil
    have hz := hv _ hm1
    have hdr : ∀ s ∈ d.drop (i + 1), s ∈ d := fun s h => List.mem_of_mem_drop h
    obtain ⟨p1, p2⟩ := adds_pos (fun s h => hv s (hdr s h)) (fun s h => ss_mem hd (hdr s h))
    have hyl := hy.l
    have l0 : (y.map ph).length = y.length := by simp
    have b1 : ∀ x : YSpan.den, ((y.map ph).length + [x].length) * 16 ≤ 140737488355328 := fun x => c16 _ _ (by rw [l0]; simp; omega)
    rw [drop_step d hil] at hs ⊢
    simp only [befs] at hs
    have go : ∀ b', Py (pst y (atT d i)) b' (i + 1) → 0 ≤ b' → b' ≤ b + Delta.addB (atT d i) 0 → L_delta_Axis_0 big m ((pst y (atT d i)).map ph) d (d.length : Int) ((i + 1 : Nat) : Int) = some (ret_delta_Axis ((pd (pst y (atT d i)) (d.drop (i + 1))).map ph) 0) := fun b' h1 h2 h3 =>
      ih (i + 1) m (pst y (atT d i)) b' (by omega) (by omega) h1 h2 (by omega)
    show _ = some (ret_delta_Axis ((pd (pst y (atT d i)) (d.drop (i + 1))).map ph) 0)
    rw [L_delta_Axis_0_step]
    simp only [bcond_if, dlt hil, inb, hil, if_true, ea0, e1, e2, w1, size_eq, Option.bind_some, res_delta_size_0_ret]
    rcases Delta.sErr_zero hz with ⟨k1, k2, k3, k4, k5⟩ | ⟨k1, k2, k3, k4, k5⟩
    · have hB : Delta.addB (atT d i) 0 = 0 := by unfold Delta.addB; rw [if_pos k1]
      have hp := pst_ph y (atT d i) (by omega) (.inl k1) (by rw [if_pos k1, k2])
      have k0 : ((sk (atT d i) == 0) == true) = false := by rw [k1]; rfl
      simp only [k0, Bool.false_eq_true, if_false]
      rw [if_pos (b1 _), ← hp]
      refine go b ⟨?_, fun q hq h0 => ?_⟩ hb0 (by omega)
      · unfold pst; rw [if_neg (by omega), if_pos k1]; simp; omega
      · unfold pst at hq; rw [if_neg (by omega), if_pos k1] at hq
        rcases List.mem_append.1 hq with hq | hq
        · exact hy.n q hq h0
        · rw [List.mem_singleton.1 hq] at h0; cases h0
    · have hnk : ¬ sk (atT d i) = 1 := by rcases k1 with k1 | ⟨k1, _⟩ <;> omega
      have hB : Delta.addB (atT d i) 0 = sn (atT d i) := by unfold Delta.addB; rw [if_neg hnk]; omega
      rcases k1 with k1 | ⟨k1, _⟩
      · have k0 : ((sk (atT d i) == 0) == true) = true := by rw [k1]; rfl
        simp only [k0, if_true]
        have hpst : pst y (atT d i) = mrgK y (sn (atT d i)) [] := by unfold pst; rw [if_pos k1]
        have hssz : ssz (atT d i) = sn (atT d i) := by unfold ssz; rw [if_neg hnk]
        have py : Py (mrgK y (sn (atT d i)) []) (b + sn (atT d i)) (i + 1) := by
          refine ⟨by have := mrg_len y (sn (atT d i)) []; omega, fun q hq h0 => ?_⟩
          rcases mrg_mem hq with z | z | ⟨r, r1, r2, r3, r4⟩
          · have := hy.n q z h0; exact ⟨this.1, by omega, this.2.2⟩
          · rw [z, sn_mk]; exact ⟨by omega, by omega, rfl, rfl⟩
          · have := hy.n r r1 r2
            rw [r4, sn_mk]; exact ⟨by omega, by omega, r3, this.2.2.2⟩
        have q5 : ∀ n : Int, ph (mkT 0 n [] []) = (0, n) := fun n => by show (0, n + ((0 : Nat) : Int)) = _; simp
        have fin := go (b + sn (atT d i)) (by rw [hpst]; exact py) (by omega) (by omega)
        rw [hpst] at fin ⊢
        rcases last_cases y with h | ⟨c, s, h⟩
        · subst h
          have w' : IntKind.i64.wrap (((List.length (List.map ph []) : Nat) : Int) - 1) = -1 := rfl
          have c1 : decide ((-1 : Int) ≥ 0) = false := id rfl
          simp only [w', c1, show (false == true) = false from rfl, Bool.false_eq_true, if_false]
          rw [if_pos (b1 _), ← fin, k1, hssz]
          show L_delta_Axis_0 big m [((0, sn (atT d i)) : YSpan.den)] _ _ _ = L_delta_Axis_0 big m [ph (mkT 0 (sn (atT d i)) [] [])] _ _ _
          rw [q5]
        · subst h
          have hlen : (List.map ph (c ++ [s])).length = c.length + 1 := by simp
          have hcl : c.length + 1 ≤ i := by simpa using hyl
          have wl : IntKind.i64.wrap (((List.map ph (c ++ [s])).length : Int) - 1) = ((c.length : Nat) : Int) := wnat (by rw [hlen]; omega) (by omega)
          have em : List.map ph (c ++ [s]) = List.map ph c ++ [ph s] := by simp
          have at1 : at_ (e := YSpan) (List.map ph (c ++ [s])) ((c.length : Nat) : Int) = ph s := by
            have := at_lastS (List.map ph c) (ph s)
            rw [List.length_map, ← em] at this
            exact this
          have c1 : decide (((c.length : Nat) : Int) ≥ 0) = true := decide_eq_true (by omega)
          have c2 : c.length < (List.map ph (c ++ [s])).length := by omega
          have e1 : (ph s).1 = sk s := rfl
          simp only [wl, at1, c1, beq_self_eq_true, if_true, inb, c2, e1]
          rw [mrg_last] at fin ⊢
          by_cases z0 : sk s = 0
          · obtain ⟨z1, z2, z3, z4⟩ := hy.n s (by simp) z0
            rw [if_pos (show (sk s = 0 ∧ eqA (sa s) [] = true) from ⟨z0, by rw [z3]; exact eqA_nil⟩)] at fin ⊢
            have e2 : (ph s).2 = sn s := by show sn s + ((se s).length : Int) = _; rw [z4]; simp
            have wn : IntKind.i64.wrap (sn s + sn (atT d i)) = sn s + sn (atT d i) := w64 (by omega) (by omega)
            rw [← fin]
            simp only [z0, beq_self_eq_true, if_true, e2, wn, Int.toNat_natCast]
            rw [em]
            have e3 : List.set (List.map ph c ++ [ph s]) c.length ((0, sn s + sn (atT d i)) : YSpan.den) = List.map ph c ++ [(0, sn s + sn (atT d i))] := by
              have e3 : c.length = (List.map ph c).length := by simp
              rw [e3]; simp
            rw [e3, List.map_append, z3, z4]
            show _ = L_delta_Axis_0 big m (_ ++ [ph (mkT 0 (sn s + sn (atT d i)) [] [])]) _ _ _
            rw [q5]
          · have z0' : (sk s == 0) = false := by simpa using z0
            rw [if_neg (show ¬ (sk s = 0 ∧ eqA (sa s) [] = true) from fun z => z0 z.1)] at fin ⊢
            rw [← fin]
            simp only [z0', Bool.false_eq_true, if_false]
            rw [if_pos (b1 _), k1, hssz, List.map_append (l₁ := c ++ [s])]
            show _ = L_delta_Axis_0 big m (_ ++ [ph (mkT 0 (sn (atT d i)) [] [])]) _ _ _
            rw [q5]
      · have hp := pst_ph y (atT d i) (by omega) (.inr ⟨k1, k2⟩) (by rw [if_neg hnk])
        have k0 : ((sk (atT d i) == 0) == true) = false := by rw [k1]; rfl
        simp only [k0, Bool.false_eq_true, if_false]
        rw [if_pos (b1 _), ← hp]
        refine go b ⟨?_, fun q hq h0 => ?_⟩ hb0 (by omega)
        · unfold pst; rw [if_neg (by omega), if_neg hnk]; simp; omega
        · unfold pst at hq; rw [if_neg (by omega), if_neg hnk] at hq
          rcases List.mem_append.1 hq with hq | hq
          · exact hy.n q hq h0
          · rw [List.mem_singleton.1 hq] at h0; cases h0
theorem daxis_eq (d : Delta.Steps) (hd : Ds d) : C_delta_Axis F_delta_Axis d = some (if err d ≠ 0 then ret_delta_Axis [] (err d) else ret_delta_Axis ((pd [] d).map ph) 0) := by
  rw [e_delta_Axis, (Delta.check_eq d hd).1]
  by_cases h : err d = 0
  · obtain ⟨hv, hb, _⟩ := dErr_zero d none 0 0 h
    have := axis_loop d hd hv (by omega) d.length 0 big [] 0 (by omega) (big_ge (n := d.length + 1) (by have := hd.1; omega)) ⟨Nat.le_refl _, fun s hs => by simp at hs⟩ (Int.le_refl _) (by rw [List.drop_zero]; omega)
    rw [List.drop_zero] at this
    rw [h, if_neg (by simp)]
    exact this
  · have b : (err d != 0) = true := by simpa using h
    rw [if_pos (show err d ≠ 0 from h)]
    simp only [Option.bind_some, res_delta_Check_0_ret, b, bct]
theorem ilL_plain : ∀ (x : List Flow) (c : List Bool) (t : List Attrs), t.length = c.length → ilL x c (List.replicate c.length []) = (ilL x c t).map pl
  | x :: xs, c :: cs, t :: ts, h => by
    show x.map U.a ++ uni c [] :: ilL xs cs (List.replicate cs.length []) = (x.map U.a ++ uni c t :: ilL xs cs ts).map pl
    rw [ilL_plain xs cs ts (by simpa using h), List.map_append, List.map_cons, List.map_map]
    cases c <;> rfl
  | [x], [], [], h => by
    show x.map U.a = (x.map U.a).map pl
    rw [List.map_map]; rfl
  | _ :: _ :: _, [], [], h => rfl
  | [], [], [], h => rfl
  | [], _ :: _, _, h => rfl
  | x, [], _ :: _, h => by simp at h
  | x :: xs, _ :: _, [], h => by simp at h
theorem plain_eq (a : Delta.Act) (hl : a.2.1.length ≤ 1048576) : C_law_plain F_law_plain a = some (ret_law_plain (a.1, a.2.1, List.replicate a.2.1.length [])) := by
  rw [e_law_plain, if_pos ⟨by omega, rfl, by omega, by omega⟩, Int.toNat_natCast]
theorem befs_pl (us : List U) : cB (us.map pl) = cB us ∧ cA (us.map pl) = cA us := by
  induction us with
  | nil => exact ⟨rfl, rfl⟩
  | cons u us ih =>
    cases u with
    | a x => exact ⟨ih.1, congrArg (· + 1) ih.2⟩
    | c => exact ⟨congrArg (· + 1) ih.1, ih.2⟩
    | k t => exact ⟨congrArg (· + 1) ih.1, congrArg (· + 1) ih.2⟩
theorem pl_ok (us : List U) (h : ∀ u ∈ us, okU u) : ∀ u ∈ us.map pl, okU u := fun u hu => by
  obtain ⟨v, hv, rfl⟩ := List.mem_map.1 hu
  cases v with
  | a x => exact h _ hv
  | c => trivial
  | k t => exact (rfl : Attr.err true [] = 0)
theorem pd_att (d : Delta.Steps) : ∀ s ∈ pd [] d, sk s = 0 → sa s = [] := by
  have : ∀ (d y : Delta.Steps), (∀ s ∈ y, sk s = 0 → sa s = []) → ∀ s ∈ pd y d, sk s = 0 → sa s = [] := by
    intro d
    induction d with
    | nil => intro y h; exact h
    | cons t d ih =>
      intro y h
      refine ih (pst y t) fun s hs k0 => ?_
      unfold pst at hs
      split at hs
      · rcases mrg_mem hs with z | z | ⟨r, r1, r2, r3, r4⟩
        · exact h s z k0
        · rw [z]; rfl
        · rw [r4]; exact r3
      · split at hs
        · rcases List.mem_append.1 hs with hs | hs
          · exact h s hs k0
          · rw [List.mem_singleton.1 hs]; rfl
        · rcases List.mem_append.1 hs with hs | hs
          · exact h s hs k0
          · rw [List.mem_singleton.1 hs]; rfl
  exact this d [] (fun s hs => by simp at hs)
/-- What the document says of the axis of a short delta. -/
theorem raxis_eq (d : Delta.Steps) (hd : Ds d) (he : err d = 0) (hs : befs d ≤ 300) (heb : eb d ≤ 999000) : C_R_ActOf F_R_ActOf d = some (ret_R_ActOf (actL d A0)) ∧ C_law_plain F_law_plain (actL d A0) = some (ret_law_plain ((actL d A0).1, (actL d A0).2.1, List.replicate (actL d A0).2.1.length [])) ∧
    C_law_steps F_law_steps ((actL d A0).1, (actL d A0).2.1, List.replicate (actL d A0).2.1.length []) = some (ret_law_steps ((pd [] d).map ph)) ∧ (pd [] d).length ≤ 3000000 ∧ Axis.E ((pd [] d).map ph) = 0 ∧ befs (pd [] d) = befs d := by
  obtain ⟨hv, hb, ha⟩ := dErr_zero d none 0 0 he
  have nb' := nb_befs hv
  have pos : ∀ s ∈ d, sk s = 1 ∨ 0 ≤ sn s := fun s hs => by
    rcases Delta.sErr_zero (hv s hs) with ⟨h1, _⟩ | ⟨_, _, h3, _⟩
    · exact .inl h1
    · exact .inr (by omega)
  obtain ⟨oa, ia⟩ := act_ex d
  obtain ⟨la, ea'⟩ := actL_size d A0 ⟨rfl, rfl⟩
  have y1 : A0.2.1.length = 0 := rfl
  have y2 : ebl A0.1 = 0 := rfl
  have hok := ok_ex (l := d) fun s hs => ⟨fun k => by
    rcases Delta.sErr_zero (hv s hs) with ⟨_, _, _, _, q⟩ | ⟨q, _⟩
    · exact q
    · rcases q with q | q <;> omega, sErr_attr (hv s hs)⟩
  obtain ⟨x1, x2⟩ := cB_ex d
  obtain ⟨z1, z2⟩ := befs_pl (ex d)
  obtain ⟨v1, v2, v3⟩ := valid_out _ (pl_ok _ hok) (by omega) (by omega)
  have pe := pd_eq he
  have hP : AOk (((actL d A0).1, (actL d A0).2.1, List.replicate (actL d A0).2.1.length []) : Delta.Act) := ⟨oa.h1, by simp⟩
  have hil : ilL (actL d A0).1 (actL d A0).2.1 (List.replicate (actL d A0).2.1.length []) = (ex d).map pl := by
    rw [ilL_plain _ _ _ oa.h2]
    exact congrArg _ ia
  have hdel := delta_eq ((actL d A0).1, (actL d A0).2.1, List.replicate (actL d A0).2.1.length []) hP (by show (actL d A0).2.1.length ≤ _; omega) (atr_small _ (fun t ht => by rw [List.eq_of_mem_replicate ht]; exact Nat.zero_le _)) (by show ebl (actL d A0).1 ≤ _; omega)
  have hdel : C_R_DeltaOf F_R_DeltaOf ((actL d A0).1, (actL d A0).2.1, List.replicate (actL d A0).2.1.length []) = some (ret_R_DeltaOf (pd [] d)) := by
    rw [hdel]
    show some (ret_R_DeltaOf (out (runA (actL d A0).1 (actL d A0).2.1 (List.replicate (actL d A0).2.1.length []) w0))) = _
    rw [runA_il, hil, pe]
  have sm := out_small (runP ((ex d).map pl) w0) v1 (by omega) (by omega)
  rw [← pe] at sm v1 v2
  refine ⟨act_eq d hd.1 pos (by omega) (by omega), plain_eq _ (by omega), steps_eq _ _ hdel sm.1 sm.2, sm.1, err_ph _ none 0 0 v1 (by decide) (fun s hs k0 => ?_) (fun q h => by cases h), by omega⟩
  exact pd_att d s hs k0
end Go.Ev.AxisP
