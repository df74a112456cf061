
import Derived.Test.YtlgjdgebmiegeaaPAxP
import Derived.Test.YtlgjdgebmiegeaaGSteps
namespace Go.Ev.AxisP
open Go.Ev Go.Ev.Attr Go.Ev.Track Go.Ev.Delta
set_option linter.unusedVariables false
set_option linter.unusedSimpArgs false
def ps (s : YSpan.den) : YStep.den := if Axis.sk s = 1 then mkT 1 0 [] (List.replicate (Axis.sn s).toNat X) else mkT (Axis.sk s) (Axis.sn s) [] []
theorem act_inner (a : Ax) (o : Delta.Steps) (k z x7 x8 : Int) (N : Nat) (hN : N ≤ 1048576) (m1 : Nat) : ∀ (d j m : Nat) (e : Flow), j + d = N → d < m → e.length + d ≤ 1048576 →
    L_law_act_1 big m1 m a o k z e x7 x8 (N : Int) (j : Int) = L_law_act_1 big m1 1 a o k z (e ++ List.replicate d X) x7 x8 (N : Int) (N : Int) := by
  intro d
  induction d with
  | zero =>
    intro j m e hj hm he
    obtain ⟨m, rfl⟩ : ∃ k, m = k + 1 := ⟨m - 1, by omega⟩
    have : j = N := by omega
    subst this
    rw [List.replicate_zero, List.append_nil, L_law_act_1_step, show (1 : Nat) = 0 + 1 from rfl, L_law_act_1_step]
    simp only [bcond_if, dlt_self, Bool.false_eq_true, if_false]
  | succ d ih =>
    intro j m e hj hm he
    obtain ⟨m, rfl⟩ : ∃ k, m = k + 1 := ⟨m - 1, by omega⟩
    have w1 := wsucc (show j < N by omega) (show N ≤ 4611686018427387904 by omega)
    have b1 : (e.length + List.length [((120, (0, [])) : YElem.den)]) * 40 ≤ 140737488355328 := c40 _ _ (by simp; omega)
    have := ih (j + 1) m (e ++ [X]) (by omega) (by omega) (by simp; omega)
    rw [List.append_assoc] at this
    rw [List.replicate_succ]
    refine Eq.trans ?_ this
    rw [L_law_act_1_step]
    simp only [bcond_if, dlt (show j < N by omega), if_true, w1]
    rw [if_pos b1]
    rfl
theorem nb_ps : ∀ {a : Ax}, Axis.Good a → (nb (a.map ps) : Int) = Axis.sumB a ∧ (eb (a.map ps) : Int) ≤ Axis.sumN a ∧ (∀ s ∈ a.map ps, sk s = 1 ∨ 0 ≤ sn s) ∧ ex (a.map ps) = xs a ∧ (∀ s ∈ a, Axis.sn s ≤ Axis.sumN a)
  | [], _ => ⟨rfl, Int.le_refl _, fun s h => by simp at h, rfl, fun s h => by simp at h⟩
  | s :: a, h => by
    obtain ⟨g1, g2, g3, g4⟩ := good_cons h
    obtain ⟨i1, i2, i3, i4, i5⟩ := nb_ps g4
    have hp := (Axis.sum_pos g4)
    have eN : Axis.sumN (s :: a) = Axis.sn s + Axis.sumN a := rfl
    have eB := sumB_cons s a
    obtain ⟨n, hn⟩ : ∃ n : Nat, Axis.sn s = (n : Int) := ⟨(Axis.sn s).toNat, by omega⟩
    by_cases k1 : Axis.sk s = 1
    · have e : ps s = mkT 1 0 [] (List.replicate n X) := by unfold ps; rw [if_pos k1, hn]; rfl
      rw [if_pos k1] at eB
      rw [List.map_cons, e]
      refine ⟨?_, ?_, fun t ht => ?_, ?_, fun t ht => ?_⟩
      · show (((if (1 : Int) = 1 then 0 else (0 : Int).toNat) + nb (a.map ps) : Nat) : Int) = _
        rw [if_pos rfl, eB]; omega
      · show (((List.replicate n X).length + eb (a.map ps) : Nat) : Int) ≤ _
        rw [List.length_replicate, eN]; omega
      · rcases List.mem_cons.1 ht with rfl | ht
        · exact .inl rfl
        · exact i3 t ht
      · show exS (mkT 1 0 [] (List.replicate n X)) ++ ex (a.map ps) = List.replicate (Axis.sn s).toNat (un s) ++ xs a
        have : exS (mkT 1 0 [] (List.replicate n X)) = (List.replicate n X).map U.a := rfl
        rw [this, i4, hn, List.map_replicate]
        unfold un; rw [if_pos k1]; rfl
      · rcases List.mem_cons.1 ht with rfl | ht
        · omega
        · have := i5 t ht; omega
    · have e : ps s = mkT (Axis.sk s) n [] [] := by unfold ps; rw [if_neg k1, hn]
      rw [if_neg k1] at eB
      rw [List.map_cons, e]
      refine ⟨?_, ?_, fun t ht => ?_, ?_, fun t ht => ?_⟩
      · show (((if Axis.sk s = 1 then 0 else (n : Int).toNat) + nb (a.map ps) : Nat) : Int) = _
        rw [if_neg k1, eB]; omega
      · show (((0 : Nat) + eb (a.map ps) : Nat) : Int) ≤ _
        rw [eN]; omega
      · rcases List.mem_cons.1 ht with rfl | ht
        · exact .inr (by show (0 : Int) ≤ n; omega)
        · exact i3 t ht
      · show exS (mkT (Axis.sk s) n [] []) ++ ex (a.map ps) = List.replicate (Axis.sn s).toNat (un s) ++ xs a
        have : exS (mkT (Axis.sk s) n [] []) = List.replicate n (uni (Axis.sk s == 2) []) := by
          unfold exS; rw [sk_mk, if_neg k1, sn_mk]; rfl
        rw [this, i4, hn]
        unfold un; rw [if_neg k1]; rfl
      · rcases List.mem_cons.1 ht with rfl | ht
        · omega
        · have := i5 t ht; omega
theorem act_loop (a : Ax) (hl : a.length ≤ 1048576) (g : Axis.Good a) (hN : Axis.sumN a ≤ 1048576) : ∀ (d i m : Nat), i + d = a.length → d < m →
    L_law_act_0 big m a ((a.take i).map ps) (a.length : Int) (i : Int) = (C_R_ActOf F_R_ActOf (a.map ps)).bind fun r1 => some (ret_law_act (res_R_ActOf_0 r1)) := by
  intro d
  induction d with
  | zero =>
    intro i m hi hm
    obtain ⟨m, rfl⟩ : ∃ k, m = k + 1 := ⟨m - 1, by omega⟩
    have : i = a.length := by omega
    subst this
    rw [L_law_act_0_step, List.take_length]
    simp only [bcond_if, dlt_self, Bool.false_eq_true, if_false]
  | succ d ih =>
    intro i m hi hm
    obtain ⟨m, rfl⟩ : ∃ k, m = k + 1 := ⟨m - 1, by omega⟩
    have hil : i < a.length := by omega
    have w1 := wsucc hil (show a.length ≤ 4611686018427387904 by omega)
    have ea0 : at_ (e := YSpan) a (i : Int) = a[i] := at_get (e := YSpan) a i hil
    have e1 : (a[i] : YSpan.den).1 = Axis.sk a[i] := rfl
    have e2 : (a[i] : YSpan.den).2 = Axis.sn a[i] := rfl
    have hm2 : a[i] ∈ a := List.getElem_mem hil
    have hle := (nb_ps g).2.2.2.2 _ hm2
    have hpos : 1 ≤ Axis.sn a[i] := by
      have := (Axis.good_at g hil).2.1
      have e : Axis.num a i = Axis.sn a[i] := by unfold Axis.num; rw [ea0]; rfl
      omega
    obtain ⟨n, hn⟩ : ∃ n : Nat, Axis.sn a[i] = (n : Int) := ⟨(Axis.sn a[i]).toNat, by omega⟩
    have b1 : ∀ x : YStep.den, (((a.take i).map ps).length + [x].length) * 64 ≤ 140737488355328 := fun x => b64 _ 1 (by simp; omega) (by omega)
    have et : (a.take (i + 1)).map ps = (a.take i).map ps ++ [ps a[i]] := by
      rw [List.take_succ_eq_append_getElem hil, List.map_append]; rfl
    have := ih (i + 1) m (by omega) (by omega)
    rw [← this, et, L_law_act_0_step]
    simp only [bcond_if, dlt hil, inb, hil, if_true, ea0, e1, e2, w1]
    by_cases k1 : Axis.sk a[i] = 1
    · have e : ps a[i] = (1, (0, ([], List.replicate n X))) := by unfold ps; rw [if_pos k1, hn]; rfl
      simp only [k1, beq_self_eq_true, if_true, hn]
      have hin := act_inner a ((a.take i).map ps) 1 0 (a.length : Int) (i : Int) n (by omega) m n 0 big [] (by omega) (big_ge (n := n + 1) (by omega)) (by simp; omega)
      refine Eq.trans hin ?_
      rw [show (1 : Nat) = 0 + 1 from rfl, L_law_act_1_step]
      simp only [bcond_if, dlt_self, Bool.false_eq_true, if_false, List.nil_append]
      rw [if_pos (b1 _), e, Nat.zero_add, w1]
    · have k1' : (Axis.sk a[i] == 1) = false := by simpa using k1
      have e : ps a[i] = (Axis.sk a[i], ((n : Int), ([], []))) := by unfold ps; rw [if_neg k1, hn]; rfl
      simp only [k1', Bool.false_eq_true, if_false, hn]
      rw [if_pos (b1 _), e]
theorem act_ax (a : Ax) (hl : a.length ≤ 1048576) (g : Axis.Good a) (hN : Axis.sumN a ≤ 1048576) : C_law_act F_law_act a = some (ret_law_act (actL (a.map ps) A0)) := by
  obtain ⟨i1, i2, i3, _⟩ := nb_ps g
  have hp := Axis.sum_pos g
  have := act_loop a hl g hN a.length 0 big (by omega) (big_ge (n := a.length + 1) (by omega))
  rw [act_eq (a.map ps) (by simpa using hl) i3 (by omega) (by omega)] at this
  rw [e_law_act]
  exact this
theorem steps_loop (y : Delta.Steps) (hl : y.length ≤ 3000000) (hs : ∀ s ∈ y, 0 ≤ sn s ∧ sn s ≤ 1152921504606846976 ∧ (se s).length ≤ 1048576) : ∀ (d i m : Nat), i + d = y.length → d < m →
    L_law_steps_0 big m ((y.take i).map ph) y (y.length : Int) (i : Int) = some (ret_law_steps (y.map ph)) := by
  intro d
  induction d with
  | zero =>
    intro i m hi hm
    obtain ⟨m, rfl⟩ : ∃ k, m = k + 1 := ⟨m - 1, by omega⟩
    have : i = y.length := by omega
    subst this
    rw [L_law_steps_0_step, List.take_length]
    simp only [bcond_if, dlt_self, Bool.false_eq_true, if_false]
  | succ d ih =>
    intro i m hi hm
    obtain ⟨m, rfl⟩ : ∃ k, m = k + 1 := ⟨m - 1, by omega⟩
    have hil : i < y.length := by omega
    have w1 := wsucc hil (show y.length ≤ 4611686018427387904 by omega)
    have ea0 : at_ (e := YStep) y (i : Int) = y[i] := at_get (e := YStep) y i hil
    have e1 : (y[i] : YStep.den).1 = sk y[i] := rfl
    have e2 : (y[i] : YStep.den).2.1 = sn y[i] := rfl
    have e4 : (y[i] : YStep.den).2.2.2 = se y[i] := rfl
    have h := hs _ (List.getElem_mem hil)
    have w2 : IntKind.i64.wrap (sn y[i] + ((se y[i]).length : Int)) = sn y[i] + ((se y[i]).length : Int) := w64 (by omega) (by omega)
    have b1 : ∀ x : YSpan.den, (((y.take i).map ph).length + [x].length) * 16 ≤ 140737488355328 := fun x => c16 _ _ (by simp; omega)
    have et : (y.take (i + 1)).map ph = (y.take i).map ph ++ [ph y[i]] := by
      rw [List.take_succ_eq_append_getElem hil, List.map_append]; rfl
    have := ih (i + 1) m (by omega) (by omega)
    rw [← this, et, L_law_steps_0_step]
    simp only [bcond_if, dlt hil, inb, hil, if_true, ea0, e1, e2, e4, w1, w2]
    rw [if_pos (b1 _)]
    rfl
theorem steps_eq (a : Delta.Act) (y : Delta.Steps) (h : C_R_DeltaOf F_R_DeltaOf a = some (ret_R_DeltaOf y)) (hl : y.length ≤ 3000000) (hs : ∀ s ∈ y, 0 ≤ sn s ∧ sn s ≤ 1152921504606846976 ∧ (se s).length ≤ 1048576) : C_law_steps F_law_steps a = some (ret_law_steps (y.map ph)) := by
  have := steps_loop y hl hs y.length 0 big (by omega) (big_ge (n := y.length + 1) (by omega))
  rw [e_law_steps, h]
  simp only [Option.bind_some, res_R_DeltaOf_0_ret]
  exact this
theorem ssteps_loop (x : Ax) (hl : x.length ≤ 3000000) : ∀ (d i m : Nat), i + d = x.length → d < m → L_R_SameSteps_0 big m x x (x.length : Int) (i : Int) = some (ret_R_SameSteps true) := by
  intro d
  induction d with
  | zero =>
    intro i m hi hm
    obtain ⟨m, rfl⟩ : ∃ k, m = k + 1 := ⟨m - 1, by omega⟩
    have : i = x.length := by omega
    subst this
    rw [L_R_SameSteps_0_step]
    simp only [bcond_if, dlt_self, Bool.false_eq_true, if_false]
  | succ d ih =>
    intro i m hi hm
    obtain ⟨m, rfl⟩ : ∃ k, m = k + 1 := ⟨m - 1, by omega⟩
    have hil : i < x.length := by omega
    have w1 := wsucc hil (show x.length ≤ 4611686018427387904 by omega)
    rw [L_R_SameSteps_0_step]
    simp only [bcond_if, dlt hil, inb, hil, if_true, w1, beq_self_eq_true, Bool.and_self, Bool.and_true, Bool.not_true, Bool.false_eq_true, if_false]
    exact ih (i + 1) m (by omega) (by omega)
theorem ssteps_self (x : Ax) (hl : x.length ≤ 3000000) : C_R_SameSteps F_R_SameSteps x x = some (ret_R_SameSteps true) := by
  rw [e_R_SameSteps]
  simp only [bne_self_eq_false, bcf]
  exact ssteps_loop x hl x.length 0 big (by omega) (big_ge (n := x.length + 1) (by omega))
theorem addA_mem : ∀ {l : Delta.Steps}, (∀ s ∈ l, Delta.sErr s = 0) → ∀ s ∈ l, Delta.addA s 0 ≤ afts l
  | [], _, s, hs => by simp at hs
  | t :: l, hv, s, hs => by
    have p1 := afts_nn (l := l) (fun t ht => hv t (by simp [ht]))
    have p2 := (one_pos (p := none) (one_of (hv t (by simp)) (fun q h => by cases h))).2
    simp only [afts]
    rcases List.mem_cons.1 hs with rfl | hs
    · omega
    · have := addA_mem (l := l) (fun t ht => hv t (by simp [ht])) s hs; omega
theorem out_small (w : W) (he : err (out w) = 0) (hb : befs (out w) ≤ 100000) (ha : afts (out w) ≤ 100000) : (out w).length ≤ 3000000 ∧ ∀ s ∈ out w, 0 ≤ sn s ∧ sn s ≤ 1152921504606846976 ∧ (se s).length ≤ 1048576 := by
  have hv := (dErr_zero _ none 0 0 he).1
  have := len_ba _ hv
  refine ⟨by omega, fun s hs => ?_⟩
  have hA := addA_mem hv s hs
  unfold Delta.addA ssz at hA
  rcases Delta.sErr_zero (hv s hs) with ⟨k1, k2, k3, k4, k5⟩ | ⟨k1, k2, k3, k4, k5⟩
  · rw [if_neg (by omega), if_pos k1] at hA
    omega
  · rw [k2]
    exact ⟨by omega, by omega, Nat.zero_le _⟩
theorem xs_ok : ∀ (a : Ax), ∀ u ∈ xs a, okU u ∧ (u = .a X ∨ u = .c ∨ u = .k [])
  | [], u, hu => by simp [xs] at hu
  | s :: a, u, hu => by
    rcases List.mem_append.1 (show u ∈ List.replicate (Axis.sn s).toNat (un s) ++ xs a from hu) with hu | hu
    · rw [List.eq_of_mem_replicate hu]
      unfold un
      split
      · exact ⟨(rfl : eErr X = 0), .inl rfl⟩
      · unfold uni
        split
        · exact ⟨trivial, .inr (.inl rfl)⟩
        · exact ⟨(rfl : Attr.err true [] = 0), .inr (.inr rfl)⟩
    · exact xs_ok a u hu
theorem xs_len : ∀ {a : Ax}, Axis.Good a → ((xs a).length : Int) = Axis.sumN a
  | [], _ => rfl
  | s :: a, h => by
    obtain ⟨g1, g2, g3, g4⟩ := good_cons h
    have := xs_len g4
    show (((List.replicate (Axis.sn s).toNat (un s) ++ xs a).length : Nat) : Int) = Axis.sn s + Axis.sumN a
    rw [List.length_append, List.length_replicate]; omega
section
variable (a b : Ax) (ha : a.length ≤ 1048576) (hb : b.length ≤ 1048576) (hlen : a.length + b.length ≤ 600000)
include ha hb hlen
def pout (u v : Delta.Steps) : sig_axis_Pair.Out := if Axis.E (u.map ph) = 0 ∧ Axis.E (v.map ph) = 0 then ret_axis_Pair (u.map ph) (v.map ph) 0 else ret_axis_Pair [] [] 3
/-- What Pair returns. -/
theorem pair_eq : C_axis_Pair F_axis_Pair a b = some (if Axis.E a ≠ 0 then ret_axis_Pair [] [] (Axis.E a) else if Axis.E b ≠ 0 then ret_axis_Pair [] [] (Axis.E b) else if Axis.sumB a ≠ Axis.sumB b then ret_axis_Pair [] [] 14 else
    pout (out (runP (z1 (xs a) (xs b)) w0)) (out (runP (z2 (xs a) (xs b)) w0))) ∧
    (Axis.E a = 0 → Axis.E b = 0 → Axis.sumB a = Axis.sumB b → Aw (runP (z1 (xs a) (xs b)) w0) 600000 ∧ Aw (runP (z2 (xs a) (xs b)) w0) 600000) := by
  by_cases h1 : Axis.E a = 0
  · by_cases h2 : Axis.E b = 0
    · by_cases h3 : Axis.sumB a = Axis.sumB b
      · have ga := (Axis.E_good h1).1
        have gb := (Axis.E_good h2).1
        have e1 : rb a 0 = Axis.sumB a := by unfold rb; omega
        have e2 : rb b 0 = Axis.sumB b := by unfold rb; omega
        obtain ⟨r1, r2, r3⟩ := pair_loop (a.length + b.length) big a b 0 0 w0 w0 0 rfl (big_ge (n := a.length + b.length + 1) (by omega)) ⟨ga, .inl rfl⟩ ⟨gb, .inl rfl⟩ (by omega) aw0 aw0 (by omega)
        rw [ru_zero, ru_zero] at r1 r2 r3
        have t1 := r2.mono (k' := 600000) (by omega)
        have t2 := r3.mono (k' := 600000) (by omega)
        refine ⟨?_, fun _ _ _ => ⟨t1, t2⟩⟩
        rw [if_neg (show ¬ Axis.E a ≠ 0 by simp [h1]), if_neg (show ¬ Axis.E b ≠ 0 by simp [h2]), if_neg (show ¬ Axis.sumB a ≠ Axis.sumB b by simp [h3])]
        rw [e_axis_Pair, Axis.check_eq a ha, Axis.check_eq b hb, Axis.lengths_eq a ha h1, Axis.lengths_eq b hb h2]
        simp only [Option.bind_some, res_axis_Check_0_ret, res_axis_lengths_0_ret, bcond_if, h1, h2, h3, bne_self_eq_false, Bool.false_eq_true, if_false]
        refine Eq.trans r1 ?_
        generalize runP (z1 (xs a) (xs b)) w0 = x at t1 ⊢
        generalize runP (z2 (xs a) (xs b)) w0 = y at t2 ⊢
        obtain ⟨q, q1, q2, q3⟩ := done_ax t1 (by omega)
        obtain ⟨p, p1, p2, p3⟩ := done_ax t2 (by omega)
        unfold fin pout
        rw [q1, p1]
        simp only [Option.bind_some, q2, q3, p2, p3, bcond_if]
        by_cases z1 : Axis.E ((out x).map ph) = 0
        · by_cases z2 : Axis.E ((out y).map ph) = 0
          · simp [z1, z2]
          · simp [z1, z2]
        · simp [z1]
      · refine ⟨?_, fun _ _ z => absurd z h3⟩
        rw [e_axis_Pair, Axis.check_eq a ha, Axis.check_eq b hb, Axis.lengths_eq a ha h1, Axis.lengths_eq b hb h2]
        have z2 : (Axis.sumB a != Axis.sumB b) = true := by simpa using h3
        simp [bcond_if, h1, h2, h3, z2]
    · refine ⟨?_, fun _ z => absurd z h2⟩
      rw [e_axis_Pair, Axis.check_eq a ha, Axis.check_eq b hb]
      have z2 : (Axis.E b != 0) = true := by simpa using h2
      simp [bcond_if, h1, h2, z2]
  · refine ⟨?_, fun z => absurd z h1⟩
    rw [e_axis_Pair, Axis.check_eq a ha]
    have z2 : (Axis.E a != 0) = true := by simpa using h1
    simp [bcond_if, h1, z2]
theorem law_pair : C_law_AxisPairMatches F_law_AxisPairMatches a b = some (ret_law_AxisPairMatches true) := by
  obtain ⟨pe, pt⟩ := pair_eq a b ha hb hlen
  have key : ∀ t, t = (if Axis.E a = 0 then Axis.E b else Axis.E a) → ∀ z, z = (if Axis.E a ≠ 0 then ret_axis_Pair [] [] (Axis.E a) else if Axis.E b ≠ 0 then ret_axis_Pair [] [] (Axis.E b) else if Axis.sumB a ≠ Axis.sumB b then ret_axis_Pair [] [] 14 else
    pout (out (runP (z1 (xs a) (xs b)) w0)) (out (runP (z2 (xs a) (xs b)) w0))) →
      J_law_AxisPairMatches_0 big a b (res_axis_Pair_0 z) (res_axis_Pair_1 z) (res_axis_Pair_2 z) t = some (ret_law_AxisPairMatches true) := by
    intro t ht z hz
    unfold J_law_AxisPairMatches_0
    by_cases h1 : Axis.E a = 0
    · rw [if_pos h1] at ht
      rw [if_neg (show ¬ Axis.E a ≠ 0 by simp [h1])] at hz
      by_cases h2 : Axis.E b = 0
      · rw [if_neg (show ¬ Axis.E b ≠ 0 by simp [h2])] at hz
        rw [Axis.few_eq a ha h1, Axis.few_eq b hb h2, ht, h2]
        simp only [bcond_if, bne_self_eq_false, Bool.false_eq_true, if_false, Option.bind_some, res_law_few_0_ret]
        have other : (if (res_axis_Pair_2 z == 0) == false then some (ret_law_AxisPairMatches (IntKind.i64.wrap (((res_axis_Pair_0 z).length : Int) + ((res_axis_Pair_1 z).length : Int)) == 0)) else some (ret_law_AxisPairMatches true)) = some (ret_law_AxisPairMatches true) := by
          rw [hz]
          by_cases h3 : Axis.sumB a = Axis.sumB b
          · rw [if_neg (show ¬ Axis.sumB a ≠ Axis.sumB b by simp [h3])]
            unfold pout
            split
            · rfl
            · rfl
          · rw [if_pos h3]; rfl
        by_cases s1 : Axis.sumN a ≤ 300
        · by_cases s2 : Axis.sumN b ≤ 300
          · simp only [decide_eq_true s1, decide_eq_true s2, Bool.not_true, beq_self_eq_true, if_true, Bool.false_eq_true, if_false]
            have ga := (Axis.E_good h1).1
            have gb := (Axis.E_good h2).1
            have gpa := Axis.sum_pos ga
            have gpb := Axis.sum_pos gb
            obtain ⟨na, ea1, va, xa, _⟩ := nb_ps ga
            obtain ⟨nb', eb1, vb, xb, _⟩ := nb_ps gb
            obtain ⟨oa, ia⟩ := act_ex (a.map ps)
            obtain ⟨ob, ib⟩ := act_ex (b.map ps)
            obtain ⟨la, ea'⟩ := actL_size (a.map ps) A0 ⟨rfl, rfl⟩
            obtain ⟨lb, eb'⟩ := actL_size (b.map ps) A0 ⟨rfl, rfl⟩
            have y1 : A0.2.1.length = 0 := rfl
            have y2 : ebl A0.1 = 0 := rfl
            have sat : ∀ (l : Ax), ∀ s ∈ l.map ps, (sa s).length ≤ 1048576 := fun l s hs => by
              obtain ⟨t, _, rfl⟩ := List.mem_map.1 hs
              unfold ps; split <;> exact Nat.zero_le _
            have ta := atr_small _ (actL_attrs (a.map ps) A0 (fun t h => by simp [A0] at h) (sat a))
            have tb := atr_small _ (actL_attrs (b.map ps) A0 (fun t h => by simp [A0] at h) (sat b))
            rw [act_ax a ha ga (by omega), act_ax b hb gb (by omega)]
            simp only [Option.bind_some, res_law_act_0_ret]
            by_cases h3 : Axis.sumB a = Axis.sumB b
            · have hl : (actL (b.map ps) A0).2.1.length = (actL (a.map ps) A0).2.1.length := by omega
              obtain ⟨t1, t2⟩ := pt h1 h2 h3
              have n1 := xs_len ga
              have n2 := xs_len gb
              have m1 : (z1 (xs a) (xs b)).length ≤ (xs a).length + (xs b).length := zp_len _ _ _ (fun x => Nat.le_refl _) (fun x => Nat.le_refl _) k1_le _ _ _ (Nat.le_refl _)
              have m2 : (z2 (xs a) (xs b)).length ≤ (xs a).length + (xs b).length := zp_len _ _ _ (fun x => Nat.le_refl _) (fun x => Nat.le_refl _) k2_le _ _ _ (Nat.le_refl _)
              have c1 := cA_len (z1 (xs a) (xs b))
              have c2 := cA_len (z2 (xs a) (xs b))
              have v1 := valid_out _ (z1_ok _ _ (fun u hu => (xs_ok a u hu).1) (fun u hu => (xs_ok b u hu).1)) (by omega) (by omega)
              have v2 := valid_out _ (z2_ok _ _ (fun u hu => (xs_ok a u hu).1) (fun u hu => (xs_ok b u hu).1)) (by omega) (by omega)
              have o1 : Axis.E ((out (runP (z1 (xs a) (xs b)) w0)).map ph) = 0 := err_ph _ none 0 0 v1.1 (by decide) (fun s hs k0 => (t1.out s hs k0).2.2.1) (fun q h => by cases h)
              have o2 : Axis.E ((out (runP (z2 (xs a) (xs b)) w0)).map ph) = 0 := err_ph _ none 0 0 v2.1 (by decide) (fun s hs k0 => (t2.out s hs k0).2.2.1) (fun q h => by cases h)
              rw [if_neg (show ¬ Axis.sumB a ≠ Axis.sumB b by simp [h3])] at hz
              unfold pout at hz
              rw [if_pos ⟨o1, o2⟩] at hz
              subst hz
              have b1 := behind_all _ _ oa ob hl (by omega) ta tb (by omega) (by omega) true
              have b2 := behind_all _ _ ob oa hl.symm (by omega) tb ta (by omega) (by omega) false
              obtain ⟨g1, g2⟩ := bh1_il _ _ oa ob hl (actL (a.map ps) A0).2.1.length 0 A0 (by omega) ⟨rfl, rfl⟩
              obtain ⟨f1, f2⟩ := bh2_il _ _ ob oa hl.symm (actL (b.map ps) A0).2.1.length 0 A0 (by omega) ⟨rfl, rfl⟩
              have ra : rest (actL (a.map ps) A0) 0 = xs a := ia.trans xa
              have rb' : rest (actL (b.map ps) A0) 0 = xs b := ib.trans xb
              rw [ra, rb'] at g2 f2
              have g4 : ilL (bh true (actL (a.map ps) A0) (actL (b.map ps) A0) (actL (a.map ps) A0).2.1.length 0 A0).1 (bh true (actL (a.map ps) A0) (actL (b.map ps) A0) (actL (a.map ps) A0).2.1.length 0 A0).2.1 (bh true (actL (a.map ps) A0) (actL (b.map ps) A0) (actL (a.map ps) A0).2.1.length 0 A0).2.2 = z1 (xs a) (xs b) := g2.trans rfl
              have f4 : ilL (bh false (actL (b.map ps) A0) (actL (a.map ps) A0) (actL (b.map ps) A0).2.1.length 0 A0).1 (bh false (actL (b.map ps) A0) (actL (a.map ps) A0) (actL (b.map ps) A0).2.1.length 0 A0).2.1 (bh false (actL (b.map ps) A0) (actL (a.map ps) A0) (actL (b.map ps) A0).2.1.length 0 A0).2.2 = z2 (xs a) (xs b) := f2.trans rfl
              have i1 := il_AB _ _ _ g1.h1 g1.h2
              have i2 := il_AB _ _ _ f1.h1 f1.h2
              rw [g4] at i1
              rw [f4] at i2
              have q1 := delta_eq _ g1 (by omega) (atr_small _ (bh_all (fun t => t.length ≤ 1048576) (Nat.zero_le _) true _ _ (fun i => Nat.le_trans (lack_len _ _) (ta i)) _ 0 A0 (fun t h => by simp [A0] at h))) (by omega)
              have q2 := delta_eq _ f1 (by omega) (atr_small _ (bh_all (fun t => t.length ≤ 1048576) (Nat.zero_le _) false _ _ (fun i => tb i) _ 0 A0 (fun t h => by simp [A0] at h))) (by omega)
              rw [runA_il, g4] at q1
              rw [runA_il, f4] at q2
              obtain ⟨sz1, sz2⟩ := out_small _ v1.1 (by rw [v1.2.1]; omega) (by rw [v1.2.2]; omega)
              obtain ⟨sz3, sz4⟩ := out_small _ v2.1 (by rw [v2.2.1]; omega) (by rw [v2.2.2]; omega)
              have st1 := steps_eq _ _ q1 sz1 sz2
              have st2 := steps_eq _ _ q2 sz3 sz4
              have ss1 := ssteps_self ((out (runP (z1 (xs a) (xs b)) w0)).map ph) (by simpa using sz1)
              have ss2 := ssteps_self ((out (runP (z2 (xs a) (xs b)) w0)).map ph) (by simpa using sz3)
              have hne : (((actL (a.map ps) A0).2.1.length : Int) != ((actL (b.map ps) A0).2.1.length : Int)) = false := by rw [hl]; exact bne_self_eq_false _
              simp only [hne, Bool.false_eq_true, if_false, res_axis_Pair_0_ret, res_axis_Pair_1_ret, res_axis_Pair_2_ret, beq_self_eq_true, if_true, b1, b2, Option.bind_some, res_R_Behind_0_ret, st1, st2, res_law_steps_0_ret, ss1, ss2, res_R_SameSteps_0_ret]
            · rw [if_pos h3] at hz
              subst hz
              have hne : (((actL (a.map ps) A0).2.1.length : Int) != ((actL (b.map ps) A0).2.1.length : Int)) = true := bne_iff_ne.2 (by omega)
              simp only [hne, if_true, res_axis_Pair_0_ret, res_axis_Pair_1_ret, res_axis_Pair_2_ret, beq_self_eq_true]
              rfl
          · simp only [decide_eq_true s1, decide_eq_false s2, Bool.not_true, Bool.not_false, beq_self_eq_true, if_true, Bool.false_eq_true, if_false]
            exact other
        · simp only [decide_eq_false s1, Bool.not_false, show (true == false) = false from rfl, Bool.false_eq_true, if_false]
          exact other
      · rw [if_pos (show Axis.E b ≠ 0 from h2)] at hz
        have z2 : (Axis.E b != 0) = true := by simpa using h2
        rw [ht, hz]
        simp only [bcond_if, z2, if_true, res_axis_Pair_2_ret, res_axis_Pair_0_ret, res_axis_Pair_1_ret, beq_self_eq_true]
        rfl
    · rw [if_neg h1] at ht
      rw [if_pos (show Axis.E a ≠ 0 from h1)] at hz
      have z2 : (Axis.E a != 0) = true := by simpa using h1
      rw [ht, hz]
      simp only [bcond_if, z2, if_true, res_axis_Pair_2_ret, res_axis_Pair_0_ret, res_axis_Pair_1_ret, beq_self_eq_true]
      rfl
  rw [e_law_AxisPairMatches, Axis.axes_eq, pe, Axis.axerr_eq a ha, Axis.axerr_eq b hb]
  by_cases h1 : Axis.E a = 0
  · have := key (Axis.E b) (by rw [if_pos h1]) _ rfl
    have e0 : (Axis.E a == 0) = true := by simpa using h1
    simp only [Option.bind_some, res_law_axes_0_ret, bct, bcf, Bool.not_true, res_R_AxisError_0_ret, e0]
    exact this
  · have := key (Axis.E a) (by rw [if_neg h1]) _ rfl
    have e0 : (Axis.E a == 0) = false := by simpa using h1
    simp only [Option.bind_some, res_law_axes_0_ret, bct, bcf, Bool.not_true, res_R_AxisError_0_ret, e0]
    exact this
end
theorem span_bulk : ∀ (a : Ax), 2 * a.length + 1 ≤ (Ty.list YSpan).bulk a
  | [] => by simp [Ty.bulk]
  | s :: a => by
    have ih := span_bulk a
    have e : (Ty.list YSpan).bulk (s :: a) = Ty.bulk YSpan s + (Ty.list YSpan).bulk a := by simp [Ty.bulk]; omega
    have e2 : Ty.bulk YSpan s = 1 + 1 := rfl
    rw [e, e2, List.length_cons]; omega
theorem holdsPairX (a b : Ax) (o0 : (Ty.list YSpan).ok a) (o1 : (Ty.list YSpan).ok b) (hb : (Ty.list YSpan).bulk a + (Ty.list YSpan).bulk b ≤ 1048576) : C_law_AxisPairMatches F_law_AxisPairMatches a b = some (ret_law_AxisPairMatches true) := by
  have h3 := span_bulk a
  have h4 := span_bulk b
  exact law_pair a b (by omega) (by omega) (by omega)
end Go.Ev.AxisP
