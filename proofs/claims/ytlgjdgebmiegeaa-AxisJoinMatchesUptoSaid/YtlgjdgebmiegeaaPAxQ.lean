
import Derived.Test.YtlgjdgebmiegeaaPAxP
import Derived.Test.YtlgjdgebmiegeaaGSteps
namespace Go.Ev.AxisP
open Go.Ev Go.Ev.Attr Go.Ev.Track Go.Ev.Delta
set_option linter.unusedVariables false
set_option linter.unusedSimpArgs false
def ps (s : YSpan.den) : YStep.den := if Axis.sk s = 1 then mkT 1 0 [] (List.replicate (Axis.sn s).toNat X) else mkT (Axis.sk s) (Axis.sn s) [] []
theorem act_inner (a : Ax) (o : Delta.Steps) (k z x7 x8 : Int) (N : Nat) (hN : N ≤ 1048576) (m1 : Nat) : ∀ (d j m : Nat) (e : Flow), j + d = N → d < m → e.length + d ≤ 1048576 →
    L_law_act_1 big m1 m a o k z e x7 x8 (N : Int) (j : Int) = L_law_act_1 big m1 1 a o k z (e ++ List.replicate d X) x7 x8 (N : Int) (N : Int) := by
  intro d
  induction d with
  | zero =>
    intro j m e hj hm he
    obtain ⟨m, rfl⟩ : ∃ k, m = k + 1 := ⟨m - 1, by omega⟩
    have : j = N := by omega
    subst this
    rw [List.replicate_zero, List.append_nil, L_law_act_1_step, show (1 : Nat) = 0 + 1 from rfl, L_law_act_1_step]
    simp only [bcond_if, dlt_self, Bool.false_eq_true, if_false]
  | succ d ih =>
    intro j m e hj hm he
    obtain ⟨m, rfl⟩ : ∃ k, m = k + 1 := ⟨m - 1, by omega⟩
    have w1 := wsucc (show j < N by omega) (show N ≤ 4611686018427387904 by omega)
    have b1 : (e.length + List.length [((120, (0, [])) : YElem.den)]) * 40 ≤ 140737488355328 := c40 _ _ (by simp; omega)
    have := ih (j + 1) m (e ++ [X]) (by omega) (by omega) (by simp; omega)
    rw [List.append_assoc] at this
    rw [List.replicate_succ]
    refine Eq.trans ?_ this
    rw [L_law_act_1_step]
    simp only [bcond_if, dlt (show j < N by omega), if_true, w1]
    rw [if_pos b1]
    rfl
theorem nb_ps : ∀ {a : Ax}, Axis.Good a → (nb (a.map ps) : Int) = Axis.sumB a ∧ (eb (a.map ps) : Int) ≤ Axis.sumN a ∧ (∀ s ∈ a.map ps, sk s = 1 ∨ 0 ≤ sn s) ∧ ex (a.map ps) = xs a ∧ (∀ s ∈ a, Axis.sn s ≤ Axis.sumN a)
  | [], _ => ⟨rfl, Int.le_refl _, fun s h => by simp at h, rfl, fun s h => by simp at h⟩
  | s :: a, h => by
    obtain ⟨g1, g2, g3, g4⟩ := good_cons h
    obtain ⟨i1, i2, i3, i4, i5⟩ := nb_ps g4
    have hp := (Axis.sum_pos g4)
    have eN : Axis.sumN (s :: a) = Axis.sn s + Axis.sumN a := rfl
    have eB := sumB_cons s a
    obtain ⟨n, hn⟩ : ∃ n : Nat, Axis.sn s = (n : Int) := ⟨(Axis.sn s).toNat, by omega⟩
    by_cases k1 : Axis.sk s = 1
    · have e : ps s = mkT 1 0 [] (List.replicate n X) := by unfold ps; rw [if_pos k1, hn]; rfl
      rw [if_pos k1] at eB
      rw [List.map_cons, e]
      refine ⟨?_, ?_, fun t ht => ?_, ?_, fun t ht => ?_⟩
      · show (((if (1 : Int) = 1 then 0 else (0 : Int).toNat) + nb (a.map ps) : Nat) : Int) = _
        rw [if_pos rfl, eB]; omega
      · show (((List.replicate n X).length + eb (a.map ps) : Nat) : Int) ≤ _
        rw [List.length_replicate, eN]; omega
      · rcases List.mem_cons.1 ht with rfl | ht
        · exact .inl rfl
        · exact i3 t ht
      · show exS (mkT 1 0 [] (List.replicate n X)) ++ ex (a.map ps) = List.replicate (Axis.sn s).toNat (un s) ++ xs a
        have : exS (mkT 1 0 [] (List.replicate n X)) = (List.replicate n X).map U.a := rfl
        rw [this, i4, hn, List.map_replicate]
        unfold un; rw [if_pos k1]; rfl
      · rcases List.mem_cons.1 ht with rfl | ht
        · omega
        · have := i5 t ht; omega
    · have e : ps s = mkT (Axis.sk s) n [] [] := by unfold ps; rw [if_neg k1, hn]
      rw [if_neg k1] at eB
      rw [List.map_cons, e]
      refine ⟨?_, ?_, fun t ht => ?_, ?_, fun t ht => ?_⟩
      · show (((if Axis.sk s = 1 then 0 else (n : Int).toNat) + nb (a.map ps) : Nat) : Int) = _
        rw [if_neg k1, eB]; omega
      · show (((0 : Nat) + eb (a.map ps) : Nat) : Int) ≤ _
        rw [eN]; omega
      · rcases List.mem_cons.1 ht with rfl | ht
        · exact .inr (by show (0 : Int) ≤ n; omega)
        · exact i3 t ht
      · show exS (mkT (Axis.sk s) n [] []) ++ ex (a.map ps) = List.replicate (Axis.sn s).toNat (un s) ++ xs a
        have : exS (mkT (Axis.sk s) n [] []) = List.replicate n (uni (Axis.sk s == 2) []) := by
          unfold exS; rw [sk_mk, if_neg k1, sn_mk]; rfl
        rw [this, i4, hn]
        unfold un; rw [if_neg k1]; rfl
      · rcases List.mem_cons.1 ht with rfl | ht
        · omega
        · have := i5 t ht; omega
theorem act_loop (a : Ax) (hl : a.length ≤ 1048576) (g : Axis.Good a) (hN : Axis.sumN a ≤ 1048576) : ∀ (d i m : Nat), i + d = a.length → d < m →
    L_law_act_0 big m a ((a.take i).map ps) (a.length : Int) (i : Int) = (C_R_ActOf F_R_ActOf (a.map ps)).bind fun r1 => some (ret_law_act (res_R_ActOf_0 r1)) := by
  intro d
  induction d with
  | zero =>
    intro i m hi hm
    obtain ⟨m, rfl⟩ : ∃ k, m = k + 1 := ⟨m - 1, by omega⟩
    have : i = a.length := by omega
    subst this
    rw [L_law_act_0_step, List.take_length]
    simp only [bcond_if, dlt_self, Bool.false_eq_true, if_false]
  | succ d ih =>
    intro i m hi hm
    obtain ⟨m, rfl⟩ : ∃ k, m = k + 1 := ⟨m - 1, by omega⟩
    have hil : i < a.length := by omega
    have w1 := wsucc hil (show a.length ≤ 4611686018427387904 by omega)
    have ea0 : at_ (e := YSpan) a (i : Int) = a[i] := at_get (e := YSpan) a i hil
    have e1 : (a[i] : YSpan.den).1 = Axis.sk a[i] := rfl
    have e2 : (a[i] : YSpan.den).2 = Axis.sn a[i] := rfl
    have hm2 : a[i] ∈ a := List.getElem_mem hil
    have hle := (nb_ps g).2.2.2.2 _ hm2
    have hpos : 1 ≤ Axis.sn a[i] := by
      have := (Axis.good_at g hil).2.1
      have e : Axis.num a i = Axis.sn a[i] := by unfold Axis.num; rw [ea0]; rfl
      omega
    obtain ⟨n, hn⟩ : ∃ n : Nat, Axis.sn a[i] = (n : Int) := ⟨(Axis.sn a[i]).toNat, by omega⟩
    have b1 : ∀ x : YStep.den, (((a.take i).map ps).length + [x].length) * 64 ≤ 140737488355328 := fun x => b64 _ 1 (by simp; omega) (by omega)
    have et : (a.take (i + 1)).map ps = (a.take i).map ps ++ [ps a[i]] := by
      rw [List.take_succ_eq_append_getElem hil, List.map_append]; rfl
    have := ih (i + 1) m (by omega) (by omega)
    rw [← this, et, L_law_act_0_step]
    simp only [bcond_if, dlt hil, inb, hil, if_true, ea0, e1, e2, w1]
    by_cases k1 : Axis.sk a[i] = 1
    · have e : ps a[i] = (1, (0, ([], List.replicate n X))) := by unfold ps; rw [if_pos k1, hn]; rfl
      simp only [k1, beq_self_eq_true, if_true, hn]
      have hin := act_inner a ((a.take i).map ps) 1 0 (a.length : Int) (i : Int) n (by omega) m n 0 big [] (by omega) (big_ge (n := n + 1) (by omega)) (by simp; omega)
      refine Eq.trans hin ?_
      rw [show (1 : Nat) = 0 + 1 from rfl, L_law_act_1_step]
      simp only [bcond_if, dlt_self, Bool.false_eq_true, if_false, List.nil_append]
      rw [if_pos (b1 _), e, Nat.zero_add, w1]
    · have k1' : (Axis.sk a[i] == 1) = false := by simpa using k1
      have e : ps a[i] = (Axis.sk a[i], ((n : Int), ([], []))) := by unfold ps; rw [if_neg k1, hn]; rfl
      simp only [k1', Bool.false_eq_true, if_false, hn]
      rw [if_pos (b1 _), e]
theorem act_ax (a : Ax) (hl : a.length ≤ 1048576) (g : Axis.Good a) (hN : Axis.sumN a ≤ 1048576) : C_law_act F_law_act a = some (ret_law_act (actL (a.map ps) A0)) := by
  obtain ⟨i1, i2, i3, _⟩ := nb_ps g
  have hp := Axis.sum_pos g
  have := act_loop a hl g hN a.length 0 big (by omega) (big_ge (n := a.length + 1) (by omega))
  rw [act_eq (a.map ps) (by simpa using hl) i3 (by omega) (by omega)] at this
  rw [e_law_act]
  exact this
theorem steps_loop (y : Delta.Steps) (hl : y.length ≤ 3000000) (hs : ∀ s ∈ y, 0 ≤ sn s ∧ sn s ≤ 1152921504606846976 ∧ (se s).length ≤ 1048576) : ∀ (d i m : Nat), i + d = y.length → d < m →
    L_law_steps_0 big m ((y.take i).map ph) y (y.length : Int) (i : Int) = some (ret_law_steps (y.map ph)) := by
  intro d
  induction d with
  | zero =>
    intro i m hi hm
    obtain ⟨m, rfl⟩ : ∃ k, m = k + 1 := ⟨m - 1, by omega⟩
    have : i = y.length := by omega
    subst this
    rw [L_law_steps_0_step, List.take_length]
    simp only [bcond_if, dlt_self, Bool.false_eq_true, if_false]
  | succ d ih =>
    intro i m hi hm
    obtain ⟨m, rfl⟩ : ∃ k, m = k + 1 := ⟨m - 1, by omega⟩
    have hil : i < y.length := by omega
    have w1 := wsucc hil (show y.length ≤ 4611686018427387904 by omega)
    have ea0 : at_ (e := YStep) y (i : Int) = y[i] := at_get (e := YStep) y i hil
    have e1 : (y[i] : YStep.den).1 = sk y[i] := rfl
    have e2 : (y[i] : YStep.den).2.1 = sn y[i] := rfl
    have e4 : (y[i] : YStep.den).2.2.2 = se y[i] := rfl
    have h := hs _ (List.getElem_mem hil)
    have w2 : IntKind.i64.wrap (sn y[i] + ((se y[i]).length : Int)) = sn y[i] + ((se y[i]).length : Int) := w64 (by omega) (by omega)
    have b1 : ∀ x : YSpan.den, (((y.take i).map ph).length + [x].length) * 16 ≤ 140737488355328 := fun x => c16 _ _ (by simp; omega)
    have et : (y.take (i + 1)).map ph = (y.take i).map ph ++ [ph y[i]] := by
      rw [List.take_succ_eq_append_getElem hil, List.map_append]; rfl
    have := ih (i + 1) m (by omega) (by omega)
    rw [← this, et, L_law_steps_0_step]
    simp only [bcond_if, dlt hil, inb, hil, if_true, ea0, e1, e2, e4, w1, w2]
    rw [if_pos (b1 _)]
    rfl
theorem steps_eq (a : Delta.Act) (y : Delta.Steps) (h : C_R_DeltaOf F_R_DeltaOf a = some (ret_R_DeltaOf y)) (hl : y.length ≤ 3000000) (hs : ∀ s ∈ y, 0 ≤ sn s ∧ sn s ≤ 1152921504606846976 ∧ (se s).length ≤ 1048576) : C_law_steps F_law_steps a = some (ret_law_steps (y.map ph)) := by
  have := steps_loop y hl hs y.length 0 big (by omega) (big_ge (n := y.length + 1) (by omega))
  rw [e_law_steps, h]
  simp only [Option.bind_some, res_R_DeltaOf_0_ret]
  exact this
theorem ssteps_loop (x : Ax) (hl : x.length ≤ 3000000) : ∀ (d i m : Nat), i + d = x.length → d < m → L_R_SameSteps_0 big m x x (x.length : Int) (i : Int) = some (ret_R_SameSteps true) := by
  intro d
  induction d with
  | zero =>
    intro i m hi hm
    obtain ⟨m, rfl⟩ : ∃ k, m = k + 1 := ⟨m - 1, by omega⟩
    have : i = x.length := by omega
    subst this
    rw [L_R_SameSteps_0_step]
    simp only [bcond_if, dlt_self, Bool.false_eq_true, if_false]
  | succ d ih =>
    intro i m hi hm
    obtain ⟨m, rfl⟩ : ∃ k, m = k + 1 := ⟨m - 1, by omega⟩
    have hil : i < x.length := by omega
    have w1 := wsucc hil (show x.length ≤ 4611686018427387904 by omega)
    rw [L_R_SameSteps_0_step]
    simp only [bcond_if, dlt hil, inb, hil, if_true, w1, beq_self_eq_true, Bool.and_self, Bool.and_true, Bool.not_true, Bool.false_eq_true, if_false]
    exact ih (i + 1) m (by omega) (by omega)
theorem ssteps_self (x : Ax) (hl : x.length ≤ 3000000) : C_R_SameSteps F_R_SameSteps x x = some (ret_R_SameSteps true) := by
  rw [e_R_SameSteps]
  simp only [bne_self_eq_false, bcf]
  exact ssteps_loop x hl x.length 0 big (by omega) (big_ge (n := x.length + 1) (by omega))
theorem addA_mem : ∀ {l : Delta.Steps}, (∀ s ∈ l, Delta.sErr s = 0) → ∀ s ∈ l, Delta.addA s 0 ≤ afts l
  | [], _, s, hs => by simp at hs
  | t :: l, hv, s, hs => by
    have p1 := afts_nn (l := l) (fun t ht => hv t (by simp [ht]))
    have p2 := (one_pos (p := none) (one_of (hv t (by simp)) (fun q h => by cases h))).2
    simp only [afts]
    rcases List.mem_cons.1 hs with rfl | hs
    · omega
    · have := addA_mem (l := l) (fun t ht => hv t (by simp [ht])) s hs; omega
theorem out_small (w : W) (he : err (out w) = 0) (hb : befs (out w) ≤ 1000000) (ha : afts (out w) ≤ 1000000) : (out w).length ≤ 3000000 ∧ ∀ s ∈ out w, 0 ≤ sn s ∧ sn s ≤ 1152921504606846976 ∧ (se s).length ≤ 1048576 := by
  have hv := (dErr_zero _ none 0 0 he).1
  have := len_ba _ hv
  refine ⟨by omega, fun s hs => ?_⟩
  have hA := addA_mem hv s hs
  unfold Delta.addA ssz at hA
  rcases Delta.sErr_zero (hv s hs) with ⟨k1, k2, k3, k4, k5⟩ | ⟨k1, k2, k3, k4, k5⟩
  · rw [if_neg (by omega), if_pos k1] at hA
    omega
  · rw [k2]
    exact ⟨by omega, by omega, Nat.zero_le _⟩
theorem xs_ok : ∀ (a : Ax), ∀ u ∈ xs a, okU u ∧ (u = .a X ∨ u = .c ∨ u = .k [])
  | [], u, hu => by simp [xs] at hu
  | s :: a, u, hu => by
    rcases List.mem_append.1 (show u ∈ List.replicate (Axis.sn s).toNat (un s) ++ xs a from hu) with hu | hu
    · rw [List.eq_of_mem_replicate hu]
      unfold un
      split
      · exact ⟨(rfl : eErr X = 0), .inl rfl⟩
      · unfold uni
        split
        · exact ⟨trivial, .inr (.inl rfl)⟩
        · exact ⟨(rfl : Attr.err true [] = 0), .inr (.inr rfl)⟩
    · exact xs_ok a u hu
theorem xs_len : ∀ {a : Ax}, Axis.Good a → ((xs a).length : Int) = Axis.sumN a
  | [], _ => rfl
  | s :: a, h => by
    obtain ⟨g1, g2, g3, g4⟩ := good_cons h
    have := xs_len g4
    show (((List.replicate (Axis.sn s).toNat (un s) ++ xs a).length : Nat) : Int) = Axis.sn s + Axis.sumN a
    rw [List.length_append, List.length_replicate]; omega
section
variable (a b : Ax) (ha : a.length ≤ 1048576) (hb : b.length ≤ 1048576) (hlen : a.length + b.length ≤ 600000)
include ha hb hlen
end
theorem span_bulk : ∀ (a : Ax), 2 * a.length + 1 ≤ (Ty.list YSpan).bulk a
  | [] => by simp [Ty.bulk]
  | s :: a => by
    have ih := span_bulk a
    have e : (Ty.list YSpan).bulk (s :: a) = Ty.bulk YSpan s + (Ty.list YSpan).bulk a := by simp [Ty.bulk]; omega
    have e2 : Ty.bulk YSpan s = 1 + 1 := rfl
    rw [e, e2, List.length_cons]; omega
end Go.Ev.AxisP
