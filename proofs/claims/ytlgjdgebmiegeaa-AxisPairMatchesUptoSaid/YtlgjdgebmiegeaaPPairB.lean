
import Derived.Test.YtlgjdgebmiegeaaPPair
namespace Go.Ev.Delta
open Go.Ev Go.Ev.Attr Go.Ev.Track
set_option linter.unusedVariables false
set_option linter.unusedSimpArgs false
theorem short_eq (l : Steps) (hl : Ds l) (h : err l = 0) : C_law_short F_law_short l = some (ret_law_short (decide (befs l ≤ 300))) := by
  rw [e_law_short, rsize_eq l hl h]
  rfl
theorem bct {A : Type} (x y : A) : bcond true x y = x := rfl
theorem bcf {A : Type} (x y : A) : bcond false x y = y := rfl
theorem bh_all (Q : Attrs → Prop) (h0 : Q []) (first : Bool) (a b : Act) (hq : ∀ i, Q (if first = true then lack (atrAt b.2.2 i) (atrAt a.2.2 i) else atrAt a.2.2 i)) : ∀ (d i : Nat) (o : Act), (∀ t ∈ o.2.2, Q t) → ∀ t ∈ (bh first a b d i o).2.2, Q t := by
  have hS : ∀ (x y : Flow) (o : Act), (∀ t ∈ o.2.2, Q t) → ∀ t ∈ (bhS first x y o).2.2, Q t := by
    intro x y o ho t ht
    have : t ∈ o.2.2 ++ List.replicate y.length [] := by
      unfold bhS at ht
      split at ht
      · exact ht
      · exact ht
    rcases List.mem_append.1 this with q | q
    · exact ho t q
    · rw [List.eq_of_mem_replicate q]; exact h0
  intro d
  induction d with
  | zero => intro i o ho; exact hS _ _ o ho
  | succ d ih =>
    intro i o ho
    refine ih (i + 1) _ ?_
    have h1 := hS (adAt a.1 i) (adAt b.1 i) o ho
    intro t ht
    unfold bhU at ht
    split at ht
    · exact h1 t ht
    · rcases List.mem_append.1 ht with q | q
      · exact h1 t q
      · rw [List.mem_singleton.1 q]; exact hq i
theorem cA_len : ∀ (us : List U), cA us ≤ us.length ∧ cB us ≤ us.length
  | [] => ⟨Nat.le_refl _, Nat.le_refl _⟩
  | .a x :: us => by have := cA_len us; exact ⟨by show cA us + 1 ≤ us.length + 1; omega, by show cB us ≤ us.length + 1; omega⟩
  | .c :: us => by have := cA_len us; exact ⟨by show cA us ≤ us.length + 1; omega, by show cB us + 1 ≤ us.length + 1; omega⟩
  | .k t :: us => by have := cA_len us; exact ⟨by show cA us + 1 ≤ us.length + 1; omega, by show cB us + 1 ≤ us.length + 1; omega⟩
theorem k1_le (u v : U) : (k1 u v).length ≤ 1 := by cases u <;> cases v <;> simp [k1]
theorem k2_le (u v : U) : (k2 u v).length ≤ 1 := by cases u <;> cases v <;> simp [k2]
theorem z1_ok (us vs : List U) (hu : ∀ u ∈ us, okU u) (hv : ∀ u ∈ vs, okU u) : ∀ u ∈ z1 us vs, okU u := by
  refine zp_all _ _ _ okU _ us vs (Nat.le_refl _) (fun x hx u h => ?_) (fun x hx u h => ?_) (fun u h v h2 q hq => ?_)
  · rw [List.mem_singleton.1 h]; exact hu _ hx
  · rw [List.mem_singleton.1 h]; exact (rfl : Attr.err true [] = 0)
  · cases u with
    | a x => cases v <;> simp [k1] at hq
    | c => cases v with
      | a y => simp [k1] at hq
      | c => simp [k1] at hq
      | k t => rw [List.mem_singleton.1 (show q ∈ [U.c] from hq)]; trivial
    | k s => cases v with
      | a y => simp [k1] at hq
      | c => simp [k1] at hq
      | k t => rw [List.mem_singleton.1 (show q ∈ [U.k (lack t s)] from hq)]; exact lack_ok (hu _ h)
theorem z2_ok (us vs : List U) (hu : ∀ u ∈ us, okU u) (hv : ∀ u ∈ vs, okU u) : ∀ u ∈ z2 us vs, okU u := by
  refine zp_all _ _ _ okU _ us vs (Nat.le_refl _) (fun x hx u h => ?_) (fun x hx u h => ?_) (fun u h v h2 q hq => ?_)
  · rw [List.mem_singleton.1 h]; exact (rfl : Attr.err true [] = 0)
  · rw [List.mem_singleton.1 h]; exact hv _ hx
  · cases u with
    | c => cases v <;> simp [k2] at hq
    | a x => rw [List.mem_singleton.1 (show q ∈ [v] from hq)]; exact hv _ h2
    | k s => rw [List.mem_singleton.1 (show q ∈ [v] from hq)]; exact hv _ h2
section
variable (a b : Steps) (ha : Ds a) (hb : Ds b) (hlen : a.length + b.length ≤ 300000) (heb : eb a + eb b ≤ 400000)
include ha hb hlen heb
/-- What Pair returns. -/
theorem pair_eq : C_delta_Pair F_delta_Pair a b = some (if err a ≠ 0 then ret_delta_Pair [] [] (err a) else if err b ≠ 0 then ret_delta_Pair [] [] (err b) else if befs a ≠ befs b then ret_delta_Pair [] [] 14 else
    if err (out (runP (z1 (ex a) (ex b)) w0)) = 0 ∧ err (out (runP (z2 (ex a) (ex b)) w0)) = 0 then ret_delta_Pair (out (runP (z1 (ex a) (ex b)) w0)) (out (runP (z2 (ex a) (ex b)) w0)) 0 else ret_delta_Pair [] [] 3) ∧
    (err a = 0 → err b = 0 → befs a = befs b → Ti (runP (z1 (ex a) (ex b)) w0) 300000 ∧ (runP (z1 (ex a) (ex b)) w0).2.1.length ≤ 1048576 ∧ Ti (runP (z2 (ex a) (ex b)) w0) 300000 ∧ (runP (z2 (ex a) (ex b)) w0).2.1.length ≤ 1048576) := by
  by_cases h1 : err a = 0
  · by_cases h2 : err b = 0
    · by_cases h3 : befs a = befs b
      · obtain ⟨v1, v2, v3⟩ := dErr_zero a none 0 0 h1
        obtain ⟨u1, u2, u3⟩ := dErr_zero b none 0 0 h2
        have e1 : rb a 0 = befs a := by unfold rb; omega
        have e2 : rb b 0 = befs b := by unfold rb; omega
        have pa : PR a 0 := ⟨fun s hs => ⟨v1 s hs, ss_mem ha hs⟩, .inl rfl⟩
        have pb : PR b 0 := ⟨fun s hs => ⟨u1 s hs, ss_mem hb hs⟩, .inl rfl⟩
        obtain ⟨r1, r2, r3⟩ := pair_loop (a.length + b.length) big a b 0 0 w0 w0 0 rfl (big_ge (n := a.length + b.length + 1) (by omega)) pa pb (by omega) ⟨ti0, by show 0 + eb a ≤ _; omega, by show (0 : Int) + rb a 0 ≤ _; omega⟩ ⟨ti0, by show 0 + eb b ≤ _; omega, by show (0 : Int) + rb b 0 ≤ _; omega⟩ (by omega)
        rw [ru_zero, ru_zero] at r1 r2 r3
        have t1 := r2.t.mono (k' := 300000) (by omega)
        have t2 := r3.t.mono (k' := 300000) (by omega)
        refine ⟨?_, fun _ _ _ => ⟨t1, r2.a, t2, r3.a⟩⟩
        rw [if_neg (show ¬ err a ≠ 0 by simp [h1]), if_neg (show ¬ err b ≠ 0 by simp [h2]), if_neg (show ¬ befs a ≠ befs b by simp [h3])]
        have d1 := t1.wy r2.a (by omega)
        have d2 := t2.wy r3.a (by omega)
        have l1 := t1.lo
        have l2 := t2.lo
        rw [e_delta_Pair, (check_eq a ha).1, (check_eq b hb).1, len_eq a ha h1, len_eq b hb h2]
        simp only [Option.bind_some, res_delta_Check_0_ret, res_delta_lengths_0_ret, bcond_if, h1, h2, h3, bne_self_eq_false, Bool.false_eq_true, if_false]
        refine Eq.trans r1 ?_
        generalize runP (z1 (ex a) (ex b)) w0 = x at d1 l1 ⊢
        generalize runP (z2 (ex a) (ex b)) w0 = y at d2 l2 ⊢
        obtain ⟨q, q1, q2, q3⟩ := done_eq x.1 x.2.1 x.2.2 (by omega) d1.2
        obtain ⟨p, p1, p2, p3⟩ := done_eq y.1 y.2.1 y.2.2 (by omega) d2.2
        unfold fin
        rw [q1, p1]
        simp only [Option.bind_some, q2, q3, p2, p3, bcond_if]
        show _ = some (if err (fl x.1 x.2.1 x.2.2) = 0 ∧ err (fl y.1 y.2.1 y.2.2) = 0 then ret_delta_Pair (fl x.1 x.2.1 x.2.2) (fl y.1 y.2.1 y.2.2) 0 else ret_delta_Pair [] [] 3)
        by_cases z1 : err (fl x.1 x.2.1 x.2.2) = 0
        · by_cases z2 : err (fl y.1 y.2.1 y.2.2) = 0
          · simp [z1, z2]
          · simp [z1, z2]
        · simp [z1]
      · refine ⟨?_, fun _ _ z => absurd z h3⟩
        rw [e_delta_Pair, (check_eq a ha).1, (check_eq b hb).1, len_eq a ha h1, len_eq b hb h2]
        have z2 : (befs a != befs b) = true := by simpa using h3
        simp [bcond_if, h1, h2, h3, z2]
    · refine ⟨?_, fun _ z => absurd z h2⟩
      rw [e_delta_Pair, (check_eq a ha).1, (check_eq b hb).1]
      have z2 : (err b != 0) = true := by simpa using h2
      simp [bcond_if, h1, h2, z2]
  · refine ⟨?_, fun z => absurd z h1⟩
    rw [e_delta_Pair, (check_eq a ha).1]
    have z2 : (err a != 0) = true := by simpa using h1
    simp [bcond_if, h1, z2]
theorem law_pair : C_law_DeltaPairMatches F_law_DeltaPairMatches a b = some (ret_law_DeltaPairMatches true) := by
  obtain ⟨pe, pt⟩ := pair_eq a b ha hb hlen heb
  have w00 : IntKind.i64.wrap ((([] : Steps).length : Int) + (([] : Steps).length : Int)) = 0 := rfl
  have key : ∀ t, t = (if err a = 0 then err b else err a) → ∀ z, z = (if err a ≠ 0 then ret_delta_Pair [] [] (err a) else if err b ≠ 0 then ret_delta_Pair [] [] (err b) else if befs a ≠ befs b then ret_delta_Pair [] [] 14 else
    if err (out (runP (z1 (ex a) (ex b)) w0)) = 0 ∧ err (out (runP (z2 (ex a) (ex b)) w0)) = 0 then ret_delta_Pair (out (runP (z1 (ex a) (ex b)) w0)) (out (runP (z2 (ex a) (ex b)) w0)) 0 else ret_delta_Pair [] [] 3) →
      J_law_DeltaPairMatches_0 big a b (res_delta_Pair_0 z) (res_delta_Pair_1 z) (res_delta_Pair_2 z) t = some (ret_law_DeltaPairMatches true) := by
    intro t ht z hz
    unfold J_law_DeltaPairMatches_0
    by_cases h1 : err a = 0
    · rw [if_pos h1] at ht
      rw [if_neg (show ¬ err a ≠ 0 by simp [h1])] at hz
      by_cases h2 : err b = 0
      · rw [if_neg (show ¬ err b ≠ 0 by simp [h2])] at hz
        rw [short_eq a ha h1, short_eq b hb h2, ht, h2]
        simp only [bcond_if, bne_self_eq_false, Bool.false_eq_true, if_false, Option.bind_some, res_law_short_0_ret]
        have other : (if (res_delta_Pair_2 z == 0) == false then some (ret_law_DeltaPairMatches (IntKind.i64.wrap (((res_delta_Pair_0 z).length : Int) + ((res_delta_Pair_1 z).length : Int)) == 0)) else some (ret_law_DeltaPairMatches true)) = some (ret_law_DeltaPairMatches true) := by
          rw [hz]
          by_cases h3 : befs a = befs b
          · rw [if_neg (show ¬ befs a ≠ befs b by simp [h3])]
            split
            · rfl
            · rfl
          · rw [if_pos h3]; rfl
        by_cases s1 : befs a ≤ 300
        · by_cases s2 : befs b ≤ 300
          · simp only [decide_eq_true s1, decide_eq_true s2, Bool.not_true, beq_self_eq_true, if_true, Bool.false_eq_true, if_false]
            obtain ⟨v1, v2, v3⟩ := dErr_zero a none 0 0 h1
            obtain ⟨u1, u2, u3⟩ := dErr_zero b none 0 0 h2
            have na := nb_befs v1
            have nb' := nb_befs u1
            have pos : ∀ {l : Steps}, (∀ s ∈ l, sErr s = 0) → ∀ s ∈ l, sk s = 1 ∨ 0 ≤ sn s := fun hv s hs => by
              rcases sErr_zero (hv s hs) with ⟨h1, _⟩ | ⟨_, _, h3, _⟩
              · exact .inl h1
              · exact .inr (by omega)
            have aa := act_eq a ha.1 (pos v1) (by omega) (by omega)
            have ab := act_eq b hb.1 (pos u1) (by omega) (by omega)
            obtain ⟨oa, ia⟩ := act_ex a
            obtain ⟨ob, ib⟩ := act_ex b
            obtain ⟨la, ea'⟩ := actL_size a A0 ⟨rfl, rfl⟩
            obtain ⟨lb, eb'⟩ := actL_size b A0 ⟨rfl, rfl⟩
            have y1 : A0.2.1.length = 0 := rfl
            have y2 : ebl A0.1 = 0 := rfl
            have ta := atr_small _ (actL_attrs a A0 (fun t h => by simp [A0] at h) (fun s hs => (ss_mem ha hs).1.1))
            have tb := atr_small _ (actL_attrs b A0 (fun t h => by simp [A0] at h) (fun s hs => (ss_mem hb hs).1.1))
            rw [aa, ab]
            simp only [Option.bind_some, res_R_ActOf_0_ret]
            by_cases h3 : befs a = befs b
            · have hl : (actL b A0).2.1.length = (actL a A0).2.1.length := by omega
              obtain ⟨t1, t2, t3, t4⟩ := pt h1 h2 h3
              obtain ⟨x1, x2⟩ := cB_ex a
              obtain ⟨x3, x4⟩ := cB_ex b
              have n1 := len_AB (ex a)
              have n2 := len_AB (ex b)
              have ok1 := ok_ex (l := a) fun s hs => ⟨fun k => by
                rcases sErr_zero (v1 s hs) with ⟨_, _, _, _, q⟩ | ⟨q, _⟩
                · exact q
                · rcases q with q | q <;> omega, sErr_attr (v1 s hs)⟩
              have ok2 := ok_ex (l := b) fun s hs => ⟨fun k => by
                rcases sErr_zero (u1 s hs) with ⟨_, _, _, _, q⟩ | ⟨q, _⟩
                · exact q
                · rcases q with q | q <;> omega, sErr_attr (u1 s hs)⟩
              have m1 : (z1 (ex a) (ex b)).length ≤ (ex a).length + (ex b).length := zp_len _ _ _ (fun x => Nat.le_refl _) (fun x => Nat.le_refl _) k1_le _ _ _ (Nat.le_refl _)
              have m2 : (z2 (ex a) (ex b)).length ≤ (ex a).length + (ex b).length := zp_len _ _ _ (fun x => Nat.le_refl _) (fun x => Nat.le_refl _) k2_le _ _ _ (Nat.le_refl _)
              have c1 := cA_len (z1 (ex a) (ex b))
              have c2 := cA_len (z2 (ex a) (ex b))
              have o1 := (valid_out _ (z1_ok _ _ ok1 ok2) (by omega) (by omega)).1
              have o2 := (valid_out _ (z2_ok _ _ ok1 ok2) (by omega) (by omega)).1
              rw [if_neg (show ¬ befs a ≠ befs b by simp [h3]), if_pos ⟨o1, o2⟩] at hz
              subst hz
              have d1 := t1.wy t2 (by omega)
              have d2 := t3.wy t4 (by omega)
              -- what the document says
              have b1 := behind_all _ _ oa ob hl (by omega) ta tb (by omega) (by omega) true
              have b2 := behind_all _ _ ob oa hl.symm (by omega) tb ta (by omega) (by omega) false
              obtain ⟨g1, g2⟩ := bh1_il _ _ oa ob hl (actL a A0).2.1.length 0 A0 (by omega) ⟨rfl, rfl⟩
              obtain ⟨f1, f2⟩ := bh2_il _ _ ob oa hl.symm (actL b A0).2.1.length 0 A0 (by omega) ⟨rfl, rfl⟩
              have ra : rest (actL a A0) 0 = ex a := ia
              have rb' : rest (actL b A0) 0 = ex b := ib
              rw [ra, rb'] at g2 f2
              have g3 : il (bh true (actL a A0) (actL b A0) (actL a A0).2.1.length 0 A0) = z1 (ex a) (ex b) := g2.trans rfl
              have f3 : il (bh false (actL b A0) (actL a A0) (actL b A0).2.1.length 0 A0) = z2 (ex a) (ex b) := f2.trans rfl
              have i1 := il_AB _ _ _ g1.h1 g1.h2
              have i2 := il_AB _ _ _ f1.h1 f1.h2
              have g4 : ilL (bh true (actL a A0) (actL b A0) (actL a A0).2.1.length 0 A0).1 (bh true (actL a A0) (actL b A0) (actL a A0).2.1.length 0 A0).2.1 (bh true (actL a A0) (actL b A0) (actL a A0).2.1.length 0 A0).2.2 = z1 (ex a) (ex b) := g3
              have f4 : ilL (bh false (actL b A0) (actL a A0) (actL b A0).2.1.length 0 A0).1 (bh false (actL b A0) (actL a A0) (actL b A0).2.1.length 0 A0).2.1 (bh false (actL b A0) (actL a A0) (actL b A0).2.1.length 0 A0).2.2 = z2 (ex a) (ex b) := f3
              rw [g4] at i1
              rw [f4] at i2
              have q1 := delta_eq _ g1 (by omega) (atr_small _ (bh_all (fun t => t.length ≤ 1048576) (Nat.zero_le _) true _ _ (fun i => Nat.le_trans (lack_len _ _) (ta i)) _ 0 A0 (fun t h => by simp [A0] at h))) (by omega)
              have q2 := delta_eq _ f1 (by omega) (atr_small _ (bh_all (fun t => t.length ≤ 1048576) (Nat.zero_le _) false _ _ (fun i => tb i) _ 0 A0 (fun t h => by simp [A0] at h))) (by omega)
              rw [runA_il, g4] at q1
              rw [runA_il, f4] at q2
              have s1' := sdelta_self (out (runP (z1 (ex a) (ex b)) w0)) d1.1.l (fun s hs => ⟨(ss_mem d1.2 hs).1.1, (ss_mem d1.2 hs).2⟩)
              have s2' := sdelta_self (out (runP (z2 (ex a) (ex b)) w0)) d2.1.l (fun s hs => ⟨(ss_mem d2.2 hs).1.1, (ss_mem d2.2 hs).2⟩)
              have hne : (((actL a A0).2.1.length : Int) != ((actL b A0).2.1.length : Int)) = false := by rw [hl]; exact bne_self_eq_false _
              simp only [hne, Bool.false_eq_true, if_false, res_delta_Pair_0_ret, res_delta_Pair_1_ret, res_delta_Pair_2_ret, beq_self_eq_true, if_true, b1, b2, Option.bind_some, res_R_Behind_0_ret, q1, q2, res_R_DeltaOf_0_ret, s1', s2', res_R_SameDelta_0_ret]
            · rw [if_pos h3] at hz
              subst hz
              have hne : (((actL a A0).2.1.length : Int) != ((actL b A0).2.1.length : Int)) = true := bne_iff_ne.2 (by omega)
              simp only [hne, if_true, res_delta_Pair_0_ret, res_delta_Pair_1_ret, res_delta_Pair_2_ret, beq_self_eq_true]
              rfl
          · simp only [decide_eq_true s1, decide_eq_false s2, Bool.not_true, Bool.not_false, beq_self_eq_true, if_true, Bool.false_eq_true, if_false]
            exact other
        · simp only [decide_eq_false s1, Bool.not_false, show (true == false) = false from rfl, Bool.false_eq_true, if_false]
          exact other
      · rw [if_pos (show err b ≠ 0 from h2)] at hz
        have z2 : (err b != 0) = true := by simpa using h2
        rw [ht, hz]
        simp only [bcond_if, z2, if_true, res_delta_Pair_2_ret, res_delta_Pair_0_ret, res_delta_Pair_1_ret, beq_self_eq_true]
        rfl
    · rw [if_neg h1] at ht
      rw [if_pos (show err a ≠ 0 from h1)] at hz
      have z2 : (err a != 0) = true := by simpa using h1
      rw [ht, hz]
      simp only [bcond_if, z2, if_true, res_delta_Pair_2_ret, res_delta_Pair_0_ret, res_delta_Pair_1_ret, beq_self_eq_true]
      rfl
  rw [e_law_DeltaPairMatches, delta_facts, pe, (check_eq a ha).2, (check_eq b hb).2]
  by_cases h1 : err a = 0
  · have := key (err b) (by rw [if_pos h1]) _ rfl
    have e0 : (err a == 0) = true := by simpa using h1
    simp only [Option.bind_some, res_law_deltas_0_ret, bct, bcf, Bool.not_true, res_R_DeltaError_0_ret, e0]
    exact this
  · have := key (err a) (by rw [if_neg h1]) _ rfl
    have e0 : (err a == 0) = false := by simpa using h1
    simp only [Option.bind_some, res_law_deltas_0_ret, bct, bcf, Bool.not_true, res_R_DeltaError_0_ret, e0]
    exact this
end
end Go.Ev.Delta
