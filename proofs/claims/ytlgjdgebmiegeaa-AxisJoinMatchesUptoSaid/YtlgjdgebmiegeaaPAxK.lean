
import Derived.Test.YtlgjdgebmiegeaaPAxJ
namespace Go.Ev.AxisP
open Go.Ev Go.Ev.Attr Go.Ev.Track Go.Ev.Delta
set_option linter.unusedVariables false
set_option linter.unusedSimpArgs false
theorem cnt_un {s : YSpan.den} (h : Axis.sk s = 0 ∨ Axis.sk s = 1 ∨ Axis.sk s = 2) (n : Nat) : cA (List.replicate n (un s)) = (if Axis.sk s = 2 then 0 else n) ∧ cB (List.replicate n (un s)) = (if Axis.sk s = 1 then 0 else n) := by
  rcases h with q | q | q
  · rw [un_0 q, q]; exact cnt_k n
  · rw [un_1 q, q]; exact cnt_a n
  · rw [un_2 q, q]; exact cnt_c n
theorem cnt_xs : ∀ {a : Ax}, Axis.Good a → (cA (xs a) : Int) = Axis.sumA a ∧ (cB (xs a) : Int) = Axis.sumB a
  | [], _ => ⟨rfl, rfl⟩
  | s :: a, h => by
    obtain ⟨g1, g2, g3, g4⟩ := good_cons h
    obtain ⟨i1, i2⟩ := cnt_xs g4
    obtain ⟨c1, c2⟩ := cnt_un g1 (Axis.sn s).toNat
    show (cA (List.replicate (Axis.sn s).toNat (un s) ++ xs a) : Int) = (if Axis.sk s = 2 then 0 else Axis.sn s) + Axis.sumA a ∧ (cB (List.replicate (Axis.sn s).toNat (un s) ++ xs a) : Int) = (if Axis.sk s = 1 then 0 else Axis.sn s) + Axis.sumB a
    rw [cA_append, cB_append, c1, c2]
    constructor
    · split <;> omega
    · split <;> omega
def uo (s : YSpan.den) : U := if Axis.sk s = 1 then .c else if Axis.sk s = 2 then .a X else .k []
def ux : Ax → List U
  | [] => []
  | s :: l => List.replicate (Axis.sn s).toNat (uo s) ++ ux l
theorem uo_cnt {s : YSpan.den} (h : Axis.sk s = 0 ∨ Axis.sk s = 1 ∨ Axis.sk s = 2) (n : Nat) : cA (List.replicate n (uo s)) = (if Axis.sk s = 1 then 0 else n) ∧ cB (List.replicate n (uo s)) = (if Axis.sk s = 2 then 0 else n) := by
  unfold uo
  rcases h with q | q | q
  · rw [q]; exact cnt_k n
  · rw [q]; exact cnt_c n
  · rw [q]; exact cnt_a n
theorem cnt_ux : ∀ {a : Ax}, Axis.Good a → (cA (ux a) : Int) = Axis.sumB a ∧ (cB (ux a) : Int) = Axis.sumA a ∧ ∀ u ∈ ux a, okU u
  | [], _ => ⟨rfl, rfl, fun u h => by simp [ux] at h⟩
  | s :: a, h => by
    obtain ⟨g1, g2, g3, g4⟩ := good_cons h
    obtain ⟨i1, i2, i3⟩ := cnt_ux g4
    obtain ⟨c1, c2⟩ := uo_cnt g1 (Axis.sn s).toNat
    show (cA (List.replicate (Axis.sn s).toNat (uo s) ++ ux a) : Int) = (if Axis.sk s = 1 then 0 else Axis.sn s) + Axis.sumB a ∧ (cB (List.replicate (Axis.sn s).toNat (uo s) ++ ux a) : Int) = (if Axis.sk s = 2 then 0 else Axis.sn s) + Axis.sumA a ∧ _
    rw [cA_append, cB_append, c1, c2]
    refine ⟨by split <;> omega, by split <;> omega, fun u hu => ?_⟩
    rcases List.mem_append.1 (show u ∈ List.replicate (Axis.sn s).toNat (uo s) ++ ux a from hu) with q | q
    · rw [List.eq_of_mem_replicate q]
      unfold uo
      split
      · trivial
      · split
        · exact (rfl : eErr X = 0)
        · exact (rfl : Attr.err true [] = 0)
    · exact i3 u q
noncomputable def finU (x : W) : Option sig_axis_Undo.Out :=
      ((C_axis_writer_done F_axis_writer_done (no x) (x.2.1.length : Int) x.2.2).bind fun r1 =>
    (some (ret_axis_Undo (res_axis_writer_done_0 r1) (res_axis_writer_done_1 r1))))
theorem undo_loop (a : Ax) (hl : a.length ≤ 600000) (g : Axis.Good a) : ∀ (d i m : Nat) (w : W) (k : Nat), i + d = a.length → d < m → Aw w k → k + d ≤ 600000 →
    L_axis_Undo_0 big m (no w) (w.2.1.length : Int) w.2.2 a (a.length : Int) (i : Int) = finU (runP (ux (a.drop i)) w) ∧ Aw (runP (ux (a.drop i)) w) (k + d) := by
  intro d
  induction d with
  | zero =>
    intro i m w k hi hm hw hk
    obtain ⟨m, rfl⟩ : ∃ k, m = k + 1 := ⟨m - 1, by omega⟩
    obtain rfl : i = a.length := by omega
    rw [L_axis_Undo_0_step, List.drop_length]
    simp only [bcond_if, dlt_self, Bool.false_eq_true, if_false]
    exact ⟨rfl, hw⟩
  | succ d ih =>
    intro i m w k hi hm hw hk
    obtain ⟨m, rfl⟩ : ∃ k, m = k + 1 := ⟨m - 1, by omega⟩
    have hil : i < a.length := by omega
    have w1 := wsucc hil (show a.length ≤ 4611686018427387904 by omega)
    have ed : a.drop i = a[i] :: a.drop (i + 1) := List.drop_eq_getElem_cons hil
    have ea0 : at_ (e := YSpan) a (i : Int) = a[i] := at_get (e := YSpan) a i hil
    obtain ⟨q1, q2, q3⟩ := Axis.good_at g hil
    have ek : Axis.kind a i = Axis.sk a[i] := by unfold Axis.kind; rw [ea0]; rfl
    have en : Axis.num a i = Axis.sn a[i] := by unfold Axis.num; rw [ea0]; rfl
    rw [ek] at q1
    rw [en] at q2 q3
    obtain ⟨n, hn⟩ : ∃ n : Nat, Axis.sn a[i] = (n : Int) := ⟨(Axis.sn a[i]).toNat, by omega⟩
    have e1 : (a[i] : YSpan.den).1 = Axis.sk a[i] := rfl
    have e2 : (a[i] : YSpan.den).2 = (n : Int) := hn
    have hx : ux (a[i] :: a.drop (i + 1)) = List.replicate n (uo a[i]) ++ ux (a.drop (i + 1)) := by
      show List.replicate (Axis.sn a[i]).toNat (uo a[i]) ++ _ = _
      rw [hn]; rfl
    rw [ed, hx, runP_append, L_axis_Undo_0_step]
    simp only [bcond_if, dlt hil, if_true, inb, hil, ea0, e1, e2, w1]
    unfold uo
    rcases q1 with q | q | q
    · obtain ⟨p1, p2⟩ := put_keep hw (by omega) n (by omega)
      obtain ⟨r1, r2⟩ := ih (i + 1) m _ (k + 1) (by omega) (by omega) p2 (by omega)
      have at0 : at_ (e := .int .i64) [0, 2, 1] 0 = (0 : Int) := rfl
      rw [q]
      simp only [show (0 ≤ (0 : Int) ∧ (0 : Int) < (List.length [(0 : Int), 2, 1] : Int)) from by decide, if_true, at0, p1, Option.bind_some, res_axis_writer_put_0_ret, res_axis_writer_put_1_ret, res_axis_writer_put_2_ret, show ((0 : Int) = 1) = False from by simp, show ((0 : Int) = 2) = False from by simp, if_false]
      exact ⟨r1, r2.mono (by omega)⟩
    · obtain ⟨p1, p2⟩ := put_cut hw (by omega) n (by omega)
      obtain ⟨r1, r2⟩ := ih (i + 1) m _ (k + 1) (by omega) (by omega) p2 (by omega)
      have at0 : at_ (e := .int .i64) [0, 2, 1] 1 = (2 : Int) := rfl
      rw [q]
      simp only [show (0 ≤ (1 : Int) ∧ (1 : Int) < (List.length [(0 : Int), 2, 1] : Int)) from by decide, if_true, at0, p1, Option.bind_some, res_axis_writer_put_0_ret, res_axis_writer_put_1_ret, res_axis_writer_put_2_ret]
      exact ⟨r1, r2.mono (by omega)⟩
    · obtain ⟨p1, p2⟩ := put_add hw (by omega) n (by omega)
      obtain ⟨r1, r2⟩ := ih (i + 1) m _ (k + 1) (by omega) (by omega) p2 (by omega)
      have at0 : at_ (e := .int .i64) [0, 2, 1] 2 = (1 : Int) := rfl
      rw [q]
      simp only [show (0 ≤ (2 : Int) ∧ (2 : Int) < (List.length [(0 : Int), 2, 1] : Int)) from by decide, if_true, at0, p1, Option.bind_some, res_axis_writer_put_0_ret, res_axis_writer_put_1_ret, res_axis_writer_put_2_ret, show ((2 : Int) = 1) = False from by simp, if_false]
      exact ⟨r1, r2.mono (by omega)⟩
theorem undo_eq (a : Ax) (hl : a.length ≤ 600000) : C_axis_Undo F_axis_Undo a = some (if Axis.E a ≠ 0 then ret_axis_Undo [] (Axis.E a) else ret_axis_Undo ((out (runP (ux a) w0)).map ph) 0) := by
  rw [e_axis_Undo, Axis.check_eq a (by omega)]
  by_cases h1 : Axis.E a = 0
  · obtain ⟨g, gb, ga⟩ := Axis.E_good h1
    obtain ⟨r1, r2⟩ := undo_loop a hl g a.length 0 big w0 0 (by omega) (big_ge (n := a.length + 1) (by omega)) aw0 (by omega)
    rw [List.drop_zero] at r1 r2
    have t := r2.mono (k' := 600000) (by omega)
    obtain ⟨q, q1, q2, q3⟩ := done_ax t (by omega)
    obtain ⟨c1, c2, c3⟩ := cnt_ux g
    have v := valid_out (ux a) c3 (by omega) (by omega)
    have o1 : Axis.E ((out (runP (ux a) w0)).map ph) = 0 := err_ph _ none 0 0 v.1 (by decide) (fun s hs k0 => (t.out s hs k0).2.2.1) (fun q h => by cases h)
    rw [if_pos o1] at q2 q3
    rw [if_neg (show ¬ Axis.E a ≠ 0 by simp [h1])]
    simp only [Option.bind_some, res_axis_Check_0_ret, bcond_if, h1, bne_self_eq_false, Bool.false_eq_true, if_false]
    refine Eq.trans r1 ?_
    unfold finU
    rw [q1]
    simp only [Option.bind_some, q2, q3]
  · have z2 : (Axis.E a != 0) = true := by simpa using h1
    simp [bcond_if, h1, z2]
def E0 : YElem.den := mkE 0 0 []
theorem bk_ux : ∀ {a : Ax} (N : Nat), Axis.Good a → (N : Int) = Axis.sumB a → Rus (ux a) (bk (xs a) (List.replicate N E0)) ∧ ((ap (xs a) (List.replicate N E0)).length : Int) = Axis.sumA a
  | [], N, _, _ => ⟨trivial, rfl⟩
  | s :: a, N, h, hN => by
    obtain ⟨g1, g2, g3, g4⟩ := good_cons h
    have sp := Axis.sum_pos g4
    obtain ⟨n, hn⟩ : ∃ n : Nat, Axis.sn s = (n : Int) := ⟨(Axis.sn s).toNat, by omega⟩
    have hx : xs (s :: a) = List.replicate n (un s) ++ xs a := by show List.replicate (Axis.sn s).toNat (un s) ++ xs a = _; rw [hn]; rfl
    have hu : ux (s :: a) = List.replicate n (uo s) ++ ux a := by show List.replicate (Axis.sn s).toNat (uo s) ++ ux a = _; rw [hn]; rfl
    have eA : Axis.sumA (s :: a) = (if Axis.sk s = 2 then 0 else Axis.sn s) + Axis.sumA a := rfl
    rw [sumB_cons] at hN
    rw [hx, hu, eA]
    have kE : bkE [] E0 = .k [] := rfl
    rcases g1 with q | q | q
    · have hno : ¬ Axis.sk s = 1 := by omega
      rw [if_neg hno] at hN
      obtain ⟨M, hM⟩ : ∃ M : Nat, N = n + M := ⟨N - n, by omega⟩
      subst hM
      obtain ⟨i1, i2⟩ := bk_ux (a := a) M g4 (by omega)
      rw [un_0 q, show uo s = .k [] by unfold uo; rw [if_neg hno, if_neg (by omega)], bk_k, ap_k, List.take_replicate, List.drop_replicate, List.map_replicate, List.map_replicate, show min n (n + M) = n by omega, show n + M - n = M by omega, kE, if_neg (by omega)]
      refine ⟨Rus.append (Rus.rep (u := .k []) (v := .k []) rfl n) i1, ?_⟩
      rw [List.length_append, List.length_replicate]; omega
    · rw [if_pos q] at hN
      obtain ⟨i1, i2⟩ := bk_ux (a := a) N g4 (by omega)
      have e : List.replicate n (U.a X) = (List.replicate n X).map U.a := by rw [List.map_replicate]
      rw [un_1 q, show uo s = .c by unfold uo; rw [if_pos q], e, bk_a, ap_a, List.length_replicate, if_neg (by omega)]
      refine ⟨Rus.append (Rus.rep (u := .c) (v := .c) trivial n) i1, ?_⟩
      rw [List.length_append, List.length_replicate]; omega
    · have hno : ¬ Axis.sk s = 1 := by omega
      rw [if_neg hno] at hN
      obtain ⟨M, hM⟩ : ∃ M : Nat, N = n + M := ⟨N - n, by omega⟩
      subst hM
      obtain ⟨i1, i2⟩ := bk_ux (a := a) M g4 (by omega)
      rw [un_2 q, show uo s = .a X by unfold uo; rw [if_neg hno, if_pos q], bk_c, ap_c, List.take_replicate, List.drop_replicate, List.map_replicate, show min n (n + M) = n by omega, show n + M - n = M by omega, if_pos q]
      exact ⟨Rus.append (Rus.rep (u := .a X) (v := .a E0) trivial n) i1, by omega⟩
/-- Not by definition: so that what decides is written anew. -/
theorem la0 (v : Delta.Act) : res_law_act_0 (ret_law_act v) = v := id rfl
section
variable (a b : Ax) (hlen : a.length + b.length ≤ 600000)
include hlen
theorem join_eq : C_axis_Join F_axis_Join a b = some (if Axis.E a ≠ 0 then ret_axis_Join [] (Axis.E a) else if Axis.E b ≠ 0 then ret_axis_Join [] (Axis.E b) else if Axis.sumB b ≠ Axis.sumA a then ret_axis_Join [] 14 else
    if Axis.E ((out (runP (jR (xs a) (xs b)) w0)).map ph) = 0 then ret_axis_Join ((out (runP (jR (xs a) (xs b)) w0)).map ph) 0 else ret_axis_Join [] 3) ∧
    (Axis.E a = 0 → Axis.E b = 0 → Axis.sumB b = Axis.sumA a → Aw (runP (jR (xs a) (xs b)) w0) 600000) := by
  by_cases h1 : Axis.E a = 0
  · by_cases h2 : Axis.E b = 0
    · by_cases h3 : Axis.sumB b = Axis.sumA a
      · have ga := (Axis.E_good h1).1
        have gb := (Axis.E_good h2).1
        have ca := (cnt_xs ga).1
        have cb := (cnt_xs gb).2
        obtain ⟨r1, r2⟩ := join_loop (a.length + b.length) big a b 0 0 w0 0 rfl (big_ge (n := a.length + b.length + 1) (by omega)) ⟨ga, .inl rfl⟩ ⟨gb, .inl rfl⟩ (by rw [ru_zero, ru_zero]; omega) aw0 (by omega)
        rw [ru_zero, ru_zero] at r1 r2
        have t := r2.mono (k' := 600000) (by omega)
        refine ⟨?_, fun _ _ _ => t⟩
        rw [if_neg (show ¬ Axis.E a ≠ 0 by simp [h1]), if_neg (show ¬ Axis.E b ≠ 0 by simp [h2]), if_neg (show ¬ Axis.sumB b ≠ Axis.sumA a by simp [h3])]
        rw [e_axis_Join, Axis.check_eq a (by omega), Axis.check_eq b (by omega), Axis.lengths_eq a (by omega) h1, Axis.lengths_eq b (by omega) h2]
        simp only [Option.bind_some, res_axis_Check_0_ret, res_axis_lengths_0_ret, res_axis_lengths_1_ret, bcond_if, h1, h2, h3, bne_self_eq_false, Bool.false_eq_true, if_false]
        refine Eq.trans r1 ?_
        generalize runP (jR (xs a) (xs b)) w0 = x at t ⊢
        obtain ⟨q, q1, q2, q3⟩ := done_ax t (by omega)
        unfold finJ
        rw [q1]
        simp only [Option.bind_some, q2, q3]
        by_cases z1 : Axis.E ((out x).map ph) = 0
        · simp [z1]
        · simp [z1]
      · refine ⟨?_, fun _ _ z => absurd z h3⟩
        rw [e_axis_Join, Axis.check_eq a (by omega), Axis.check_eq b (by omega), Axis.lengths_eq a (by omega) h1, Axis.lengths_eq b (by omega) h2]
        have z2 : (Axis.sumB b != Axis.sumA a) = true := by simpa using h3
        simp [bcond_if, h1, h2, h3, z2]
    · refine ⟨?_, fun _ z => absurd z h2⟩
      rw [e_axis_Join, Axis.check_eq a (by omega), Axis.check_eq b (by omega)]
      have z2 : (Axis.E b != 0) = true := by simpa using h2
      simp [bcond_if, h1, h2, z2]
  · refine ⟨?_, fun z => absurd z h1⟩
    rw [e_axis_Join, Axis.check_eq a (by omega)]
    have z2 : (Axis.E a != 0) = true := by simpa using h1
    simp [bcond_if, h1, z2]
/-- Short changes that fit, or do not. -/
theorem key0 (h1 : Axis.E a = 0) (h2 : Axis.E b = 0) (s1 : Axis.sumN a ≤ 300) (s2 : Axis.sumN b ≤ 300) (z : sig_axis_Join.Out) (hz : z = (if Axis.sumB b ≠ Axis.sumA a then ret_axis_Join [] 14 else
    if Axis.E ((out (runP (jR (xs a) (xs b)) w0)).map ph) = 0 then ret_axis_Join ((out (runP (jR (xs a) (xs b)) w0)).map ph) 0 else ret_axis_Join [] 3)) :
    K_law_AxisJoinMatches_0 big a b (res_axis_Join_0 z) (res_axis_Join_1 z) ((out (runP (ux a) w0)).map ph) = some (ret_law_AxisJoinMatches true) := by
  have pt := (join_eq a b hlen).2 h1 h2
  have ga := (Axis.E_good h1).1
  have gb := (Axis.E_good h2).1
  have gpa := Axis.sum_pos ga
  have gpb := Axis.sum_pos gb
  obtain ⟨na, ea1, va, xa, _⟩ := nb_ps ga
  obtain ⟨nb', eb1, vb, xb, _⟩ := nb_ps gb
  obtain ⟨oa, ia⟩ := act_ex (a.map ps)
  obtain ⟨ob, ib⟩ := act_ex (b.map ps)
  obtain ⟨la, ea'⟩ := actL_size (a.map ps) A0 ⟨rfl, rfl⟩
  obtain ⟨lb, eb'⟩ := actL_size (b.map ps) A0 ⟨rfl, rfl⟩
  have y1 : A0.2.1.length = 0 := rfl
  have y2 : ebl A0.1 = 0 := rfl
  have sat : ∀ (l : Ax), ∀ s ∈ l.map ps, sa s = [] := fun l s hs => by
    obtain ⟨t, _, rfl⟩ := List.mem_map.1 hs
    unfold ps; split <;> rfl
  have ta : ∀ t ∈ (actL (a.map ps) A0).2.2, t = [] := actL_from (fun t => t = []) (a.map ps) A0 (fun t h => by simp [A0] at h) (sat a)
  have tb : ∀ t ∈ (actL (b.map ps) A0).2.2, t = [] := actL_from (fun t => t = []) (b.map ps) A0 (fun t h => by simp [A0] at h) (sat b)
  have atn : ∀ (o : Delta.Act), (∀ t ∈ o.2.2, t = []) → ∀ i, atrAt o.2.2 i = [] := fun o ho i => by
    by_cases hi : i < o.2.2.length
    · have e : atrAt o.2.2 i = o.2.2[i] := by simp [atrAt, at_, List.getD_eq_getElem?_getD, hi]
      rw [e]; exact ho _ (List.getElem_mem hi)
    · simp [atrAt, at_, List.getD_eq_getElem?_getD, Nat.le_of_not_lt hi]; rfl
  have fa := atn _ ta
  have fb := atn _ tb
  rw [xa] at ia
  rw [xb] at ib
  have n1 := xs_len ga
  have n2 := xs_len gb
  rw [K_law_AxisJoinMatches_0_step, act_ax a (by omega) ga (by omega), act_ax b (by omega) gb (by omega)]
  simp only [Option.bind_some, la0]
  generalize hA : actL (a.map ps) A0 = A at oa ia la ea' ta fa ⊢
  generalize hB : actL (b.map ps) A0 = B at ob ib lb eb' tb fb ⊢
  have hAl : (A.2.1.length : Int) = Axis.sumB a := by omega
  have hBl : (B.2.1.length : Int) = Axis.sumB b := by omega
  have mk : 0 ≤ (A.2.1.length : Int) ∧ (A.2.1.length : Int) = (A.2.1.length : Int) ∧ (A.2.1.length : Int) * 40 ≤ 140737488355328 ∧ (A.2.1.length : Int) ≤ 140737488355328 := by omega
  obtain ⟨rus, apl⟩ := bk_ux (a := a) A.2.1.length ga hAl
  have hfl : A.2.1.length = (List.replicate A.2.1.length E0).length := by rw [List.length_replicate]
  have hea : ∀ x ∈ List.replicate A.2.1.length E0, ea x = [] := fun x hx => by rw [List.eq_of_mem_replicate hx]; rfl
  have hA1 : ∀ x ∈ A.1, x.length ≤ 1048576 := fun x hx => by have := ebl_mem _ x hx; omega
  have bk1 := back_all (List.replicate A.2.1.length E0) A oa hfl (by rw [List.length_replicate]; omega) (fun x hx t ht => by rw [hea x hx, ta t ht]; decide) hA1 (by rw [ia]; omega)
  have dn1 := done_all (List.replicate A.2.1.length E0) A oa hfl (by rw [List.length_replicate]; omega) (fun x hx t ht => by rw [hea x hx, ta t ht]; decide) (by rw [ia]; omega)
  rw [ia] at bk1 dn1
  -- Undo
  obtain ⟨c1, c2, c3⟩ := cnt_ux ga
  have v := valid_out (ux a) c3 (by omega) (by omega)
  have rl := Rl.run (w := w0) (v := w0) ⟨rfl, rfl, rfl⟩ rus
  have ro := rl.out
  obtain ⟨z1, z2⟩ := out_small _ v.1 (by rw [v.2.1]; omega) (by rw [v.2.2]; omega)
  obtain ⟨g1, g2⟩ := bkA_il (xs a) (List.replicate A.2.1.length E0) A0 ⟨rfl, rfl⟩
  have g2 : il (bkA (xs a) (List.replicate A.2.1.length E0) A0) = bk (xs a) (List.replicate A.2.1.length E0) := g2.trans rfl
  obtain ⟨s3, s4⟩ := bk_AB (xs a) (List.replicate A.2.1.length E0)
  have cx := cnt_xs ga
  have i1 := il_AB _ _ _ g1.h1 g1.h2
  have g4 : ilL (bkA (xs a) (List.replicate A.2.1.length E0) A0).1 (bkA (xs a) (List.replicate A.2.1.length E0) A0).2.1 (bkA (xs a) (List.replicate A.2.1.length E0) A0).2.2 = bk (xs a) (List.replicate A.2.1.length E0) := g2
  rw [g4] at i1
  have q1 := delta_eq _ g1 (by omega) (atr_small _ (bkA_all (fun t => t.length ≤ 1048576) (Nat.zero_le _) (xs a) (List.replicate A.2.1.length E0) A0 (fun t h => by simp [A0] at h) (fun x hx t ht => by
    rw [hea x hx]
    have : t = [] := by
      rcases (xs_ok a _ ht).2 with e | e | e
      · cases e
      · cases e
      · injection e
    rw [this]; decide))) (by omega)
  rw [runA_il, g4] at q1
  generalize hy : out (runP (bk (xs a) (List.replicate A.2.1.length E0)) w0) = y at q1 ro
  have hyl : y.length ≤ 3000000 := by
    have := congrArg List.length ro
    rw [List.length_map, List.length_map] at this
    omega
  have hys : ∀ s ∈ y, 0 ≤ sn s ∧ sn s ≤ 1152921504606846976 ∧ (se s).length ≤ 1048576 := fun s hs => by
    have hm : kk s ∈ (out (runP (ux a) w0)).map kk := by rw [ro]; exact List.mem_map.2 ⟨s, hs, rfl⟩
    obtain ⟨s', hs', e⟩ := List.mem_map.1 hm
    have e2 : sn s' = sn s := congrArg (·.2.1) e
    have e4 : (se s').length = (se s).length := congrArg (·.2.2.2) e
    have := z2 s' hs'
    omega
  have st1 := steps_eq _ _ q1 hyl hys
  rw [← ph_of_kk ro] at st1
  have ss1 := ssteps_self ((out (runP (ux a) w0)).map ph) (by simpa using z1)
  have bk1 : C_R_Back F_R_Back (List.replicate (Int.toNat (A.2.1.length : Int)) ((0, (0, [])) : YElem.den)) A = _ := bk1
  have dn1 : C_R_Done F_R_Done (List.replicate (Int.toNat (A.2.1.length : Int)) ((0, (0, [])) : YElem.den)) A = _ := dn1
  have mk' : 0 ≤ (A.2.1.length : Int) ∧ True ∧ (A.2.1.length : Int) * 40 ≤ 140737488355328 ∧ (A.2.1.length : Int) ≤ 140737488355328 := ⟨mk.1, trivial, mk.2.2⟩
  rw [if_pos mk']
  simp only [bk1, Option.bind_some, res_R_Back_0_ret, st1, res_law_steps_0_ret, ss1, res_R_SameSteps_0_ret, Bool.not_true, bcf]
  rw [if_pos mk']
  simp only [dn1, Option.bind_some, res_R_Done_0_ret]
  by_cases h3 : Axis.sumB b = Axis.sumA a
  · have t := pt h3
    have hne : (((ap (xs a) (List.replicate A.2.1.length E0)).length : Int) != (B.2.1.length : Int)) = false := by
      rw [show ((ap (xs a) (List.replicate A.2.1.length E0)).length : Int) = (B.2.1.length : Int) by omega]; exact bne_self_eq_false _
    have kt : ∀ (l : Ax) (t : Attrs), U.k t ∈ xs l → t = [] := fun l t ht => by
      rcases (xs_ok l _ ht).2 with e | e | e
      · cases e
      · cases e
      · injection e
    have at' : ∀ (l : Ax) (x : YElem.den), U.a x ∈ xs l → x = X := fun l x hx => by
      rcases (xs_ok l _ hx).2 with e | e | e
      · injection e
      · cases e
      · cases e
    obtain ⟨m1, m2⟩ := jn_all apE rj okU trivial _ (xs a) (xs b) (Nat.le_refl _) (fun y hy => (xs_ok b _ hy).1) (fun x t hx ht => by rw [at' a x hx, kt b t ht]; exact (rfl : eErr X = 0)) (fun s t hs ht => by rw [kt a s hs, kt b t ht]; exact (rfl : Attr.err true [] = 0))
    have m1 : ∀ u ∈ jR (xs a) (xs b), okU u := m1
    have m2 : (jR (xs a) (xs b)).length ≤ (xs a).length + (xs b).length := m2
    have cc := cA_len (jR (xs a) (xs b))
    have v1 := valid_out _ m1 (by omega) (by omega)
    have o1 : Axis.E ((out (runP (jR (xs a) (xs b)) w0)).map ph) = 0 := err_ph _ none 0 0 v1.1 (by decide) (fun s hs k0 => (t.out s hs k0).2.2.1) (fun q h => by cases h)
    rw [if_neg (show ¬ Axis.sumB b ≠ Axis.sumA a by simp [h3]), if_pos o1] at hz
    subst hz
    have hXx : ∀ i q, ∀ x ∈ adAt A.1 i, (ea x).length + (atrAt B.2.2 q).length ≤ 1048576 := fun i q x hxm => by
      have hmem := adAt_il oa hxm
      rw [ia] at hmem
      rw [at' a x hmem, fb q]; decide
    have b1 := both_all A B oa ob (by omega) (by omega) hXx (fun i q => by rw [fa i, fb q]; decide) (by rw [ia]; omega) (by rw [ia, ib]; omega)
    obtain ⟨e1, e2⟩ := bt_il A B oa ob A.2.1.length 0 0 A0 (by omega) (by rw [show rest A 0 = il A from rfl, ia]; omega) ⟨rfl, rfl⟩
    have e3 : il (bt A B A.2.1.length 0 0 A0) = jR (xs a) (xs b) := by
      rw [e2, show rest A 0 = il A from rfl, show rest B 0 = il B from rfl, ia, ib]; rfl
    obtain ⟨w1, w2⟩ := il_size e1
    rw [e3] at w1 w2
    have q1 := delta_eq _ e1 (by omega) (atr_small _ (bt_all (fun t => t.length ≤ 1048576) (Nat.zero_le _) _ _ (fun i q => by rw [fa i, fb q]; decide) _ 0 0 A0 (fun t h => by simp [A0] at h))) (by omega)
    rw [runA_il] at q1
    have e4 : ilL (bt A B A.2.1.length 0 0 A0).1 (bt A B A.2.1.length 0 0 A0).2.1 (bt A B A.2.1.length 0 0 A0).2.2 = jR (xs a) (xs b) := e3
    rw [e4] at q1
    obtain ⟨sz1, sz2⟩ := out_small _ v1.1 (by rw [v1.2.1]; omega) (by rw [v1.2.2]; omega)
    have st1 := steps_eq _ _ q1 sz1 sz2
    have ss1 := ssteps_self ((out (runP (jR (xs a) (xs b)) w0)).map ph) (by simpa using sz1)
    simp only [hne, bcf, bct, res_axis_Join_0_ret, res_axis_Join_1_ret, beq_self_eq_true, b1, Option.bind_some, res_R_Both_0_ret, st1, res_law_steps_0_ret, ss1, res_R_SameSteps_0_ret]
  · rw [if_pos h3] at hz
    subst hz
    have hne : (((ap (xs a) (List.replicate A.2.1.length E0)).length : Int) != (B.2.1.length : Int)) = true := bne_iff_ne.2 (by omega)
    simp only [hne, bct, res_axis_Join_0_ret, res_axis_Join_1_ret, beq_self_eq_true]
    rfl
theorem law_join : C_law_AxisJoinMatches F_law_AxisJoinMatches a b = some (ret_law_AxisJoinMatches true) := by
  have pe := (join_eq a b hlen).1
  have ue := undo_eq a (by omega)
  have key : ∀ t, t = (if Axis.E a = 0 then Axis.E b else Axis.E a) → ∀ z, z = (if Axis.E a ≠ 0 then ret_axis_Join [] (Axis.E a) else if Axis.E b ≠ 0 then ret_axis_Join [] (Axis.E b) else if Axis.sumB b ≠ Axis.sumA a then ret_axis_Join [] 14 else
    if Axis.E ((out (runP (jR (xs a) (xs b)) w0)).map ph) = 0 then ret_axis_Join ((out (runP (jR (xs a) (xs b)) w0)).map ph) 0 else ret_axis_Join [] 3) →
      ∀ v, v = (if Axis.E a ≠ 0 then ret_axis_Undo [] (Axis.E a) else ret_axis_Undo ((out (runP (ux a) w0)).map ph) 0) →
      K_law_AxisJoinMatches_1 big a b (res_axis_Join_0 z) (res_axis_Join_1 z) (res_axis_Undo_0 v) t = some (ret_law_AxisJoinMatches true) := by
    intro t ht z hz v hv
    rw [K_law_AxisJoinMatches_1_step]
    by_cases h1 : Axis.E a = 0
    · rw [if_pos h1] at ht
      rw [if_neg (show ¬ Axis.E a ≠ 0 by simp [h1])] at hz hv
      by_cases h2 : Axis.E b = 0
      · rw [if_neg (show ¬ Axis.E b ≠ 0 by simp [h2])] at hz
        rw [Axis.few_eq a (by omega) h1, Axis.few_eq b (by omega) h2, ht, h2]
        simp only [bne_self_eq_false, bcf, Option.bind_some, res_law_few_0_ret]
        have other : bcond ((res_axis_Join_1 z == 0) == false) (some (ret_law_AxisJoinMatches (((res_axis_Join_0 z).length : Int) == 0))) (some (ret_law_AxisJoinMatches true)) = some (ret_law_AxisJoinMatches true) := by
          rw [hz]
          by_cases h3 : Axis.sumB b = Axis.sumA a
          · rw [if_neg (show ¬ Axis.sumB b ≠ Axis.sumA a by simp [h3])]
            split
            · rfl
            · rfl
          · rw [if_pos h3]; rfl
        by_cases s1 : Axis.sumN a ≤ 300
        · by_cases s2 : Axis.sumN b ≤ 300
          · simp only [decide_eq_true s1, decide_eq_true s2, Bool.not_true, show (false == false) = true from rfl, bct, bcf]
            rw [hv]
            exact key0 a b hlen h1 h2 s1 s2 z hz
          · simp only [decide_eq_true s1, decide_eq_false s2, Bool.not_true, Bool.not_false, show (false == false) = true from rfl, bct]
            exact other
        · simp only [decide_eq_false s1, Bool.not_false, show (true == false) = false from rfl, bcf]
          exact other
      · rw [if_pos (show Axis.E b ≠ 0 from h2)] at hz
        have z2 : (Axis.E b != 0) = true := by simpa using h2
        rw [ht, hz]
        simp only [z2, bct, res_axis_Join_1_ret, res_axis_Join_0_ret, beq_self_eq_true]
        rfl
    · rw [if_neg h1] at ht
      rw [if_pos (show Axis.E a ≠ 0 from h1)] at hz
      have z2 : (Axis.E a != 0) = true := by simpa using h1
      rw [ht, hz]
      simp only [z2, bct, res_axis_Join_1_ret, res_axis_Join_0_ret, beq_self_eq_true]
      rfl
  have hu : ∀ v, v = (if Axis.E a ≠ 0 then ret_axis_Undo [] (Axis.E a) else ret_axis_Undo ((out (runP (ux a) w0)).map ph) 0) → res_axis_Undo_1 v = Axis.E a := fun v hv => by
    rw [hv]
    by_cases h1 : Axis.E a = 0
    · rw [if_neg (show ¬ Axis.E a ≠ 0 by simp [h1]), h1]; rfl
    · rw [if_pos (show Axis.E a ≠ 0 from h1)]; rfl
  rw [e_law_AxisJoinMatches, Axis.axes_eq, pe, ue, Axis.axerr_eq a (by omega), Axis.axerr_eq b (by omega)]
  simp only [Option.bind_some, res_law_axes_0_ret, bct, bcf, Bool.not_true, res_R_AxisError_0_ret, hu _ rfl, bne_self_eq_false]
  by_cases h1 : Axis.E a = 0
  · have := key (Axis.E b) (by rw [if_pos h1]) _ rfl _ rfl
    have e0 : (Axis.E a == 0) = true := by simpa using h1
    simp only [e0, bct]
    exact this
  · have := key (Axis.E a) (by rw [if_neg h1]) _ rfl _ rfl
    have e0 : (Axis.E a == 0) = false := by simpa using h1
    simp only [e0, bcf]
    exact this
end
theorem holdsJoinX (a b : Ax) (o0 : (Ty.list YSpan).ok a) (o1 : (Ty.list YSpan).ok b) (hb : (Ty.list YSpan).bulk a + (Ty.list YSpan).bulk b ≤ 1048576) : C_law_AxisJoinMatches F_law_AxisJoinMatches a b = some (ret_law_AxisJoinMatches true) := by
  have h3 := span_bulk a
  have h4 := span_bulk b
  exact law_join a b (by omega)
end Go.Ev.AxisP
