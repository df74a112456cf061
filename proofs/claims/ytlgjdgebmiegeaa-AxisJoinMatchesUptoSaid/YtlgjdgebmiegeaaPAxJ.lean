
import Derived.Test.YtlgjdgebmiegeaaPAxQ
import Derived.Test.YtlgjdgebmiegeaaPJoinC
import Derived.Test.YtlgjdgebmiegeaaGAxisJ
namespace Go.Ev.AxisP
open Go.Ev Go.Ev.Attr Go.Ev.Track Go.Ev.Delta
set_option linter.unusedVariables false
set_option linter.unusedSimpArgs false
/-- The same but for which elements are added. -/
def kk (s : YStep.den) : Int × Int × Attrs × Nat := (sk s, sn s, sa s, (se s).length)
structure Rl (w v : W) : Prop where
  o : w.1.map kk = v.1.map kk
  a : w.2.1.length = v.2.1.length
  c : w.2.2 = v.2.2
def Ru : U → U → Prop
  | .a _, .a _ => True
  | .c, .c => True
  | .k s, .k t => s = t
  | _, _ => False
theorem emp_len {x y : Flow} (h : x.length = y.length) : emp x = emp y := by
  cases x <;> cases y <;> simp_all [emp]
theorem Rl.out {w v : W} (h : Rl w v) : (out w).map kk = (out v).map kk := by
  show (w.1 ++ (if emp w.2.1 = true then [] else [mkT 1 0 [] w.2.1]) ++ (if 0 < w.2.2 then [mkT 2 w.2.2 [] []] else [])).map kk = (v.1 ++ (if emp v.2.1 = true then [] else [mkT 1 0 [] v.2.1]) ++ (if 0 < v.2.2 then [mkT 2 v.2.2 [] []] else [])).map kk
  have e : ∀ x : Flow, kk (mkT 1 0 [] x) = (1, 0, [], x.length) := fun _ => rfl
  have e2 : (if emp w.2.1 = true then [] else [mkT 1 0 [] w.2.1]).map kk = (if emp v.2.1 = true then [] else [mkT 1 0 [] v.2.1]).map kk := by
    rw [emp_len h.a]
    split
    · rfl
    · rw [List.map_cons, List.map_cons, e, e, h.a]
  rw [List.map_append, List.map_append, List.map_append, List.map_append, h.o, h.c, e2]
theorem mrg_kk (n : Int) (t : Attrs) (y z : Delta.Steps) (h : y.map kk = z.map kk) : (mrgK y n t).map kk = (mrgK z n t).map kk := by
  rcases last_cases y with hy | ⟨d, s, hy⟩
  · subst hy
    have : z = [] := by cases z with
      | nil => rfl
      | cons _ _ => simp at h
    subst this; rfl
  · subst hy
    rcases last_cases z with hz | ⟨d', s', hz⟩
    · subst hz; simp at h
    · subst hz
      rw [List.map_append, List.map_append] at h
      obtain ⟨h1, h2⟩ := List.append_inj' h rfl
      have h2 : kk s = kk s' := by simpa using h2
      have e1 : sk s = sk s' := congrArg (·.1) h2
      have e2 : sn s = sn s' := congrArg (·.2.1) h2
      have e3 : sa s = sa s' := congrArg (·.2.2.1) h2
      have e4 : (se s).length = (se s').length := congrArg (·.2.2.2) h2
      rw [mrg_last, mrg_last, e1, e3]
      split
      · rw [List.map_append, List.map_append, h1]
        show _ ++ [((sk s', sn s + n, sa s', (se s).length) : Int × Int × Attrs × Nat)] = _ ++ [(sk s', sn s' + n, sa s', (se s').length)]
        rw [e2, e4]
      · rw [List.map_append, List.map_append, List.map_append, List.map_append, h1]
        show _ ++ [kk s] ++ _ = _ ++ [kk s'] ++ _
        rw [h2]
theorem Rl.step {w v : W} (h : Rl w v) {u u' : U} (hu : Ru u u') : Rl (uU u w) (uU u' v) := by
  cases u <;> cases u' <;> simp only [Ru] at hu
  · exact ⟨h.o, by show (w.2.1 ++ [_]).length = (v.2.1 ++ [_]).length; simp [h.a], h.c⟩
  · exact ⟨h.o, h.a, by show w.2.2 + 1 = v.2.2 + 1; rw [h.c]⟩
  · subst hu
    exact ⟨mrg_kk _ _ _ _ h.out, rfl, rfl⟩
def Rus : List U → List U → Prop
  | [], [] => True
  | u :: us, v :: vs => Ru u v ∧ Rus us vs
  | _, _ => False
theorem Rl.run : ∀ {us vs : List U} {w v : W}, Rl w v → Rus us vs → Rl (runP us w) (runP vs v)
  | [], [], _, _, h, _ => h
  | [], _ :: _, _, _, _, h => h.elim
  | _ :: _, [], _, _, _, h => h.elim
  | u :: us, u' :: vs, w, v, h, hr => Rl.run (us := us) (vs := vs) (h.step hr.1) hr.2
theorem Rus.append : ∀ {us vs us' vs' : List U}, Rus us vs → Rus us' vs' → Rus (us ++ us') (vs ++ vs')
  | [], [], _, _, _, h => h
  | [], _ :: _, _, _, h, _ => h.elim
  | _ :: _, [], _, _, h, _ => h.elim
  | u :: us, u' :: vs, _, _, h, h' => ⟨h.1, Rus.append (us := us) (vs := vs) h.2 h'⟩
theorem Rus.rep {u v : U} (h : Ru u v) : ∀ n, Rus (List.replicate n u) (List.replicate n v)
  | 0 => trivial
  | n + 1 => by rw [List.replicate_succ, List.replicate_succ]; exact ⟨h, Rus.rep h n⟩
theorem ph_of_kk {y z : Delta.Steps} (h : y.map kk = z.map kk) : y.map ph = z.map ph := by
  have e : ∀ y : Delta.Steps, y.map ph = (y.map kk).map fun q => ((q.1, q.2.1 + (q.2.2.2 : Int)) : YSpan.den) := fun y => by rw [List.map_map]; rfl
  rw [e, e, h]
structure P1 (l : Ax) (p : Nat) : Prop where
  v : Axis.Good l
  p : p = 0 ∨ ∃ s l', l = s :: l' ∧ (Axis.sk s) ≠ 2 ∧ (p : Int) < (Axis.sn s)
theorem p1_lt {s : YSpan.den} {l : Ax} {p : Nat} (h : P1 (s :: l) p) : (p : Int) < Axis.sn s := by
  obtain ⟨_, q1, _, _⟩ := good_cons h.v
  rcases h.p with q | ⟨t, l', e, k, h2⟩
  · omega
  · injection e with e1 e2; rw [e1]; exact h2
theorem p1_cut {s : YSpan.den} {l : Ax} {p : Nat} (h : P1 (s :: l) p) (hk : Axis.sk s = 2) : p = 0 := by
  rcases h.p with q | ⟨t, l', e, k, _⟩
  · exact q
  · injection e with e1 e2; rw [← e1] at k; exact absurd hk k
theorem p1_tail {s : YSpan.den} {l : Ax} {p : Nat} (h : P1 (s :: l) p) : P1 l 0 := ⟨(good_cons h.v).2.2.2, .inl rfl⟩
theorem p1_nxt {s : YSpan.den} {l : Ax} {p n : Nat} (h : P1 (s :: l) p) (hk : Axis.sk s ≠ 2) (hn : ((p + n : Nat) : Int) ≤ Axis.sn s) : P1 (nxt s l p n).1 (nxt s l p n).2 ∧ (nxt s l p n).1.length ≤ (s :: l).length ∧ (((p + n : Nat) : Int) = Axis.sn s → (nxt s l p n).1.length = l.length) := by
  unfold nxt
  split
  · exact ⟨p1_tail h, by simp, fun _ => rfl⟩
  · rename_i hx
    exact ⟨⟨h.v, .inr ⟨s, l, rfl, hk, by show ((p + n : Nat) : Int) < Axis.sn s; omega⟩⟩, Nat.le_refl _, fun z => absurd z hx⟩
theorem ru_any {s : YSpan.den} {l : Ax} {p n : Nat} (hn : ((p + n : Nat) : Int) ≤ (Axis.sn s)) : ru (s :: l) p = List.replicate n (un s) ++ ru (nxt s l p n).1 (nxt s l p n).2 := by
  obtain ⟨N, hN⟩ : ∃ N : Nat, (Axis.sn s) = (N : Int) := ⟨(Axis.sn s).toNat, by omega⟩
  have key : ∀ q : Nat, q ≤ N → ru (s :: l) q = List.replicate (N - q) (un s) ++ xs l := by
    intro q hq
    show (List.replicate (Axis.sn s).toNat (un s) ++ xs l).drop q = _
    rw [hN, Int.toNat_natCast, List.drop_append_of_le_length (by simpa using hq), List.drop_replicate]
  rw [key p (by omega)]
  unfold nxt
  split
  · show _ = _ ++ ru l 0
    rw [ru_zero]
    have : N - p = n := by omega
    rw [this]
  · show _ = _ ++ ru (s :: l) (p + n)
    rw [key (p + n) (by omega), ← List.append_assoc, List.replicate_append_replicate]
    have : n + (N - (p + n)) = N - p := by omega
    rw [this]
theorem un_1 {s : YSpan.den} (h : Axis.sk s = 1) : un s = .a X := by unfold un; rw [if_pos h]
theorem un_2 {s : YSpan.den} (h : Axis.sk s = 2) : un s = .c := by unfold un; rw [if_neg (by omega), h]; rfl
theorem un_0 {s : YSpan.den} (h : Axis.sk s = 0) : un s = .k [] := by unfold un; rw [if_neg (by omega), h]; rfl
theorem cnt_a (n : Nat) : cA (List.replicate n (U.a X)) = n ∧ cB (List.replicate n (U.a X)) = 0 := by
  have e : List.replicate n (U.a X) = (List.replicate n X).map U.a := by rw [List.map_replicate]
  rw [e, (cB_a _).1, (cB_a _).2, List.length_replicate]; exact ⟨rfl, rfl⟩
theorem cnt_c (n : Nat) : cA (List.replicate n U.c) = 0 ∧ cB (List.replicate n U.c) = n := by
  have := cB_uni n true []
  rw [uni_c, if_pos rfl] at this
  exact ⟨this.2, this.1⟩
theorem cnt_k (n : Nat) : cA (List.replicate n (U.k [])) = n ∧ cB (List.replicate n (U.k [])) = n := by
  have := cB_uni n false []
  rw [uni_k, if_neg (by decide)] at this
  exact ⟨this.2, this.1⟩
theorem apX : apE [] X = X := rfl
theorem jr_ak (n : Nat) (us vs : List U) : jR (List.replicate n (U.a X) ++ us) (List.replicate n (U.k []) ++ vs) = List.replicate n (U.a X) ++ jR us vs := by
  have := jn_ak apE rj [] us vs (List.replicate n X)
  rw [List.map_replicate, List.map_replicate, List.map_replicate, List.length_replicate, apX] at this
  exact this
theorem jr_ac (n : Nat) (us vs : List U) : jR (List.replicate n (U.a X) ++ us) (List.replicate n U.c ++ vs) = jR us vs := by
  have := jn_ac apE rj us vs (List.replicate n X)
  rw [List.map_replicate, List.length_replicate] at this
  exact this
theorem jr_kk (n : Nat) (us vs : List U) : jR (List.replicate n (U.k []) ++ us) (List.replicate n (U.k []) ++ vs) = List.replicate n (U.k []) ++ jR us vs := jn_kk apE rj [] [] us vs n
theorem jr_kc (n : Nat) (us vs : List U) : jR (List.replicate n (U.k []) ++ us) (List.replicate n U.c ++ vs) = List.replicate n U.c ++ jR us vs := jn_kc apE rj [] us vs n
theorem jr_c (n : Nat) (us vs : List U) : jR (List.replicate n U.c ++ us) vs = List.replicate n U.c ++ jR us vs := jn_c apE rj us vs n
theorem jr_b (n : Nat) (us vs : List U) (h : noC us) : jR us (List.replicate n (U.a X) ++ vs) = List.replicate n (U.a X) ++ jR us vs := by
  have := jn_b apE rj us h (List.replicate n X) vs
  rw [List.map_replicate] at this
  exact this
noncomputable def finJ (x : W) : Option sig_axis_Join.Out :=
      ((C_axis_writer_done F_axis_writer_done (no x) (x.2.1.length : Int) x.2.2).bind fun r3 =>
       (some (ret_axis_Join (res_axis_writer_done_0 r3) (res_axis_writer_done_1 r3))))
theorem join_loop : ∀ (d m : Nat) (l1 l2 : Ax) (p1 p2 : Nat) (w : W) (k : Nat), l1.length + l2.length = d → d < m → P1 l1 p1 → PR l2 p2 → cA (ru l1 p1) = cB (ru l2 p2) → Aw w k → k + d ≤ 600000 →
    L_axis_Join_0 big m (no w) (w.2.1.length : Int) w.2.2 l1 p1 l2 p2 = finJ (runP (jR (ru l1 p1) (ru l2 p2)) w) ∧ Aw (runP (jR (ru l1 p1) (ru l2 p2)) w) (k + d) := by
  intro d
  induction d using Nat.strongRecOn with
  | _ d ih =>
  intro m l1 l2 p1 p2 w k hd hm h1 h2 hb hw hk
  obtain ⟨m, rfl⟩ : ∃ q, m = q + 1 := ⟨m - 1, by omega⟩
  have kd1 : decide ((1 : Int) ≥ 0) = true := id rfl
  have kd2 : decide ((2 : Int) ≥ 0) = true := id rfl
  have kd0 : decide ((0 : Int) ≥ 0) = true := id rfl
  have add2 : ∀ (t : YSpan.den) (l2' : Ax), l2 = t :: l2' → Axis.sk t = 1 → (l1 = [] ∨ ∃ s l1', l1 = s :: l1' ∧ Axis.sk s ≠ 2) → noC (ru l1 p1) →
      L_axis_Join_0 big (m + 1) (no w) (w.2.1.length : Int) w.2.2 l1 p1 l2 p2 = finJ (runP (jR (ru l1 p1) (ru l2 p2)) w) ∧ Aw (runP (jR (ru l1 p1) (ru l2 p2)) w) (k + d) := by
    intro t l2' e kt hl1 hno
    subst e
    simp only [List.length_cons] at hd
    obtain ⟨p0, t1, t2⟩ := pr_tail h2 kt
    subst p0
    obtain ⟨_, q1, q2, q3⟩ := good_cons h2.v
    obtain ⟨n, hn⟩ : ∃ n : Nat, Axis.sn t = (n : Int) := ⟨(Axis.sn t).toNat, by omega⟩
    obtain ⟨e1, e2⟩ := put_add hw (by omega) n (by omega)
    have u2 := take_eq t l2' 0 n (by omega) (by omega)
    have en : nxt t l2' 0 n = (l2', 0) := by unfold nxt; rw [if_pos (by omega)]
    have hru := ru_any (s := t) (l := l2') (p := 0) (n := n) (by omega)
    rw [en] at u2 hru
    rw [un_1 kt] at hru
    have hru : ru (t :: l2') 0 = List.replicate n (U.a X) ++ ru l2' 0 := hru
    rw [hru, cB_append, (cnt_a n).2, Nat.zero_add] at hb
    obtain ⟨r1, r2⟩ := ih (l1.length + l2'.length) (by omega) m l1 l2' p1 0 (runP (List.replicate n (U.a X)) w) (k + 1) rfl (by omega) h1 t1 hb e2 (by omega)
    rw [hru, jr_b _ _ _ hno, runP_append]
    refine ⟨?_, r2.mono (by omega)⟩
    rw [← r1, L_axis_Join_0_step]
    have lf := left_cons t l2' 0 (by omega) (by decide)
    have lf2 : Axis.sn t - ((0 : Nat) : Int) = (n : Int) := by omega
    rw [lf2] at lf
    rcases hl1 with rfl | ⟨s, l1', rfl, ks⟩
    · have kn := kind_nil p1
      have kc := kind_cons t l2' ((0 : Nat) : Int)
      simp only [kn, kc, Option.bind_some, rk0, res_axis_reader_kind_1_ret, res_axis_reader_kind_2_ret, bcond_if, kt, kd1, neg1, show ((-1 : Int) == 2) = false from rfl, beq_self_eq_true, if_true, if_false, Bool.false_eq_true, lf, rl0, res_axis_reader_left_1_ret, res_axis_reader_left_2_ret, u2, res_axis_reader_take_0_ret, res_axis_reader_take_1_ret, e1, res_axis_writer_put_0_ret, res_axis_writer_put_1_ret, res_axis_writer_put_2_ret]
    · obtain ⟨s1, s2, s3, s4⟩ := good_cons h1.v
      have kk : decide (Axis.sk s ≥ 0) = true := decide_eq_true (by rcases s1 with q | q | q <;> omega)
      have k2f : (Axis.sk s == 2) = false := by simpa using ks
      have kn := kind_cons s l1' p1
      have kc := kind_cons t l2' ((0 : Nat) : Int)
      simp only [kn, kc, Option.bind_some, rk0, res_axis_reader_kind_1_ret, res_axis_reader_kind_2_ret, bcond_if, kt, kd1, kk, k2f, show (true == false) = false from rfl, beq_self_eq_true, if_true, if_false, Bool.false_eq_true, lf, rl0, res_axis_reader_left_1_ret, res_axis_reader_left_2_ret, u2, res_axis_reader_take_0_ret, res_axis_reader_take_1_ret, e1, res_axis_writer_put_0_ret, res_axis_writer_put_1_ret, res_axis_writer_put_2_ret]
  rcases l1 with _ | ⟨s, l1⟩
  · have e1 : ru [] p1 = [] := by simp [ru, xs]
    rcases l2 with _ | ⟨t, l2⟩
    · have e2 : ru [] p2 = [] := by simp [ru, xs]
      rw [e1, e2, show jR [] [] = [] from jn_nil _ _]
      refine ⟨?_, hw.mono (by omega)⟩
      have kn := kind_nil p1
      have kc := kind_nil p2
      rw [L_axis_Join_0_step]
      simp only [kn, kc, Option.bind_some, rk0, neg1, bcond_if, beq_self_eq_true, if_true, if_false, Bool.false_eq_true]
      rfl
    · by_cases kt : Axis.sk t = 1
      · exact add2 t l2 rfl kt (.inl rfl) (by rw [e1]; exact noC_nil)
      · have rt := rb_non h2 kt
        have hru := ru_non (l := l2) (p := p2) (n := 1) kt (by omega)
        rw [e1, hru, cB_append, (cB_uni _ _ _).1] at hb
        have : cA [] = 0 := rfl
        omega
  · obtain ⟨s1, s2, s3, s4⟩ := good_cons h1.v
    have plt := p1_lt h1
    by_cases ks : Axis.sk s = 2
    · simp only [List.length_cons] at hd
      have p0 := p1_cut h1 ks
      subst p0
      obtain ⟨n, hn⟩ : ∃ n : Nat, Axis.sn s = (n : Int) := ⟨(Axis.sn s).toNat, by omega⟩
      obtain ⟨e1, e2⟩ := put_cut hw (by omega) n (by omega)
      have u2 := take_eq s l1 0 n (by omega) (by omega)
      have en : nxt s l1 0 n = (l1, 0) := by unfold nxt; rw [if_pos (by omega)]
      have hru := ru_any (s := s) (l := l1) (p := 0) (n := n) (by omega)
      rw [en] at u2 hru
      rw [un_2 ks] at hru
      have hru : ru (s :: l1) 0 = List.replicate n U.c ++ ru l1 0 := hru
      rw [hru, cA_append, (cnt_c n).1, Nat.zero_add] at hb
      obtain ⟨r1, r2⟩ := ih (l1.length + l2.length) (by omega) m l1 l2 0 p2 (runP (List.replicate n U.c) w) (k + 1) rfl (by omega) (p1_tail h1) h2 hb e2 (by omega)
      rw [hru, jr_c, runP_append]
      refine ⟨?_, r2.mono (by omega)⟩
      rw [← r1, L_axis_Join_0_step]
      have lf := left_cons s l1 0 (by omega) (by decide)
      have lf2 : Axis.sn s - ((0 : Nat) : Int) = (n : Int) := by omega
      rw [lf2] at lf
      have kn := kind_cons s l1 ((0 : Nat) : Int)
      simp only [kn, Option.bind_some, rk0, res_axis_reader_kind_1_ret, res_axis_reader_kind_2_ret, bcond_if, ks, kd2, beq_self_eq_true, if_true, if_false, show (true == false) = false from rfl, Bool.false_eq_true, lf, rl0, res_axis_reader_left_1_ret, res_axis_reader_left_2_ret, u2, res_axis_reader_take_0_ret, res_axis_reader_take_1_ret, e1, res_axis_writer_put_0_ret, res_axis_writer_put_1_ret, res_axis_writer_put_2_ret]
    · obtain ⟨N1, hN1⟩ : ∃ n : Nat, Axis.sn s - p1 = (n : Int) := ⟨(Axis.sn s - p1).toNat, by omega⟩
      have k01 : Axis.sk s = 0 ∨ Axis.sk s = 1 := by rcases s1 with q | q | q <;> omega
      have hone := ru_any (s := s) (l := l1) (p := p1) (n := 1) (by omega)
      have hnoC : noC (ru (s :: l1) p1) := by
        rw [hone]
        rcases k01 with q | q
        · rw [un_0 q]; exact noC_k _ _
        · rw [un_1 q]; exact noC_a _ _
      rcases l2 with _ | ⟨t, l2⟩
      · exfalso
        have e2 : ru [] p2 = [] := by simp [ru, xs]
        have e3 : cB [] = 0 := rfl
        rw [e2, hone, cA_append] at hb
        rcases k01 with q | q
        · rw [un_0 q, (cnt_k 1).1] at hb; omega
        · rw [un_1 q, (cnt_a 1).1] at hb; omega
      · by_cases kt : Axis.sk t = 1
        · exact add2 t l2 rfl kt (.inr ⟨s, l1, rfl, ks⟩) hnoC
        · have rt := rb_non h2 kt
          obtain ⟨t1, t2, t3, t4⟩ := good_cons h2.v
          have t02 : Axis.sk t = 0 ∨ Axis.sk t = 2 := by rcases t1 with q | q | q <;> omega
          obtain ⟨N2, hN2⟩ : ∃ n : Nat, Axis.sn t - p2 = (n : Int) := ⟨(Axis.sn t - p2).toNat, by omega⟩
          obtain ⟨n, hn⟩ : ∃ n : Nat, n = if N2 < N1 then N2 else N1 := ⟨_, rfl⟩
          have hmin : (if (N2 : Int) < (N1 : Int) then (N2 : Int) else (N1 : Int)) = (n : Int) := by
            rw [hn]; split <;> split <;> omega
          have n1 : 1 ≤ n := by rw [hn]; split <;> omega
          have n2 : n ≤ N1 := by rw [hn]; split <;> omega
          have n3 : n ≤ N2 := by rw [hn]; split <;> omega
          have n4 : n = N1 ∨ n = N2 := by rw [hn]; split <;> omega
          obtain ⟨a1, a4, a5⟩ := p1_nxt (n := n) h1 ks (by omega)
          obtain ⟨b1, b2, b4, b5⟩ := pr_nxt (n := n) h2 kt (by omega)
          have hru1 := ru_any (s := s) (l := l1) (p := p1) (n := n) (by omega)
          have hru2 := ru_any (s := t) (l := l2) (p := p2) (n := n) (by omega)
          have u3 := take_eq s l1 p1 n (by omega) (by omega)
          have v3 := take_eq t l2 p2 n (by omega) (by omega)
          have lf1 := left_cons s l1 p1 (by omega) (by omega)
          have lf2 := left_cons t l2 p2 (by omega) (by omega)
          rw [hN1] at lf1
          rw [hN2] at lf2
          have hlen : (nxt s l1 p1 n).1.length + (nxt t l2 p2 n).1.length < d := by
            rw [← hd]
            simp only [List.length_cons] at a4 b4 ⊢
            rcases n4 with q | q
            · have := a5 (by omega); omega
            · have := b5 (by omega); omega
          have kk : decide (Axis.sk s ≥ 0) = true := decide_eq_true (by omega)
          have k2f : (Axis.sk s == 2) = false := by simpa using ks
          have k1f : (Axis.sk t == 1) = false := by simpa using kt
          have kn := kind_cons s l1 p1
          have kc := kind_cons t l2 p2
          have st := L_axis_Join_0_step big m (no w) (w.2.1.length : Int) w.2.2 (s :: l1) p1 (t :: l2) p2
          simp only [kn, kc, Option.bind_some, rk0, res_axis_reader_kind_1_ret, res_axis_reader_kind_2_ret, bcond_if, kk, k2f, k1f, beq_self_eq_true, if_true, if_false, show (true == false) = false from rfl, Bool.false_eq_true, lf1, lf2, rl0, res_axis_reader_left_1_ret, res_axis_reader_left_2_ret, hmin, u3, v3, res_axis_reader_take_0_ret, res_axis_reader_take_1_ret] at st
          have go : ∀ (us vs zs : List U) (w' : W), List.replicate n (un s) = us → List.replicate n (un t) = vs → cA us = cB vs →
              (∀ us' vs', jR (us ++ us') (vs ++ vs') = zs ++ jR us' vs') → w' = runP zs w →
              L_axis_Join_0 big (m + 1) (no w) (w.2.1.length : Int) w.2.2 (s :: l1) p1 (t :: l2) p2 = L_axis_Join_0 big m (no w') (w'.2.1.length : Int) w'.2.2 (nxt s l1 p1 n).1 (nxt s l1 p1 n).2 (nxt t l2 p2 n).1 (nxt t l2 p2 n).2 → Aw w' (k + 1) →
              L_axis_Join_0 big (m + 1) (no w) (w.2.1.length : Int) w.2.2 (s :: l1) p1 (t :: l2) p2 = finJ (runP (jR (ru (s :: l1) p1) (ru (t :: l2) p2)) w) ∧ Aw (runP (jR (ru (s :: l1) p1) (ru (t :: l2) p2)) w) (k + d) := by
            intro us vs zs w' e1 e2 e3 ze ew hstep ht
            rw [e1] at hru1
            rw [e2] at hru2
            rw [hru1, hru2, cA_append, cB_append] at hb
            obtain ⟨r1, r2⟩ := ih _ hlen m (nxt s l1 p1 n).1 (nxt t l2 p2 n).1 (nxt s l1 p1 n).2 (nxt t l2 p2 n).2 w' (k + 1) rfl (by omega) a1 b1 (by omega) ht (by omega)
            rw [hru1, hru2, ze, runP_append, ← ew]
            exact ⟨hstep.trans r1, r2.mono (by omega)⟩
          rcases k01 with q | q <;> rcases t02 with q' | q'
          · obtain ⟨e1, e2⟩ := put_keep hw (by omega) n (by omega)
            refine go (List.replicate n (U.k [])) (List.replicate n (U.k [])) (List.replicate n (U.k [])) _ (by rw [un_0 q]) (by rw [un_0 q']) (by rw [(cnt_k n).1, (cnt_k n).2]) (jr_kk n) rfl ?_ e2
            rw [st, q, q']
            simp only [beq_self_eq_true, if_true, e1, Option.bind_some, res_axis_writer_put_0_ret, res_axis_writer_put_1_ret, res_axis_writer_put_2_ret]
          · obtain ⟨e1, e2⟩ := put_cut hw (by omega) n (by omega)
            refine go (List.replicate n (U.k [])) (List.replicate n U.c) (List.replicate n U.c) _ (by rw [un_0 q]) (by rw [un_2 q']) (by rw [(cnt_k n).1, (cnt_c n).2]) (jr_kc n) rfl ?_ e2
            rw [st, q, q']
            simp only [beq_self_eq_true, if_true, e1, Option.bind_some, res_axis_writer_put_0_ret, res_axis_writer_put_1_ret, res_axis_writer_put_2_ret]
          · obtain ⟨e1, e2⟩ := put_add hw (by omega) n (by omega)
            refine go (List.replicate n (U.a X)) (List.replicate n (U.k [])) (List.replicate n (U.a X)) _ (by rw [un_1 q]) (by rw [un_0 q']) (by rw [(cnt_a n).1, (cnt_k n).2]) (jr_ak n) rfl ?_ e2
            rw [st, q, q']
            simp only [beq_self_eq_true, if_true, show ((1 : Int) == 0) = false from rfl, if_false, Bool.false_eq_true, e1, Option.bind_some, res_axis_writer_put_0_ret, res_axis_writer_put_1_ret, res_axis_writer_put_2_ret]
          · refine go (List.replicate n (U.a X)) (List.replicate n U.c) [] w (by rw [un_1 q]) (by rw [un_2 q']) (by rw [(cnt_a n).1, (cnt_c n).2]) (fun us' vs' => by rw [jr_ac]; rfl) rfl ?_ (hw.mono (by omega))
            rw [st, q, q']
            simp only [show ((1 : Int) == 0) = false from rfl, show ((2 : Int) == 0) = false from rfl, if_false, Bool.false_eq_true]
end Go.Ev.AxisP
