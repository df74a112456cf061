
import Derived.Test.YtlgjdgebmiegeaaPAxW
import Derived.Test.YtlgjdgebmiegeaaGAxisP
namespace Go.Ev.AxisP
open Go.Ev Go.Ev.Attr Go.Ev.Track Go.Ev.Delta
set_option linter.unusedVariables false
set_option linter.unusedSimpArgs false
def un (s : YSpan.den) : U := if (Axis.sk s) = 1 then .a X else uni ((Axis.sk s) == 2) []
def xs : Ax → List U
  | [] => []
  | s :: l => List.replicate (Axis.sn s).toNat (un s) ++ xs l
def ru (l : Ax) (p : Nat) : List U := (xs l).drop p
def rb (l : Ax) (p : Nat) : Int := Axis.sumB l - p
structure PR (l : Ax) (p : Nat) : Prop where
  v : Axis.Good l
  p : p = 0 ∨ ∃ s l', l = s :: l' ∧ (Axis.sk s) ≠ 1 ∧ (p : Int) < (Axis.sn s)
def nxt (s : YSpan.den) (l : Ax) (p n : Nat) : Ax × Nat := if ((p + n : Nat) : Int) = (Axis.sn s) then (l, 0) else (s :: l, p + n)
theorem at_head (s : YSpan.den) (l : Ax) : at_ (e := YSpan) (s :: l) 0 = s := rfl
theorem kind_nil (p : Int) : C_axis_reader_kind F_axis_reader_kind [] p = some (ret_axis_reader_kind (-1) [] p) := by
  rw [e_axis_reader_kind]; rfl
theorem kind_cons (s : YSpan.den) (l : Ax) (p : Int) : C_axis_reader_kind F_axis_reader_kind (s :: l) p = some (ret_axis_reader_kind (Axis.sk s) (s :: l) p) := by
  have h : ((List.length (s :: l) : Int) == 0) = false := beq_eq_false_iff_ne.2 (by simp only [List.length_cons]; omega)
  rw [e_axis_reader_kind, h, if_pos (in0 s l), at_head]; rfl
theorem left_cons (s : YSpan.den) (l : Ax) (p : Nat) (h : 0 ≤ (Axis.sn s) ∧ (Axis.sn s) ≤ 2147483647) (hp : (p : Int) ≤ 2147483647) : C_axis_reader_left F_axis_reader_left (s :: l) p = some (ret_axis_reader_left ((Axis.sn s) - p) (s :: l) p) := by
  have e2 : s.2 = Axis.sn s := rfl
  rw [e_axis_reader_left, if_pos (in0 s l), at_head, e2]
  rw [w64 (by omega) (by omega)]
theorem drop1 (s : YSpan.den) (l : Ax) : List.drop (Int.toNat 1) (List.take (Int.toNat ((s :: l).length : Int)) (s :: l)) = l := by simp
theorem take_eq (s : YSpan.den) (l : Ax) (p n : Nat) (hs : (Axis.sn s) ≤ 2147483647) (hn : ((p + n : Nat) : Int) ≤ (Axis.sn s)) : C_axis_reader_take F_axis_reader_take n (s :: l) p = some (ret_axis_reader_take (nxt s l p n).1 (nxt s l p n).2) := by
  have w : IntKind.i64.wrap ((p : Int) + n) = ((p + n : Nat) : Int) := wnat (by omega) (by omega)
  have q2 : (0 ≤ ((s :: l).length : Int) ∧ ((s :: l).length : Int) ≤ ((s :: l).length : Int) ∧ 0 ≤ (1 : Int) ∧ (1 : Int) ≤ ((s :: l).length : Int)) := by simp only [List.length_cons]; omega
  have e2 : s.2 = Axis.sn s := rfl
  rw [e_axis_reader_take, if_pos (in0 s l), at_head, w, if_pos q2, e2]
  rw [drop1 s l]
  unfold nxt
  by_cases h : ((p + n : Nat) : Int) = (Axis.sn s)
  · have : (((p + n : Nat) : Int) == (Axis.sn s)) = true := by simpa using h
    rw [if_pos h, this]; rfl
  · have : (((p + n : Nat) : Int) == (Axis.sn s)) = false := by simpa using h
    rw [if_neg h, this]; rfl
theorem good_cons {s : YSpan.den} {l : Ax} (h : Axis.Good (s :: l)) : ((Axis.sk s) = 0 ∨ (Axis.sk s) = 1 ∨ (Axis.sk s) = 2) ∧ 1 ≤ (Axis.sn s) ∧ (Axis.sn s) ≤ 2147483647 ∧ Axis.Good l := ⟨h.1.1, h.1.2.1, h.1.2.2, h.2⟩
theorem sumB_cons (s : YSpan.den) (l : Ax) : Axis.sumB (s :: l) = (if (Axis.sk s) = 1 then 0 else (Axis.sn s)) + Axis.sumB l := by
  rfl
theorem ru_zero (l : Ax) : ru l 0 = xs l := rfl
theorem ru_add {s : YSpan.den} {l : Ax} (h : (Axis.sk s) = 1) {n : Nat} (hn : (Axis.sn s) = (n : Int)) : ru (s :: l) 0 = (List.replicate n X).map U.a ++ ru l 0 := by
  show List.replicate (Axis.sn s).toNat (un s) ++ xs l = _
  rw [hn, List.map_replicate]
  unfold un
  rw [if_pos h]; rfl
theorem ru_non {s : YSpan.den} {l : Ax} {p n : Nat} (hk : (Axis.sk s) ≠ 1) (hn : ((p + n : Nat) : Int) ≤ (Axis.sn s)) : ru (s :: l) p = List.replicate n (uni ((Axis.sk s) == 2) []) ++ ru (nxt s l p n).1 (nxt s l p n).2 := by
  obtain ⟨N, hN⟩ : ∃ N : Nat, (Axis.sn s) = (N : Int) := ⟨(Axis.sn s).toNat, by omega⟩
  have e : List.replicate (Axis.sn s).toNat (un s) = List.replicate N (uni ((Axis.sk s) == 2) []) := by unfold un; rw [if_neg hk, hN]; rfl
  have key : ∀ q : Nat, q ≤ N → ru (s :: l) q = List.replicate (N - q) (uni ((Axis.sk s) == 2) []) ++ xs l := by
    intro q hq
    show (List.replicate (Axis.sn s).toNat (un s) ++ xs l).drop q = _
    rw [e, List.drop_append_of_le_length (by simpa using hq), List.drop_replicate]
  rw [key p (by omega)]
  unfold nxt
  split
  · show _ = _ ++ ru l 0
    rw [ru_zero]
    have : N - p = n := by omega
    rw [this]
  · show _ = _ ++ ru (s :: l) (p + n)
    rw [key (p + n) (by omega), ← List.append_assoc, List.replicate_append_replicate]
    have : n + (N - (p + n)) = N - p := by omega
    rw [this]
theorem pr_nxt {s : YSpan.den} {l : Ax} {p n : Nat} (h : PR (s :: l) p) (hk : (Axis.sk s) ≠ 1) (hn : ((p + n : Nat) : Int) ≤ (Axis.sn s)) : PR (nxt s l p n).1 (nxt s l p n).2 ∧ rb (nxt s l p n).1 (nxt s l p n).2 = rb (s :: l) p - n ∧
    (nxt s l p n).1.length ≤ (s :: l).length ∧ (((p + n : Nat) : Int) = (Axis.sn s) → (nxt s l p n).1.length = l.length) := by
  obtain ⟨_, q1, q2, q3⟩ := good_cons h.v
  unfold nxt
  split
  · rename_i hx
    refine ⟨⟨q3, .inl rfl⟩, ?_, by simp, fun _ => rfl⟩
    show Axis.sumB l - ((0 : Nat) : Int) = Axis.sumB (s :: l) - p - n
    rw [sumB_cons, if_neg hk]; omega
  · rename_i hx
    refine ⟨⟨h.v, .inr ⟨s, l, rfl, hk, by show ((p + n : Nat) : Int) < (Axis.sn s); omega⟩⟩, ?_, Nat.le_refl _, fun z => absurd z hx⟩
    show Axis.sumB (s :: l) - ((p + n : Nat) : Int) = Axis.sumB (s :: l) - p - n
    omega
theorem pr_tail {s : YSpan.den} {l : Ax} {p : Nat} (h : PR (s :: l) p) (hk : (Axis.sk s) = 1) : p = 0 ∧ PR l 0 ∧ rb l 0 = rb (s :: l) 0 := by
  obtain ⟨_, q1, q2, q3⟩ := good_cons h.v
  refine ⟨?_, ⟨q3, .inl rfl⟩, ?_⟩
  · rcases h.p with q | ⟨t, l', e, k, _⟩
    · exact q
    · injection e with e1 e2
      rw [← e1] at k; exact absurd hk k
  · show Axis.sumB l - ((0 : Nat) : Int) = Axis.sumB (s :: l) - ((0 : Nat) : Int)
    rw [sumB_cons, if_pos hk]; omega
theorem rb_non {s : YSpan.den} {l : Ax} {p : Nat} (h : PR (s :: l) p) (hk : (Axis.sk s) ≠ 1) : (p : Int) < (Axis.sn s) ∧ (Axis.sn s) - p ≤ rb (s :: l) p := by
  obtain ⟨_, q1, q2, q3⟩ := good_cons h.v
  have hp2 := (Axis.sum_pos q3).1
  have hlt : (p : Int) < (Axis.sn s) := by
    rcases h.p with q | ⟨t, l', e, k, h2⟩
    · omega
    · injection e with e1 e2; rw [e1]; exact h2
  unfold rb
  rw [sumB_cons, if_neg hk]
  omega
theorem rb_nil {p : Nat} (h : PR [] p) : rb [] p = 0 := by
  rcases h.p with q | ⟨t, l', e, _⟩
  · rw [q]; rfl
  · cases e
theorem rk0 (v0 : Int) (v1 : Ax) (v2 : Int) : res_axis_reader_kind_0 (ret_axis_reader_kind v0 v1 v2) = v0 := id rfl
theorem rl0 (v0 : Int) (v1 : Ax) (v2 : Int) : res_axis_reader_left_0 (ret_axis_reader_left v0 v1 v2) = v0 := id rfl
noncomputable def fin (x y : W) : Option sig_axis_Pair.Out :=
      ((C_axis_writer_done F_axis_writer_done (no x) (x.2.1.length : Int) x.2.2).bind fun r3 =>
       ((C_axis_writer_done F_axis_writer_done (no y) (y.2.1.length : Int) y.2.2).bind fun r4 =>
        (bcond ((((res_axis_writer_done_1 r3) : Int) != 0) == false)
         (bcond (((res_axis_writer_done_1 r4) : Int) != 0)
          (some (ret_axis_Pair [] [] 3))
          (some (ret_axis_Pair (res_axis_writer_done_0 r3) (res_axis_writer_done_0 r4) 0)))
         (some (ret_axis_Pair [] [] 3)))))
theorem lack_nil : lack [] [] = [] := rfl
theorem pair_loop : ∀ (d m : Nat) (l1 l2 : Ax) (p1 p2 : Nat) (x y : W) (k : Nat), l1.length + l2.length = d → d < m → PR l1 p1 → PR l2 p2 → rb l1 p1 = rb l2 p2 → Aw x k → Aw y k → k + d ≤ 600000 →
    L_axis_Pair_0 big m (no x) (x.2.1.length : Int) x.2.2 (no y) (y.2.1.length : Int) y.2.2 l1 p1 l2 p2 = fin (runP (z1 (ru l1 p1) (ru l2 p2)) x) (runP (z2 (ru l1 p1) (ru l2 p2)) y) ∧
    Aw (runP (z1 (ru l1 p1) (ru l2 p2)) x) (k + d) ∧ Aw (runP (z2 (ru l1 p1) (ru l2 p2)) y) (k + d) := by
  intro d
  induction d using Nat.strongRecOn with
  | _ d ih =>
  intro m l1 l2 p1 p2 x y k hd hm h1 h2 hb hx hy hk
  obtain ⟨m, rfl⟩ : ∃ q, m = q + 1 := ⟨m - 1, by omega⟩
  have add2 : ∀ (t : YSpan.den) (l2' : Ax), l2 = t :: l2' → (Axis.sk t) = 1 → (l1 = [] ∨ ∃ s l1', l1 = s :: l1' ∧ (Axis.sk s) ≠ 1) → noA (ru l1 p1) →
      L_axis_Pair_0 big (m + 1) (no x) (x.2.1.length : Int) x.2.2 (no y) (y.2.1.length : Int) y.2.2 l1 p1 l2 p2 = fin (runP (z1 (ru l1 p1) (ru l2 p2)) x) (runP (z2 (ru l1 p1) (ru l2 p2)) y) ∧
      Aw (runP (z1 (ru l1 p1) (ru l2 p2)) x) (k + d) ∧ Aw (runP (z2 (ru l1 p1) (ru l2 p2)) y) (k + d) := by
    intro t l2' e kt hl1 hno
    subst e
    simp only [List.length_cons] at hd
    obtain ⟨p0, t1, t2⟩ := pr_tail h2 kt
    subst p0
    obtain ⟨_, q1, q2, q3⟩ := good_cons h2.v
    obtain ⟨n, hn⟩ : ∃ n : Nat, (Axis.sn t) = (n : Int) := ⟨(Axis.sn t).toNat, by omega⟩
    obtain ⟨k1, k2⟩ := put_keep hx (by omega) n (by omega)
    obtain ⟨e1, e2⟩ := put_add hy (by omega) n (by omega)
    have u2 := take_eq t l2' 0 n (by omega) (by omega)
    have en : nxt t l2' 0 n = (l2', 0) := by unfold nxt; rw [if_pos (by omega)]
    rw [en] at u2
    obtain ⟨r1, r2, r3⟩ := ih (l1.length + l2'.length) (by omega) m l1 l2' p1 0 (runP (List.replicate n (U.k [])) x) (runP (List.replicate n (U.a X)) y) (k + 1) rfl (by omega) h1 t1 (by rw [t2]; exact hb) k2 e2 (by omega)
    have z1e : z1 (ru l1 p1) (ru (t :: l2') 0) = List.replicate n (U.k []) ++ z1 (ru l1 p1) (ru l2' 0) := by
      rw [ru_add kt hn]; unfold z1; rw [zp_b _ _ _ _ hno, flat_k, List.length_replicate]
    have z2e : z2 (ru l1 p1) (ru (t :: l2') 0) = List.replicate n (U.a X) ++ z2 (ru l1 p1) (ru l2' 0) := by
      rw [ru_add kt hn]; unfold z2; rw [zp_b _ _ _ _ hno, flat_a, List.map_replicate]
    rw [z1e, z2e, runP_append, runP_append]
    refine ⟨?_, r2.mono (by omega), r3.mono (by omega)⟩
    rw [← r1, L_axis_Pair_0_step]
    have kd : decide ((1 : Int) ≥ 0) = true := id rfl
    have lf := left_cons t l2' 0 (by omega) (by decide)
    have lf2 : (Axis.sn t) - ((0 : Nat) : Int) = (n : Int) := by omega
    rw [lf2] at lf
    rcases hl1 with rfl | ⟨s, l1', rfl, ks⟩
    · have kn := kind_nil p1
      have kc := kind_cons t l2' ((0 : Nat) : Int)
      simp only [kn, kc, Option.bind_some, rk0, res_axis_reader_kind_1_ret, res_axis_reader_kind_2_ret, bcond_if, kt, kd, neg1, show ((-1 : Int) == 1) = false from rfl, beq_self_eq_true, if_true, if_false, Bool.false_eq_true, lf, rl0, res_axis_reader_left_1_ret, res_axis_reader_left_2_ret, u2, res_axis_reader_take_0_ret, res_axis_reader_take_1_ret, k1, e1, res_axis_writer_put_0_ret, res_axis_writer_put_1_ret, res_axis_writer_put_2_ret]
    · obtain ⟨s1, s2, s3, s4⟩ := good_cons h1.v
      have kk : decide ((Axis.sk s) ≥ 0) = true := decide_eq_true (by rcases s1 with q | q | q <;> omega)
      have k1f : ((Axis.sk s) == 1) = false := by simpa using ks
      have kn := kind_cons s l1' p1
      have kc := kind_cons t l2' ((0 : Nat) : Int)
      simp only [kn, kc, Option.bind_some, rk0, res_axis_reader_kind_1_ret, res_axis_reader_kind_2_ret, bcond_if, kt, kd, kk, k1f, show (true == false) = false from rfl, beq_self_eq_true, if_true, if_false, Bool.false_eq_true, lf, rl0, res_axis_reader_left_1_ret, res_axis_reader_left_2_ret, u2, res_axis_reader_take_0_ret, res_axis_reader_take_1_ret, k1, e1, res_axis_writer_put_0_ret, res_axis_writer_put_1_ret, res_axis_writer_put_2_ret]
  rcases l1 with _ | ⟨s, l1⟩
  · rcases l2 with _ | ⟨t, l2⟩
    · have e1 : ru [] p1 = [] := by simp [ru, xs]
      have e2 : ru [] p2 = [] := by simp [ru, xs]
      rw [e1, e2]
      have z1e : z1 [] [] = [] := zp_nil _ _ _
      have z2e : z2 [] [] = [] := zp_nil _ _ _
      rw [z1e, z2e]
      refine ⟨?_, hx.mono (by omega), hy.mono (by omega)⟩
      have kn := kind_nil p1
      have kc := kind_nil p2
      rw [L_axis_Pair_0_step]
      simp only [kn, kc, Option.bind_some, rk0, neg1, bcond_if, beq_self_eq_true, if_true, if_false, Bool.false_eq_true]
      unfold fin
      simp only [bcond_if]
      rfl
    · by_cases kt : (Axis.sk t) = 1
      · exact add2 t l2 rfl kt (.inl rfl) (by have : ru [] p1 = [] := by simp [ru, xs]
                                              rw [this]; exact noA_nil)
      · have q := rb_non h2 kt
        have q2 := rb_nil h1
        omega
  · obtain ⟨s1, s2, s3, s4⟩ := good_cons h1.v
    by_cases ks : (Axis.sk s) = 1
    · simp only [List.length_cons] at hd
      obtain ⟨p0, t1, t2⟩ := pr_tail h1 ks
      subst p0
      obtain ⟨n, hn⟩ : ∃ n : Nat, (Axis.sn s) = (n : Int) := ⟨(Axis.sn s).toNat, by omega⟩
      obtain ⟨k1, k2⟩ := put_keep hy (by omega) n (by omega)
      obtain ⟨e1, e2⟩ := put_add hx (by omega) n (by omega)
      have u2 := take_eq s l1 0 n (by omega) (by omega)
      have en : nxt s l1 0 n = (l1, 0) := by unfold nxt; rw [if_pos (by omega)]
      rw [en] at u2
      obtain ⟨r1, r2, r3⟩ := ih (l1.length + l2.length) (by omega) m l1 l2 0 p2 (runP (List.replicate n (U.a X)) x) (runP (List.replicate n (U.k [])) y) (k + 1) rfl (by omega) t1 h2 (by rw [t2]; exact hb) e2 k2 (by omega)
      have z1e : z1 (ru (s :: l1) 0) (ru l2 p2) = List.replicate n (U.a X) ++ z1 (ru l1 0) (ru l2 p2) := by
        rw [ru_add ks hn]; unfold z1; rw [zp_a, flat_a, List.map_replicate]
      have z2e : z2 (ru (s :: l1) 0) (ru l2 p2) = List.replicate n (U.k []) ++ z2 (ru l1 0) (ru l2 p2) := by
        rw [ru_add ks hn]; unfold z2; rw [zp_a, flat_k, List.length_replicate]
      rw [z1e, z2e, runP_append, runP_append]
      refine ⟨?_, r2.mono (by omega), r3.mono (by omega)⟩
      rw [← r1, L_axis_Pair_0_step]
      have kd : decide ((1 : Int) ≥ 0) = true := id rfl
      have lf := left_cons s l1 0 (by omega) (by decide)
      have lf2 : (Axis.sn s) - ((0 : Nat) : Int) = (n : Int) := by omega
      rw [lf2] at lf
      have kn := kind_cons s l1 ((0 : Nat) : Int)
      simp only [kn, Option.bind_some, rk0, res_axis_reader_kind_1_ret, res_axis_reader_kind_2_ret, bcond_if, ks, kd, beq_self_eq_true, if_true, if_false, show (true == false) = false from rfl, Bool.false_eq_true, lf, rl0, res_axis_reader_left_1_ret, res_axis_reader_left_2_ret, u2, res_axis_reader_take_0_ret, res_axis_reader_take_1_ret, k1, e1, res_axis_writer_put_0_ret, res_axis_writer_put_1_ret, res_axis_writer_put_2_ret]
    · have rs := rb_non h1 ks
      rcases l2 with _ | ⟨t, l2⟩
      · have q2 := rb_nil h2
        omega
      · by_cases kt : (Axis.sk t) = 1
        · refine add2 t l2 rfl kt (.inr ⟨s, l1, rfl, ks⟩) ?_
          obtain ⟨n, hn⟩ : ∃ n : Nat, (Axis.sn s) - p1 = ((n + 1 : Nat) : Int) := ⟨((Axis.sn s) - p1).toNat - 1, by omega⟩
          rw [ru_non (n := n + 1) ks (by omega), List.replicate_succ]
          exact noA_uni _ _ _
        · have rt := rb_non h2 kt
          obtain ⟨t1, t2, t3, t4⟩ := good_cons h2.v
          have s1 : (Axis.sk s) = 0 ∨ (Axis.sk s) = 2 := by rcases s1 with q | q | q <;> simp [q] at ks ⊢
          have t1 : (Axis.sk t) = 0 ∨ (Axis.sk t) = 2 := by rcases t1 with q | q | q <;> simp [q] at kt ⊢
          obtain ⟨N1, hN1⟩ : ∃ n : Nat, (Axis.sn s) - p1 = (n : Int) := ⟨((Axis.sn s) - p1).toNat, by omega⟩
          obtain ⟨N2, hN2⟩ : ∃ n : Nat, (Axis.sn t) - p2 = (n : Int) := ⟨((Axis.sn t) - p2).toNat, by omega⟩
          obtain ⟨n, hn⟩ : ∃ n : Nat, n = if N2 < N1 then N2 else N1 := ⟨_, rfl⟩
          have hmin : (if (N2 : Int) < (N1 : Int) then (N2 : Int) else (N1 : Int)) = (n : Int) := by
            rw [hn]; split <;> split <;> omega
          have n1 : 1 ≤ n := by rw [hn]; split <;> omega
          have n2 : n ≤ N1 := by rw [hn]; split <;> omega
          have n3 : n ≤ N2 := by rw [hn]; split <;> omega
          have n4 : n = N1 ∨ n = N2 := by rw [hn]; split <;> omega
          obtain ⟨a1, a2, a4, a5⟩ := pr_nxt (n := n) h1 ks (by omega)
          obtain ⟨b1, b2, b4, b5⟩ := pr_nxt (n := n) h2 kt (by omega)
          have hru1 := ru_non (l := l1) (p := p1) (n := n) ks (by omega)
          have hru2 := ru_non (l := l2) (p := p2) (n := n) kt (by omega)
          have u3 := take_eq s l1 p1 n s3 (by omega)
          have v3 := take_eq t l2 p2 n t3 (by omega)
          have lf1 := left_cons s l1 p1 (by omega) (by omega)
          have lf2 := left_cons t l2 p2 (by omega) (by omega)
          rw [hN1] at lf1
          rw [hN2] at lf2
          have hlen : (nxt s l1 p1 n).1.length + (nxt t l2 p2 n).1.length < d := by
            rw [← hd]
            simp only [List.length_cons] at a4 b4 ⊢
            rcases n4 with q | q
            · have := a5 (by omega); omega
            · have := b5 (by omega); omega
          generalize nxt s l1 p1 n = A at a1 a2 a4 a5 hru1 u3 hlen
          generalize nxt t l2 p2 n = B at b1 b2 b4 b5 hru2 v3 hlen
          have go : ∀ (x' y' : W), x' = runP (List.replicate n (k1 (uni ((Axis.sk s) == 2) []) (uni ((Axis.sk t) == 2) []))).flatten x → y' = runP (List.replicate n (k2 (uni ((Axis.sk s) == 2) []) (uni ((Axis.sk t) == 2) []))).flatten y →
              L_axis_Pair_0 big (m + 1) (no x) (x.2.1.length : Int) x.2.2 (no y) (y.2.1.length : Int) y.2.2 (s :: l1) p1 (t :: l2) p2 = L_axis_Pair_0 big m (no x') (x'.2.1.length : Int) x'.2.2 (no y') (y'.2.1.length : Int) y'.2.2 A.1 A.2 B.1 B.2 → Aw x' (k + 1) → Aw y' (k + 1) →
              L_axis_Pair_0 big (m + 1) (no x) (x.2.1.length : Int) x.2.2 (no y) (y.2.1.length : Int) y.2.2 (s :: l1) p1 (t :: l2) p2 = fin (runP (z1 (ru (s :: l1) p1) (ru (t :: l2) p2)) x) (runP (z2 (ru (s :: l1) p1) (ru (t :: l2) p2)) y) ∧
              Aw (runP (z1 (ru (s :: l1) p1) (ru (t :: l2) p2)) x) (k + d) ∧ Aw (runP (z2 (ru (s :: l1) p1) (ru (t :: l2) p2)) y) (k + d) := by
            intro x' y' ex' ey' hstep wx wy
            obtain ⟨r1, r2, r3⟩ := ih _ hlen m A.1 B.1 A.2 B.2 x' y' (k + 1) rfl (by omega) a1 b1 (by rw [a2, b2, hb]) wx wy (by omega)
            have z1e : z1 (ru (s :: l1) p1) (ru (t :: l2) p2) = (List.replicate n (k1 (uni ((Axis.sk s) == 2) []) (uni ((Axis.sk t) == 2) []))).flatten ++ z1 (ru A.1 A.2) (ru B.1 B.2) := by
              rw [hru1, hru2]; unfold z1; rw [zp_k]
            have z2e : z2 (ru (s :: l1) p1) (ru (t :: l2) p2) = (List.replicate n (k2 (uni ((Axis.sk s) == 2) []) (uni ((Axis.sk t) == 2) []))).flatten ++ z2 (ru A.1 A.2) (ru B.1 B.2) := by
              rw [hru1, hru2]; unfold z2; rw [zp_k]
            rw [z1e, z2e, runP_append, runP_append, ← ex', ← ey']
            exact ⟨hstep.trans r1, r2.mono (by omega), r3.mono (by omega)⟩
          have st := L_axis_Pair_0_step big m (no x) (x.2.1.length : Int) x.2.2 (no y) (y.2.1.length : Int) y.2.2 (s :: l1) p1 (t :: l2) p2
          have kk : decide ((Axis.sk s) ≥ 0) = true := decide_eq_true (by rcases s1 with q | q <;> omega)
          have k1f : ((Axis.sk s) == 1) = false := by simpa using ks
          have k2f : ((Axis.sk t) == 1) = false := by simpa using kt
          have kn := kind_cons s l1 p1
          have kc := kind_cons t l2 p2
          have J := fun (x1 : Ax) (x2 x3 : Int) => (show J_axis_Pair_0 big m x1 x2 x3 (no y) (y.2.1.length : Int) y.2.2 n ((s :: l1, (p1 : Int)) : YReader.den) ((t :: l2, (p2 : Int)) : YReader.den) = _ from rfl)
          simp only [J_axis_Pair_0, kn, kc, Option.bind_some, rk0, res_axis_reader_kind_1_ret, res_axis_reader_kind_2_ret, bcond_if, kk, k1f, k2f, beq_self_eq_true, if_true, if_false, show (true == false) = false from rfl, Bool.false_eq_true, lf1, lf2, rl0, res_axis_reader_left_1_ret, res_axis_reader_left_2_ret, hmin, u3, v3, res_axis_reader_take_0_ret, res_axis_reader_take_1_ret] at st
          rcases s1 with q | q <;> rcases t1 with q' | q'
          · obtain ⟨g1, g2⟩ := put_keep hx (by omega) n (by omega)
            obtain ⟨f1, f2⟩ := put_keep hy (by omega) n (by omega)
            refine go _ _ ?_ ?_ ?_ g2 f2
            · rw [q, q']; show _ = runP (List.replicate n [U.k (lack [] [])]).flatten x; rw [lack_nil, flat_one]
            · rw [q, q']; show _ = runP (List.replicate n [U.k []]).flatten y; rw [flat_one]
            · rw [st, q, q']
              simp only [beq_self_eq_true, if_true, g1, f1, Option.bind_some, res_axis_writer_put_0_ret, res_axis_writer_put_1_ret, res_axis_writer_put_2_ret]
          · obtain ⟨c1, c2⟩ := put_cut hy (by omega) n (by omega)
            refine go x _ ?_ ?_ ?_ (hx.mono (by omega)) c2
            · rw [q, q']; show _ = runP (List.replicate n []).flatten x; rw [flat_none]; rfl
            · rw [q, q']; show _ = runP (List.replicate n [U.c]).flatten y; rw [flat_one]
            · rw [st, q, q']
              simp only [beq_self_eq_true, if_true, show ((2 : Int) == 0) = false from rfl, if_false, Bool.false_eq_true, c1, Option.bind_some, res_axis_writer_put_0_ret, res_axis_writer_put_1_ret, res_axis_writer_put_2_ret]
          · obtain ⟨c1, c2⟩ := put_cut hx (by omega) n (by omega)
            refine go _ y ?_ ?_ ?_ c2 (hy.mono (by omega))
            · rw [q, q']; show _ = runP (List.replicate n [U.c]).flatten x; rw [flat_one]
            · rw [q, q']; show _ = runP (List.replicate n []).flatten y; rw [flat_none]; rfl
            · rw [st, q, q']
              simp only [beq_self_eq_true, if_true, show ((2 : Int) == 0) = false from rfl, if_false, Bool.false_eq_true, c1, Option.bind_some, res_axis_writer_put_0_ret, res_axis_writer_put_1_ret, res_axis_writer_put_2_ret]
          · refine go x y ?_ ?_ ?_ (hx.mono (by omega)) (hy.mono (by omega))
            · rw [q, q']; show _ = runP (List.replicate n []).flatten x; rw [flat_none]; rfl
            · rw [q, q']; show _ = runP (List.replicate n []).flatten y; rw [flat_none]; rfl
            · rw [st, q, q']
              simp only [beq_self_eq_true, if_true, show ((2 : Int) == 0) = false from rfl, if_false, Bool.false_eq_true]
end Go.Ev.AxisP
