
import Derived.Test.YtlgjdgebmiegeaaPBehind
import Derived.Test.YtlgjdgebmiegeaaGPair
namespace Go.Ev.Delta
open Go.Ev Go.Ev.Attr Go.Ev.Track
set_option linter.unusedVariables false
set_option linter.unusedSimpArgs false
def ru (l : Steps) (p : Nat) : List U := (ex l).drop p
def rb (l : Steps) (p : Nat) : Int := befs l - p
structure PR (l : Steps) (p : Nat) : Prop where
  v : ∀ s ∈ l, sErr s = 0 ∧ Ss s
  p : p = 0 ∨ ∃ s l', l = s :: l' ∧ sk s ≠ 1 ∧ (p : Int) < sn s
def nxt (s : YStep.den) (l : Steps) (p n : Nat) : Steps × Nat := if ((p + n : Nat) : Int) = sn s then (l, 0) else (s :: l, p + n)
theorem at_head (s : YStep.den) (l : Steps) : at_ (e := YStep) (s :: l) 0 = s := rfl
theorem in0 {α : Type} (s : α) (l : List α) : (0 ≤ (0 : Int) ∧ (0 : Int) < ((s :: l).length : Int)) := by simp only [List.length_cons]; omega
theorem kind_nil (p : Int) : C_delta_reader_kind F_delta_reader_kind [] p = some (ret_delta_reader_kind (-1) [] p) := by
  rw [e_delta_reader_kind]; rfl
theorem kind_cons (s : YStep.den) (l : Steps) (p : Int) : C_delta_reader_kind F_delta_reader_kind (s :: l) p = some (ret_delta_reader_kind (sk s) (s :: l) p) := by
  have h : ((List.length (s :: l) : Int) == 0) = false := beq_eq_false_iff_ne.2 (by simp only [List.length_cons]; omega)
  rw [e_delta_reader_kind, h, if_pos (in0 s l), at_head]; rfl
theorem left_cons (s : YStep.den) (l : Steps) (p : Nat) (h : 0 ≤ ssz s ∧ ssz s ≤ 2147483647) (hp : (p : Int) ≤ 2147483647) : C_delta_reader_left F_delta_reader_left (s :: l) p = some (ret_delta_reader_left (ssz s - p) (s :: l) p) := by
  rw [e_delta_reader_left, if_pos (in0 s l), at_head, size_eq]
  simp only [Option.bind_some, res_delta_size_0_ret]
  rw [w64 (by omega) (by omega)]
theorem drop1 (s : YStep.den) (l : Steps) : List.drop (Int.toNat 1) (List.take (Int.toNat ((s :: l).length : Int)) (s :: l)) = l := by simp
theorem take_add0 (s : YStep.den) (l : Steps) (hk : sk s = 1) (hl : (se s).length ≤ 1048576) : ∃ u : YStep.den, u.2.2.2 = se s ∧ C_delta_reader_take F_delta_reader_take (ssz s) (s :: l) 0 = some (ret_delta_reader_take u l 0) := by
  have hz : ssz s = ((se s).length : Int) := by unfold ssz; rw [if_pos hk]
  have e1 : (s : YStep.den).1 = sk s := rfl
  have e4 : s.2.2.2 = se s := rfl
  have w : IntKind.i64.wrap (0 + ((se s).length : Int)) = ((se s).length : Int) := by rw [w64 (by omega) (by omega)]; omega
  have q1 : (0 ≤ ((se s).length : Int) ∧ ((se s).length : Int) ≤ ((se s).length : Int) ∧ 0 ≤ (0 : Int) ∧ (0 : Int) ≤ ((se s).length : Int)) := by omega
  have q2 : (0 ≤ ((s :: l).length : Int) ∧ ((s :: l).length : Int) ≤ ((s :: l).length : Int) ∧ 0 ≤ (1 : Int) ∧ (1 : Int) ≤ ((s :: l).length : Int)) := by simp only [List.length_cons]; omega
  refine ⟨(sk s, (sn s, (sa s, List.drop (Int.toNat 0) (List.take (Int.toNat ((se s).length : Int)) (se s))))), by simp, ?_⟩
  rw [e_delta_reader_take, if_pos (in0 s l), at_head, size_eq, hz, e1, hk]
  simp only [Option.bind_some, res_delta_size_0_ret, beq_self_eq_true, bcond_if, if_true, w, e4, if_pos q1, if_pos (in0 s l), hz, if_pos q2]
  rw [drop1 s l]
  rfl
theorem take_add (s : YStep.den) (l : Steps) (hk : sk s = 1) (hl : (se s).length ≤ 1048576) : ∃ u : YStep.den, u.2.2.2 = se s ∧ C_delta_reader_take F_delta_reader_take (ssz s) (s :: l) ((0 : Nat) : Int) = some (ret_delta_reader_take u l ((0 : Nat) : Int)) := take_add0 s l hk hl
theorem take_non (s : YStep.den) (l : Steps) (p n : Nat) (hk : sk s ≠ 1) (hs : sn s ≤ 2147483647) (hn : ((p + n : Nat) : Int) ≤ sn s) : ∃ u : YStep.den, u.1 = sk s ∧ u.2.2.1 = sa s ∧ C_delta_reader_take F_delta_reader_take n (s :: l) p = some (ret_delta_reader_take u (nxt s l p n).1 (nxt s l p n).2) := by
  have hz : ssz s = sn s := by unfold ssz; rw [if_neg hk]
  have e1 : (s : YStep.den).1 = sk s := rfl
  have w : IntKind.i64.wrap ((p : Int) + n) = ((p + n : Nat) : Int) := wnat (by omega) (by omega)
  have q2 : (0 ≤ ((s :: l).length : Int) ∧ ((s :: l).length : Int) ≤ ((s :: l).length : Int) ∧ 0 ≤ (1 : Int) ∧ (1 : Int) ≤ ((s :: l).length : Int)) := by simp only [List.length_cons]; omega
  have k1 : (sk s == 1) = false := by simpa using hk
  refine ⟨(sk s, (n, s.2.2)), rfl, rfl, ?_⟩
  rw [e_delta_reader_take, if_pos (in0 s l), at_head, size_eq, e1]
  simp only [Option.bind_some, res_delta_size_0_ret, bcond_if, k1, Bool.false_eq_true, if_false, w, if_pos (in0 s l), hz, if_pos q2]
  rw [drop1 s l]
  unfold nxt
  by_cases h : ((p + n : Nat) : Int) = sn s
  · rw [if_pos h, h]; simp
  · have : (((p + n : Nat) : Int) == sn s) = false := by simpa using h
    rw [if_neg h]; simp only [this, Bool.false_eq_true, if_false]
theorem non_add {s : YStep.den} (h : sErr s = 0) (hs : Ss s) (hk : sk s ≠ 1) : (sk s = 0 ∨ sk s = 2) ∧ 1 ≤ sn s ∧ sn s ≤ 2147483647 ∧ se s = [] ∧ addB s 0 = sn s ∧ ssz s = sn s := by
  rcases sErr_zero h with ⟨h1, _⟩ | ⟨h1, h2, h3, h4, h5⟩
  · exact absurd h1 hk
  · refine ⟨?_, h3, h4, h2, ?_, ?_⟩
    · rcases h1 with q | q
      · exact .inl q
      · exact .inr q.1
    · unfold addB; rw [if_neg hk]; omega
    · unfold ssz; rw [if_neg hk]
theorem is_add {s : YStep.den} (h : sErr s = 0) (hs : Ss s) (hk : sk s = 1) : 1 ≤ (se s).length ∧ pErr (se s) = 0 ∧ addB s 0 = 0 ∧ ssz s = (se s).length ∧ exS s = (se s).map U.a := by
  rcases sErr_zero h with ⟨h1, h2, h3, h4, h5⟩ | ⟨h1, _⟩
  · refine ⟨?_, h5, by unfold addB; rw [if_pos hk], by unfold ssz; rw [if_pos hk], by unfold exS; rw [if_pos hk]⟩
    cases hq : se s with
    | nil => exact absurd hq h4
    | cons x y => simp
  · rcases h1 with q | q <;> omega
theorem ru_zero (l : Steps) : ru l 0 = ex l := rfl
theorem ru_add {s : YStep.den} {l : Steps} (h : exS s = (se s).map U.a) : ru (s :: l) 0 = (se s).map U.a ++ ru l 0 := by
  show exS s ++ ex l = _
  rw [h]; rfl
theorem ru_non {s : YStep.den} {l : Steps} {p n : Nat} (hk : sk s ≠ 1) (hn : ((p + n : Nat) : Int) ≤ sn s) : ru (s :: l) p = List.replicate n (uni (sk s == 2) (sa s)) ++ ru (nxt s l p n).1 (nxt s l p n).2 := by
  obtain ⟨N, hN⟩ : ∃ N : Nat, sn s = (N : Int) := ⟨(sn s).toNat, by omega⟩
  have e : exS s = List.replicate N (uni (sk s == 2) (sa s)) := by unfold exS; rw [if_neg hk, hN]; rfl
  have key : ∀ q : Nat, q ≤ N → ru (s :: l) q = List.replicate (N - q) (uni (sk s == 2) (sa s)) ++ ex l := by
    intro q hq
    show (exS s ++ ex l).drop q = _
    rw [e, List.drop_append_of_le_length (by simpa using hq), List.drop_replicate]
  rw [key p (by omega)]
  unfold nxt
  split
  · show _ = _ ++ ru l 0
    rw [ru_zero]
    have : N - p = n := by omega
    rw [this]
  · show _ = _ ++ ru (s :: l) (p + n)
    rw [key (p + n) (by omega), ← List.append_assoc, List.replicate_append_replicate]
    have : n + (N - (p + n)) = N - p := by omega
    rw [this]
theorem pr_nxt {s : YStep.den} {l : Steps} {p n : Nat} (h : PR (s :: l) p) (hk : sk s ≠ 1) (hn : ((p + n : Nat) : Int) ≤ sn s) : PR (nxt s l p n).1 (nxt s l p n).2 ∧ rb (nxt s l p n).1 (nxt s l p n).2 = rb (s :: l) p - n ∧ eb (nxt s l p n).1 ≤ eb (s :: l) ∧
    (nxt s l p n).1.length ≤ (s :: l).length ∧ (((p + n : Nat) : Int) = sn s → (nxt s l p n).1.length = l.length) := by
  have hv := h.v s (by simp)
  obtain ⟨_, q1, q2, q3, q4, q5⟩ := non_add hv.1 hv.2 hk
  unfold nxt
  split
  · rename_i hx
    refine ⟨⟨fun t ht => h.v t (by simp [ht]), .inl rfl⟩, ?_, by simp [eb], by simp, fun _ => rfl⟩
    show befs l - ((0 : Nat) : Int) = befs (s :: l) - p - n
    simp only [befs, q4]; omega
  · rename_i hx
    refine ⟨⟨h.v, .inr ⟨s, l, rfl, hk, by show ((p + n : Nat) : Int) < sn s; omega⟩⟩, ?_, Nat.le_refl _, Nat.le_refl _, fun z => absurd z hx⟩
    show befs (s :: l) - ((p + n : Nat) : Int) = befs (s :: l) - p - n
    omega
theorem pr_tail {s : YStep.den} {l : Steps} {p : Nat} (h : PR (s :: l) p) (hk : sk s = 1) : p = 0 ∧ PR l 0 ∧ rb l 0 = rb (s :: l) 0 ∧ eb (s :: l) = (se s).length + eb l := by
  have hv := h.v s (by simp)
  obtain ⟨q1, q2, q3, q4, q5⟩ := is_add hv.1 hv.2 hk
  refine ⟨?_, ⟨fun t ht => h.v t (by simp [ht]), .inl rfl⟩, ?_, rfl⟩
  · rcases h.p with q | ⟨t, l', e, k, _⟩
    · exact q
    · injection e with e1 e2
      rw [← e1] at k; exact absurd hk k
  · show befs l - ((0 : Nat) : Int) = befs (s :: l) - ((0 : Nat) : Int)
    simp only [befs, q3]; omega
theorem rb_pos {l : Steps} {p : Nat} (h : PR l p) : 0 ≤ rb l p := by
  have hp := (adds_pos (fun s hs => (h.v s hs).1) (fun s hs => (h.v s hs).2)).1
  unfold rb
  rcases h.p with q | ⟨s, l', rfl, k, h2⟩
  · omega
  · have hv := h.v s (by simp)
    obtain ⟨_, _, _, _, q4, _⟩ := non_add hv.1 hv.2 k
    have hp2 := (adds_pos (l := l') (fun s hs => (h.v s (by simp [hs])).1) (fun s hs => (h.v s (by simp [hs])).2)).1
    simp only [befs, q4]; omega
theorem rb_non {s : YStep.den} {l : Steps} {p : Nat} (h : PR (s :: l) p) (hk : sk s ≠ 1) : (p : Int) < sn s ∧ sn s - p ≤ rb (s :: l) p := by
  have hv := h.v s (by simp)
  obtain ⟨_, q1, _, _, q4, _⟩ := non_add hv.1 hv.2 hk
  have hp2 := (adds_pos (l := l) (fun s hs => (h.v s (by simp [hs])).1) (fun s hs => (h.v s (by simp [hs])).2)).1
  have hlt : (p : Int) < sn s := by
    rcases h.p with q | ⟨t, l', e, k, h2⟩
    · omega
    · injection e with e1 e2; rw [e1]; exact h2
  unfold rb
  simp only [befs, q4]
  omega
theorem Ti.mono {w : W} {k k' : Nat} (h : Ti w k) (hk : k ≤ k') : Ti w k' := ⟨by have := h.lo; omega, fun s hs => by have := h.sn s hs; omega, h.ss, h.a, h.c⟩
theorem runP_k (n : Nat) (h : 1 ≤ n) (t : Attrs) (w : W) : runP (List.replicate n (U.k t)) w = (mrgK (out w) n t, [], 0) := by
  obtain ⟨m, rfl⟩ : ∃ m, n = m + 1 := ⟨n - 1, by omega⟩
  have := runP_units (m + 1) false t w
  rw [units_keep] at this
  exact this
theorem tok_keep {n : Nat} {t : Attrs} (h2 : (n : Int) ≤ 2147483647) (ht : Attr.err true t = 0) : TOk' (mkT 0 n t []) := ⟨.inl rfl, ⟨by rw [sn_mk]; omega, by rw [sn_mk]; exact h2⟩, fun h => (by cases h), fun _ => rfl, ht⟩
theorem keep_w {w : W} {k : Nat} (h : Ti w k) (hl : w.2.1.length ≤ 1048576) (hk : k ≤ 300000) (n : Nat) (h1 : 1 ≤ n) (h2 : (n : Int) ≤ 2147483647) (t : Attrs) (ht : Sh t) (he : Attr.err true t = 0) :
    C_delta_writer_keep F_delta_writer_keep n t w.1 w.2.1 w.2.2 = some (ret_delta_writer_keep (runP (List.replicate n (U.k t)) w).1 (runP (List.replicate n (U.k t)) w).2.1 (runP (List.replicate n (U.k t)) w).2.2) ∧
    Ti (runP (List.replicate n (U.k t)) w) (k + 1) ∧ (runP (List.replicate n (U.k t)) w).2.1.length = 0 ∧ (runP (List.replicate n (U.k t)) w).2.2 = 0 := by
  have hlo := h.lo
  have kq := keep_eq n t w.1 w.2.1 w.2.2 (by omega) (h.wy hl hk).1 (by omega) ht.1
  rw [if_neg (by omega)] at kq
  have st := h.step hl (tok_keep h2 he) (show Ss (mkT 0 n t []) from ⟨ht, fs_nil⟩) (fun z => by cases z)
  rw [runP_k n h1]
  have e : stT (mkT 0 n t []) w = (mrgK (out w) n t, [], 0) := by
    unfold stT
    rw [sk_mk, if_neg (by decide), if_neg (by decide), sn_mk, if_neg (by omega)]; rfl
  rw [e] at st
  exact ⟨kq, st, rfl, rfl⟩
theorem elems_w {w : W} {k : Nat} (h : Ti w k) (e : Flow) (he : Fs e) (hp : pErr e = 0) (hl : w.2.1.length + e.length ≤ 1048576) :
    C_delta_writer_elems F_delta_writer_elems e w.1 w.2.1 w.2.2 = some (ret_delta_writer_elems (runP (e.map U.a) w).1 (runP (e.map U.a) w).2.1 (runP (e.map U.a) w).2.2) ∧
    Ti (runP (e.map U.a) w) (k + 1) ∧ (runP (e.map U.a) w).2.1.length = w.2.1.length + e.length ∧ (runP (e.map U.a) w).2.2 = w.2.2 := by
  have eq := elems_eq e w.1 w.2.1 w.2.2 he (by omega)
  have st := h.step (s := mkT 1 0 [] e) (by omega) ⟨.inr (.inl rfl), ⟨by rw [sn_mk]; omega, by rw [sn_mk]; omega⟩, fun _ => ⟨rfl, hp⟩, fun z => absurd rfl z, rfl⟩ ⟨sh_nil, he⟩ (fun z => by cases z)
  rw [runP_a]
  have e2 : stT (mkT 1 0 [] e) w = uE e w := by unfold stT; rw [sk_mk, if_pos rfl]; rfl
  rw [e2] at st
  exact ⟨eq, st, by show (w.2.1 ++ e).length = _; simp, rfl⟩
theorem cut_w {w : W} {k : Nat} (h : Ti w k) (hl : w.2.1.length ≤ 1048576) (n : Nat) (h2 : w.2.2 + n ≤ 2147483647) :
    IntKind.i64.wrap (w.2.2 + n) = w.2.2 + n ∧ runP (List.replicate n U.c) w = (w.1, w.2.1, w.2.2 + n) ∧ Ti (w.1, w.2.1, w.2.2 + n) (k + 1) := by
  have hc := h.c
  have st := h.step (s := mkT 2 n [] []) hl ⟨.inr (.inr rfl), ⟨by rw [sn_mk]; omega, by rw [sn_mk]; omega⟩, fun z => (by cases z), fun _ => rfl, rfl⟩ ⟨sh_nil, fs_nil⟩ (fun _ => h2)
  have e2 : stT (mkT 2 n [] []) w = (w.1, w.2.1, w.2.2 + n) := by unfold stT; rw [sk_mk, if_neg (by decide), if_pos rfl]; rfl
  rw [e2] at st
  exact ⟨w64 (by omega) (by omega), runP_c n w, st⟩
theorem lack_len (b : Attrs) : ∀ (a : Attrs), (lack b a).length ≤ a.length
  | [] => Nat.le_refl _
  | x :: a => by
    have := lack_len b a
    unfold lack
    split <;> simp <;> omega
theorem lack_ok {a b : Attrs} (ha : Attr.err true a = 0) : Attr.err true (lack b a) = 0 := by
  have hs := (err_srt true a none ha).1
  have hn := nv_of ha
  exact srt_err (lack_srt b a hs) fun x hx => hn x ((lack_mem b a x).1 hx).1
theorem lack_sh {a b : Attrs} (hl : a.length ≤ 1048576) (ha : Attr.err true a = 0) : Sh (lack b a) := nv_sh (Nat.le_trans (lack_len b a) hl) (nv_of (lack_ok ha))
theorem neg1 : decide ((-1 : Int) ≥ 0) = false := id rfl
/-- Not by definition: so that what decides is written anew. -/
theorem rk0 (v0 : Int) (v1 : Steps) (v2 : Int) : res_delta_reader_kind_0 (ret_delta_reader_kind v0 v1 v2) = v0 := id rfl
theorem rl0 (v0 : Int) (v1 : Steps) (v2 : Int) : res_delta_reader_left_0 (ret_delta_reader_left v0 v1 v2) = v0 := id rfl
noncomputable def fin (x y : W) : Option sig_delta_Pair.Out :=
  ((C_delta_writer_done F_delta_writer_done x.1 x.2.1 x.2.2).bind fun r3 =>
       ((C_delta_writer_done F_delta_writer_done y.1 y.2.1 y.2.2).bind fun r4 =>
        (bcond ((((res_delta_writer_done_1 r3) : Int) != 0) == false)
         (bcond (((res_delta_writer_done_1 r4) : Int) != 0)
          (some (ret_delta_Pair [] [] 3))
          (some (ret_delta_Pair (res_delta_writer_done_0 r3) (res_delta_writer_done_0 r4) 0)))
         (some (ret_delta_Pair [] [] 3)))))
structure Wr (w : W) (k : Nat) (l : Steps) (p : Nat) : Prop where
  t : Ti w k
  a : w.2.1.length + eb l ≤ 1048576
  c : w.2.2 + rb l p ≤ 2147483647
structure We (w : W) (k : Nat) : Prop where
  t : Ti w k
  a : w.2.1.length ≤ 1048576
theorem flat_one {α : Type} (n : Nat) (u : α) : (List.replicate n [u]).flatten = List.replicate n u := by
  induction n with
  | zero => rfl
  | succ n ih => rw [List.replicate_succ, List.flatten_cons, ih]; rfl
theorem flat_none {α : Type} (n : Nat) : (List.replicate n ([] : List α)).flatten = [] := by
  induction n with
  | zero => rfl
  | succ n ih => rw [List.replicate_succ, List.flatten_cons, ih]; rfl
theorem pair_loop : ∀ (d m : Nat) (l1 l2 : Steps) (p1 p2 : Nat) (x y : W) (k : Nat), l1.length + l2.length = d → d < m → PR l1 p1 → PR l2 p2 → rb l1 p1 = rb l2 p2 → Wr x k l1 p1 → Wr y k l2 p2 → k + d ≤ 300000 →
    L_delta_Pair_0 big m x.1 x.2.1 x.2.2 y.1 y.2.1 y.2.2 l1 p1 l2 p2 = fin (runP (z1 (ru l1 p1) (ru l2 p2)) x) (runP (z2 (ru l1 p1) (ru l2 p2)) y) ∧
    We (runP (z1 (ru l1 p1) (ru l2 p2)) x) (k + d) ∧ We (runP (z2 (ru l1 p1) (ru l2 p2)) y) (k + d) := by
  intro d
  induction d using Nat.strongRecOn with
  | _ d ih =>
  intro m l1 l2 p1 p2 x y k hd hm h1 h2 hb hx hy hk
  obtain ⟨m, rfl⟩ : ∃ q, m = q + 1 := ⟨m - 1, by omega⟩
  have add2 : ∀ (t : YStep.den) (l2' : Steps), l2 = t :: l2' → sk t = 1 → (l1 = [] ∨ ∃ s l1', l1 = s :: l1' ∧ sk s ≠ 1) → noA (ru l1 p1) →
      L_delta_Pair_0 big (m + 1) x.1 x.2.1 x.2.2 y.1 y.2.1 y.2.2 l1 p1 l2 p2 = fin (runP (z1 (ru l1 p1) (ru l2 p2)) x) (runP (z2 (ru l1 p1) (ru l2 p2)) y) ∧
      We (runP (z1 (ru l1 p1) (ru l2 p2)) x) (k + d) ∧ We (runP (z2 (ru l1 p1) (ru l2 p2)) y) (k + d) := by
    intro t l2' e kt hl1 hno
    subst e
    simp only [List.length_cons] at hd
    obtain ⟨p0, t1, t2, t3⟩ := pr_tail h2 kt
    subst p0
    have hv := h2.v t (by simp)
    obtain ⟨q1, q2, q3, q4, q5⟩ := is_add hv.1 hv.2 kt
    have hF := hv.2.2
    have hFl := hF.1
    have xa := hx.a
    have ya := hy.a
    have yc := hy.c
    have xc := hx.c
    have xt := hx.t.c
    have yt := hy.t.c
    obtain ⟨k1, k2, k3, k4⟩ := keep_w hx.t (by omega) (by omega) (se t).length q1 (by omega) [] sh_nil rfl
    obtain ⟨e1, e2, e3, e4⟩ := elems_w hy.t (se t) hF q2 (by omega)
    obtain ⟨u, u1, u2⟩ := take_add t l2' kt hFl
    have hb1 := rb_pos h1
    obtain ⟨r1, r2, r3⟩ := ih (l1.length + l2'.length) (by omega) m l1 l2' p1 0 (runP (List.replicate (se t).length (U.k [])) x) (runP ((se t).map U.a) y) (k + 1) rfl (by omega) h1 t1 (by rw [t2]; exact hb) ⟨k2, by omega, by omega⟩ ⟨e2, by omega, by omega⟩ (by omega)
    have z1e : z1 (ru l1 p1) (ru (t :: l2') 0) = List.replicate (se t).length (U.k []) ++ z1 (ru l1 p1) (ru l2' 0) := by
      rw [ru_add q5]; unfold z1; rw [zp_b _ _ _ _ hno, flat_k]
    have z2e : z2 (ru l1 p1) (ru (t :: l2') 0) = (se t).map U.a ++ z2 (ru l1 p1) (ru l2' 0) := by
      rw [ru_add q5]; unfold z2; rw [zp_b _ _ _ _ hno, flat_a]
    rw [z1e, z2e, runP_append, runP_append]
    refine ⟨?_, ⟨r2.t.mono (by omega), r2.a⟩, ⟨r3.t.mono (by omega), r3.a⟩⟩
    rw [← r1, L_delta_Pair_0_step]
    have kd : decide ((1 : Int) ≥ 0) = true := id rfl
    have lf := left_cons t l2' 0 (by omega) (by decide)
    have lf2 : ssz t - ((0 : Nat) : Int) = ssz t := by omega
    rw [lf2] at lf
    rcases hl1 with rfl | ⟨s, l1', rfl, ks⟩
    · have kn := kind_nil p1
      have kc := kind_cons t l2' ((0 : Nat) : Int)
      simp only [kn, kc, Option.bind_some, rk0, res_delta_reader_kind_1_ret, res_delta_reader_kind_2_ret, bcond_if, kt, kd, neg1, show ((-1 : Int) == 1) = false from rfl, beq_self_eq_true, if_true, if_false, Bool.false_eq_true, lf, rl0, res_delta_reader_left_1_ret, res_delta_reader_left_2_ret, u2, res_delta_reader_take_0_ret, res_delta_reader_take_1_ret, res_delta_reader_take_2_ret, u1, k1, e1, res_delta_writer_keep_0_ret, res_delta_writer_keep_1_ret, res_delta_writer_keep_2_ret, res_delta_writer_elems_0_ret, res_delta_writer_elems_1_ret, res_delta_writer_elems_2_ret]
    · have hs := h1.v s (by simp)
      have kk : decide (sk s ≥ 0) = true := decide_eq_true (by rcases (non_add hs.1 hs.2 ks).1 with q | q <;> omega)
      have k1f : (sk s == 1) = false := by simpa using ks
      have kn := kind_cons s l1' p1
      have kc := kind_cons t l2' ((0 : Nat) : Int)
      simp only [kn, kc, Option.bind_some, rk0, res_delta_reader_kind_1_ret, res_delta_reader_kind_2_ret, bcond_if, kt, kd, kk, k1f, show (true == false) = false from rfl, beq_self_eq_true, if_true, if_false, Bool.false_eq_true, lf, rl0, res_delta_reader_left_1_ret, res_delta_reader_left_2_ret, u2, res_delta_reader_take_0_ret, res_delta_reader_take_1_ret, res_delta_reader_take_2_ret, u1, k1, e1, res_delta_writer_keep_0_ret, res_delta_writer_keep_1_ret, res_delta_writer_keep_2_ret, res_delta_writer_elems_0_ret, res_delta_writer_elems_1_ret, res_delta_writer_elems_2_ret]
  rcases l1 with _ | ⟨s, l1⟩
  · rcases l2 with _ | ⟨t, l2⟩
    · have e1 : ru [] p1 = [] := by simp [ru, ex]
      have e2 : ru [] p2 = [] := by simp [ru, ex]
      rw [e1, e2]
      have z1e : z1 [] [] = [] := zp_nil _ _ _
      have z2e : z2 [] [] = [] := zp_nil _ _ _
      rw [z1e, z2e]
      refine ⟨?_, ⟨hx.t.mono (by omega), by have := hx.a; show x.2.1.length ≤ _; omega⟩, ⟨hy.t.mono (by omega), by have := hy.a; show y.2.1.length ≤ _; omega⟩⟩
      have kn := kind_nil p1
      have kc := kind_nil p2
      rw [L_delta_Pair_0_step]
      simp only [kn, kc, Option.bind_some, rk0, neg1, bcond_if, beq_self_eq_true, if_true, if_false, Bool.false_eq_true]
      unfold fin
      simp only [bcond_if]
      rfl
    · by_cases kt : sk t = 1
      · exact add2 t l2 rfl kt (.inl rfl) (by have : ru [] p1 = [] := by simp [ru, ex]
                                              rw [this]; exact noA_nil)
      · have q := rb_non h2 kt
        have q2 : rb [] p1 = -(p1 : Int) := by simp [rb, befs]
        have q3 := rb_pos h1
        omega
  · by_cases ks : sk s = 1
    · simp only [List.length_cons] at hd
      obtain ⟨p0, t1, t2, t3⟩ := pr_tail h1 ks
      subst p0
      have hv := h1.v s (by simp)
      obtain ⟨q1, q2, q3, q4, q5⟩ := is_add hv.1 hv.2 ks
      have hF := hv.2.2
      have hFl := hF.1
      have xa := hx.a
      have ya := hy.a
      have yc := hy.c
      have xc := hx.c
      have xt := hx.t.c
      have yt := hy.t.c
      obtain ⟨k1, k2, k3, k4⟩ := keep_w hy.t (by omega) (by omega) (se s).length q1 (by omega) [] sh_nil rfl
      obtain ⟨e1, e2, e3, e4⟩ := elems_w hx.t (se s) hF q2 (by omega)
      obtain ⟨u, u1, u2⟩ := take_add s l1 ks hFl
      have hb2 := rb_pos h2
      obtain ⟨r1, r2, r3⟩ := ih (l1.length + l2.length) (by omega) m l1 l2 0 p2 (runP ((se s).map U.a) x) (runP (List.replicate (se s).length (U.k [])) y) (k + 1) rfl (by omega) t1 h2 (by rw [t2]; exact hb) ⟨e2, by omega, by omega⟩ ⟨k2, by omega, by omega⟩ (by omega)
      have z1e : z1 (ru (s :: l1) 0) (ru l2 p2) = (se s).map U.a ++ z1 (ru l1 0) (ru l2 p2) := by
        rw [ru_add q5]; unfold z1; rw [zp_a, flat_a]
      have z2e : z2 (ru (s :: l1) 0) (ru l2 p2) = List.replicate (se s).length (U.k []) ++ z2 (ru l1 0) (ru l2 p2) := by
        rw [ru_add q5]; unfold z2; rw [zp_a, flat_k]
      rw [z1e, z2e, runP_append, runP_append]
      refine ⟨?_, ⟨r2.t.mono (by omega), r2.a⟩, ⟨r3.t.mono (by omega), r3.a⟩⟩
      rw [← r1, L_delta_Pair_0_step]
      have kd : decide ((1 : Int) ≥ 0) = true := id rfl
      have lf := left_cons s l1 0 (by omega) (by decide)
      have lf2 : ssz s - ((0 : Nat) : Int) = ssz s := by omega
      rw [lf2] at lf
      have kn := kind_cons s l1 ((0 : Nat) : Int)
      simp only [kn, Option.bind_some, rk0, res_delta_reader_kind_1_ret, res_delta_reader_kind_2_ret, bcond_if, ks, kd, beq_self_eq_true, if_true, if_false, Bool.true_eq_false, show (true == false) = false from rfl, Bool.false_eq_true, lf, rl0, res_delta_reader_left_1_ret, res_delta_reader_left_2_ret, u2, res_delta_reader_take_0_ret, res_delta_reader_take_1_ret, res_delta_reader_take_2_ret, u1, k1, e1, res_delta_writer_keep_0_ret, res_delta_writer_keep_1_ret, res_delta_writer_keep_2_ret, res_delta_writer_elems_0_ret, res_delta_writer_elems_1_ret, res_delta_writer_elems_2_ret]
    · have rs := rb_non h1 ks
      have hs := h1.v s (by simp)
      obtain ⟨s1, s2, s3, s4, s5, s6⟩ := non_add hs.1 hs.2 ks
      rcases l2 with _ | ⟨t, l2⟩
      · have q2 : rb [] p2 = -(p2 : Int) := by simp [rb, befs]
        omega
      · by_cases kt : sk t = 1
        · refine add2 t l2 rfl kt (.inr ⟨s, l1, rfl, ks⟩) ?_
          obtain ⟨n, hn⟩ : ∃ n : Nat, sn s - p1 = ((n + 1 : Nat) : Int) := ⟨(sn s - p1).toNat - 1, by omega⟩
          rw [ru_non (n := n + 1) ks (by omega), List.replicate_succ]
          exact noA_uni _ _ _
        · have rt := rb_non h2 kt
          have ht := h2.v t (by simp)
          obtain ⟨t1, t2, t3, t4, t5, t6⟩ := non_add ht.1 ht.2 kt
          obtain ⟨N1, hN1⟩ : ∃ n : Nat, sn s - p1 = (n : Int) := ⟨(sn s - p1).toNat, by omega⟩
          obtain ⟨N2, hN2⟩ : ∃ n : Nat, sn t - p2 = (n : Int) := ⟨(sn t - p2).toNat, by omega⟩
          obtain ⟨n, hn⟩ : ∃ n : Nat, n = if N2 < N1 then N2 else N1 := ⟨_, rfl⟩
          have hmin : (if (N2 : Int) < (N1 : Int) then (N2 : Int) else (N1 : Int)) = (n : Int) := by
            rw [hn]; split <;> split <;> omega
          have n1 : 1 ≤ n := by rw [hn]; split <;> omega
          have n2 : n ≤ N1 := by rw [hn]; split <;> omega
          have n3 : n ≤ N2 := by rw [hn]; split <;> omega
          have n4 : n = N1 ∨ n = N2 := by rw [hn]; split <;> omega
          obtain ⟨a1, a2, a3, a4, a5⟩ := pr_nxt (n := n) h1 ks (by omega)
          obtain ⟨b1, b2, b3, b4, b5⟩ := pr_nxt (n := n) h2 kt (by omega)
          have hru1 := ru_non (l := l1) (p := p1) (n := n) ks (by omega)
          have hru2 := ru_non (l := l2) (p := p2) (n := n) kt (by omega)
          obtain ⟨u, u1, u2, u3⟩ := take_non s l1 p1 n ks s3 (by omega)
          obtain ⟨v, v1, v2, v3⟩ := take_non t l2 p2 n kt t3 (by omega)
          have lf1 := left_cons s l1 p1 (by omega) (by omega)
          have lf2 := left_cons t l2 p2 (by omega) (by omega)
          rw [s6, hN1] at lf1
          rw [t6, hN2] at lf2
          have hlen : (nxt s l1 p1 n).1.length + (nxt t l2 p2 n).1.length < d := by
            rw [← hd]
            simp only [List.length_cons] at a4 b4 ⊢
            rcases n4 with q | q
            · have := a5 (by omega); omega
            · have := b5 (by omega); omega
          generalize nxt s l1 p1 n = A at a1 a2 a3 a4 a5 hru1 u3 hlen
          generalize nxt t l2 p2 n = B at b1 b2 b3 b4 b5 hru2 v3 hlen
          have xa := hx.a
          have ya := hy.a
          have yc := hy.c
          have xc := hx.c
          have xt := hx.t.c
          have yt := hy.t.c
          have go : ∀ (x' y' : W), x' = runP (List.replicate n (k1 (uni (sk s == 2) (sa s)) (uni (sk t == 2) (sa t)))).flatten x → y' = runP (List.replicate n (k2 (uni (sk s == 2) (sa s)) (uni (sk t == 2) (sa t)))).flatten y →
              L_delta_Pair_0 big (m + 1) x.1 x.2.1 x.2.2 y.1 y.2.1 y.2.2 (s :: l1) p1 (t :: l2) p2 = L_delta_Pair_0 big m x'.1 x'.2.1 x'.2.2 y'.1 y'.2.1 y'.2.2 A.1 A.2 B.1 B.2 → Wr x' (k + 1) A.1 A.2 → Wr y' (k + 1) B.1 B.2 →
              L_delta_Pair_0 big (m + 1) x.1 x.2.1 x.2.2 y.1 y.2.1 y.2.2 (s :: l1) p1 (t :: l2) p2 = fin (runP (z1 (ru (s :: l1) p1) (ru (t :: l2) p2)) x) (runP (z2 (ru (s :: l1) p1) (ru (t :: l2) p2)) y) ∧
              We (runP (z1 (ru (s :: l1) p1) (ru (t :: l2) p2)) x) (k + d) ∧ We (runP (z2 (ru (s :: l1) p1) (ru (t :: l2) p2)) y) (k + d) := by
            intro x' y' ex' ey' hstep wx wy
            obtain ⟨r1, r2, r3⟩ := ih _ hlen m A.1 B.1 A.2 B.2 x' y' (k + 1) rfl (by omega) a1 b1 (by rw [a2, b2, hb]) wx wy (by omega)
            have z1e : z1 (ru (s :: l1) p1) (ru (t :: l2) p2) = (List.replicate n (k1 (uni (sk s == 2) (sa s)) (uni (sk t == 2) (sa t)))).flatten ++ z1 (ru A.1 A.2) (ru B.1 B.2) := by
              rw [hru1, hru2]; unfold z1; rw [zp_k]
            have z2e : z2 (ru (s :: l1) p1) (ru (t :: l2) p2) = (List.replicate n (k2 (uni (sk s == 2) (sa s)) (uni (sk t == 2) (sa t)))).flatten ++ z2 (ru A.1 A.2) (ru B.1 B.2) := by
              rw [hru1, hru2]; unfold z2; rw [zp_k]
            rw [z1e, z2e, runP_append, runP_append, ← ex', ← ey']
            exact ⟨hstep.trans r1, ⟨r2.t.mono (by omega), r2.a⟩, ⟨r3.t.mono (by omega), r3.a⟩⟩
          have st := L_delta_Pair_0_step big m x.1 x.2.1 x.2.2 y.1 y.2.1 y.2.2 (s :: l1) p1 (t :: l2) p2
          have kk : decide (sk s ≥ 0) = true := decide_eq_true (by rcases s1 with q | q <;> omega)
          have k1f : (sk s == 1) = false := by simpa using ks
          have k2f : (sk t == 1) = false := by simpa using kt
          have kn := kind_cons s l1 p1
          have kc := kind_cons t l2 p2
          simp only [kn, kc, Option.bind_some, rk0, res_delta_reader_kind_1_ret, res_delta_reader_kind_2_ret, bcond_if, kk, k1f, k2f, beq_self_eq_true, if_true, if_false, show (true == false) = false from rfl, Bool.false_eq_true, lf1, lf2, rl0, res_delta_reader_left_1_ret, res_delta_reader_left_2_ret, hmin, u3, v3, res_delta_reader_take_0_ret, res_delta_reader_take_1_ret, res_delta_reader_take_2_ret, u1, u2, v1, v2] at st
          have sa1 := sErr_attr hs.1
          have ta1 := sErr_attr ht.1
          rcases s1 with q | q <;> rcases t1 with q' | q'
          · have wo := without_eq (sa s) (sa t) hs.2.1.1 ht.2.1.1
            rw [without_lack sa1 ta1] at wo
            obtain ⟨g1, g2, g3, g4⟩ := keep_w hx.t (by omega) (by omega) n n1 (by omega) (lack (sa t) (sa s)) (lack_sh hs.2.1.1 sa1) (lack_ok sa1)
            obtain ⟨f1, f2, f3, f4⟩ := keep_w hy.t (by omega) (by omega) n n1 (by omega) (sa t) ht.2.1 ta1
            refine go _ _ ?_ ?_ ?_ ⟨g2, by omega, by omega⟩ ⟨f2, by omega, by omega⟩
            · rw [q, q']; show _ = runP (List.replicate n [U.k (lack (sa t) (sa s))]).flatten x; rw [flat_one]
            · rw [q, q']; show _ = runP (List.replicate n [U.k (sa t)]).flatten y; rw [flat_one]
            · rw [st, q, q']
              simp only [beq_self_eq_true, if_true, wo, g1, f1, Option.bind_some, res_attr_Without_0_ret, res_delta_writer_keep_0_ret, res_delta_writer_keep_1_ret, res_delta_writer_keep_2_ret]
          · obtain ⟨c1, c2, c3⟩ := cut_w hy.t (by omega) n (by omega)
            refine go x (y.1, y.2.1, y.2.2 + n) ?_ ?_ ?_ ⟨hx.t.mono (by omega), by omega, by omega⟩ ⟨c3, by show y.2.1.length + _ ≤ _; omega, by show y.2.2 + n + _ ≤ _; omega⟩
            · rw [q, q']; show _ = runP (List.replicate n []).flatten x; rw [flat_none]; rfl
            · rw [q, q']; show _ = runP (List.replicate n [U.c]).flatten y; rw [flat_one, c2]
            · rw [st, q, q']
              simp only [beq_self_eq_true, if_true, show ((2 : Int) == 0) = false from rfl, if_false, Bool.false_eq_true, c1]
          · obtain ⟨c1, c2, c3⟩ := cut_w hx.t (by omega) n (by omega)
            refine go (x.1, x.2.1, x.2.2 + n) y ?_ ?_ ?_ ⟨c3, by show x.2.1.length + _ ≤ _; omega, by show x.2.2 + n + _ ≤ _; omega⟩ ⟨hy.t.mono (by omega), by omega, by omega⟩
            · rw [q, q']; show _ = runP (List.replicate n [U.c]).flatten x; rw [flat_one, c2]
            · rw [q, q']; show _ = runP (List.replicate n []).flatten y; rw [flat_none]; rfl
            · rw [st, q, q']
              simp only [beq_self_eq_true, if_true, show ((2 : Int) == 0) = false from rfl, show (false == true) = false from rfl, if_false, Bool.false_eq_true, c1]
          · refine go x y ?_ ?_ ?_ ⟨hx.t.mono (by omega), by omega, by omega⟩ ⟨hy.t.mono (by omega), by omega, by omega⟩
            · rw [q, q']; show _ = runP (List.replicate n []).flatten x; rw [flat_none]; rfl
            · rw [q, q']; show _ = runP (List.replicate n []).flatten y; rw [flat_none]; rfl
            · rw [st, q, q']
              simp only [beq_self_eq_true, if_true, show ((2 : Int) == 0) = false from rfl, show (false == true) = false from rfl, if_false, Bool.false_eq_true]
end Go.Ev.Delta
