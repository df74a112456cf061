
import Derived.Test.YtlgjdgebmiegeaaPBehind
import Derived.Test.YtlgjdgebmiegeaaGPair
namespace Go.Ev.Delta
open Go.Ev Go.Ev.Attr Go.Ev.Track
set_option linter.unusedVariables false
set_option linter.unusedSimpArgs false
def ru (l : Steps) (p : Nat) : List U := (ex l).drop p
def rb (l : Steps) (p : Nat) : Int := befs l - p
structure PR (l : Steps) (p : Nat) : Prop where
  v : ∀ s ∈ l, sErr s = 0 ∧ Ss s
  p : p = 0 ∨ ∃ s l', l = s :: l' ∧ sk s ≠ 1 ∧ (p : Int) < sn s
def nxt (s : YStep.den) (l : Steps) (p n : Nat) : Steps × Nat := if ((p + n : Nat) : Int) = sn s then (l, 0) else (s :: l, p + n)
theorem at_head (s : YStep.den) (l : Steps) : at_ (e := YStep) (s :: l) 0 = s := rfl
theorem in0 {α : Type} (s : α) (l : List α) : (0 ≤ (0 : Int) ∧ (0 : Int) < ((s :: l).length : Int)) := by simp only [List.length_cons]; omega
theorem kind_nil (p : Int) : C_delta_reader_kind F_delta_reader_kind [] p = some (ret_delta_reader_kind (-1) [] p) := by
  rw [e_delta_reader_kind]; rfl
theorem kind_cons (s : YStep.den) (l : Steps) (p : Int) : C_delta_reader_kind F_delta_reader_kind (s :: l) p = some (ret_delta_reader_kind (sk s) (s :: l) p) := by
  have h : ((List.length (s :: l) : Int) == 0) = false := beq_eq_false_iff_ne.2 (by simp only [List.length_cons]; omega)
  rw [e_delta_reader_kind, h, if_pos (in0 s l), at_head]; rfl
theorem left_cons (s : YStep.den) (l : Steps) (p : Nat) (h : 0 ≤ ssz s ∧ ssz s ≤ 2147483647) (hp : (p : Int) ≤ 2147483647) : C_delta_reader_left F_delta_reader_left (s :: l) p = some (ret_delta_reader_left (ssz s - p) (s :: l) p) := by
  rw [e_delta_reader_left, if_pos (in0 s l), at_head, size_eq]
  simp only [Option.bind_some, res_delta_size_0_ret]
  rw [w64 (by omega) (by omega)]
theorem drop1 (s : YStep.den) (l : Steps) : List.drop (Int.toNat 1) (List.take (Int.toNat ((s :: l).length : Int)) (s :: l)) = l := by simp
theorem take_add0 (s : YStep.den) (l : Steps) (hk : sk s = 1) (hl : (se s).length ≤ 1048576) : ∃ u : YStep.den, u.2.2.2 = se s ∧ C_delta_reader_take F_delta_reader_take (ssz s) (s :: l) 0 = some (ret_delta_reader_take u l 0) := by
  have hz : ssz s = ((se s).length : Int) := by unfold ssz; rw [if_pos hk]
  have e1 : (s : YStep.den).1 = sk s := rfl
  have e4 : s.2.2.2 = se s := rfl
  have w : IntKind.i64.wrap (0 + ((se s).length : Int)) = ((se s).length : Int) := by rw [w64 (by omega) (by omega)]; omega
  have q1 : (0 ≤ ((se s).length : Int) ∧ ((se s).length : Int) ≤ ((se s).length : Int) ∧ 0 ≤ (0 : Int) ∧ (0 : Int) ≤ ((se s).length : Int)) := by omega
  have q2 : (0 ≤ ((s :: l).length : Int) ∧ ((s :: l).length : Int) ≤ ((s :: l).length : Int) ∧ 0 ≤ (1 : Int) ∧ (1 : Int) ≤ ((s :: l).length : Int)) := by simp only [List.length_cons]; omega
  refine ⟨(sk s, (sn s, (sa s, List.drop (Int.toNat 0) (List.take (Int.toNat ((se s).length : Int)) (se s))))), by simp, ?_⟩
  rw [e_delta_reader_take, if_pos (in0 s l), at_head, size_eq, hz, e1, hk]
  simp only [Option.bind_some, res_delta_size_0_ret, beq_self_eq_true, bcond_if, if_true, w, e4, if_pos q1, if_pos (in0 s l), hz, if_pos q2]
  rw [drop1 s l]
  rfl
theorem take_add (s : YStep.den) (l : Steps) (hk : sk s = 1) (hl : (se s).length ≤ 1048576) : ∃ u : YStep.den, u.2.2.2 = se s ∧ C_delta_reader_take F_delta_reader_take (ssz s) (s :: l) ((0 : Nat) : Int) = some (ret_delta_reader_take u l ((0 : Nat) : Int)) := take_add0 s l hk hl
theorem non_add {s : YStep.den} (h : sErr s = 0) (hs : Ss s) (hk : sk s ≠ 1) : (sk s = 0 ∨ sk s = 2) ∧ 1 ≤ sn s ∧ sn s ≤ 2147483647 ∧ se s = [] ∧ addB s 0 = sn s ∧ ssz s = sn s := by
  rcases sErr_zero h with ⟨h1, _⟩ | ⟨h1, h2, h3, h4, h5⟩
  · exact absurd h1 hk
  · refine ⟨?_, h3, h4, h2, ?_, ?_⟩
    · rcases h1 with q | q
      · exact .inl q
      · exact .inr q.1
    · unfold addB; rw [if_neg hk]; omega
    · unfold ssz; rw [if_neg hk]
theorem is_add {s : YStep.den} (h : sErr s = 0) (hs : Ss s) (hk : sk s = 1) : 1 ≤ (se s).length ∧ pErr (se s) = 0 ∧ addB s 0 = 0 ∧ ssz s = (se s).length ∧ exS s = (se s).map U.a := by
  rcases sErr_zero h with ⟨h1, h2, h3, h4, h5⟩ | ⟨h1, _⟩
  · refine ⟨?_, h5, by unfold addB; rw [if_pos hk], by unfold ssz; rw [if_pos hk], by unfold exS; rw [if_pos hk]⟩
    cases hq : se s with
    | nil => exact absurd hq h4
    | cons x y => simp
  · rcases h1 with q | q <;> omega
theorem ru_zero (l : Steps) : ru l 0 = ex l := rfl
theorem ru_add {s : YStep.den} {l : Steps} (h : exS s = (se s).map U.a) : ru (s :: l) 0 = (se s).map U.a ++ ru l 0 := by
  show exS s ++ ex l = _
  rw [h]; rfl
theorem ru_non {s : YStep.den} {l : Steps} {p n : Nat} (hk : sk s ≠ 1) (hn : ((p + n : Nat) : Int) ≤ sn s) : ru (s :: l) p = List.replicate n (uni (sk s == 2) (sa s)) ++ ru (nxt s l p n).1 (nxt s l p n).2 := by
  obtain ⟨N, hN⟩ : ∃ N : Nat, sn s = (N : Int) := ⟨(sn s).toNat, by omega⟩
  have e : exS s = List.replicate N (uni (sk s == 2) (sa s)) := by unfold exS; rw [if_neg hk, hN]; rfl
  have key : ∀ q : Nat, q ≤ N → ru (s :: l) q = List.replicate (N - q) (uni (sk s == 2) (sa s)) ++ ex l := by
    intro q hq
    show (exS s ++ ex l).drop q = _
    rw [e, List.drop_append_of_le_length (by simpa using hq), List.drop_replicate]
  rw [key p (by omega)]
  unfold nxt
  split
  · show _ = _ ++ ru l 0
    rw [ru_zero]
    have : N - p = n := by omega
    rw [this]
  · show _ = _ ++ ru (s :: l) (p + n)
    rw [key (p + n) (by omega), ← List.append_assoc, List.replicate_append_replicate]
    have : n + (N - (p + n)) = N - p := by omega
    rw [this]
theorem pr_nxt {s : YStep.den} {l : Steps} {p n : Nat} (h : PR (s :: l) p) (hk : sk s ≠ 1) (hn : ((p + n : Nat) : Int) ≤ sn s) : PR (nxt s l p n).1 (nxt s l p n).2 ∧ rb (nxt s l p n).1 (nxt s l p n).2 = rb (s :: l) p - n ∧ eb (nxt s l p n).1 ≤ eb (s :: l) ∧
    (nxt s l p n).1.length ≤ (s :: l).length ∧ (((p + n : Nat) : Int) = sn s → (nxt s l p n).1.length = l.length) := by
  have hv := h.v s (by simp)
  obtain ⟨_, q1, q2, q3, q4, q5⟩ := non_add hv.1 hv.2 hk
  unfold nxt
  split
  · rename_i hx
    refine ⟨⟨fun t ht => h.v t (by simp [ht]), .inl rfl⟩, ?_, by simp [eb], by simp, fun _ => rfl⟩
    show befs l - ((0 : Nat) : Int) = befs (s :: l) - p - n
    simp only [befs, q4]; omega
  · rename_i hx
    refine ⟨⟨h.v, .inr ⟨s, l, rfl, hk, by show ((p + n : Nat) : Int) < sn s; omega⟩⟩, ?_, Nat.le_refl _, Nat.le_refl _, fun z => absurd z hx⟩
    show befs (s :: l) - ((p + n : Nat) : Int) = befs (s :: l) - p - n
    omega
theorem pr_tail {s : YStep.den} {l : Steps} {p : Nat} (h : PR (s :: l) p) (hk : sk s = 1) : p = 0 ∧ PR l 0 ∧ rb l 0 = rb (s :: l) 0 ∧ eb (s :: l) = (se s).length + eb l := by
  have hv := h.v s (by simp)
  obtain ⟨q1, q2, q3, q4, q5⟩ := is_add hv.1 hv.2 hk
  refine ⟨?_, ⟨fun t ht => h.v t (by simp [ht]), .inl rfl⟩, ?_, rfl⟩
  · rcases h.p with q | ⟨t, l', e, k, _⟩
    · exact q
    · injection e with e1 e2
      rw [← e1] at k; exact absurd hk k
  · show befs l - ((0 : Nat) : Int) = befs (s :: l) - ((0 : Nat) : Int)
    simp only [befs, q3]; omega
theorem rb_non {s : YStep.den} {l : Steps} {p : Nat} (h : PR (s :: l) p) (hk : sk s ≠ 1) : (p : Int) < sn s ∧ sn s - p ≤ rb (s :: l) p := by
  have hv := h.v s (by simp)
  obtain ⟨_, q1, _, _, q4, _⟩ := non_add hv.1 hv.2 hk
  have hp2 := (adds_pos (l := l) (fun s hs => (h.v s (by simp [hs])).1) (fun s hs => (h.v s (by simp [hs])).2)).1
  have hlt : (p : Int) < sn s := by
    rcases h.p with q | ⟨t, l', e, k, h2⟩
    · omega
    · injection e with e1 e2; rw [e1]; exact h2
  unfold rb
  simp only [befs, q4]
  omega
theorem Ti.mono {w : W} {k k' : Nat} (h : Ti w k) (hk : k ≤ k') : Ti w k' := ⟨by have := h.lo; omega, fun s hs => by have := h.sn s hs; omega, h.ss, h.a, h.c⟩
theorem runP_k (n : Nat) (h : 1 ≤ n) (t : Attrs) (w : W) : runP (List.replicate n (U.k t)) w = (mrgK (out w) n t, [], 0) := by
  obtain ⟨m, rfl⟩ : ∃ m, n = m + 1 := ⟨n - 1, by omega⟩
  have := runP_units (m + 1) false t w
  rw [units_keep] at this
  exact this
theorem tok_keep {n : Nat} {t : Attrs} (h2 : (n : Int) ≤ 2147483647) (ht : Attr.err true t = 0) : TOk' (mkT 0 n t []) := ⟨.inl rfl, ⟨by rw [sn_mk]; omega, by rw [sn_mk]; exact h2⟩, fun h => (by cases h), fun _ => rfl, ht⟩
theorem keep_w {w : W} {k : Nat} (h : Ti w k) (hl : w.2.1.length ≤ 1048576) (hk : k ≤ 300000) (n : Nat) (h1 : 1 ≤ n) (h2 : (n : Int) ≤ 2147483647) (t : Attrs) (ht : Sh t) (he : Attr.err true t = 0) :
    C_delta_writer_keep F_delta_writer_keep n t w.1 w.2.1 w.2.2 = some (ret_delta_writer_keep (runP (List.replicate n (U.k t)) w).1 (runP (List.replicate n (U.k t)) w).2.1 (runP (List.replicate n (U.k t)) w).2.2) ∧
    Ti (runP (List.replicate n (U.k t)) w) (k + 1) ∧ (runP (List.replicate n (U.k t)) w).2.1.length = 0 ∧ (runP (List.replicate n (U.k t)) w).2.2 = 0 := by
  have hlo := h.lo
  have kq := keep_eq n t w.1 w.2.1 w.2.2 (by omega) (h.wy hl (by omega)).1 (by omega) ht.1
  rw [if_neg (by omega)] at kq
  have st := h.step hl (tok_keep h2 he) (show Ss (mkT 0 n t []) from ⟨ht, fs_nil⟩) (fun z => by cases z)
  rw [runP_k n h1]
  have e : stT (mkT 0 n t []) w = (mrgK (out w) n t, [], 0) := by
    unfold stT
    rw [sk_mk, if_neg (by decide), if_neg (by decide), sn_mk, if_neg (by omega)]; rfl
  rw [e] at st
  exact ⟨kq, st, rfl, rfl⟩
theorem elems_w {w : W} {k : Nat} (h : Ti w k) (e : Flow) (he : Fs e) (hp : pErr e = 0) (hl : w.2.1.length + e.length ≤ 1048576) :
    C_delta_writer_elems F_delta_writer_elems e w.1 w.2.1 w.2.2 = some (ret_delta_writer_elems (runP (e.map U.a) w).1 (runP (e.map U.a) w).2.1 (runP (e.map U.a) w).2.2) ∧
    Ti (runP (e.map U.a) w) (k + 1) ∧ (runP (e.map U.a) w).2.1.length = w.2.1.length + e.length ∧ (runP (e.map U.a) w).2.2 = w.2.2 := by
  have eq := elems_eq e w.1 w.2.1 w.2.2 he (by omega)
  have st := h.step (s := mkT 1 0 [] e) (by omega) ⟨.inr (.inl rfl), ⟨by rw [sn_mk]; omega, by rw [sn_mk]; omega⟩, fun _ => ⟨rfl, hp⟩, fun z => absurd rfl z, rfl⟩ ⟨sh_nil, he⟩ (fun z => by cases z)
  rw [runP_a]
  have e2 : stT (mkT 1 0 [] e) w = uE e w := by unfold stT; rw [sk_mk, if_pos rfl]; rfl
  rw [e2] at st
  exact ⟨eq, st, by show (w.2.1 ++ e).length = _; simp, rfl⟩
theorem cut_w {w : W} {k : Nat} (h : Ti w k) (hl : w.2.1.length ≤ 1048576) (n : Nat) (h2 : w.2.2 + n ≤ 2147483647) :
    IntKind.i64.wrap (w.2.2 + n) = w.2.2 + n ∧ runP (List.replicate n U.c) w = (w.1, w.2.1, w.2.2 + n) ∧ Ti (w.1, w.2.1, w.2.2 + n) (k + 1) := by
  have hc := h.c
  have st := h.step (s := mkT 2 n [] []) hl ⟨.inr (.inr rfl), ⟨by rw [sn_mk]; omega, by rw [sn_mk]; omega⟩, fun z => (by cases z), fun _ => rfl, rfl⟩ ⟨sh_nil, fs_nil⟩ (fun _ => h2)
  have e2 : stT (mkT 2 n [] []) w = (w.1, w.2.1, w.2.2 + n) := by unfold stT; rw [sk_mk, if_neg (by decide), if_pos rfl]; rfl
  rw [e2] at st
  exact ⟨w64 (by omega) (by omega), runP_c n w, st⟩
theorem neg1 : decide ((-1 : Int) ≥ 0) = false := id rfl
/-- Not by definition: so that what decides is written anew. -/
theorem rk0 (v0 : Int) (v1 : Steps) (v2 : Int) : res_delta_reader_kind_0 (ret_delta_reader_kind v0 v1 v2) = v0 := id rfl
theorem rl0 (v0 : Int) (v1 : Steps) (v2 : Int) : res_delta_reader_left_0 (ret_delta_reader_left v0 v1 v2) = v0 := id rfl
noncomputable def fin (x y : W) : Option sig_delta_Pair.Out :=
  ((C_delta_writer_done F_delta_writer_done x.1 x.2.1 x.2.2).bind fun r3 =>
       ((C_delta_writer_done F_delta_writer_done y.1 y.2.1 y.2.2).bind fun r4 =>
        (bcond ((((res_delta_writer_done_1 r3) : Int) != 0) == false)
         (bcond (((res_delta_writer_done_1 r4) : Int) != 0)
          (some (ret_delta_Pair [] [] 3))
          (some (ret_delta_Pair (res_delta_writer_done_0 r3) (res_delta_writer_done_0 r4) 0)))
         (some (ret_delta_Pair [] [] 3)))))
end Go.Ev.Delta
namespace Go.Ev.Delta
open Go.Ev Go.Ev.Attr Go.Ev.Track
set_option linter.unusedVariables false
set_option linter.unusedSimpArgs false
theorem short_eq (l : Steps) (hl : Ds l) (h : err l = 0) : C_law_short F_law_short l = some (ret_law_short (decide (befs l ≤ 300))) := by
  rw [e_law_short, rsize_eq l hl h]
  rfl
section
variable (a b : Steps) (ha : Ds a) (hb : Ds b) (hlen : a.length + b.length ≤ 300000) (heb : eb a + eb b ≤ 400000)
include ha hb hlen heb
end
end Go.Ev.Delta
