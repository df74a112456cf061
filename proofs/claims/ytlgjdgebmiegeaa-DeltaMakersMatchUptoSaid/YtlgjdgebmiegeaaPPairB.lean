
import Derived.Test.YtlgjdgebmiegeaaPBehind
import Derived.Test.YtlgjdgebmiegeaaGPair
namespace Go.Ev.Delta
open Go.Ev Go.Ev.Attr Go.Ev.Track
set_option linter.unusedVariables false
set_option linter.unusedSimpArgs false
def rb (l : Steps) (p : Nat) : Int := befs l - p
structure PR (l : Steps) (p : Nat) : Prop where
  v : ∀ s ∈ l, sErr s = 0 ∧ Ss s
  p : p = 0 ∨ ∃ s l', l = s :: l' ∧ sk s ≠ 1 ∧ (p : Int) < sn s
theorem at_head (s : YStep.den) (l : Steps) : at_ (e := YStep) (s :: l) 0 = s := rfl
theorem in0 {α : Type} (s : α) (l : List α) : (0 ≤ (0 : Int) ∧ (0 : Int) < ((s :: l).length : Int)) := by simp only [List.length_cons]; omega
theorem drop1 (s : YStep.den) (l : Steps) : List.drop (Int.toNat 1) (List.take (Int.toNat ((s :: l).length : Int)) (s :: l)) = l := by simp
theorem take_add0 (s : YStep.den) (l : Steps) (hk : sk s = 1) (hl : (se s).length ≤ 1048576) : ∃ u : YStep.den, u.2.2.2 = se s ∧ C_delta_reader_take F_delta_reader_take (ssz s) (s :: l) 0 = some (ret_delta_reader_take u l 0) := by
  have hz : ssz s = ((se s).length : Int) := by unfold ssz; rw [if_pos hk]
  have e1 : (s : YStep.den).1 = sk s := rfl
  have e4 : s.2.2.2 = se s := rfl
  have w : IntKind.i64.wrap (0 + ((se s).length : Int)) = ((se s).length : Int) := by rw [w64 (by omega) (by omega)]; omega
  have q1 : (0 ≤ ((se s).length : Int) ∧ ((se s).length : Int) ≤ ((se s).length : Int) ∧ 0 ≤ (0 : Int) ∧ (0 : Int) ≤ ((se s).length : Int)) := by omega
  have q2 : (0 ≤ ((s :: l).length : Int) ∧ ((s :: l).length : Int) ≤ ((s :: l).length : Int) ∧ 0 ≤ (1 : Int) ∧ (1 : Int) ≤ ((s :: l).length : Int)) := by simp only [List.length_cons]; omega
  refine ⟨(sk s, (sn s, (sa s, List.drop (Int.toNat 0) (List.take (Int.toNat ((se s).length : Int)) (se s))))), by simp, ?_⟩
  rw [e_delta_reader_take, if_pos (in0 s l), at_head, size_eq, hz, e1, hk]
  simp only [Option.bind_some, res_delta_size_0_ret, beq_self_eq_true, bcond_if, if_true, w, e4, if_pos q1, if_pos (in0 s l), hz, if_pos q2]
  rw [drop1 s l]
  rfl
theorem take_add (s : YStep.den) (l : Steps) (hk : sk s = 1) (hl : (se s).length ≤ 1048576) : ∃ u : YStep.den, u.2.2.2 = se s ∧ C_delta_reader_take F_delta_reader_take (ssz s) (s :: l) ((0 : Nat) : Int) = some (ret_delta_reader_take u l ((0 : Nat) : Int)) := take_add0 s l hk hl
theorem Ti.mono {w : W} {k k' : Nat} (h : Ti w k) (hk : k ≤ k') : Ti w k' := ⟨by have := h.lo; omega, fun s hs => by have := h.sn s hs; omega, h.ss, h.a, h.c⟩
theorem runP_k (n : Nat) (h : 1 ≤ n) (t : Attrs) (w : W) : runP (List.replicate n (U.k t)) w = (mrgK (out w) n t, [], 0) := by
  obtain ⟨m, rfl⟩ : ∃ m, n = m + 1 := ⟨n - 1, by omega⟩
  have := runP_units (m + 1) false t w
  rw [units_keep] at this
  exact this
theorem tok_keep {n : Nat} {t : Attrs} (h2 : (n : Int) ≤ 2147483647) (ht : Attr.err true t = 0) : TOk' (mkT 0 n t []) := ⟨.inl rfl, ⟨by rw [sn_mk]; omega, by rw [sn_mk]; exact h2⟩, fun h => (by cases h), fun _ => rfl, ht⟩
theorem keep_w {w : W} {k : Nat} (h : Ti w k) (hl : w.2.1.length ≤ 1048576) (hk : k ≤ 300000) (n : Nat) (h1 : 1 ≤ n) (h2 : (n : Int) ≤ 2147483647) (t : Attrs) (ht : Sh t) (he : Attr.err true t = 0) :
    C_delta_writer_keep F_delta_writer_keep n t w.1 w.2.1 w.2.2 = some (ret_delta_writer_keep (runP (List.replicate n (U.k t)) w).1 (runP (List.replicate n (U.k t)) w).2.1 (runP (List.replicate n (U.k t)) w).2.2) ∧
    Ti (runP (List.replicate n (U.k t)) w) (k + 1) ∧ (runP (List.replicate n (U.k t)) w).2.1.length = 0 ∧ (runP (List.replicate n (U.k t)) w).2.2 = 0 := by
  have hlo := h.lo
  have kq := keep_eq n t w.1 w.2.1 w.2.2 (by omega) (h.wy hl (by omega)).1 (by omega) ht.1
  rw [if_neg (by omega)] at kq
  have st := h.step hl (tok_keep h2 he) (show Ss (mkT 0 n t []) from ⟨ht, fs_nil⟩) (fun z => by cases z)
  rw [runP_k n h1]
  have e : stT (mkT 0 n t []) w = (mrgK (out w) n t, [], 0) := by
    unfold stT
    rw [sk_mk, if_neg (by decide), if_neg (by decide), sn_mk, if_neg (by omega)]; rfl
  rw [e] at st
  exact ⟨kq, st, rfl, rfl⟩
theorem elems_w {w : W} {k : Nat} (h : Ti w k) (e : Flow) (he : Fs e) (hp : pErr e = 0) (hl : w.2.1.length + e.length ≤ 1048576) :
    C_delta_writer_elems F_delta_writer_elems e w.1 w.2.1 w.2.2 = some (ret_delta_writer_elems (runP (e.map U.a) w).1 (runP (e.map U.a) w).2.1 (runP (e.map U.a) w).2.2) ∧
    Ti (runP (e.map U.a) w) (k + 1) ∧ (runP (e.map U.a) w).2.1.length = w.2.1.length + e.length ∧ (runP (e.map U.a) w).2.2 = w.2.2 := by
  have eq := elems_eq e w.1 w.2.1 w.2.2 he (by omega)
  have st := h.step (s := mkT 1 0 [] e) (by omega) ⟨.inr (.inl rfl), ⟨by rw [sn_mk]; omega, by rw [sn_mk]; omega⟩, fun _ => ⟨rfl, hp⟩, fun z => absurd rfl z, rfl⟩ ⟨sh_nil, he⟩ (fun z => by cases z)
  rw [runP_a]
  have e2 : stT (mkT 1 0 [] e) w = uE e w := by unfold stT; rw [sk_mk, if_pos rfl]; rfl
  rw [e2] at st
  exact ⟨eq, st, by show (w.2.1 ++ e).length = _; simp, rfl⟩
theorem cut_w {w : W} {k : Nat} (h : Ti w k) (hl : w.2.1.length ≤ 1048576) (n : Nat) (h2 : w.2.2 + n ≤ 2147483647) :
    IntKind.i64.wrap (w.2.2 + n) = w.2.2 + n ∧ runP (List.replicate n U.c) w = (w.1, w.2.1, w.2.2 + n) ∧ Ti (w.1, w.2.1, w.2.2 + n) (k + 1) := by
  have hc := h.c
  have st := h.step (s := mkT 2 n [] []) hl ⟨.inr (.inr rfl), ⟨by rw [sn_mk]; omega, by rw [sn_mk]; omega⟩, fun z => (by cases z), fun _ => rfl, rfl⟩ ⟨sh_nil, fs_nil⟩ (fun _ => h2)
  have e2 : stT (mkT 2 n [] []) w = (w.1, w.2.1, w.2.2 + n) := by unfold stT; rw [sk_mk, if_neg (by decide), if_pos rfl]; rfl
  rw [e2] at st
  exact ⟨w64 (by omega) (by omega), runP_c n w, st⟩
noncomputable def fin (x y : W) : Option sig_delta_Pair.Out :=
  ((C_delta_writer_done F_delta_writer_done x.1 x.2.1 x.2.2).bind fun r3 =>
       ((C_delta_writer_done F_delta_writer_done y.1 y.2.1 y.2.2).bind fun r4 =>
        (bcond ((((res_delta_writer_done_1 r3) : Int) != 0) == false)
         (bcond (((res_delta_writer_done_1 r4) : Int) != 0)
          (some (ret_delta_Pair [] [] 3))
          (some (ret_delta_Pair (res_delta_writer_done_0 r3) (res_delta_writer_done_0 r4) 0)))
         (some (ret_delta_Pair [] [] 3)))))
end Go.Ev.Delta
namespace Go.Ev.Delta
open Go.Ev Go.Ev.Attr Go.Ev.Track
set_option linter.unusedVariables false
set_option linter.unusedSimpArgs false
theorem short_eq (l : Steps) (hl : Ds l) (h : err l = 0) : C_law_short F_law_short l = some (ret_law_short (decide (befs l ≤ 300))) := by
  rw [e_law_short, rsize_eq l hl h]
  rfl
section
variable (a b : Steps) (ha : Ds a) (hb : Ds b) (hlen : a.length + b.length ≤ 300000) (heb : eb a + eb b ≤ 400000)
include ha hb hlen heb
end
end Go.Ev.Delta
