
import Derived.Test.YtlgjdgebmiegeaaPUnit
import Derived.Test.YtlgjdgebmiegeaaGTidy
namespace Go.Ev.Delta
open Go.Ev Go.Ev.Attr Go.Ev.Track
set_option linter.unusedVariables false
set_option linter.unusedSimpArgs false
def tErr (s : YStep.den) : Int := if (sk s = 1 ∧ emp (se s) = true ∧ sErr s = 11) ∨ (sk s ≠ 1 ∧ sn s = 0 ∧ sErr s = 2) then Attr.err true (sa s) else sErr s
structure TOk' (s : YStep.den) : Prop where
  k : sk s = 0 ∨ sk s = 1 ∨ sk s = 2
  n : 0 ≤ sn s ∧ sn s ≤ 2147483647
  z : sk s = 1 → sn s = 0 ∧ pErr (se s) = 0
  e : sk s ≠ 1 → se s = []
  a : Attr.err true (sa s) = 0
theorem sErr_11 {s : YStep.den} (h : sErr s = 11) (h1 : sk s = 1) (h2 : emp (se s) = true) : sn s = 0 ∧ sa s = [] := by
  unfold sErr at h
  rw [if_pos h1] at h
  split at h
  · cases h
  · rename_i q
    constructor
    · exact Decidable.not_not.1 fun z => q (.inl z)
    · rw [← emp_iff]; cases hq : emp (sa s) with
      | true => rfl
      | false => exact absurd (.inr hq) q
theorem sErr_2 {s : YStep.den} (h : sErr s = 2) (h1 : sk s ≠ 1) (h2 : sn s = 0) : (sk s = 0 ∨ sk s = 2) ∧ se s = [] := by
  unfold sErr at h
  rw [if_neg h1] at h
  split at h
  · rename_i q
    split at h
    · cases h
    · rename_i q2
      refine ⟨q, ?_⟩
      rw [← emp_iff]; cases hq : emp (se s) with
      | true => rfl
      | false => exact absurd (.inl hq) q2
  · cases h
theorem tErr_zero {s : YStep.den} (h : tErr s = 0) : TOk' s := by
  unfold tErr at h
  split at h
  · rename_i q
    rcases q with ⟨q1, q2, q3⟩ | ⟨q1, q2, q3⟩
    · obtain ⟨r1, r2⟩ := sErr_11 q3 q1 q2
      refine ⟨.inr (.inl q1), by omega, fun _ => ⟨r1, ?_⟩, fun z => absurd q1 z, by rw [r2]; rfl⟩
      rw [(emp_iff _).1 q2]; rfl
    · obtain ⟨r1, r2⟩ := sErr_2 q3 q1 q2
      refine ⟨by rcases r1 with z | z <;> simp [z], by omega, fun z => absurd z q1, fun _ => r2, h⟩
  · rcases sErr_zero h with ⟨h1, h2, h3, h4, h5⟩ | ⟨h1, h2, h3, h4, h5⟩
    · exact ⟨.inr (.inl h1), by omega, fun _ => ⟨h2, h5⟩, fun z => absurd h1 z, by rw [h3]; rfl⟩
    · have hk : ¬ sk s = 1 := by rcases h1 with q | q <;> omega
      exact ⟨(by
        rcases h1 with q | q
        · exact .inl q
        · exact .inr (.inr q.1)), by omega, fun z => absurd z hk, fun _ => h2, h5⟩
def tdy : Steps → W → Steps × Int
  | [], w => if err (out w) = 0 then (out w, 0) else ([], 3)
  | s :: l, w => if tErr s ≠ 0 then ([], tErr s) else if sk s = 2 ∧ 2147483647 < w.2.2 + sn s then ([], 3) else tdy l (stT s w)
structure Ti (w : W) (k : Nat) : Prop where
  lo : w.1.length ≤ 3 * k
  sn : ∀ s ∈ w.1, 0 ≤ sn s ∧ sn s ≤ k * 2147483648
  ss : ∀ s ∈ w.1, Ss s
  a : ∀ x ∈ w.2.1, Sh (ea x)
  c : 0 ≤ w.2.2 ∧ w.2.2 ≤ 2147483647
theorem Ti.outs {w : W} {k : Nat} (h : Ti w k) (hl : w.2.1.length ≤ 1048576) : ∀ s ∈ out w, (0 ≤ Delta.sn s ∧ Delta.sn s ≤ k * 2147483648 + 2147483647) ∧ Ss s := fun s hs => by
  have hc := h.c
  rcases fl_mem hs with q | q | q
  · have := h.sn s q
    exact ⟨by omega, h.ss s q⟩
  · rw [q.1, sn_mk]
    exact ⟨by omega, sh_nil, fs_of hl h.a⟩
  · rw [q.1, sn_mk]
    exact ⟨by omega, sh_nil, fs_nil⟩
theorem Ti.wy {w : W} {k : Nat} (h : Ti w k) (hl : w.2.1.length ≤ 1048576) (hk : k ≤ 349524) : Wy (out w) ∧ Ds (out w) := by
  have h1 := h.lo
  have h2 : (out w).length ≤ 3 * k + 2 := by have := fl_len w.1 w.2.1 w.2.2; unfold out; omega
  refine ⟨⟨by omega, fun s hs => ?_, fun s hs => ((h.outs hl s hs).2).1.1⟩, ds_of (by omega) fun s hs => (h.outs hl s hs).2⟩
  have := (h.outs hl s hs).1
  omega
theorem Ti.step {w : W} {k : Nat} (h : Ti w k) (hl : w.2.1.length ≤ 1048576) {s : YStep.den} (ht : TOk' s) (hs : Ss s) (hc : sk s = 2 → w.2.2 + Delta.sn s ≤ 2147483647) : Ti (stT s w) (k + 1) := by
  have h1 := h.lo
  have h4 := h.c
  have hn := ht.n
  have kk : ((k + 1 : Nat) : Int) * 2147483648 = k * 2147483648 + 2147483648 := by omega
  unfold stT
  split
  · refine ⟨by show w.1.length ≤ _; omega, fun q hq => ?_, h.ss, fun x hx => ?_, h4⟩
    · have := h.sn q hq; omega
    · rcases List.mem_append.1 hx with hx | hx
      · exact h.a x hx
      · exact fs_mem hs.2 hx
  · split
    · rename_i k2
      have := hc k2
      refine ⟨by show w.1.length ≤ _; omega, fun q hq => ?_, h.ss, h.a, ?_⟩
      · have := h.sn q hq; omega
      · show 0 ≤ w.2.2 + Delta.sn s ∧ w.2.2 + Delta.sn s ≤ _; omega
    · split
      · refine ⟨by omega, fun q hq => ?_, h.ss, h.a, h4⟩
        have := h.sn q hq; omega
      · refine ⟨?_, fun q hq => ?_, fun q hq => ?_, fun x hx => by simp at hx, ?_⟩
        · have q1 := mrg_len (out w) (Delta.sn s) (sa s)
          have q2 := fl_len w.1 w.2.1 w.2.2
          show (mrgK (out w) _ _).length ≤ _
          unfold out at q1 ⊢; omega
        · rcases mrg_mem hq with z | z | ⟨r, r1, r2, r3, r4⟩
          · have := (h.outs hl q z).1; omega
          · rw [z, sn_mk]; omega
          · rw [r4, sn_mk]
            rcases fl_mem r1 with y | y | y
            · have := h.sn r y; omega
            · rw [y.1, sk_mk] at r2; cases r2
            · rw [y.1, sk_mk] at r2; cases r2
        · rcases mrg_mem hq with z | z | ⟨r, r1, r2, r3, r4⟩
          · exact (h.outs hl q z).2
          · rw [z]; exact ⟨hs.1, fs_nil⟩
          · have := (h.outs hl r r1).2; rw [r4]; exact this
        · show (0 : Int) ≤ 0 ∧ (0 : Int) ≤ 2147483647; omega
theorem stT_a (s : YStep.den) (w : W) : (stT s w).2.1.length ≤ w.2.1.length + (se s).length := by
  unfold stT
  split
  · show (w.2.1 ++ se s).length ≤ _; simp
  · split
    · show w.2.1.length ≤ _; omega
    · split
      · omega
      · show ([] : Flow).length ≤ _; simp
theorem tidy_j (l : Steps) (hl : Ds l) (m i : Nat) (hi : i < l.length) (w : W) (k : Nat) (h : Ti w k) (hk : k ≤ 349524) (hw : w.2.1.length + (se (atT l i)).length ≤ 1048576) (t : Int) (ht : t = tErr (atT l i)) :
    J_delta_Tidy_0 big m w.1 w.2.1 w.2.2 (atT l i) t l (l.length : Int) i = if tErr (atT l i) ≠ 0 then some (ret_delta_Tidy [] (tErr (atT l i))) else if sk (atT l i) = 2 ∧ 2147483647 < w.2.2 + sn (atT l i) then some (ret_delta_Tidy [] 3) else
      L_delta_Tidy_0 big m (stT (atT l i) w).1 (stT (atT l i) w).2.1 (stT (atT l i) w).2.2 l (l.length : Int) ((i + 1 : Nat) : Int) := by
  subst ht
  have hlen := hl.1
  have w1 : IntKind.i64.wrap ((i : Int) + 1) = ((i + 1 : Nat) : Int) := wnat (by omega) (by omega)
  have e1 : (atT l i).1 = sk (atT l i) := rfl
  have e2 : (atT l i).2.1 = sn (atT l i) := rfl
  have e3 : (atT l i).2.2.1 = sa (atT l i) := rfl
  have e4 : (atT l i).2.2.2 = se (atT l i) := rfl
  have hS := hl.2 i
  obtain ⟨hwy, hds⟩ := h.wy (by omega) hk
  have hlo := h.lo
  have hc := h.c
  unfold J_delta_Tidy_0
  by_cases hz : tErr (atT l i) = 0
  · have ht := tErr_zero hz
    have hn := ht.n
    have wc : IntKind.i64.wrap (w.2.2 + sn (atT l i)) = w.2.2 + sn (atT l i) := w64 (by omega) (by omega)
    have keep := keep_eq (sn (atT l i)) (sa (atT l i)) w.1 w.2.1 w.2.2 (by omega) hwy ⟨hn.1, by omega⟩ hS.1.1
    have els := elems_eq (se (atT l i)) w.1 w.2.1 w.2.2 hS.2 (by omega)
    rw [hz]
    simp only [bcond_if, e1, e2, e3, e4, w1, wc, keep, els]
    unfold stT
    rcases ht.k with k0 | k0 | k0
    · by_cases n0 : sn (atT l i) = 0
      · simp [k0, n0]
      · simp [k0, n0, out]
    · simp [k0, uE]
    · by_cases hb : 2147483647 < w.2.2 + sn (atT l i)
      · have hb' : w.2.2 + sn (atT l i) > 2147483647 := hb
        simp [k0, hb']
      · have hb' : ¬ w.2.2 + sn (atT l i) > 2147483647 := hb
        simp [k0, hb']
  · simp [bcond_if, hz]
theorem tidy_step (l : Steps) (hl : Ds l) (m i : Nat) (hi : i < l.length) (w : W) (k : Nat) (h : Ti w k) (hk : k ≤ 349524) (hw : w.2.1.length + (se (atT l i)).length ≤ 1048576) :
    L_delta_Tidy_0 big (m + 1) w.1 w.2.1 w.2.2 l (l.length : Int) i = if tErr (atT l i) ≠ 0 then some (ret_delta_Tidy [] (tErr (atT l i))) else if sk (atT l i) = 2 ∧ 2147483647 < w.2.2 + sn (atT l i) then some (ret_delta_Tidy [] 3) else
      L_delta_Tidy_0 big m (stT (atT l i) w).1 (stT (atT l i) w).2.1 (stT (atT l i) w).2.2 l (l.length : Int) ((i + 1 : Nat) : Int) := by
  have hlen := hl.1
  have c1 : decide ((i : Int) < (l.length : Int)) = true := decide_eq_true (by omega)
  have ea0 : at_ (e := YStep) l (i : Int) = atT l i := rfl
  have e1 : (atT l i).1 = sk (atT l i) := rfl
  have e2 : (atT l i).2.1 = sn (atT l i) := rfl
  have e3 : (atT l i).2.2.1 = sa (atT l i) := rfl
  have e4 : (atT l i).2.2.2 = se (atT l i) := rfl
  have hS := hl.2 i
  have J := fun t ht => tidy_j l hl m i hi w k h hk hw t ht
  rw [L_delta_Tidy_0_step]
  simp only [bcond_if, inb, hi, c1, if_true, ea0, step_eq _ hS, Option.bind_some, res_delta_step_0_ret, e1, e2, e3, e4, len_zero, checkc_eq _ hS.1, res_attr_CheckChange_0_ret]
  unfold tErr at J ⊢
  by_cases k1 : sk (atT l i) = 1
  · by_cases p1 : emp (se (atT l i)) = true
    · by_cases s1 : sErr (atT l i) = 11
      · simp only [k1, p1, s1] at J ⊢
        simpa using J _ rfl
      · simp only [k1, p1, s1] at J ⊢
        simpa [s1] using J _ rfl
    · simp only [k1, p1] at J ⊢
      simpa using J _ rfl
  · by_cases n0 : sn (atT l i) = 0
    · by_cases s1 : sErr (atT l i) = 2
      · simp only [k1, n0, s1] at J ⊢
        simpa [k1] using J _ rfl
      · simp only [k1, n0, s1] at J ⊢
        simpa [k1, s1] using J _ rfl
    · simp only [k1, n0] at J ⊢
      simpa [k1, n0] using J _ rfl
theorem tidy_loop (l : Steps) (hl : Ds l) (hk : l.length ≤ 349524) : ∀ (d i m : Nat) (w : W), i + d = l.length → d < m → Ti w i → w.2.1.length + eb (l.drop i) ≤ 1048576 →
    L_delta_Tidy_0 big m w.1 w.2.1 w.2.2 l (l.length : Int) i = some (ret_delta_Tidy (tdy (l.drop i) w).1 (tdy (l.drop i) w).2) := by
  intro d
  induction d with
  | zero =>
    intro i m w hi hm h he
    cases m with
    | zero => omega
    | succ m =>
    have : i = l.length := by omega
    subst this
    have c1 : decide ((l.length : Int) < (l.length : Int)) = false := decide_eq_false (by omega)
    obtain ⟨hwy, hds⟩ := h.wy (by omega) hk
    have hlo := h.lo
    obtain ⟨z, z1, z2, z3⟩ := done_eq w.1 w.2.1 w.2.2 (by omega) hds
    rw [L_delta_Tidy_0_step, List.drop_length]
    simp only [bcond_if, c1, if_false, Bool.false_eq_true, z1, Option.bind_some, z2, z3, tdy]
    show some (ret_delta_Tidy (if err (out w) = 0 then out w else []) (if err (out w) = 0 then 0 else 3)) = _
    split <;> rfl
  | succ d ih =>
    intro i m w hi hm h he
    cases m with
    | zero => omega
    | succ m =>
    have hil : i < l.length := by omega
    rw [drop_step l hil] at he ⊢
    simp only [eb] at he
    rw [tidy_step l hl m i hil w i h (by omega) (by omega)]
    unfold tdy
    by_cases hz : tErr (atT l i) = 0
    · rw [if_neg (show ¬ (tErr (atT l i) ≠ 0) by simp [hz])]
      rw [if_neg (show ¬ (tErr (atT l i) ≠ 0) by simp [hz])]
      by_cases hc : sk (atT l i) = 2 ∧ 2147483647 < w.2.2 + sn (atT l i)
      · rw [if_pos hc, if_pos hc]
      · rw [if_neg hc, if_neg hc]
        have hst := stT_a (atT l i) w
        exact ih (i + 1) m _ (by omega) (by omega) (h.step (by omega) (tErr_zero hz) (hl.2 i) (fun k2 => by
          apply Int.le_of_not_gt; intro q; exact hc ⟨k2, q⟩)) (by omega)
    · rw [if_pos (show tErr (atT l i) ≠ 0 from hz)]
      rw [if_pos (show tErr (atT l i) ≠ 0 from hz)]
theorem ti0 : Ti w0 0 := ⟨by simp [w0], fun s h => by simp [w0] at h, fun s h => by simp [w0] at h, fun s h => by simp [w0] at h, by simp [w0]⟩
theorem tidy_eq (l : Steps) (hl : Ds l) (hk : l.length ≤ 349524) (he : eb l ≤ 1048576) : C_delta_Tidy F_delta_Tidy l = some (ret_delta_Tidy (tdy l w0).1 (tdy l w0).2) := by
  obtain ⟨z, hz⟩ := big_succ (n := 4194304) (by omega)
  rw [e_delta_Tidy]
  have := tidy_loop l hl hk l.length 0 big w0 (by omega) (by omega) ti0 (by simpa [w0] using he)
  simpa [w0] using this
end Go.Ev.Delta
