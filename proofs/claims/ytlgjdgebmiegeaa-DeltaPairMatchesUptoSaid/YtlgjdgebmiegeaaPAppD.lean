
/- delta.Undo: the walk. -/
import Derived.Test.YtlgjdgebmiegeaaPAppC
namespace Go.Ev.Delta
open Go.Ev Go.Ev.Attr Go.Ev.Track
set_option linter.unusedVariables false
set_option linter.unusedSimpArgs false
theorem DI.cut {w : W} {k : Nat} (h : DI w k) (n : Nat) : DI (w.1, w.2.1, w.2.2 + n) (k + n) := ⟨by have := h.lo; show w.1.length ≤ _; omega, fun s hs => by have := h.sn s hs; omega, h.sa, by have := h.c; show 0 ≤ w.2.2 + n ∧ w.2.2 + n ≤ ((k + n : Nat) : Int); omega⟩
theorem runP_c (n : Nat) (w : W) : runP (List.replicate n U.c) w = (w.1, w.2.1, w.2.2 + n) := by
  have := runP_units n true [] w
  rw [units_cut] at this
  exact this
theorem undo_inner (f : Flow) (c : Attrs) (hc : c.length ≤ 1048576) (hf : f.length ≤ 1048576) (hab : ∀ x ∈ f, 2 * (ea x).length + c.length ≤ 1048576) (m1 : Nat) (x0 : Flow) (k0 k1 : Int) (k3 : Flow) (l : Steps) (n0 i : Int) :
    ∀ (d j m : Nat) (w : W) (k : Nat), j + d = f.length → d < m → DI w k → k + d ≤ 1048576 →
    L_delta_Undo_1 big m1 m x0 w.1 w.2.1 w.2.2 k0 k1 c k3 l n0 i f (f.length : Int) (j : Int) =
      L_delta_Undo_1 big m1 1 x0 (runP ((f.drop j).map (unE c)) w).1 (runP ((f.drop j).map (unE c)) w).2.1 (runP ((f.drop j).map (unE c)) w).2.2 k0 k1 c k3 l n0 i f (f.length : Int) (f.length : Int) ∧
    DI (runP ((f.drop j).map (unE c)) w) (k + d) ∧ (runP ((f.drop j).map (unE c)) w).2.1.length ≤ w.2.1.length := by
  intro d
  induction d with
  | zero =>
    intro j m w k hj hm hw hk
    obtain ⟨m, rfl⟩ : ∃ q, m = q + 1 := ⟨m - 1, by omega⟩
    have : j = f.length := by omega
    subst this
    rw [List.drop_length]
    refine ⟨?_, hw, Nat.le_refl _⟩
    show _ = L_delta_Undo_1 big m1 1 x0 w.1 w.2.1 w.2.2 _ _ _ _ _ _ _ _ _ _
    rw [show (1 : Nat) = 0 + 1 from rfl, L_delta_Undo_1_step, L_delta_Undo_1_step]
    simp only [bcond_if, dlt_self, Bool.false_eq_true, if_false]
  | succ d ih =>
    intro j m w k hj hm hw hk
    obtain ⟨m, rfl⟩ : ∃ q, m = q + 1 := ⟨m - 1, by omega⟩
    have hj' : j < f.length := by omega
    have hx : atE f j ∈ f := atE_mem f hj'
    have ha := hab _ hx
    have e4 : f.drop j = atE f j :: f.drop (j + 1) := drop_elem f hj'
    have ea4 : at_ (e := YElem) f (j : Int) = atE f j := rfl
    have ea5 : (atE f j).2.2 = ea (atE f j) := rfl
    have l1 := raw_len (ea (atE f j)) c
    have l2 := chg_len (raw (ea (atE f j)) c) (ea (atE f j))
    have r1 := raw_eq (ea (atE f j)) c (by omega) hc
    have r2 := chg_eq (raw (ea (atE f j)) c) (ea (atE f j)) (by omega) (by omega)
    have hlo := hw.lo
    have hwy := hw.wy (by omega)
    have ht : (chg (raw (ea (atE f j)) c) (ea (atE f j))).length ≤ 1048576 := by omega
    have r3 := keep_eq 1 (chg (raw (ea (atE f j)) c) (ea (atE f j))) w.1 w.2.1 w.2.2 (by omega) hwy (by decide) ht
    rw [if_neg (by decide)] at r3
    have w1 := wsucc hj' (show f.length ≤ 4611686018427387904 by omega)
    obtain ⟨q1, q2, q3⟩ := ih (j + 1) m (uK (chg (raw (ea (atE f j)) c) (ea (atE f j))) w) (k + 1) (by omega) (by omega) (hw.unit false _ ht) (by omega)
    rw [e4]
    have er : runP ((atE f j :: f.drop (j + 1)).map (unE c)) w = runP ((f.drop (j + 1)).map (unE c)) (uK (chg (raw (ea (atE f j)) c) (ea (atE f j))) w) := rfl
    rw [er]
    refine ⟨?_, by rw [show k + (d + 1) = k + 1 + d by omega]; exact q2, Nat.le_trans q3 (Nat.zero_le _)⟩
    rw [← q1, L_delta_Undo_1_step]
    simp only [bcond_if, dlt hj', inb, hj', if_true, ea4, ea5, r1, r2, r3, Option.bind_some, res_attr_Raw_0_ret, res_attr_Change_0_ret, res_delta_writer_keep_0_ret, res_delta_writer_keep_1_ret, res_delta_writer_keep_2_ret, w1]
    rfl
theorem undo_loop (l : Steps) (hl : Ds l) (hv : ∀ s ∈ l, sErr s = 0) : ∀ (d i m : Nat) (f : Flow) (w : W) (k : Nat), i + d = l.length → d < m → Fs f → befs (l.drop i) = f.length → (∀ x ∈ f, ∀ s ∈ l, 2 * (ea x).length + (sa s).length ≤ 1048576) →
    DI w k → k + f.length + eb (l.drop i) ≤ 1048576 → w.2.1.length + f.length ≤ 1048576 →
    L_delta_Undo_0 big m f w.1 w.2.1 w.2.2 l (l.length : Int) i = (C_delta_writer_done F_delta_writer_done (runP (un (l.drop i) f) w).1 (runP (un (l.drop i) f) w).2.1 (runP (un (l.drop i) f) w).2.2).bind fun r1 => some (ret_delta_Undo (res_delta_writer_done_0 r1) (res_delta_writer_done_1 r1)) := by
  have hlen := hl.1
  intro d
  induction d with
  | zero =>
    intro i m f w k hi hm hf hb hab hw hk ho
    obtain ⟨m, rfl⟩ : ∃ q, m = q + 1 := ⟨m - 1, by omega⟩
    have : i = l.length := by omega
    subst this
    rw [L_delta_Undo_0_step, List.drop_length]
    simp only [bcond_if, dlt_self, Bool.false_eq_true, if_false]
    rfl
  | succ d ih =>
    intro i m f w k hi hm hf hb hab hw hk ho
    obtain ⟨m, rfl⟩ : ∃ q, m = q + 1 := ⟨m - 1, by omega⟩
    have hil : i < l.length := by omega
    have w1 := wsucc hil (show l.length ≤ 4611686018427387904 by omega)
    have ea0 : at_ (e := YStep) l (i : Int) = atT l i := rfl
    have e1 : (atT l i).1 = sk (atT l i) := rfl
    have e2 : (atT l i).2.1 = sn (atT l i) := rfl
    have e3 : (atT l i).2.2.1 = sa (atT l i) := rfl
    have e4 : (atT l i).2.2.2 = se (atT l i) := rfl
    have hm1 := atT_mem l hil
    have hz := hv _ hm1
    have hS := hl.2 i
    have hdr : ∀ s ∈ l.drop (i + 1), s ∈ l := fun s h => List.mem_of_mem_drop h
    obtain ⟨p1, p2⟩ := adds_pos (fun s h => hv s (hdr s h)) (fun s h => ss_mem hl (hdr s h))
    have ct : List.take (Int.toNat (f.length : Int)) f = f := by simp
    have lf := hf.1
    have kz : ¬ sk (atT l i) = 1 → 1 ≤ sn (atT l i) := fun h => ((ssz_valid hz hS).2.2.1 h).1
    have hc := hw.c
    rw [drop_step l hil] at hb hk ⊢
    simp only [befs, addB, eb] at hb hk
    rw [L_delta_Undo_0_step]
    simp only [bcond_if, dlt hil, if_true, inb, hil, w1, ea0, e1, e2, e3, e4, ct, un]
    rcases sErr_kind hz with hkd | hkd | hkd
    · rw [hkd] at hb
      simp only [show ¬ ((0 : Int) = 1) from by decide, if_false] at hb
      have hn := kz (by omega)
      obtain ⟨N, hN⟩ : ∃ N : Nat, sn (atT l i) = (N : Int) := ⟨(sn (atT l i)).toNat, by omega⟩
      rw [hN] at hb ⊢
      have hNl : N ≤ f.length := by omega
      have lt : (f.take N).length = N := by simp; omega
      have ld : (f.drop N).length = f.length - N := by simp
      have q1 : (0 ≤ (N : Int) ∧ (N : Int) ≤ (f.length : Int) ∧ 0 ≤ (0 : Int) ∧ (0 : Int) ≤ (N : Int)) := by omega
      have q2 : (0 ≤ (f.length : Int) ∧ (f.length : Int) ≤ (f.length : Int) ∧ 0 ≤ (N : Int) ∧ (N : Int) ≤ (f.length : Int)) := by omega
      obtain ⟨r1, r2, r3⟩ := undo_inner (f.take N) (sa (atT l i)) hS.1.1 (by omega) (fun x hx => hab x (List.mem_of_mem_take hx) _ hm1) m f 0 (N : Int) (se (atT l i)) l (l.length : Int) (i : Int) N 0 big w k (by omega) (big_ge (n := N + 1) (by omega)) hw (by omega)
      rw [List.drop_zero] at r1 r2 r3
      have := ih (i + 1) m (f.drop N) (runP ((f.take N).map (unE (sa (atT l i)))) w) (k + N) (by omega) (by omega) (fs_drop hf N) (by rw [ld]; omega) (fun x hx => hab x (List.mem_of_mem_drop hx)) r2 (by rw [ld]; omega) (by rw [ld]; omega)
      simp only [hkd, beq_self_eq_true, if_true, if_pos q1, Int.toNat_natCast, Int.toNat_zero, List.drop_zero]
      rw [runP_append, ← this]
      refine Eq.trans r1 ?_
      rw [show (1 : Nat) = 0 + 1 from rfl, L_delta_Undo_1_step]
      simp only [bcond_if, dlt_self, Bool.false_eq_true, if_false, if_pos q2, Int.toNat_natCast, List.take_length, Nat.zero_add, w1]
    · rw [hkd] at hb
      simp only [if_true] at hb
      have wc : IntKind.i64.wrap (w.2.2 + ((se (atT l i)).length : Int)) = w.2.2 + ((se (atT l i)).length : Int) := w64 (by omega) (by omega)
      have := ih (i + 1) m f (w.1, w.2.1, w.2.2 + ((se (atT l i)).length : Int)) (k + (se (atT l i)).length) (by omega) (by omega) hf (by omega) hab (hw.cut _) (by omega) ho
      simp only [hkd, show ((1 : Int) == 0) = false from rfl, show ¬ ((1 : Int) = 0) from by decide, beq_self_eq_true, if_true, if_false, Bool.false_eq_true, wc]
      rw [runP_append, runP_c]
      exact this
    · rw [hkd] at hb
      simp only [show ¬ ((2 : Int) = 1) from by decide, if_false] at hb
      have hn := kz (by omega)
      obtain ⟨N, hN⟩ : ∃ N : Nat, sn (atT l i) = (N : Int) := ⟨(sn (atT l i)).toNat, by omega⟩
      rw [hN] at hb ⊢
      have hNl : N ≤ f.length := by omega
      have lt : (f.take N).length = N := by simp; omega
      have ld : (f.drop N).length = f.length - N := by simp
      have q1 : (0 ≤ (N : Int) ∧ (N : Int) ≤ (f.length : Int) ∧ 0 ≤ (0 : Int) ∧ (0 : Int) ≤ (N : Int)) := by omega
      have q2 : (0 ≤ (f.length : Int) ∧ (f.length : Int) ≤ (f.length : Int) ∧ 0 ≤ (N : Int) ∧ (N : Int) ≤ (f.length : Int)) := by omega
      have el := elems_eq (f.take N) w.1 w.2.1 w.2.2 (fs_take hf N) (by omega)
      have := ih (i + 1) m (f.drop N) (uE (f.take N) w) k (by omega) (by omega) (fs_drop hf N) (by rw [ld]; omega) (fun x hx => hab x (List.mem_of_mem_drop hx)) (hw.uE _) (by rw [ld]; omega) (by show (w.2.1 ++ f.take N).length + _ ≤ _; rw [List.length_append, lt, ld]; omega)
      simp only [hkd, show ((2 : Int) == 0) = false from rfl, show ((2 : Int) == 1) = false from rfl, show ¬ ((2 : Int) = 0) from by decide, show ¬ ((2 : Int) = 1) from by decide, if_false, Bool.false_eq_true, if_pos q1, if_pos q2, Int.toNat_natCast, Int.toNat_zero, List.drop_zero, el, Option.bind_some, res_delta_writer_elems_0_ret, res_delta_writer_elems_1_ret, res_delta_writer_elems_2_ret]
      rw [runP_append, runP_a]
      exact this
end Go.Ev.Delta
