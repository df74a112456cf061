
import Derived.Test.YtlgjdgebmiegeaaPPairB
import Derived.Test.YtlgjdgebmiegeaaPAxisC
namespace Go.Ev.AxisP
open Go.Ev Go.Ev.Attr Go.Ev.Track Go.Ev.Delta
set_option linter.unusedVariables false
set_option linter.unusedSimpArgs false
abbrev Ax := List YSpan.den
def ph (s : YStep.den) : YSpan.den := (sk s, sn s + ((se s).length : Int))
def X : YElem.den := mkE 120 0 []
def no (w : W) : Ax := w.1.map ph
structure Aw (w : W) (k : Nat) : Prop where
  lo : (out w).length ≤ k
  sn : ∀ s ∈ w.1, sk s = 0 → 0 ≤ sn s ∧ sn s ≤ k * 2147483648 ∧ sa s = [] ∧ se s = []
  a : (w.2.1.length : Int) ≤ k * 2147483648
  c : 0 ≤ w.2.2 ∧ w.2.2 ≤ k * 2147483648
theorem fl_len2 (o : Delta.Steps) (a : Flow) (c : Int) : (fl o a c).length = o.length + (if emp a = true then 0 else 1) + (if 0 < c then 1 else 0) := by
  unfold fl
  rw [List.length_append, List.length_append]
  split <;> split <;> rfl
theorem out_len (w : W) : (out w).length = w.1.length + (if emp w.2.1 = true then 0 else 1) + (if 0 < w.2.2 then 1 else 0) := fl_len2 _ _ _
theorem out_add (w : W) (x : Flow) : (out (uE x w)).length ≤ (out w).length + 1 := by
  rw [out_len, out_len]
  show w.1.length + (if emp (w.2.1 ++ x) = true then 0 else 1) + (if 0 < w.2.2 then 1 else 0) ≤ w.1.length + (if emp w.2.1 = true then 0 else 1) + (if 0 < w.2.2 then 1 else 0) + 1
  generalize (if 0 < w.2.2 then 1 else 0) = q
  split <;> split <;> omega
theorem out_cut (w : W) (n : Nat) : (out (w.1, w.2.1, w.2.2 + (n : Int))).length ≤ (out w).length + 1 := by
  rw [out_len, out_len]
  show w.1.length + (if emp w.2.1 = true then 0 else 1) + (if 0 < w.2.2 + (n : Int) then 1 else 0) ≤ w.1.length + (if emp w.2.1 = true then 0 else 1) + (if 0 < w.2.2 then 1 else 0) + 1
  generalize (if emp w.2.1 = true then 0 else 1) = q
  split <;> split <;> omega
theorem Aw.mono {w : W} {k k' : Nat} (h : Aw w k) (hk : k ≤ k') : Aw w k' := ⟨by have := h.lo; omega, fun s hs h0 => by have := h.sn s hs h0; exact ⟨this.1, by omega, this.2.2⟩, by have := h.a; omega, by have := h.c; omega⟩
theorem aw0 : Aw w0 0 := ⟨by simp [w0, out, fl, emp], fun s h => by simp [w0] at h, by simp [w0], by simp [w0]⟩
theorem c16 (n k : Nat) (h : n + k ≤ 4000000) : (n + k) * 16 ≤ 140737488355328 := Nat.le_trans (Nat.mul_le_mul_right 16 h) (by decide)
theorem pos_emp (a : Flow) : decide ((a.length : Int) > 0) = !emp a := by
  cases a with
  | nil => rfl
  | cons x a => simp [emp]
theorem flush_ax (w : W) (ho : w.1.length ≤ 3900000) : C_axis_writer_flush F_axis_writer_flush (no w) (w.2.1.length : Int) w.2.2 = some (ret_axis_writer_flush ((out w).map ph) 0 0) := by
  have l0 : (no w).length = w.1.length := by simp [no]
  have b1 : ∀ x : YSpan.den, ((no w).length + [x].length) * 16 ≤ 140737488355328 := fun x => c16 _ _ (by rw [l0]; simp; omega)
  have b2 : ∀ x y : YSpan.den, ((no w ++ [x]).length + [y].length) * 16 ≤ 140737488355328 := fun x y => c16 _ _ (by simp [l0]; omega)
  have q1 : ph (mkT 1 0 [] w.2.1) = (1, (w.2.1.length : Int)) := by show (1, 0 + (w.2.1.length : Int)) = _; rw [Int.zero_add]
  have q2 : ph (mkT 2 w.2.2 [] []) = (2, w.2.2) := by show (2, w.2.2 + ((0 : Nat) : Int)) = _; simp
  rw [e_axis_writer_flush, pos_emp]
  simp only [bcond_if]
  show _ = some (ret_axis_writer_flush ((fl w.1 w.2.1 w.2.2).map ph) 0 0)
  unfold fl
  by_cases h1 : emp w.2.1 = true
  · by_cases h2 : 0 < w.2.2
    · have h2' : decide (w.2.2 > 0) = true := decide_eq_true h2
      simp only [h1, h2, h2', Bool.not_true, Bool.false_eq_true, if_false, if_true, List.append_nil, List.map_append, List.map_cons, List.map_nil, q2]
      rw [if_pos (b1 _)]; rfl
    · have h2' : decide (w.2.2 > 0) = false := decide_eq_false h2
      simp only [h1, h2, h2', Bool.not_true, Bool.false_eq_true, if_false, if_true, List.append_nil]
      rfl
  · have h1' : emp w.2.1 = false := by simpa using h1
    by_cases h2 : 0 < w.2.2
    · have h2' : decide (w.2.2 > 0) = true := decide_eq_true h2
      simp only [h1', h2, h2', Bool.not_false, Bool.false_eq_true, if_false, if_true, List.map_append, List.map_cons, List.map_nil, q1, q2]
      rw [if_pos (b1 _), if_pos (b2 _ _)]; rfl
    · have h2' : decide (w.2.2 > 0) = false := decide_eq_false h2
      simp only [h1', h2, h2', Bool.not_false, Bool.false_eq_true, if_false, if_true, List.map_append, List.map_cons, List.map_nil, q1, List.append_nil]
      rw [if_pos (b1 _)]; rfl
theorem Aw.out {w : W} {k : Nat} (h : Aw w k) : ∀ s ∈ out w, sk s = 0 → 0 ≤ Delta.sn s ∧ Delta.sn s ≤ k * 2147483648 ∧ sa s = [] ∧ se s = [] := fun s hs h0 => by
  rcases fl_mem hs with q | q | q
  · exact h.sn s q h0
  · rw [q.1] at h0; cases h0
  · rw [q.1] at h0; cases h0
theorem eqA_nil : eqA [] [] = true := (eqA_iff _ _).2 rfl
theorem put_add {w : W} {k : Nat} (h : Aw w k) (hk : k ≤ 600000) (n : Nat) (hn : (n : Int) ≤ 2147483647) :
    C_axis_writer_put F_axis_writer_put 1 n (no w) (w.2.1.length : Int) w.2.2 = some (ret_axis_writer_put (no (runP (List.replicate n (U.a X)) w)) ((runP (List.replicate n (U.a X)) w).2.1.length : Int) (runP (List.replicate n (U.a X)) w).2.2) ∧ Aw (runP (List.replicate n (U.a X)) w) (k + 1) := by
  have e : runP (List.replicate n (U.a X)) w = uE (List.replicate n X) w := by
    rw [← runP_a, List.map_replicate]
  have ha := h.a
  have hc := h.c
  have hl : ((uE (List.replicate n X) w).2.1.length : Int) = (w.2.1.length : Int) + n := by show ((w.2.1 ++ List.replicate n X).length : Int) = _; simp
  rw [e]
  refine ⟨?_, ⟨by have := h.lo; have := out_add w (List.replicate n X); omega, fun s hs h0 => by have := h.sn s hs h0; exact ⟨this.1, by omega, this.2.2⟩, by rw [hl]; omega, by show 0 ≤ w.2.2 ∧ w.2.2 ≤ _; omega⟩⟩
  rw [hl, e_axis_writer_put]
  by_cases h0 : n = 0
  · subst h0
    simp only [bcond_if]
    rw [if_pos (by rfl)]
    show some (ret_axis_writer_put (no w) (w.2.1.length : Int) w.2.2) = some (ret_axis_writer_put (no w) ((w.2.1.length : Int) + ((0 : Nat) : Int)) w.2.2)
    rw [show ((0 : Nat) : Int) = 0 from rfl, Int.add_zero]
  · have b0 : ((n : Int) == 0) = false := beq_eq_false_iff_ne.2 (by omega)
    have wr : IntKind.i64.wrap ((w.2.1.length : Int) + n) = (w.2.1.length : Int) + n := w64 (by omega) (by omega)
    rw [b0, wr]
    rfl
theorem put_cut {w : W} {k : Nat} (h : Aw w k) (hk : k ≤ 600000) (n : Nat) (hn : (n : Int) ≤ 2147483647) :
    C_axis_writer_put F_axis_writer_put 2 n (no w) (w.2.1.length : Int) w.2.2 = some (ret_axis_writer_put (no (runP (List.replicate n U.c) w)) ((runP (List.replicate n U.c) w).2.1.length : Int) (runP (List.replicate n U.c) w).2.2) ∧ Aw (runP (List.replicate n U.c) w) (k + 1) := by
  have ha := h.a
  have hc := h.c
  rw [runP_c]
  refine ⟨?_, ⟨by have := h.lo; have := out_cut w n; omega, fun s hs h0 => by have := h.sn s hs h0; exact ⟨this.1, by omega, this.2.2⟩, by show (w.2.1.length : Int) ≤ _; omega, by show 0 ≤ w.2.2 + n ∧ w.2.2 + n ≤ _; omega⟩⟩
  rw [e_axis_writer_put]
  by_cases h0 : n = 0
  · subst h0
    simp only [bcond_if]
    rw [if_pos (by rfl), show ((0 : Nat) : Int) = 0 from rfl, Int.add_zero]
  · have b0 : ((n : Int) == 0) = false := beq_eq_false_iff_ne.2 (by omega)
    have wr : IntKind.i64.wrap (w.2.2 + n) = w.2.2 + n := w64 (by omega) (by omega)
    rw [b0, wr]
    rfl
theorem at_lastS (d : Ax) (s : YSpan.den) : at_ (e := YSpan) (d ++ [s]) ((d.length : Nat) : Int) = s := by
  unfold at_
  simp [List.getD_eq_getElem?_getD]
theorem rf0 (v0 : Ax) (v1 v2 : Int) : res_axis_writer_flush_0 (ret_axis_writer_flush v0 v1 v2) = v0 := id rfl
theorem put_keep {w : W} {k : Nat} (h : Aw w k) (hk : k ≤ 600000) (n : Nat) (hn : (n : Int) ≤ 2147483647) :
    C_axis_writer_put F_axis_writer_put 0 n (no w) (w.2.1.length : Int) w.2.2 = some (ret_axis_writer_put (no (runP (List.replicate n (U.k [])) w)) ((runP (List.replicate n (U.k [])) w).2.1.length : Int) (runP (List.replicate n (U.k [])) w).2.2) ∧ Aw (runP (List.replicate n (U.k [])) w) (k + 1) := by
  have ha := h.a
  have hc := h.c
  have hlo := h.lo
  by_cases h0 : n = 0
  · subst h0
    refine ⟨?_, h.mono (by omega)⟩
    rw [e_axis_writer_put]
    simp only [bcond_if]
    rw [if_pos (by rfl)]
    rfl
  · have b0 : ((n : Int) == 0) = false := beq_eq_false_iff_ne.2 (by omega)
    rw [runP_k n (by omega)]
    have hout := h.out
    have hol : (out w).length ≤ k := h.lo
    have hw1 : w.1.length ≤ k := by have := out_len w; omega
    rw [e_axis_writer_put, flush_ax w (by omega), b0]
    simp only [bct, bcf, show ((0 : Int) == 1) = false from rfl, show ((0 : Int) == 2) = false from rfl, Option.bind_some, rf0, res_axis_writer_flush_1_ret, res_axis_writer_flush_2_ret]
    generalize out w = y at hout hol
    show _ = some (ret_axis_writer_put ((mrgK y n []).map ph) 0 0) ∧ Aw (mrgK y n [], [], 0) (k + 1)
    have q5 : ph (mkT 0 n [] []) = (0, (n : Int)) := by show (0, (n : Int) + ((0 : Nat) : Int)) = _; simp
    rcases last_cases y with hy | ⟨d, s, hy⟩
    · subst hy
      have w' : IntKind.i64.wrap (((List.length (List.map ph []) : Nat) : Int) - 1) = -1 := rfl
      refine ⟨?_, ⟨by show 1 ≤ k + 1; omega, fun s hs h1 => ?_, by show ((0 : Nat) : Int) ≤ _; omega, by show (0 : Int) ≤ 0 ∧ (0 : Int) ≤ _; omega⟩⟩
      · have c1 : decide ((-1 : Int) ≥ 0) = false := id rfl
        have b1 : (List.length (List.map ph []) + List.length [((0, (n : Int)) : YSpan.den)]) * 16 ≤ 140737488355328 := c16 0 1 (by decide)
        simp only [w', c1, bcond_if, show (false == true) = false from rfl, Bool.false_eq_true, if_false]
        rw [if_pos b1]
        show some (ret_axis_writer_put [(0, (n : Int))] 0 0) = some (ret_axis_writer_put [ph (mkT 0 n [] [])] 0 0)
        rw [q5]
      · have : s = mkT 0 n [] [] := by simpa [mrgK] using hs
        rw [this, sn_mk]; exact ⟨by omega, by omega, rfl, rfl⟩
    · subst hy
      have hlen : (List.map ph (d ++ [s])).length = d.length + 1 := by simp
      have hdl : d.length + 1 ≤ k := by simpa using hol
      have wl : IntKind.i64.wrap (((List.map ph (d ++ [s])).length : Int) - 1) = ((d.length : Nat) : Int) := wnat (by rw [hlen]; omega) (by omega)
      have em : List.map ph (d ++ [s]) = List.map ph d ++ [ph s] := by simp
      have at1 : at_ (e := YSpan) (List.map ph (d ++ [s])) ((d.length : Nat) : Int) = ph s := by
        have := at_lastS (List.map ph d) (ph s)
        rw [List.length_map, ← em] at this
        exact this
      have c1 : decide (((d.length : Nat) : Int) ≥ 0) = true := decide_eq_true (by omega)
      have c2 : d.length < (List.map ph (d ++ [s])).length := by omega
      have e1 : (ph s).1 = sk s := rfl
      have b1 : ((List.map ph (d ++ [s])).length + List.length [((0, (n : Int)) : YSpan.den)]) * 16 ≤ 140737488355328 := c16 _ _ (by rw [hlen]; simp; omega)
      rw [mrg_last]
      simp only [wl, at1, bcond_if, c1, beq_self_eq_true, if_true, inb, c2, e1]
      by_cases k0 : sk s = 0
      · obtain ⟨z1, z2, z3, z4⟩ := hout s (by simp) k0
        rw [k0, z3]
        rw [if_pos (show ((0 : Int) = 0 ∧ eqA [] [] = true) from ⟨rfl, eqA_nil⟩)]
        simp only [beq_self_eq_true, if_true]
        have e2 : (ph s).2 = Delta.sn s := by show Delta.sn s + ((se s).length : Int) = _; rw [z4]; simp
        have wn : IntKind.i64.wrap (Delta.sn s + n) = Delta.sn s + n := w64 (by omega) (by omega)
        refine ⟨?_, ⟨by rw [out_len]; show (d ++ [mkT 0 (Delta.sn s + n) [] (se s)]).length + 0 + 0 ≤ _; simp; omega, fun q hq h1 => ?_, by show ((0 : Nat) : Int) ≤ _; omega, by show (0 : Int) ≤ 0 ∧ (0 : Int) ≤ _; omega⟩⟩
        · rw [e2, wn, em, Int.toNat_natCast]
          have : List.set (List.map ph d ++ [ph s]) d.length ((0, Delta.sn s + n) : YSpan.den) = List.map ph d ++ [(0, Delta.sn s + n)] := by
            have e3 : d.length = (List.map ph d).length := by simp
            rw [e3]; simp
          rw [this]
          have : List.map ph (d ++ [mkT 0 (Delta.sn s + n) [] (se s)]) = List.map ph d ++ [(0, Delta.sn s + n)] := by
            rw [List.map_append, z4]
            show _ ++ [((0, Delta.sn s + n + ((0 : Nat) : Int)) : YSpan.den)] = _
            rw [show ((0 : Nat) : Int) = 0 from rfl, Int.add_zero]
          rw [this]
        · rcases List.mem_append.1 hq with hq | hq
          · have := hout q (by simp [hq]) h1
            exact ⟨this.1, by omega, this.2.2⟩
          · rw [List.mem_singleton.1 hq, sn_mk]
            exact ⟨by omega, by omega, rfl, z4⟩
      · have k0' : (sk s == 0) = false := by simpa using k0
        rw [if_neg (show ¬ (sk s = 0 ∧ eqA (sa s) [] = true) from fun z => k0 z.1)]
        simp only [k0', Bool.false_eq_true, if_false, if_pos b1]
        refine ⟨?_, ⟨by rw [out_len]; show (d ++ [s] ++ [mkT 0 n [] []]).length + 0 + 0 ≤ _; simp; omega, fun q hq h1 => ?_, by show ((0 : Nat) : Int) ≤ _; omega, by show (0 : Int) ≤ 0 ∧ (0 : Int) ≤ _; omega⟩⟩
        · rw [List.map_append (l₁ := d ++ [s])]
          show _ = some (ret_axis_writer_put (_ ++ [ph (mkT 0 n [] [])]) 0 0)
          rw [q5]
        · rcases List.mem_append.1 hq with hq | hq
          · have := hout q hq h1
            exact ⟨this.1, by omega, this.2.2⟩
          · rw [List.mem_singleton.1 hq, sn_mk]
            exact ⟨by omega, by omega, rfl, rfl⟩
theorem done_ax {w : W} {k : Nat} (h : Aw w k) (hk : k ≤ 600000) : ∃ z, C_axis_writer_done F_axis_writer_done (no w) (w.2.1.length : Int) w.2.2 = some z ∧ res_axis_writer_done_0 z = (if Axis.E ((out w).map ph) = 0 then (out w).map ph else []) ∧ res_axis_writer_done_1 z = (if Axis.E ((out w).map ph) = 0 then 0 else 3) := by
  have hlo := h.lo
  have hol : ((out w).map ph).length ≤ k := by rw [List.length_map]; exact hlo
  have hw1 : w.1.length ≤ k := by have := out_len w; omega
  rw [e_axis_writer_done, flush_ax w (by omega)]
  simp only [Option.bind_some, res_axis_writer_flush_0_ret, res_axis_writer_flush_1_ret, res_axis_writer_flush_2_ret, Axis.check_eq _ (show ((out w).map ph).length ≤ 1048576 by omega), res_axis_Check_0_ret, bcond_if]
  by_cases hz : Axis.E ((out w).map ph) = 0
  · refine ⟨ret_axis_writer_done ((out w).map ph) 0 none 0 0, by simp [hz], ?_, ?_⟩
    · rw [if_pos hz]; rfl
    · rw [if_pos hz]; rfl
  · refine ⟨ret_axis_writer_done [] 3 (some ((out w).map ph)) 0 0, by simp [hz], ?_, ?_⟩
    · rw [if_neg hz]; rfl
    · rw [if_neg hz]; rfl
theorem afts_nn : ∀ {l : Delta.Steps}, (∀ s ∈ l, Delta.sErr s = 0) → 0 ≤ afts l
  | [], _ => by simp [afts]
  | s :: l, h => by
    have := afts_nn (l := l) (fun t ht => h t (by simp [ht]))
    have := (one_pos (p := none) (one_of (h s (by simp)) (fun q h => by cases h))).2
    simp only [afts]; omega
def pn (s : YStep.den) : Int := sn s + ((se s).length : Int)
/-- A valid delta of which only the numbers count is a valid change of an axis. -/
theorem err_ph : ∀ (l : Delta.Steps) (p : Option YStep.den) (b a : Int), dErr p b a l = 0 → 0 ≤ a → (∀ s ∈ l, sk s = 0 → sa s = []) → (∀ q, p = some q → sk q = 0 → sa q = []) → Axis.err (p.map sk) b a (l.map ph) = 0
  | [], p, b, a, h, _, _, _ => by
    simp only [dErr] at h
    simp only [List.map_nil, Axis.err]
    exact h
  | s :: l, p, b, a, h, h0, hl, hp => by
    have hall := dErr_zero (s :: l) p b a h
    have hnn := afts_nn (l := l) (fun t ht => hall.1 t (by simp [ht]))
    simp only [afts] at hall
    simp only [dErr] at h
    split at h
    · rename_i h1; exact absurd h h1
    rename_i h1
    have h1 : dOne p s = 0 := Decidable.not_not.1 h1
    have hz := dOne_zero h1
    have kz : (sk s = 0 ∨ sk s = 1 ∨ sk s = 2) ∧ 1 ≤ (pn s) ∧ (pn s) ≤ 2147483647 ∧ Axis.addB (sk s) (pn s) b = Delta.addB s b ∧ Axis.addA (sk s) (pn s) a = Delta.addA s a ∧ 0 ≤ Delta.addA s a := by
      have e2 : @Eq Int (pn s) (Delta.sn s + ((se s).length : Int)) := rfl
      have hA := hall.2.2
      rcases Delta.sErr_zero hz.1 with ⟨k1, k2, k3, k4, k5⟩ | ⟨k1, k2, k3, k4, k5⟩
      · have len1 : 1 ≤ (se s).length := by
          cases hq : se s with
          | nil => exact absurd hq k4
          | cons x y => simp
        have hs : Delta.addA s a = a + ((se s).length : Int) := by unfold Delta.addA ssz; rw [if_neg (by omega), if_pos k1]
        have hs0 : Delta.addA s 0 = ((se s).length : Int) := by unfold Delta.addA ssz; rw [if_neg (by omega), if_pos k1]; omega
        have hb : Delta.addB s b = b := by unfold Delta.addB; rw [if_pos k1]
        have a1 : Axis.addB (sk s) (pn s) b = b := by unfold Axis.addB; rw [if_pos k1]
        have a2 : Axis.addA (sk s) (pn s) a = a + (pn s) := by unfold Axis.addA; rw [if_neg (by omega)]
        rw [a1, a2, hs, hb]
        exact ⟨.inr (.inl k1), by omega, by omega, rfl, by omega, by omega⟩
      · have e3 : @Eq Int (pn s) (Delta.sn s) := by rw [e2, k2]; simp
        have n1 : ¬ sk s = 1 := by rcases k1 with k1 | ⟨k1, _⟩ <;> omega
        have hb : Delta.addB s b = b + Delta.sn s := by unfold Delta.addB; rw [if_neg n1]
        have a1 : Axis.addB (sk s) (pn s) b = b + (pn s) := by unfold Axis.addB; rw [if_neg n1]
        have hs : Delta.addA s a = if sk s = 2 then a else a + Delta.sn s := by unfold Delta.addA ssz; rw [if_neg n1]
        have a2 : Axis.addA (sk s) (pn s) a = if sk s = 2 then a else a + (pn s) := rfl
        rw [a1, a2, hs, hb, e3]
        refine ⟨by rcases k1 with k1 | ⟨k1, _⟩ <;> omega, by omega, by omega, rfl, rfl, by split <;> omega⟩
    have ih := err_ph l (some s) _ _ h kz.2.2.2.2.2 (fun t ht => hl t (by simp [ht])) (fun q hq => by injection hq with hq; rw [← hq]; exact hl s (by simp))
    have hs : Axis.sErr (p.map sk) (sk s) (pn s) = 0 := by
      unfold Axis.sErr
      rw [if_neg (by rcases kz.1 with q | q | q <;> omega), if_neg (by omega)]
      cases p with
      | none => rfl
      | some q =>
        show (if sk q = sk s ∨ sk q = 2 ∧ sk s = 1 then (5 : Int) else 0) = 0
        have ho := hz.2 q rfl
        rw [if_neg]
        rintro (e | ⟨e1, e2⟩)
        · unfold ord at ho
          rw [e] at ho
          by_cases k0 : sk s = 0
          · have hs0 := hl s (by simp) k0
            have hq0 := hp q rfl (by rw [e]; exact k0)
            rw [hs0, hq0, eqA_nil] at ho
            simp at ho
          · have : (sk s != 0) = true := by simpa using k0
            rw [this] at ho
            simp at ho
        · unfold ord at ho
          rw [e1, e2] at ho
          simp at ho
    show (if Axis.sErr (p.map sk) (Axis.sk (ph s)) (Axis.sn (ph s)) ≠ 0 then _ else Axis.err (some (Axis.sk (ph s))) (Axis.addB (Axis.sk (ph s)) (Axis.sn (ph s)) b) (Axis.addA (Axis.sk (ph s)) (Axis.sn (ph s)) a) (l.map ph)) = 0
    have e1 : Axis.sk (ph s) = sk s := rfl
    have e2 : Axis.sn (ph s) = (pn s) := rfl
    rw [e1, e2, if_neg (by rw [hs]; decide), kz.2.2.2.1, kz.2.2.2.2.1]
    exact ih
end Go.Ev.AxisP
