
import Derived.Test.YteojfhgljknmiaaDoorPFof
import Derived.Test.YteojfhgljknmiaaDoorGFlowO
namespace Go.Ev.Utf
open Go.Ev Go.Ev.Attr Go.Ev.Track Go.Ev.Delta
set_option linter.unusedVariables false
set_option linter.unusedSimpArgs false
theorem texted_loop (a : Attrs) (s : List UInt8) (hs : s.length ≤ 1048576) (n : Nat) : ∀ (k m i : Nat) (out : Flow), i ≤ s.length → s.length - i ≤ k → k < m → out.length + (s.length - i) ≤ 1048576 →
    L_R_Texted_0 n m s a out (i : Int) = some (ret_R_Texted (ofL a (k + 1) (s.drop i) out).1 (ofL a (k + 1) (s.drop i) out).2) := by
  intro k
  induction k with
  | zero =>
    intro m i out h0 h1 h2 h3
    obtain ⟨m, rfl⟩ : ∃ q, m = q + 1 := ⟨m - 1, by omega⟩
    obtain rfl : i = s.length := by omega
    rw [L_R_Texted_0_step, dlt_self, List.drop_length]
    rfl
  | succ k ih =>
    intro m i out h0 h1 h2 h3
    obtain ⟨m, rfl⟩ : ∃ q, m = q + 1 := ⟨m - 1, by omega⟩
    by_cases h4 : i = s.length
    · subst h4
      rw [L_R_Texted_0_step, dlt_self, List.drop_length]
      rfl
    have hl : (s.drop i).length = s.length - i := List.length_drop
    obtain ⟨d1, d2, d3⟩ := dec_eq (s.drop i) (by omega)
    have b2' : (List.length (out : List YElem.den) + List.length ([(wc (s.drop i), (0, a))] : List YElem.den)) * 40 ≤ 140737488355328 := by simp only [List.length_cons, List.length_nil]; omega
    have b3 : 0 ≤ (s.length : Int) ∧ (s.length : Int) ≤ (s.length : Int) ∧ 0 ≤ (i : Int) ∧ (i : Int) ≤ (s.length : Int) := by omega
    have w1 : IntKind.i64.wrap ((i : Int) + (dn (s.drop i) : Int)) = ((i + dn (s.drop i) : Nat) : Int) := wnat (by omega) (by omega)
    have ihx := ih m (i + dn (s.drop i)) (out ++ [mkE (wc (s.drop i)) 0 a]) (by omega) (by omega) (by omega) (by rw [List.length_append]; simp only [List.length_cons, List.length_nil]; omega)
    have hd : s.drop (i + dn (s.drop i)) = (s.drop i).drop (dn (s.drop i)) := by rw [List.drop_drop]
    rw [hd] at ihx
    have ihy : L_R_Texted_0 n m s a (out ++ [(wc (s.drop i), (0, a))]) ((i + dn (s.drop i) : Nat) : Int) = _ := ihx
    have h0' : ((s.drop i).length == 0) = false := beq_eq_false_iff_ne.2 (by omega)
    have e2 : IntKind.i64.wrap (dc (s.drop i)) = wc (s.drop i) := rfl
    have hlt : decide ((dn (s.drop i) : Int) < 2) = ((dn (s.drop i) : Int) == 1) := by
      by_cases h : dn (s.drop i) = 1
      · rw [h]; rfl
      · rw [decide_eq_false (by omega), beq_eq_false_iff_ne.2 (by omega)]
    rw [L_R_Texted_0_step, dlt (show i < s.length by omega), bT, if_pos b3, drop_all, d1, ofL, h0', bF]
    simp only [Option.bind_some, Go.Ev.Utf.rd0, Go.Ev.Utf.rd1, rchar_eq, res_R_Char_0_ret, if_pos b2', w1, ihy, hlt, e2]
    generalize ofL a (k + 1) (List.drop (dn (s.drop i)) (s.drop i)) (out ++ [mkE (wc (s.drop i)) 0 a]) = R
    generalize (dc (s.drop i) == 65533) = q1
    generalize ((dn (s.drop i) : Int) == 1) = q2
    generalize chr (wc (s.drop i)) = q3
    cases q1 <;> cases q2 <;> cases q3 <;> rfl
theorem texted_eq (s : List UInt8) (a : Attrs) (hs : s.length ≤ 1048576) (ha : Sh a) : C_R_Texted F_R_Texted s a = some (if err false a ≠ 0 then ret_R_Texted [] (err false a) else ret_R_Texted (ofL a (s.length + 1) s []).1 (ofL a (s.length + 1) s []).2) := by
  rw [e_R_Texted, rerr_eq a ha]
  simp only [Option.bind_some, res_R_AttrsError_0_ret, bcond_if]
  have := texted_loop a s hs big s.length big 0 [] (by omega) (by omega) (by have := big_ge (n := s.length + 1) (by omega); omega) (by simpa using hs)
  have h0 : ((0 : Nat) : Int) = 0 := rfl
  rw [h0] at this
  rw [this]
  by_cases h : err false a = 0
  · simp [h]
  · simp [h]
/-- What comes back is no longer than the text, and has its attributes. -/
theorem ofL_fs (a : Attrs) (ha : Sh a) : ∀ (k : Nat) (s : List UInt8) (out : Flow), out.length + s.length ≤ 1048576 → (∀ x ∈ out, ea x = a) → Fs (ofL a k s out).1 := by
  intro k
  induction k with
  | zero => intro s out h1 h2; exact fs_of (by show out.length ≤ _; omega) (fun x hx => by rw [h2 x hx]; exact ha)
  | succ k ih =>
    intro s out h1 h2
    have base : Fs out := fs_of (by omega) (fun x hx => by rw [h2 x hx]; exact ha)
    rw [ofL]
    cases h0 : (s.length == 0)
    · have hne : s.length ≠ 0 := beq_eq_false_iff_ne.1 h0
      obtain ⟨d1, d2, d3⟩ := dec_eq s (by omega)
      rw [bF]
      cases ((dc s == 65533) && ((dn s : Int) == 1))
      · rw [bF]
        cases chr (wc s)
        · exact fs_nil
        · rw [bT]
          refine ih _ _ (by rw [List.length_append, List.length_drop]; simp only [List.length_cons, List.length_nil]; omega) (fun x hx => ?_)
          rcases List.mem_append.1 hx with hx | hx
          · exact h2 x hx
          · have : x = mkE (wc s) 0 a := by simpa using hx
            rw [this]; rfl
      · exact fs_nil
    · exact base
theorem law_FlowOf (s : List UInt8) (l : Attrs) (os : (Ty.str).ok s) (ol : (Ty.list YAttr).ok l) (hb : (Ty.str).bulk s + ((Ty.list YAttr).bulk l + 0) ≤ 1048576) : F_law_FlowOfMatches (s, l, ()) () = some (ret_law_FlowOfMatches true) := by
  show C_law_FlowOfMatches F_law_FlowOfMatches s l = _
  have hs : s.length ≤ 1048576 := by simp only [Ty.bulk] at hb; omega
  have ha : Sh l := sh_of l (by omega)
  rw [e_law_FlowOfMatches, flows_eq, of_eq s l hs ha, texted_eq s l hs ha]
  simp only [Option.bind_some, res_law_flows_0_ret, Bool.not_true, bF]
  by_cases h : err false l = 0
  · rw [if_neg (fun z => z h), if_neg (fun z => z h)]
    simp only [res_flow_Of_0_ret, res_flow_Of_1_ret, res_R_Texted_0_ret, res_R_Texted_1_ret, beq_self_eq_true, bT]
    rw [sflow_eq _ _ (ofL_fs l ha _ s [] (by simpa using hs) (fun x hx => by simp at hx)), (eqF_iff _ _).2 rfl]
    rfl
  · rw [if_pos h, if_pos h]
    simp only [res_flow_Of_0_ret, res_flow_Of_1_ret, res_R_Texted_0_ret, res_R_Texted_1_ret, beq_self_eq_true, bT]
    rw [sflow_eq _ _ fs_nil, (eqF_iff _ _).2 rfl]
    rfl
end Go.Ev.Utf
