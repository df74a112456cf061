
import Derived.Test.YteojfhgljknmiaaDoorPUtf
import Derived.Test.YteojfhgljknmiaaDoorGFlows
import Derived.Test.YteojfhgljknmiaaDoorPFlowB
namespace Go.Ev.Utf
open Go.Ev Go.Ev.Attr Go.Ev.Track Go.Ev.Delta
set_option linter.unusedVariables false
set_option linter.unusedSimpArgs false
noncomputable def wc (s : List UInt8) : Int := IntKind.i64.wrap (dc s)
/-- Elements for a text, or an error; `k` letters at most. -/
noncomputable def ofL (a : Attrs) : Nat → List UInt8 → Flow → Flow × Int
  | 0, _, out => (out, 0)
  | k + 1, s, out => bcond (s.length == 0) (out, 0) (bcond ((dc s == 65533) && ((dn s : Int) == 1)) ([], 10) (bcond (chr (wc s)) (ofL a k (s.drop (dn s)) (out ++ [mkE (wc s) 0 a])) ([], 2)))
theorem bT {A : Type} (x y : A) : bcond true x y = x := rfl
theorem bF {A : Type} (x y : A) : bcond false x y = y := rfl
theorem drop_all (s : List UInt8) (n : Nat) : List.drop (Int.toNat (n : Int)) (List.take (Int.toNat (s.length : Int)) s) = s.drop n := by
  rw [Int.toNat_natCast, Int.toNat_natCast, List.take_length]
theorem ne_nil {s : List UInt8} (h : 1 ≤ s.length) : (s == []) = false := by
  cases s with
  | nil => simp at h
  | cons x s => rfl
theorem of_loop (a : Attrs) (ha : a.length ≤ 1048576) (n : Nat) : ∀ (k m : Nat) (s : List UInt8) (out : Flow), s.length ≤ k → k < m → out.length + s.length ≤ 1048576 →
    L_flow_Of_0 n m s a out = some (ret_flow_Of (ofL a (k + 1) s out).1 (ofL a (k + 1) s out).2) := by
  intro k
  induction k with
  | zero =>
    intro m s out h1 h2 h3
    obtain ⟨m, rfl⟩ : ∃ q, m = q + 1 := ⟨m - 1, by omega⟩
    obtain rfl : s = [] := List.eq_nil_of_length_eq_zero (by omega)
    rw [L_flow_Of_0_step]
    rfl
  | succ k ih =>
    intro m s out h1 h2 h3
    obtain ⟨m, rfl⟩ : ∃ q, m = q + 1 := ⟨m - 1, by omega⟩
    by_cases h0 : s.length = 0
    · obtain rfl : s = [] := List.eq_nil_of_length_eq_zero h0
      rw [L_flow_Of_0_step]
      rfl
    obtain ⟨d1, d2, d3⟩ := dec_eq s (by omega)
    have b1 : List.length (a : List YAttr.den) * 32 ≤ 140737488355328 := by omega
    have b2 : (List.length (out : List YElem.den) + List.length ([mkE (wc s) 0 a] : List YElem.den)) * 40 ≤ 140737488355328 := by simp only [List.length_cons, List.length_nil]; omega
    have b3 : 0 ≤ (s.length : Int) ∧ (s.length : Int) ≤ (s.length : Int) ∧ 0 ≤ (dn s : Int) ∧ (dn s : Int) ≤ (s.length : Int) := by omega
    have b2' : (List.length (out : List YElem.den) + List.length ([(wc s, (0, a))] : List YElem.den)) * 40 ≤ 140737488355328 := b2
    have ihx := ih m (s.drop (dn s)) (out ++ [mkE (wc s) 0 a]) (by rw [List.length_drop]; omega) (by omega) (by rw [List.length_append, List.length_drop]; simp only [List.length_cons, List.length_nil]; omega)
    have ihy : L_flow_Of_0 n m (s.drop (dn s)) a (out ++ [(wc s, (0, a))]) = _ := ihx
    have h0' : (s.length == 0) = false := beq_eq_false_iff_ne.2 h0
    have e2 : IntKind.i64.wrap (dc s) = wc s := rfl
    rw [L_flow_Of_0_step, ne_nil (by omega), d1, ofL, h0', bF]
    simp only [Option.bind_some, res_unicode_utf8_DecodeRuneInString_0_ret, res_unicode_utf8_DecodeRuneInString_1_ret, char_eq, res_flow_Char_0_ret, if_pos b1, if_pos b3, if_pos b2', drop_all, Bool.not_false, bT, ihy, e2]
    generalize ofL a (k + 1) (List.drop (dn s) s) (out ++ [mkE (wc s) 0 a]) = R
    generalize (dc s == 65533) = q1
    generalize ((dn s : Int) == 1) = q2
    generalize chr (wc s) = q3
    cases q1 <;> cases q2 <;> cases q3 <;> rfl
theorem of_eq (s : List UInt8) (a : Attrs) (hs : s.length ≤ 1048576) (ha : Sh a) : C_flow_Of F_flow_Of s a = some (if err false a ≠ 0 then ret_flow_Of [] (err false a) else ret_flow_Of (ofL a (s.length + 1) s []).1 (ofL a (s.length + 1) s []).2) := by
  rw [e_flow_Of, check_eq a ha]
  simp only [Option.bind_some, res_attr_Check_0_ret, bcond_if]
  have := of_loop a ha.1 big s.length big s [] (Nat.le_refl _) (by have := big_ge (n := s.length + 1) (by omega); omega) (by simpa using hs)
  rw [this]
  by_cases h : err false a = 0
  · simp [h]
  · simp [h]
theorem dc_asc (b : UInt8) (s : List UInt8) (h : b.toNat < 128) : dc (b :: s) = (b.toNat : Int) ∧ dn (b :: s) = 1 := by
  unfold dc dn dR
  rw [dec_asc b s h]
  exact ⟨rfl, rfl⟩
def bold : Attrs := [mkA [98, 111, 108, 100] [111, 110]]
theorem sh_bold : Sh bold := ⟨by decide, fun i => by
  match i with
  | 0 => exact ⟨by decide, by decide⟩
  | i + 1 => 
    have : atA bold (i + 1) = nul := by unfold atA at_; simp [List.getD_eq_getElem?_getD, bold]; rfl
    rw [this]; exact ⟨by decide, by decide⟩⟩
theorem of_ab : ofL bold 3 [97, 98] [] = ([mkE 97 0 bold, mkE 98 0 bold], 0) := by
  obtain ⟨a1, a2⟩ := dc_asc 97 [98] (by decide)
  obtain ⟨b1, b2⟩ := dc_asc 98 [] (by decide)
  have w1 : wc [97, 98] = 97 := by unfold wc; rw [a1]; rfl
  have w2 : wc [98] = 98 := by unfold wc; rw [b1]; rfl
  rw [ofL, a1, w1, a2]
  show ofL bold 2 [98] [mkE 97 0 bold] = _
  rw [ofL, b1, w2, b2]
  rfl
theorem flows_eq : C_law_flows F_law_flows = some (ret_law_flows true) := by
  have A3 : C_law_on F_law_on [98, 111, 108, 100] = some (ret_law_on bold) := by rw [e_law_on]; rfl
  have h1 := of_eq [97, 98] bold (by decide) sh_bold
  have h2 : err false bold = 0 := by decide
  rw [if_neg (by rw [h2]; exact fun h => h rfl)] at h1
  have h3 : (ofL bold ([97, 98] : List UInt8).length.succ [97, 98] []) = ([mkE 97 0 bold, mkE 98 0 bold], 0) := of_ab
  have h1' : C_flow_Of F_flow_Of [97, 98] bold = some (ret_flow_Of [mkE 97 0 bold, mkE 98 0 bold] 0) := by rw [h1]; rw [h3]
  have h4 := (flow_eq [] true fs_nil).1
  have h5 := same35 bold bold (by decide)
  have h6 : eqA bold bold = true := (eqA_iff _ _).2 rfl
  rw [e_law_flows, A3]
  simp only [Option.bind_some]
  have e0 : res_law_on_0 (ret_law_on bold) = bold := rfl
  rw [e0, h1']
  simp only [Option.bind_some]
  have e1 : (at_ (e := YElem) (res_flow_Of_0 (ret_flow_Of [mkE 97 0 bold, mkE 98 0 bold] 0)) 0).2.2 = bold := rfl
  rw [e1, h5, h6, h4]
  rfl
end Go.Ev.Utf
