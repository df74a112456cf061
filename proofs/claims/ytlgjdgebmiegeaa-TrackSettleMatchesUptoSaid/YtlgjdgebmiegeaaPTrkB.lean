
import Derived.Test.YtlgjdgebmiegeaaPTrk
import Derived.Test.YtlgjdgebmiegeaaPFlowB
import Derived.Test.YtlgjdgebmiegeaaPInts
import Derived.Test.YtlgjdgebmiegeaaGTrk
namespace Go.Ev.Track
open Go.Ev Go.Ev.Attr
set_option linter.unusedVariables false
set_option linter.unusedSimpArgs false
theorem hidden_eq (x : YElem.den) (h : Sh (ea x)) (mode : Int) : C_track_Hidden F_track_Hidden x mode = some (ret_track_Hidden (hid x mode)) := by
  have e3 : x.2.2 = ea x := rfl
  rw [e_track_Hidden]
  simp only [e3, get_eq _ h.1, Option.bind_some, res_attr_Get_0_ret, bcond_if]
  unfold hid
  rcases two (get [104, 105, 100, 100, 101, 110] (ea x)) [111, 110] with ⟨p1, b1⟩ | ⟨p1, b1⟩ <;> rcases twoI mode 0 with ⟨p2, b2⟩ | ⟨p2, b2⟩ <;> rcases two (get [99, 117, 116] (ea x)) [] with ⟨p3, b3⟩ | ⟨p3, b3⟩ <;> rcases twoI mode 1 with ⟨p4, b4⟩ | ⟨p4, b4⟩ <;> rcases two (get [97, 100, 100] (ea x)) [] with ⟨p5, b5⟩ | ⟨p5, b5⟩ <;> simp [p1, p2, p3, p4, p5, b1, b2, b3, b4, b5]
theorem places_loop (f : Flow) (hf : Fs f) (mode : Int) (n : Nat) : ∀ (d i m : Nat) (out : List Int), i + d = f.length → d < m → out.length ≤ i → L_track_Places_0 n m f mode out f (f.length : Int) i = some (ret_track_Places (out ++ plc f.length mode i (f.drop i))) := by
  have hl := hf.1
  intro d
  induction d with
  | zero =>
    intro i m out hi hm ho
    cases m with
    | zero => omega
    | succ m =>
    have : i = f.length := by omega
    subst this
    have c1 : decide ((f.length : Int) < (f.length : Int)) = false := decide_eq_false (by omega)
    rw [L_track_Places_0_step, List.drop_length]
    simp [bcond_if, c1, plc]
  | succ d ih =>
    intro i m out hi hm ho
    cases m with
    | zero => omega
    | succ m =>
    have hil : i < f.length := by omega
    have c1 : decide ((i : Int) < (f.length : Int)) = true := decide_eq_true (by omega)
    have w1 : IntKind.i64.wrap ((i : Int) + 1) = ((i + 1 : Nat) : Int) := wnat (by omega) (by omega)
    have w2 : IntKind.i64.wrap ((f.length : Int) - 1) = (f.length : Int) - 1 := w64 (by omega) (by omega)
    have ex : at_ (e := YElem) f (i : Int) = atE f i := rfl
    have e1 : (atE f i).1 = ec (atE f i) := rfl
    have b1 : (out.length + [(i : Int)].length) * 8 ≤ 140737488355328 := Nat.le_trans (Nat.mul_le_mul_right 8 (Nat.add_le_add_right (show out.length ≤ 1048576 by omega) 1)) (by decide)
    rw [L_track_Places_0_step, drop_elem f hil]
    simp only [bcond_if, inb, hil, c1, if_true, w1, w2, ex, e1, hidden_eq _ (hf.2 i), Option.bind_some, res_track_Hidden_0_ret, plc, b1, ih (i + 1) m (out ++ [(i : Int)]) (by omega) (by omega) (by simp; omega), ih (i + 1) m out (by omega) (by omega) (by omega)]
    have eT : ((i + 1 : Nat) : Int) = (i : Int) + 1 := by omega
    rw [eT]
    cases hid (atE f i) mode <;> by_cases h1 : (i : Int) = (f.length : Int) - 1 <;> by_cases h2 : ec (atE f i) = 10 <;> simp [h1, h2]
theorem shown_eq (f : Flow) (hf : Fs f) (mode : Int) : C_track_Shown F_track_Shown f mode = some (if pErr f ≠ 0 then ret_track_Shown [] (pErr f) else if mode < 0 ∨ 2 < mode then ret_track_Shown [] 1 else ret_track_Shown (plc f.length mode 0 f) 0) := by
  have hl := hf.1
  obtain ⟨m, hm⟩ := big_succ (n := 1048577) (by omega)
  have hp := places_loop f hf mode big f.length 0 big [] (by omega) (by omega) (by simp)
  have h93 : C_track_Places F_track_Places f mode = some (ret_track_Places (plc f.length mode 0 f)) := by
    rw [e_track_Places]
    simpa using hp
  rw [e_track_Shown, (part_eq f hf).1, h93]
  simp only [Option.bind_some, res_flow_CheckPart_0_ret, res_track_Places_0_ret, bcond_if]
  by_cases h : pErr f = 0
  · by_cases h1 : mode < 0
    · simp [h, h1]
    · by_cases h2 : 2 < mode
      · simp [h, h1, h2]
      · simp [h, h1, h2]
  · simp [h]
theorem tracks_facts : C_law_tracks F_law_tracks = some (ret_law_tracks true) := by
  have s0 : Sh ([] : Attrs) := sh_small _ (by decide) (by simp)
  have s1 : Sh [mkA [99, 117, 116] [120]] := sh_small _ (by decide) (by decide)
  have hf : Fs [mkE 97 0 [], mkE 98 0 [mkA [99, 117, 116] [120]], mkE 10 0 []] := by
    refine ⟨by decide, fun i => ?_⟩
    have : i = 0 ∨ i = 1 ∨ i = 2 ∨ 3 ≤ i := by omega
    rcases this with rfl | rfl | rfl | h
    · exact s0
    · exact s1
    · exact s0
    · have : atE [mkE 97 0 [], mkE 98 0 [mkA [99, 117, 116] [120]], mkE 10 0 []] i = mkE 0 0 [] := by
        unfold atE at_
        rw [List.getD_eq_getElem?_getD, List.getElem?_eq_none (by simp; omega)]
        rfl
      rw [this]; exact s0
  have h := shown_eq _ hf 0
  have c1 : pErr [mkE 97 0 [], mkE 98 0 [mkA [99, 117, 116] [120]], mkE 10 0 []] = 0 := by decide
  have c2 : plc (([mkE 97 0 [], mkE 98 0 [mkA [99, 117, 116] [120]], mkE 10 0 []] : Flow).length : Int) 0 0 [mkE 97 0 [], mkE 98 0 [mkA [99, 117, 116] [120]], mkE 10 0 []] = [0, 2] := by decide
  rw [c1, c2] at h
  rw [e_law_tracks, e_law_end]
  simp only [Option.bind_some]
  change ((C_track_Shown F_track_Shown [mkE 97 0 [], mkE 98 0 [mkA [99, 117, 116] [120]], mkE 10 0 []] 0).bind _) = _
  rw [h]
  simp only [ne_eq, not_true, if_false, show ¬ ((0 : Int) < 0 ∨ (2 : Int) < 0) from by omega, Option.bind_some, res_track_Shown_0_ret, res_track_Shown_1_ret, bcond_if, ints_eq [0, 2] [0, 2] (by decide), res_R_SameInts_0_ret]
  rfl
end Go.Ev.Track
namespace Go.Ev.Delta
open Go.Ev Go.Ev.Attr Go.Ev.Track
set_option linter.unusedVariables false
set_option linter.unusedSimpArgs false
def sADD : Str := [97, 100, 100]
def sCUT : Str := [99, 117, 116]
def gv (s : Str) (x : YElem.den) : Bool := !(get s (ea x) == [])
def tk (kept lost : Str) (k l : Bool) : Attrs := if k = true then (if l = true then [mkA sADD [], mkA sCUT []] else [mkA kept []]) else if l = true then [mkA lost []] else []
section
variable (kept lost : Str) (from_ to : Int) (n : Nat)
theorem ga0 (v : Str) : res_attr_Get_0 (ret_attr_Get v) = v := id rfl
def inR (i : Nat) : Prop := from_ ≤ (i : Int) ∧ (i : Int) < to
instance (i : Nat) : Decidable (inR from_ to i) := by unfold inR; infer_instance
def sst (i : Nat) (x : YElem.den) : YStep.den := if inR from_ to i then (if gv lost x = true ∧ i + 1 < n then mkT 2 1 [] [] else mkT 0 1 (tk kept lost (gv kept x) (gv lost x)) []) else mkT 0 1 [] []
def su (i : Nat) (x : YElem.den) : U := if inR from_ to i then (if gv lost x = true ∧ i + 1 < n then .c else .k (tk kept lost (gv kept x) (gv lost x))) else .k []
def sl : Nat → Flow → Steps
  | _, [] => []
  | i, x :: f => sst kept lost from_ to n i x :: sl (i + 1) f
def us : Nat → Flow → List U
  | _, [] => []
  | i, x :: f => su kept lost from_ to n i x :: us (i + 1) f
theorem settle_loop (f : Flow) (hf : Fs f) : ∀ (d i m : Nat) (o : Steps), i + d = f.length → d < m → o.length ≤ i →
    L_track_settle_0 big m f from_ to kept lost o f (f.length : Int) (i : Int) = (C_delta_Tidy F_delta_Tidy (o ++ sl kept lost from_ to f.length i (f.drop i))).bind fun r1 => some (ret_track_settle (res_delta_Tidy_0 r1) (res_delta_Tidy_1 r1)) := by
  have hl := hf.1
  intro d
  induction d with
  | zero =>
    intro i m o hi hm ho
    obtain ⟨m, rfl⟩ : ∃ k, m = k + 1 := ⟨m - 1, by omega⟩
    have : i = f.length := by omega
    subst this
    rw [L_track_settle_0_step, List.drop_length]
    simp only [bcond_if, dlt_self, Bool.false_eq_true, if_false, sl, List.append_nil]
  | succ d ih =>
    intro i m o hi hm ho
    obtain ⟨m, rfl⟩ : ∃ k, m = k + 1 := ⟨m - 1, by omega⟩
    have hil : i < f.length := by omega
    have w1 := wsucc hil (show f.length ≤ 4611686018427387904 by omega)
    have w2 : IntKind.i64.wrap ((f.length : Int) - 1) = (f.length : Int) - 1 := w64 (by omega) (by omega)
    have ex : at_ (e := YElem) f (i : Int) = atE f i := rfl
    have e3 : (atE f i).2.2 = ea (atE f i) := rfl
    have g := fun s => get_eq (ea (atE f i)) (hf.2 i).1 s
    have b1 : ∀ x : YStep.den, (o.length + [x].length) * 64 ≤ 140737488355328 := fun x => b64 _ 1 (by omega) (by omega)
    have IH : ∀ s, L_track_settle_0 big m f from_ to kept lost (o ++ [s]) f (f.length : Int) ((i + 1 : Nat) : Int) = (C_delta_Tidy F_delta_Tidy (o ++ s :: sl kept lost from_ to f.length (i + 1) (f.drop (i + 1)))).bind fun r1 => some (ret_track_settle (res_delta_Tidy_0 r1) (res_delta_Tidy_1 r1)) := fun s => by
      have := ih (i + 1) m (o ++ [s]) (by omega) (by omega) (by simp; omega)
      rw [this, List.append_assoc]; rfl
    rw [drop_elem f hil]
    show _ = (C_delta_Tidy F_delta_Tidy (o ++ sst kept lost from_ to f.length i (atE f i) :: sl kept lost from_ to f.length (i + 1) (f.drop (i + 1)))).bind _
    rw [← IH, L_track_settle_0_step]
    simp only [J_track_settle_0, J_track_settle_1, bcond_if, dlt hil, inb, hil, if_true, ex, e3, g, Option.bind_some, ga0, w1, w2]
    have q1 : ((2, (1, ([], []))) : YStep.den) = mkT 2 1 [] [] := rfl
    have q2 : ((0, (1, ([], []))) : YStep.den) = mkT 0 1 [] [] := rfl
    have q3 : ((0, (1, ([([97, 100, 100], []), ([99, 117, 116], [])], []))) : YStep.den) = mkT 0 1 [mkA sADD [], mkA sCUT []] [] := rfl
    have q4 : ((0, (1, ([(kept, [])], []))) : YStep.den) = mkT 0 1 [mkA kept []] [] := rfl
    have q5 : ((0, (1, ([(lost, [])], []))) : YStep.den) = mkT 0 1 [mkA lost []] [] := rfl
    have k1 : List.length ([(kept, [])] : List YAttr.den) * 32 ≤ 140737488355328 := by show 1 * 32 ≤ 140737488355328; decide
    have k2 : List.length ([(lost, [])] : List YAttr.den) * 32 ≤ 140737488355328 := by show 1 * 32 ≤ 140737488355328; decide
    have k3 : (List.length ([(kept, [])] : List YAttr.den) + List.length ([(lost, [])] : List YAttr.den)) * 32 ≤ 140737488355328 := by show (1 + 1) * 32 ≤ 140737488355328; decide
    have gk : (!(get kept (ea (atE f i)) == [])) = gv kept (atE f i) := rfl
    have gl : (!(get lost (ea (atE f i)) == [])) = gv lost (atE f i) := rfl
    simp only [gk, gl]
    unfold sst
    by_cases h1 : from_ ≤ (i : Int)
    · by_cases h2 : (i : Int) < to
      · have c1 : decide ((i : Int) ≥ from_) = true := decide_eq_true h1
        have c2 : decide ((i : Int) < to) = true := decide_eq_true h2
        rw [if_pos (show inR from_ to i from ⟨h1, h2⟩)]
        simp only [c1, c2, beq_self_eq_true, if_true]
        cases hl : gv lost (atE f i)
        · cases hk : gv kept (atE f i)
          · simp only [Bool.false_eq_true, show (false == true) = false from rfl, if_false, false_and, tk, show ((0 : Int) == 2) = false from rfl]
            rw [if_pos (b1 _), q2]
          · simp only [Bool.false_eq_true, show (false == true) = false from rfl, if_false, if_true, false_and, tk, k1]
            have l1 : (((List.length ([(kept, [])] : List YAttr.den)) : Int) == 2) = false := rfl
            simp only [l1, Bool.false_eq_true, if_false]
            rw [if_pos (b1 _), q4]
        · by_cases h3 : i + 1 < f.length
          · have c3 : decide ((i : Int) < (f.length : Int) - 1) = true := decide_eq_true (by omega)
            simp only [beq_self_eq_true, if_true, c3, h3, and_self]
            rw [if_pos (b1 _), q1]
          · have c3 : decide ((i : Int) < (f.length : Int) - 1) = false := decide_eq_false (by omega)
            simp only [beq_self_eq_true, if_true, c3, h3, and_false, Bool.false_eq_true, if_false]
            cases hk : gv kept (atE f i)
            · have l1 : (((List.length ([(lost, [])] : List YAttr.den)) : Int) == 2) = false := rfl
              simp only [Bool.false_eq_true, if_false, if_true, tk, k2, l1]
              rw [if_pos (b1 _), q5]
            · have l1 : (((List.length ([(kept, [])] ++ [(lost, [])] : List YAttr.den)) : Int) == 2) = true := rfl
              simp only [if_true, tk, k1, k3, l1]
              rw [if_pos (b1 _), q3]
      · have c1 : decide ((i : Int) ≥ from_) = true := decide_eq_true h1
        have c2 : decide ((i : Int) < to) = false := decide_eq_false h2
        rw [if_neg (show ¬ inR from_ to i from fun z => h2 z.2)]
        simp only [c1, c2, beq_self_eq_true, if_true, Bool.false_eq_true, if_false]
        rw [if_pos (b1 _), q2]
    · have c1 : decide ((i : Int) ≥ from_) = false := decide_eq_false h1
      rw [if_neg (show ¬ inR from_ to i from fun z => h1 z.1)]
      simp only [c1, show (false == true) = false from rfl, Bool.false_eq_true, if_false]
      rw [if_pos (b1 _), q2]
end
end Go.Ev.Delta
namespace Go.Ev.Delta
open Go.Ev Go.Ev.Attr Go.Ev.Track
set_option linter.unusedVariables false
set_option linter.unusedSimpArgs false
section
variable (kept lost : Str) (from_ to : Int) (n : Nat)
theorem sl_len : ∀ (i : Nat) (f : Flow), (sl kept lost from_ to n i f).length = f.length
  | i, [] => rfl
  | i, x :: f => by show (sl kept lost from_ to n (i + 1) f).length + 1 = _; rw [sl_len (i + 1) f]; rfl
theorem us_len : ∀ (i : Nat) (f : Flow), (us kept lost from_ to n i f).length = f.length
  | i, [] => rfl
  | i, x :: f => by show (us kept lost from_ to n (i + 1) f).length + 1 = _; rw [us_len (i + 1) f]; rfl
theorem sl_ex : ∀ (i : Nat) (f : Flow), ex (sl kept lost from_ to n i f) = us kept lost from_ to n i f
  | i, [] => rfl
  | i, x :: f => by
    show exS (sst kept lost from_ to n i x) ++ ex (sl kept lost from_ to n (i + 1) f) = su kept lost from_ to n i x :: us kept lost from_ to n (i + 1) f
    rw [sl_ex (i + 1) f]
    have : exS (sst kept lost from_ to n i x) = [su kept lost from_ to n i x] := by
      unfold sst su
      split
      · split <;> rfl
      · rfl
    rw [this]; rfl
theorem us_get : ∀ (f : Flow) (i j : Nat) (h : j < f.length), (us kept lost from_ to n i f)[j]'(by rw [us_len]; exact h) = su kept lost from_ to n (i + j) f[j]
  | [], i, j, h => by simp at h
  | x :: f, i, 0, h => rfl
  | x :: f, i, j + 1, h => by
    show (us kept lost from_ to n (i + 1) f)[j]'_ = su kept lost from_ to n (i + (j + 1)) (f[j]'(by simpa using h))
    rw [us_get f (i + 1) j (by simpa using h)]
    rw [show i + 1 + j = i + (j + 1) by omega]
theorem su_noA (i : Nat) (x : YElem.den) : isA (su kept lost from_ to n i x) = false := by
  unfold su
  split
  · split <;> rfl
  · rfl
theorem us_mem : ∀ (i : Nat) (f : Flow), ∀ u ∈ us kept lost from_ to n i f, ∃ j, ∃ x ∈ f, u = su kept lost from_ to n j x
  | i, [], u, hu => by simp [us] at hu
  | i, x :: f, u, hu => by
    rcases List.mem_cons.1 (show u ∈ su kept lost from_ to n i x :: us kept lost from_ to n (i + 1) f from hu) with rfl | hu
    · exact ⟨i, x, by simp, rfl⟩
    · obtain ⟨j, y, hy, e⟩ := us_mem (i + 1) f u hu
      exact ⟨j, y, by simp [hy], e⟩
theorem sl_mem : ∀ (i : Nat) (f : Flow), ∀ u ∈ sl kept lost from_ to n i f, ∃ j, ∃ x ∈ f, u = sst kept lost from_ to n j x
  | i, [], u, hu => by simp [sl] at hu
  | i, x :: f, u, hu => by
    rcases List.mem_cons.1 (show u ∈ sst kept lost from_ to n i x :: sl kept lost from_ to n (i + 1) f from hu) with rfl | hu
    · exact ⟨i, x, by simp, rfl⟩
    · obtain ⟨j, y, hy, e⟩ := sl_mem (i + 1) f u hu
      exact ⟨j, y, by simp [hy], e⟩
end
theorem add_cut : strLess sADD sCUT = true := by decide
/-- One of the two ways. -/
def Way (kept lost : Str) : Prop := (kept = sADD ∧ lost = sCUT) ∨ (kept = sCUT ∧ lost = sADD)
theorem tk_off {kept lost : Str} (h : Way kept lost) (k l : Bool) : Off (tk kept lost k l) := by
  unfold tk
  split
  · split
    · exact off_two _ _ add_cut
    · exact off_one _
  · split
    · exact off_one _
    · exact off_nil
theorem tk_names {kept lost : Str} (h : Way kept lost) (k l : Bool) (s : Str) : (∃ y ∈ tk kept lost k l, an y = s) ↔ (k = true ∧ s = kept) ∨ (l = true ∧ s = lost) := by
  have e1 : ∀ s : Str, an (mkA s []) = s := fun s => rfl
  rcases h with ⟨rfl, rfl⟩ | ⟨rfl, rfl⟩ <;> cases k <;> cases l <;> simp [tk, e1, eq_comm]
  · exact Or.comm
theorem tk_err {kept lost : Str} (h : Way kept lost) (k l : Bool) : Attr.err true (tk kept lost k l) = 0 := by
  rcases h with ⟨rfl, rfl⟩ | ⟨rfl, rfl⟩ <;> cases k <;> cases l <;> decide
theorem tk_len (kept lost : Str) (k l : Bool) : (tk kept lost k l).length ≤ 2 := by
  unfold tk
  split
  · split
    · exact Nat.le_refl _
    · exact Nat.le_succ _
  · split
    · exact Nat.le_succ _
    · exact Nat.zero_le _
theorem tk_sh {kept lost : Str} (h : Way kept lost) (k l : Bool) : Sh (tk kept lost k l) := nv_sh (by have := tk_len kept lost k l; omega) (nv_of (tk_err h k l))
theorem gv_has {x : YElem.den} (hx : Attr.err false (ea x) = 0) (s : Str) : gv s x = has s (ea x) := (has_get (full_of hx) s).symm
section
variable {kept lost : Str} (hw : Way kept lost) (from_ to : Int) (f : Flow) (hf : Fs f) (hp : pErr f = 0) (hn : f.length ≤ 349524)
include hw
theorem sst_ok (n i : Nat) (x : YElem.den) : sErr (sst kept lost from_ to n i x) = 0 ∧ Ss (sst kept lost from_ to n i x) ∧ tErr (sst kept lost from_ to n i x) = 0 ∧ sn (sst kept lost from_ to n i x) = 1 ∧ se (sst kept lost from_ to n i x) = [] := by
  have fin : ∀ s, sErr s = 0 → sn s = 1 → sk s ≠ 1 → tErr s = 0 := fun s h1 h2 h3 => by
    unfold tErr
    rw [if_neg (by rintro (⟨q, _⟩ | ⟨_, q, _⟩); exact h3 q; omega)]; exact h1
  unfold sst
  split
  · split
    · exact ⟨cut_ok 1 (by decide) (by decide), ⟨sh_nil, fs_nil⟩, fin _ (cut_ok 1 (by decide) (by decide)) rfl (by decide), rfl, rfl⟩
    · exact ⟨keep_ok 1 _ (by decide) (by decide) (tk_err hw _ _), ⟨tk_sh hw _ _, fs_nil⟩, fin _ (keep_ok 1 _ (by decide) (by decide) (tk_err hw _ _)) rfl (by rw [sk_mk]; decide), rfl, rfl⟩
  · exact ⟨keep_ok 1 _ (by decide) (by decide) rfl, ⟨sh_nil, fs_nil⟩, fin _ (keep_ok 1 _ (by decide) (by decide) rfl) rfl (by decide), rfl, rfl⟩
theorem su_ok (n i : Nat) (x : YElem.den) : okU (su kept lost from_ to n i x) := by
  unfold su
  split
  · split
    · trivial
    · exact tk_err hw _ _
  · exact (rfl : Attr.err true [] = 0)
include hf hp hn
omit hf hp in
/-- What is written: its units, and that it is valid. -/
theorem settle_out : ∃ d : Steps, d = out (runP (us kept lost from_ to f.length 0 f) w0) ∧ err d = 0 ∧ befs d = f.length ∧ afts d ≤ f.length ∧ Ds d ∧ ex d = us kept lost from_ to f.length 0 f ∧
    C_delta_Tidy F_delta_Tidy (sl kept lost from_ to f.length 0 f) = some (ret_delta_Tidy d 0) := by
  have hl := us_len kept lost from_ to f.length 0 f
  have hsl := sl_len kept lost from_ to f.length 0 f
  have hno : ∀ u ∈ us kept lost from_ to f.length 0 f, isA u = false := fun u hu => by
    obtain ⟨j, x, _, rfl⟩ := us_mem _ _ _ _ _ _ _ u hu
    exact su_noA _ _ _ _ _ _ _
  have hok : ∀ u ∈ us kept lost from_ to f.length 0 f, okU u := fun u hu => by
    obtain ⟨j, x, _, rfl⟩ := us_mem _ _ _ _ _ _ _ u hu
    exact su_ok hw _ _ _ _ _
  have hst : ∀ s ∈ sl kept lost from_ to f.length 0 f, sErr s = 0 ∧ Ss s ∧ tErr s = 0 ∧ sn s = 1 ∧ se s = [] := fun s hs => by
    obtain ⟨j, x, _, rfl⟩ := sl_mem _ _ _ _ _ _ _ s hs
    exact sst_ok hw _ _ _ _ _
  have hsum : ∀ l : Steps, (∀ s ∈ l, sn s = 1 ∧ se s = []) → nsum l = l.length ∧ eb l = 0 := by
    intro l
    induction l with
    | nil => intro _; exact ⟨rfl, rfl⟩
    | cons s l ih =>
      intro h
      obtain ⟨q1, q2⟩ := ih (fun t ht => h t (by simp [ht]))
      obtain ⟨r1, r2⟩ := h s (by simp)
      refine ⟨?_, ?_⟩
      · show sn s + nsum l = ((l.length + 1 : Nat) : Int)
        rw [q1, r1]; omega
      · show (se s).length + eb l = 0
        rw [q2, r2]; rfl
  obtain ⟨n1, n2⟩ := hsum _ (fun s hs => ⟨(hst s hs).2.2.2.1, (hst s hs).2.2.2.2⟩)
  have hB : ∀ l : List U, (∀ u ∈ l, isA u = false) → cB l = l.length ∧ cA l ≤ l.length := by
    intro l
    induction l with
    | nil => intro _; exact ⟨rfl, Nat.le_refl _⟩
    | cons u l ih =>
      intro h
      obtain ⟨q1, q2⟩ := ih (fun v hv => h v (by simp [hv]))
      have h1 := h u (by simp)
      cases u with
      | a x => cases h1
      | c => exact ⟨by show cB l + 1 = l.length + 1; omega, by show cA l ≤ l.length + 1; omega⟩
      | k t => exact ⟨by show cB l + 1 = l.length + 1; omega, by show cA l + 1 ≤ l.length + 1; omega⟩
  obtain ⟨b1, b2⟩ := hB _ hno
  obtain ⟨v1, v2, v3⟩ := valid_out _ hok (by omega) (by omega)
  have hDs : Ds (sl kept lost from_ to f.length 0 f) := ds_of (by omega) fun s hs => (hst s hs).2.1
  have hrun : runU (sl kept lost from_ to f.length 0 f) w0 = runP (us kept lost from_ to f.length 0 f) w0 := by rw [runU_ex, sl_ex]
  have ti := ti_run _ w0 0 ti0 (fun s hs => ⟨(hst s hs).2.2.1, (hst s hs).2.1⟩) (by show 0 + _ ≤ _; omega) (by show (0 : Int) + _ ≤ _; omega)
  have la : ∀ (l : List U) (w : W), (∀ u ∈ l, isA u = false) → w.2.1.length = 0 → (runP l w).2.1.length = 0 := by
    intro l
    induction l with
    | nil => intro w _ h; exact h
    | cons u l ih =>
      intro w h h0
      have h1 := h u (by simp)
      refine ih (uU u w) (fun v hv => h v (by simp [hv])) ?_
      cases u with
      | a x => cases h1
      | c => exact h0
      | k t => rfl
  have ha := la _ w0 hno rfl
  rw [hrun] at ti
  have wy := ti.wy (by omega) (by omega)
  have tq := tidy_eq _ hDs (by omega) (by omega)
  have tr := tdy_run _ w0 (fun s hs => (hst s hs).2.2.1) (by decide) (by show (0 : Int) + _ ≤ _; omega)
  rw [hrun, if_pos v1] at tr
  refine ⟨_, rfl, v1, by omega, by omega, wy.2, ex_out _ hno, ?_⟩
  rw [tq, tr]
omit hp in
/-- What Accept and Reject return. -/
theorem settle_eq (hz : fErr true f = 0) (h1 : 0 ≤ from_) (h2 : from_ ≤ to) (h3 : to ≤ f.length) : ∃ d : Steps, d = out (runP (us kept lost from_ to f.length 0 f) w0) ∧ C_track_settle F_track_settle f from_ to kept lost = some (ret_track_settle d 0) := by
  obtain ⟨d, e, _, _, _, _, _, t⟩ := settle_out hw from_ to f hn
  refine ⟨d, e, ?_⟩
  have hl := hf.1
  have := settle_loop kept lost from_ to f hf f.length 0 big [] (by omega) (big_ge (n := f.length + 1) (by omega)) (Nat.le_refl _)
  rw [List.drop_zero, List.nil_append, t] at this
  have c1 : decide (from_ < 0) = false := decide_eq_false (by omega)
  have c2 : decide (to < from_) = false := decide_eq_false (by omega)
  have c3 : decide (to > (f.length : Int)) = false := decide_eq_false (by omega)
  rw [e_track_settle, (flow_eq f true hf).1, hz, c1, c2, c3]
  exact this
end
/-- What they return where they cannot. -/
theorem settle_bad (kept lost : Str) (from_ to : Int) (f : Flow) (hf : Fs f) : (fErr true f ≠ 0 → C_track_settle F_track_settle f from_ to kept lost = some (ret_track_settle [] (fErr true f))) ∧
    (fErr true f = 0 → (from_ < 0 ∨ to < from_ ∨ (f.length : Int) < to) → C_track_settle F_track_settle f from_ to kept lost = some (ret_track_settle [] 2)) := by
  constructor
  · intro h
    have b : (fErr true f != 0) = true := by simpa using h
    rw [e_track_settle, (flow_eq f true hf).1]
    simp only [Option.bind_some, res_flow_Check_0_ret, bcond_if, b, if_true]
  · intro h h2
    rw [e_track_settle, (flow_eq f true hf).1, h]
    simp only [Option.bind_some, res_flow_Check_0_ret, bcond_if, bne_self_eq_false, Bool.false_eq_true, if_false]
    by_cases k1 : from_ < 0
    · simp [k1]
    · by_cases k2 : to < from_
      · simp [k1, k2]
      · have k3 : to > (f.length : Int) := by omega
        simp [k1, k2, k3]
end Go.Ev.Delta
