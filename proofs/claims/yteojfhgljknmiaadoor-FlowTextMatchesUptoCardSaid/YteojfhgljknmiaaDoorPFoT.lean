
import Derived.Test.YteojfhgljknmiaaDoorPFof
import Derived.Test.YteojfhgljknmiaaDoorGFlowT
namespace Go.Ev.Utf
open Go.Ev Go.Ev.Attr Go.Ev.Track Go.Ev.Delta
set_option linter.unusedVariables false
set_option linter.unusedSimpArgs false
def Lf (G : List Int → Option sig_unicode_utf8_appendRuneNonASCII.Out) : Prop := ∃ l : List Int, l.length ≤ 4 ∧ ∀ b : List Int, b.length ≤ 1073741824 → G b = some (ret_unicode_utf8_appendRuneNonASCII (b ++ l))
theorem lf_leaf (l : List Int) (h : l.length ≤ 4) : Lf (fun b => if (List.length (b : List Int) + List.length (l : List Int)) * 1 ≤ 140737488355328 then (some (ret_unicode_utf8_appendRuneNonASCII (b ++ l))) else none) :=
  ⟨l, h, fun b hb => by simp only []; rw [if_pos (by omega)]⟩
theorem lf_bcond {q : Bool} {x y : List Int → Option sig_unicode_utf8_appendRuneNonASCII.Out} (h1 : Lf x) (h2 : Lf y) : Lf (fun b => bcond q (x b) (y b)) := by
  cases q
  · exact h2
  · exact h1
theorem app_non (c : Int) : Lf (fun b => C_unicode_utf8_appendRuneNonASCII F_unicode_utf8_appendRuneNonASCII b c) := by
  have : (fun b => C_unicode_utf8_appendRuneNonASCII F_unicode_utf8_appendRuneNonASCII b c) = _ := funext fun b => e_unicode_utf8_appendRuneNonASCII b c
  rw [this]
  repeat' first | exact lf_leaf _ (by simp) | refine lf_bcond ?_ ?_
theorem app_ex (c : Int) : ∃ l : List Int, l.length ≤ 4 ∧ ∀ b : List Int, b.length ≤ 1073741824 → C_unicode_utf8_AppendRune F_unicode_utf8_AppendRune b c = some (ret_unicode_utf8_AppendRune (b ++ l)) := by
  obtain ⟨l, h1, h2⟩ := app_non c
  by_cases h : IntKind.u32.wrap c ≤ 127
  · refine ⟨[IntKind.u8.wrap c], by simp, fun b hb => ?_⟩
    rw [e_unicode_utf8_AppendRune, decide_eq_true h, bT, if_pos (by simp only [List.length_cons, List.length_nil]; omega)]
  · refine ⟨l, h1, fun b hb => ?_⟩
    have h2 := h2 b hb
    simp only [] at h2
    rw [e_unicode_utf8_AppendRune, decide_eq_false h, bF, h2]
    rfl
/-- The bytes of a code point. -/
noncomputable def enc (c : Int) : List Int := Classical.choose (app_ex c)
theorem enc_len (c : Int) : (enc c).length ≤ 4 := (Classical.choose_spec (app_ex c)).1
theorem app_eq (c : Int) (b : List Int) (hb : b.length ≤ 1073741824) : C_unicode_utf8_AppendRune F_unicode_utf8_AppendRune b c = some (ret_unicode_utf8_AppendRune (b ++ enc c)) := (Classical.choose_spec (app_ex c)).2 b hb
noncomputable def put1 (s : List Int) (x : YElem.den) : List Int := s ++ enc (IntKind.i32.wrap (if er x ≠ 0 then 65532 else ec x))
noncomputable def txt (f : Flow) : List Int := f.foldl put1 []
theorem foldT {α S O : Type} (f : S → α → S) (g : S → O) : ∀ (l : List α) (s : S), foldO (fun s x => .inl (f s x)) g s l = g (l.foldl f s)
  | [], s => rfl
  | x :: l, s => by rw [foldO]; exact foldT f g l _
theorem put1_len (s : List Int) (x : YElem.den) : (put1 s x).length ≤ s.length + 4 := by
  unfold put1
  rw [List.length_append]
  have := enc_len (IntKind.i32.wrap (if er x ≠ 0 then 65532 else ec x))
  omega
theorem text_eq (f : Flow) (hf : Fs f) : C_flow_Text F_flow_Text f = some (if pErr f ≠ 0 then ret_flow_Text [] (pErr f) else ret_flow_Text ((txt f).map byte) 0) := by
  have hl := hf.1
  rw [e_flow_Text, (part_eq f hf).1]
  simp only [Option.bind_some, res_flow_CheckPart_0_ret]
  have q := range_all f (by omega) (fun m (s : List Int) i => L_flow_Text_0 big m s f (f.length : Int) (i : Int)) (fun s x => .inl (put1 s x)) (fun s => ret_flow_Text (s.map byte) 0) (fun i s => s.length ≤ 4 * i)
    (fun m i s hi hI => by
      rw [hop_inl]
      have st := L_flow_Text_0_step big m s f (f.length : Int) (i : Int)
      have e1 : (f[i] : YElem.den).1 = ec f[i] := rfl
      have e2 : (f[i] : YElem.den).2.1 = er f[i] := rfl
      have hb : s.length ≤ 1073741824 := by omega
      refine ⟨Nat.le_trans (put1_len s f[i]) (by omega), ?_⟩
      rw [st, at_get (e := YElem) f i hi]
      simp only [dlt hi, if_pos ((inb i f.length).2 hi), e1, e2, app_eq _ s hb, Option.bind_some, res_unicode_utf8_AppendRune_0_ret, wsucc hi (show f.length ≤ _ by omega), bT]
      unfold put1
      by_cases h : er f[i] = 0
      · have : (er f[i] != 0) = false := by simpa using h
        rw [this, if_neg (fun z => z h)]; rfl
      · have : (er f[i] != 0) = true := by simpa using h
        rw [this, if_pos h]; rfl)
    (fun m s _ => by
      show L_flow_Text_0 big (m + 1) s f (f.length : Int) (f.length : Int) = _
      rw [L_flow_Text_0_step, dlt_self]; rfl) [] (by simp)
  rw [foldT] at q
  have q' : L_flow_Text_0 big big [] f (f.length : Int) 0 = _ := q
  rw [q']
  by_cases h : pErr f = 0
  · have : (pErr f != 0) = false := by simpa using h
    rw [this, if_neg (fun z => z h)]; rfl
  · have : (pErr f != 0) = true := by simpa using h
    rw [this, if_pos h]; rfl
theorem pErr_mem : ∀ (f : Flow), pErr f = 0 → ∀ x ∈ f, eErr x = 0
  | [], _, x, hx => by simp at hx
  | y :: f, h, x, hx => by
    simp only [pErr] at h
    split at h
    · rename_i h1; exact absurd h h1
    · rename_i h1
      rcases List.mem_cons.1 hx with rfl | hx
      · exact Decidable.not_not.1 h1
      · exact pErr_mem f h x hx
theorem chr_pos {c : Int} (h : chr c = true) : 0 ≤ c := by
  apply Classical.byContradiction
  intro hc
  unfold chr at h
  have a1 : (c == 9) = false := beq_eq_false_iff_ne.2 (by omega)
  have a2 : (c == 10) = false := beq_eq_false_iff_ne.2 (by omega)
  have a3 : decide (32 ≤ c) = false := decide_eq_false (by omega)
  have a4 : decide (160 ≤ c) = false := decide_eq_false (by omega)
  have a5 : decide (57344 ≤ c) = false := decide_eq_false (by omega)
  rw [a1, a2, a3, a4, a5] at h
  simp at h
theorem ec_pos {x : YElem.den} (h : eErr x = 0) (h0 : er x = 0) : 0 ≤ ec x := by
  unfold eErr at h
  split at h
  · cases h
  · split at h
    · cases h
    · rename_i h2
      cases hc : chr (ec x) with
      | true => exact chr_pos hc
      | false => exact absurd (.inl ⟨h0, hc⟩) h2
theorem utf8_eq (f : Flow) (hl : f.length ≤ 1048576) (hv : ∀ x ∈ f, eErr x = 0) : C_R_Utf8 F_R_Utf8 f 65532 = some (ret_R_Utf8 ((txt f).map byte)) := by
  rw [e_R_Utf8]
  have q := range_all f (by omega) (fun m (s : List Int) i => L_R_Utf8_0 big m f 65532 s (f.length : Int) (i : Int)) (fun s x => .inl (put1 s x)) (fun s => ret_R_Utf8 (s.map byte)) (fun i s => s.length ≤ 4 * i)
    (fun m i s hi hI => by
      rw [hop_inl]
      have st := L_R_Utf8_0_step big m f 65532 s (f.length : Int) (i : Int)
      have e1 : (f[i] : YElem.den).1 = ec f[i] := rfl
      have e2 : (f[i] : YElem.den).2.1 = er f[i] := rfl
      have hb : s.length ≤ 1073741824 := by omega
      have hd : decide ((65532 : Int) ≥ 0) = true := rfl
      refine ⟨Nat.le_trans (put1_len s f[i]) (by omega), ?_⟩
      rw [st, at_get (e := YElem) f i hi]
      simp only [dlt hi, if_pos ((inb i f.length).2 hi), e1, e2, app_eq _ s hb, Option.bind_some, res_unicode_utf8_AppendRune_0_ret, wsucc hi (show f.length ≤ _ by omega), bT, hd]
      unfold put1
      by_cases h : er f[i] = 0
      · have : (er f[i] != 0) = false := by simpa using h
        have hp := ec_pos (hv _ (List.getElem_mem hi)) h
        rw [this, if_neg (fun z => z h), decide_eq_true hp]; rfl
      · have : (er f[i] != 0) = true := by simpa using h
        rw [this, if_pos h]; rfl)
    (fun m s _ => by
      show L_R_Utf8_0 big (m + 1) f 65532 s (f.length : Int) (f.length : Int) = _
      rw [L_R_Utf8_0_step, dlt_self]; rfl) [] (by simp)
  rw [foldT] at q
  exact q
theorem slice_eq (f : Flow) (hf : Fs f) (i j : Int) : C_flow_Slice F_flow_Slice f i j = some (if pErr f ≠ 0 then ret_flow_Slice [] (pErr f) else if i < 0 ∨ j < i ∨ (f.length : Int) < j then ret_flow_Slice [] 2 else ret_flow_Slice (List.drop (Int.toNat i) (List.take (Int.toNat j) f)) 0) := by
  rw [e_flow_Slice, (part_eq f hf).1]
  simp only [Option.bind_some, res_flow_CheckPart_0_ret]
  by_cases h : pErr f = 0
  · have : (pErr f != 0) = false := by simpa using h
    have hp : ¬ (pErr f ≠ 0) := fun z => z h
    rw [this, if_neg hp, bF]
    by_cases h1 : i < 0
    · rw [decide_eq_true h1, if_pos (show i < 0 ∨ j < i ∨ (f.length : Int) < j from .inl h1)]; rfl
    · by_cases h2 : j < i
      · rw [decide_eq_false h1, decide_eq_true h2, if_pos (show i < 0 ∨ j < i ∨ (f.length : Int) < j from .inr (.inl h2))]; rfl
      · by_cases h3 : (f.length : Int) < j
        · rw [decide_eq_false h1, decide_eq_false h2, decide_eq_true h3, if_pos (show i < 0 ∨ j < i ∨ (f.length : Int) < j from .inr (.inr h3))]; rfl
        · rw [decide_eq_false h1, decide_eq_false h2, decide_eq_false h3, if_neg (show ¬ (i < 0 ∨ j < i ∨ (f.length : Int) < j) by omega), if_pos (show 0 ≤ j ∧ j ≤ (f.length : Int) ∧ 0 ≤ i ∧ i ≤ j by omega)]
          have hs : Fs (List.drop (Int.toNat i) (List.take (Int.toNat j) f)) := fs_drop (fs_take hf _) _
          rw [copy_eq _ hs.1 (fun k => (hs.2 k).1)]
          rfl
  · have : (pErr f != 0) = true := by simpa using h
    rw [this, if_pos h]; rfl
theorem law_FlowText (f : Flow) (i j : Int) (o0 : (Ty.list YElem).ok f) (o1 : (Ty.int .i64).ok i) (o2 : (Ty.int .i64).ok j)
    (hb : (Ty.list YElem).bulk f + (Ty.int .i64).bulk i + (Ty.int .i64).bulk j ≤ 1048576) : F_law_FlowTextMatches (f, i, j, ()) () = some (ret_law_FlowTextMatches true) := by
  show C_law_FlowTextMatches F_law_FlowTextMatches f i j = _
  have hf : Fs f := fs_bulk (by omega)
  rw [e_law_FlowTextMatches, flows_eq, text_eq f hf, slice_eq f hf, (part_eq f hf).2]
  simp only [Option.bind_some, res_law_flows_0_ret, res_R_PartError_0_ret, Bool.not_true, bF]
  by_cases h : pErr f = 0
  · have hn : (pErr f != 0) = false := by simpa using h
    have hp : ¬ (pErr f ≠ 0) := fun z => z h
    rw [hn, if_neg hp, if_neg hp, bF, utf8_eq f hf.1 (pErr_mem f h)]
    simp only [Option.bind_some, res_flow_Text_0_ret, res_flow_Text_1_ret, res_R_Utf8_0_ret, bne_self_eq_false, beq_self_eq_true, Bool.not_true, bT, bF]
    by_cases h1 : i < 0
    · rw [decide_eq_true h1, if_pos (show i < 0 ∨ j < i ∨ (f.length : Int) < j from .inl h1)]; rfl
    · by_cases h2 : j < i
      · rw [decide_eq_false h1, decide_eq_true h2, if_pos (show i < 0 ∨ j < i ∨ (f.length : Int) < j from .inr (.inl h2))]; rfl
      · by_cases h3 : (f.length : Int) < j
        · rw [decide_eq_false h1, decide_eq_false h2, decide_eq_true h3, if_pos (show i < 0 ∨ j < i ∨ (f.length : Int) < j from .inr (.inr h3))]; rfl
        · rw [decide_eq_false h1, decide_eq_false h2, decide_eq_false h3, if_neg (show ¬ (i < 0 ∨ j < i ∨ (f.length : Int) < j) by omega), if_pos (show 0 ≤ j ∧ j ≤ (f.length : Int) ∧ 0 ≤ i ∧ i ≤ j by omega)]
          have hs : Fs (List.drop (Int.toNat i) (List.take (Int.toNat j) f)) := fs_drop (fs_take hf _) _
          simp only [res_flow_Slice_0_ret, res_flow_Slice_1_ret]
          rw [sflow_eq _ _ hs, (eqF_iff _ _).2 rfl]
          rfl
  · have hn : (pErr f != 0) = true := by simpa using h
    rw [hn, if_pos h, if_pos h]
    simp only [bT, res_flow_Text_0_ret, res_flow_Text_1_ret, res_flow_Slice_0_ret, res_flow_Slice_1_ret, beq_self_eq_true]
    rfl
end Go.Ev.Utf
