
/- Deltas: the plain side, second part: copies, changes, Apply; the law on Check. -/
import Derived.Test.YtlgjdgebmiegeaaPDelta
namespace Go.Ev.Delta
open Go.Ev Go.Ev.Attr Go.Ev.Track
set_option linter.unusedVariables false
set_option linter.unusedSimpArgs false

/-! ### Short enough -/
theorem sh_nil : Sh [] := ⟨by decide, fun i => by
  have : atA [] i = nul := by unfold atA at_; simp [List.getD_eq_getElem?_getD]; rfl
  rw [this]; exact ⟨by decide, by decide⟩⟩
theorem fs_of {f : Flow} (hl : f.length ≤ 1048576) (h : ∀ x ∈ f, Sh (ea x)) : Fs f := ⟨hl, fun i => by
  by_cases hi : i < f.length
  · refine h _ ?_
    unfold atE at_
    simp [List.getD_eq_getElem?_getD, hi]
  · have : atE f i = mkE 0 0 [] := by
      unfold atE at_
      rw [List.getD_eq_getElem?_getD, List.getElem?_eq_none (by simp; omega)]
      rfl
    rw [this]; exact sh_nil⟩
theorem fs_nil : Fs [] := fs_of (by decide) (fun x h => by simp at h)
theorem ds_of {d : Steps} (hl : d.length ≤ 1048576) (h : ∀ s ∈ d, Ss s) : Ds d := ⟨hl, fun i => by
  by_cases hi : i < d.length
  · exact h _ (atT_mem d hi)
  · have : atT d i = mkT 0 0 [] [] := by
      unfold atT at_
      rw [List.getD_eq_getElem?_getD, List.getElem?_eq_none (by simp; omega)]
      rfl
    rw [this]; exact ⟨sh_nil, fs_nil⟩⟩
theorem fs_mem {f : Flow} (hf : Fs f) {x : YElem.den} (h : x ∈ f) : Sh (ea x) := by
  obtain ⟨i, h1, h2⟩ := List.getElem_of_mem h
  have := hf.2 i
  have e : atE f i = x := by
    unfold atE at_
    simp [List.getD_eq_getElem?_getD, h1, h2]
  rwa [e] at this
theorem fs_bulk {f : Flow} (h : (Ty.list YElem).bulk f ≤ 1048576) : Fs f := by
  have h1 := bulk_len f
  refine fs_of (by omega) (fun x hx => ?_)
  have := bulk_mem f _ hx
  have e : YElem.bulk x = 1 + (1 + (Ty.list YAttr).bulk (ea x)) := rfl
  exact sh_of _ (by omega)
theorem ds_bulk {d : Steps} (h : (Ty.list YStep).bulk d ≤ 1048576) : Ds d := by
  have h1 := bulk_len d
  refine ds_of (by omega) (fun s hs => ?_)
  have := bulk_mem d _ hs
  have e : YStep.bulk s = 1 + (1 + ((Ty.list YAttr).bulk (sa s) + (Ty.list YElem).bulk (se s))) := rfl
  exact ⟨sh_of _ (by omega), fs_bulk (by omega)⟩

/-! ### A row is filled -/
theorem set_fill {α : Type} (p : List α) (z y : α) (k i : Nat) (hi : i = p.length) : List.set (p ++ List.replicate (k + 1) z) i y = p ++ [y] ++ List.replicate k z := by
  subst hi
  simp [List.replicate_succ]
theorem copy_loop (f : Flow) (hf : f.length ≤ 1048576) (ha : ∀ i, (ea (atE f i)).length ≤ 1048576) (n : Nat) (z : YElem.den) : ∀ (d i m : Nat), i + d = f.length → d < m →
    L_flow_Copy_0 n m (f.take i ++ List.replicate d z) f (f.length : Int) i = some (ret_flow_Copy f) := by
  intro d
  induction d with
  | zero =>
    intro i m hi hm
    cases m with
    | zero => omega
    | succ m =>
    have : i = f.length := by omega
    subst this
    have c1 : decide ((f.length : Int) < (f.length : Int)) = false := decide_eq_false (by omega)
    rw [L_flow_Copy_0_step]
    simp [bcond_if, c1]
  | succ d ih =>
    intro i m hi hm
    cases m with
    | zero => omega
    | succ m =>
    have hil : i < f.length := by omega
    have c1 : decide ((i : Int) < (f.length : Int)) = true := decide_eq_true (by omega)
    have w1 : IntKind.i64.wrap ((i : Int) + 1) = ((i + 1 : Nat) : Int) := wnat (by omega) (by omega)
    have ex : at_ (e := YElem) f (i : Int) = atE f i := rfl
    have e2 : (atE f i).2.2 = ea (atE f i) := rfl
    have hlen : (f.take i ++ List.replicate (d + 1) z).length = f.length := by simp; omega
    have b1 : (ea (atE f i)).length * 32 ≤ 140737488355328 := by have := ha i; omega
    rw [L_flow_Copy_0_step, hlen]
    simp only [bcond_if, c1, if_true, inb, hil, w1, ex, e2, b1, Int.toNat_natCast]
    rw [set_fill _ _ _ _ _ (by simp; omega)]
    have : f.take i ++ [atE f i] = f.take (i + 1) := by
      have e : atE f i = f[i] := by unfold atE at_; simp [List.getD_eq_getElem?_getD, hil]
      rw [e]; simp
    rw [this]
    exact ih (i + 1) m (by omega) (by omega)
theorem copy_eq (f : Flow) (hf : f.length ≤ 1048576) (ha : ∀ i, (ea (atE f i)).length ≤ 1048576) : C_flow_Copy F_flow_Copy f = some (ret_flow_Copy f) := by
  obtain ⟨m, hm⟩ := big_succ (n := 1048577) (by omega)
  have c : (0 ≤ (f.length : Int) ∧ (f.length : Int) = (f.length : Int) ∧ (f.length : Int) * 40 ≤ 140737488355328 ∧ (f.length : Int) ≤ 140737488355328) := by omega
  rw [e_flow_Copy, if_pos c]
  have := copy_loop f hf ha big (0, (0, [])) f.length 0 big (by omega) (by omega)
  simpa using this
/-- An element with changed attributes. -/
def chgE (c : Attrs) (x : YElem.den) : YElem.den := mkE (ec x) (er x) (raw (ea x) c)
theorem changed_loop (f : Flow) (c : Attrs) (hf : f.length ≤ 1048576) (ha : ∀ i, (ea (atE f i)).length ≤ 1048576) (hc : c.length ≤ 1048576) (n : Nat) (z : YElem.den) : ∀ (d i m : Nat), i + d = f.length → d < m →
    L_delta_changed_0 n m c ((f.take i).map (chgE c) ++ List.replicate d z) f (f.length : Int) i = some (ret_delta_changed (f.map (chgE c))) := by
  intro d
  induction d with
  | zero =>
    intro i m hi hm
    cases m with
    | zero => omega
    | succ m =>
    have : i = f.length := by omega
    subst this
    have c1 : decide ((f.length : Int) < (f.length : Int)) = false := decide_eq_false (by omega)
    rw [L_delta_changed_0_step]
    simp [bcond_if, c1]
  | succ d ih =>
    intro i m hi hm
    cases m with
    | zero => omega
    | succ m =>
    have hil : i < f.length := by omega
    have c1 : decide ((i : Int) < (f.length : Int)) = true := decide_eq_true (by omega)
    have w1 : IntKind.i64.wrap ((i : Int) + 1) = ((i + 1 : Nat) : Int) := wnat (by omega) (by omega)
    have ex : at_ (e := YElem) f (i : Int) = atE f i := rfl
    have e2 : (atE f i).2.2 = ea (atE f i) := rfl
    have hlen : ((f.take i).map (chgE c) ++ List.replicate (d + 1) z).length = f.length := by simp; omega
    have e5 : ((atE f i).1, ((atE f i).2.1, raw (ea (atE f i)) c)) = chgE c (atE f i) := rfl
    rw [L_delta_changed_0_step, hlen]
    simp only [bcond_if, c1, if_true, inb, hil, w1, ex, e2, Int.toNat_natCast, raw_eq _ _ (ha i) hc, Option.bind_some, res_attr_Raw_0_ret, e5]
    rw [set_fill _ _ _ _ _ (by simp; omega)]
    have : (f.take i).map (chgE c) ++ [chgE c (atE f i)] = (f.take (i + 1)).map (chgE c) := by
      have e : atE f i = f[i] := by unfold atE at_; simp [List.getD_eq_getElem?_getD, hil]
      rw [e, show f.take (i + 1) = f.take i ++ [f[i]] from by simp, List.map_append]
      rfl
    rw [this]
    exact ih (i + 1) m (by omega) (by omega)
theorem changed_eq (f : Flow) (c : Attrs) (hf : f.length ≤ 1048576) (ha : ∀ i, (ea (atE f i)).length ≤ 1048576) (hc : c.length ≤ 1048576) : C_delta_changed F_delta_changed f c = some (ret_delta_changed (f.map (chgE c))) := by
  obtain ⟨m, hm⟩ := big_succ (n := 1048577) (by omega)
  have cc : (0 ≤ (f.length : Int) ∧ (f.length : Int) = (f.length : Int) ∧ (f.length : Int) * 40 ≤ 140737488355328 ∧ (f.length : Int) ≤ 140737488355328) := by omega
  rw [e_delta_changed, if_pos cc]
  have := changed_loop f c hf ha hc big (0, (0, [])) f.length 0 big (by omega) (by omega)
  simpa using this

/-! ### Apply -/
def rawD : Flow → Steps → Flow
  | f, [] => []
  | f, s :: d => if sk s = 0 then (f.take (sn s).toNat).map (chgE (sa s)) ++ rawD (f.drop (sn s).toNat) d else if sk s = 1 then se s ++ rawD f d else rawD (f.drop (sn s).toNat) d
theorem fs_take {f : Flow} (hf : Fs f) (k : Nat) : Fs (f.take k) := fs_of (by have := hf.1; simp; omega) (fun x hx => fs_mem hf (List.mem_of_mem_take hx))
theorem fs_drop {f : Flow} (hf : Fs f) (k : Nat) : Fs (f.drop k) := fs_of (by have := hf.1; simp; omega) (fun x hx => fs_mem hf (List.mem_of_mem_drop hx))
theorem raw_loop (l : Steps) (hl : Ds l) (hv : ∀ s ∈ l, sErr s = 0) (n : Nat) : ∀ (d i m : Nat) (f out : Flow), i + d = l.length → d < m → Fs f → befs (l.drop i) = f.length → out.length + f.length ≤ 1048576 + i * 1048576 →
    L_delta_Raw_0 n m f out l (l.length : Int) i = some (ret_delta_Raw (out ++ rawD f (l.drop i))) := by
  have hlen := hl.1
  intro d
  induction d with
  | zero =>
    intro i m f out hi hm hf hb ho
    cases m with
    | zero => omega
    | succ m =>
    have : i = l.length := by omega
    subst this
    have c1 : decide ((l.length : Int) < (l.length : Int)) = false := decide_eq_false (by omega)
    rw [L_delta_Raw_0_step, List.drop_length]
    simp [bcond_if, c1, rawD]
  | succ d ih =>
    intro i m f out hi hm hf hb ho
    cases m with
    | zero => omega
    | succ m =>
    have hil : i < l.length := by omega
    have c1 : decide ((i : Int) < (l.length : Int)) = true := decide_eq_true (by omega)
    have w1 : IntKind.i64.wrap ((i : Int) + 1) = ((i + 1 : Nat) : Int) := wnat (by omega) (by omega)
    have ea0 : at_ (e := YStep) l (i : Int) = atT l i := rfl
    have e1 : (atT l i).1 = sk (atT l i) := rfl
    have e2 : (atT l i).2.1 = sn (atT l i) := rfl
    have e3 : (atT l i).2.2.1 = sa (atT l i) := rfl
    have e4 : (atT l i).2.2.2 = se (atT l i) := rfl
    have hm1 := atT_mem l hil
    have hz := hv _ hm1
    have hS := hl.2 i
    have hdr : ∀ s ∈ l.drop (i + 1), s ∈ l := fun s h => List.mem_of_mem_drop h
    obtain ⟨p1, p2⟩ := adds_pos (fun s h => hv s (hdr s h)) (fun s h => ss_mem hl (hdr s h))
    have hmul : (i + 1) * 1048576 = i * 1048576 + 1048576 := Nat.succ_mul _ _
    have hi2 : i * 1048576 ≤ 1048576 * 1048576 := Nat.mul_le_mul_right _ (by omega)
    have ct : List.take (Int.toNat (f.length : Int)) f = f := by simp
    have lf := hf.1
    have kz : ¬ sk (atT l i) = 1 → 1 ≤ sn (atT l i) := fun h => ((ssz_valid hz hS).2.2.1 h).1
    rw [drop_step l hil] at hb ⊢
    simp only [befs, addB] at hb
    rw [L_delta_Raw_0_step]
    simp only [bcond_if, c1, if_true, inb, hil, w1, ea0, e1, e2, e3, e4, ct, rawD]
    rcases sErr_kind hz with hk | hk | hk
    · rw [hk] at hb
      simp only [show ¬ ((0 : Int) = 1) from by decide, if_false] at hb
      have hn := kz (by omega)
      obtain ⟨N, hN⟩ : ∃ N : Nat, sn (atT l i) = (N : Int) := ⟨(sn (atT l i)).toNat, by omega⟩
      rw [hN] at hb ⊢
      have hNl : N ≤ f.length := by omega
      have lt : (f.take N).length = N := by simp; omega
      have ld : (f.drop N).length = f.length - N := by simp
      have q1 : (0 ≤ (N : Int) ∧ (N : Int) ≤ (f.length : Int) ∧ 0 ≤ (0 : Int) ∧ (0 : Int) ≤ (N : Int)) := by omega
      have q2 : (0 ≤ (f.length : Int) ∧ (f.length : Int) ≤ (f.length : Int) ∧ 0 ≤ (N : Int) ∧ (N : Int) ≤ (f.length : Int)) := by omega
      have ft := fs_take hf N
      have ch := changed_eq (f.take N) (sa (atT l i)) ft.1 (fun j => (ft.2 j).1) hS.1.1
      have b1 : (out.length + ((f.take N).map (chgE (sa (atT l i)))).length) * 40 ≤ 140737488355328 := by rw [List.length_map, lt]; omega
      have := ih (i + 1) m (f.drop N) (out ++ (f.take N).map (chgE (sa (atT l i)))) (by omega) (by omega) (fs_drop hf N) (by rw [ld]; omega) (by rw [List.length_append, List.length_map, lt, ld, hmul]; omega)
      simp only [hk, beq_self_eq_true, if_true, if_pos q1, if_pos q2, Int.toNat_natCast, Int.toNat_zero, List.drop_zero, ch, Option.bind_some, res_delta_changed_0_ret, b1]
      rw [this, List.append_assoc]
    · rw [hk] at hb
      simp only [if_true] at hb
      have cp := copy_eq (se (atT l i)) hS.2.1 (fun j => (hS.2.2 j).1)
      have b1 : (out.length + (se (atT l i)).length) * 40 ≤ 140737488355328 := by have := hS.2.1; omega
      have := ih (i + 1) m f (out ++ se (atT l i)) (by omega) (by omega) hf (by omega) (by have := hS.2.1; rw [List.length_append, hmul]; omega)
      simp only [hk, show ((1 : Int) == 0) = false from rfl, show ¬ ((1 : Int) = 0) from by decide, beq_self_eq_true, if_true, if_false, Bool.false_eq_true, cp, Option.bind_some, res_flow_Copy_0_ret, b1]
      rw [this, List.append_assoc]
    · rw [hk] at hb
      simp only [show ¬ ((2 : Int) = 1) from by decide, if_false] at hb
      have hn := kz (by omega)
      obtain ⟨N, hN⟩ : ∃ N : Nat, sn (atT l i) = (N : Int) := ⟨(sn (atT l i)).toNat, by omega⟩
      rw [hN] at hb ⊢
      have ld : (f.drop N).length = f.length - N := by simp
      have q2 : (0 ≤ (f.length : Int) ∧ (f.length : Int) ≤ (f.length : Int) ∧ 0 ≤ (N : Int) ∧ (N : Int) ≤ (f.length : Int)) := by omega
      have := ih (i + 1) m (f.drop N) out (by omega) (by omega) (fs_drop hf N) (by rw [ld]; omega) (by rw [ld, hmul]; omega)
      simp only [hk, show ((2 : Int) == 0) = false from rfl, show ((2 : Int) == 1) = false from rfl, show ¬ ((2 : Int) = 0) from by decide, show ¬ ((2 : Int) = 1) from by decide, if_false, Bool.false_eq_true, if_pos q2, Int.toNat_natCast]
      exact this
theorem raw47 (f : Flow) (d : Steps) (hf : Fs f) (hd : Ds d) (h : err d = 0) (hb : befs d = f.length) : C_delta_Raw F_delta_Raw f d = some (ret_delta_Raw (rawD f d)) := by
  obtain ⟨h1, h2, h3⟩ := dErr_zero d none 0 0 h
  have hlen := hd.1
  obtain ⟨m, hm⟩ := big_succ (n := 1048577) (by omega)
  rw [e_delta_Raw]
  have := raw_loop d hd h1 big d.length 0 big f [] (by omega) (by omega) hf hb (by have := hf.1; simp; omega)
  simpa using this
def fit (f : Flow) (d : Steps) : Int := if pErr f ≠ 0 then pErr f else if err d ≠ 0 then err d else if befs d ≠ f.length then 14 else 0
theorem fits_eq (f : Flow) (d : Steps) (hf : Fs f) (hd : Ds d) : C_delta_fits F_delta_fits f d = some (ret_delta_fits (fit f d)) := by
  rw [e_delta_fits, (part_eq f hf).1, (check_eq d hd).1]
  unfold fit
  by_cases h1 : pErr f = 0
  · by_cases h2 : err d = 0
    · by_cases h3 : befs d = f.length <;> simp [bcond_if, h1, h2, h3, len_eq d hd h2]
    · simp [bcond_if, h1, h2]
  · simp [bcond_if, h1]
theorem fit_zero {f : Flow} {d : Steps} (h : fit f d = 0) : pErr f = 0 ∧ err d = 0 ∧ befs d = f.length := by
  unfold fit at h
  split at h
  · rename_i h1; exact absurd h h1
  · split at h
    · rename_i h1; exact absurd h h1
    · split at h
      · cases h
      · rename_i h1 h2 h3
        exact ⟨Decidable.not_not.1 h1, Decidable.not_not.1 h2, Decidable.not_not.1 h3⟩
theorem apply_eq (f : Flow) (d : Steps) (hf : Fs f) (hd : Ds d) : C_delta_Apply F_delta_Apply f d = some (if fit f d = 0 then ret_delta_Apply (rawD f d) 0 else ret_delta_Apply [] (fit f d)) := by
  rw [e_delta_Apply, fits_eq f d hf hd]
  by_cases h : fit f d = 0
  · obtain ⟨h1, h2, h3⟩ := fit_zero h
    simp [bcond_if, h, raw47 f d hf hd h2 h3]
  · simp [bcond_if, h]

/-! ### Deltas are there at all -/
def lts (s : Str) : Flow := s.map fun b => mkE (b.toNat : Int) 0 []
theorem letters_loop (s : Str) (hl : s.length ≤ 1048576) (n : Nat) : ∀ (d i m : Nat) (out : Flow), i + d = s.length → d < m → out.length ≤ i → L_law_letters_0 n m s out (s.length : Int) i = some (ret_law_letters (out ++ lts (s.drop i))) := by
  intro d
  induction d with
  | zero =>
    intro i m out hi hm ho
    cases m with
    | zero => omega
    | succ m =>
    have : i = s.length := by omega
    subst this
    have c1 : decide ((s.length : Int) < (s.length : Int)) = false := decide_eq_false (by omega)
    rw [L_law_letters_0_step, List.drop_length]
    simp [bcond_if, c1, lts]
  | succ d ih =>
    intro i m out hi hm ho
    cases m with
    | zero => omega
    | succ m =>
    have hil : i < s.length := by omega
    have c1 : decide ((i : Int) < (s.length : Int)) = true := decide_eq_true (by omega)
    have w1 : IntKind.i64.wrap ((i : Int) + 1) = ((i + 1 : Nat) : Int) := wnat (by omega) (by omega)
    have hb : (List.getD s i 0).toNat < 256 := UInt8.toNat_lt _
    have w2 : IntKind.i64.wrap ((List.getD s i 0).toNat : Int) = ((List.getD s i 0).toNat : Int) := w64 (by omega) (by omega)
    have b1 : ∀ y : YElem.den, (out.length + [y].length) * 40 ≤ 140737488355328 := fun y => by
      have : [y].length = 1 := rfl
      omega
    have e5 : (((List.getD s i 0).toNat : Int), ((0 : Int), ([] : Attrs))) = mkE ((List.getD s i 0).toNat : Int) 0 [] := rfl
    rw [L_law_letters_0_step]
    simp only [bcond_if, c1, if_true, inb, hil, w1, Int.toNat_natCast, w2, b1]
    have hd : s.drop i = s.getD i 0 :: s.drop (i + 1) := by
      rw [List.drop_eq_getElem_cons hil]
      congr 1
      simp [List.getD_eq_getElem?_getD, hil]
    rw [hd]
    have := ih (i + 1) m (out ++ [mkE ((List.getD s i 0).toNat : Int) 0 []]) (by omega) (by omega) (by simp; omega)
    rw [List.append_assoc] at this
    exact this
theorem letters_eq (s : Str) (hl : s.length ≤ 1048576) : C_law_letters F_law_letters s = some (ret_law_letters (lts s)) := by
  obtain ⟨m, hm⟩ := big_succ (n := 1048577) (by omega)
  rw [e_law_letters]
  have := letters_loop s hl big s.length 0 big [] (by omega) (by omega) (by simp)
  simpa using this
theorem sh_lit (l : Attrs) (h : l.length ≤ 10) (h2 : ∀ a ∈ l, (an a).length ≤ 10 ∧ (av a).length ≤ 10) : Sh l := sh_small l h h2
theorem delta_facts : C_law_deltas F_law_deltas = some (ret_law_deltas true) := by
  have A1 : C_law_letters F_law_letters [97, 98] = some (ret_law_letters [mkE 97 0 [], mkE 98 0 []]) := letters_eq _ (by decide)
  have A2 : C_law_letters F_law_letters [120] = some (ret_law_letters [mkE 120 0 []]) := letters_eq _ (by decide)
  have A3 : C_law_on F_law_on [98, 111, 108, 100] = some (ret_law_on [mkA [98, 111, 108, 100] [111, 110]]) := by rw [e_law_on]; rfl
  have shB : Sh [mkA [98, 111, 108, 100] [111, 110]] := sh_small _ (by decide) (fun a ha => by
    have : a = mkA [98, 111, 108, 100] [111, 110] := by simpa using ha
    subst this; exact ⟨by decide, by decide⟩)
  have f1 : Fs [mkE 97 0 [], mkE 98 0 []] := fs_of (by decide) (fun x hx => by
    have : x = mkE 97 0 [] ∨ x = mkE 98 0 [] := by simpa using hx
    rcases this with rfl | rfl <;> exact sh_nil)
  have d1 : Ds [mkT 1 0 [] [mkE 120 0 []], mkT 2 1 [] [], mkT 0 1 [mkA [98, 111, 108, 100] [111, 110]] []] := ds_of (by decide) (fun s hs => by
    have : s = mkT 1 0 [] [mkE 120 0 []] ∨ s = mkT 2 1 [] [] ∨ s = mkT 0 1 [mkA [98, 111, 108, 100] [111, 110]] [] := by simpa using hs
    rcases this with rfl | rfl | rfl
    · exact ⟨sh_nil, fs_of (by decide) (fun x hx => by
        have : x = mkE 120 0 [] := by simpa using hx
        subst this; exact sh_nil)⟩
    · exact ⟨sh_nil, fs_nil⟩
    · exact ⟨shB, fs_nil⟩)
  have hfit : fit [mkE 97 0 [], mkE 98 0 []] [mkT 1 0 [] [mkE 120 0 []], mkT 2 1 [] [], mkT 0 1 [mkA [98, 111, 108, 100] [111, 110]] []] = 0 := by kernel_rfl
  have A4 := apply_eq _ _ f1 d1
  rw [if_pos hfit] at A4
  have A5 : rawD [mkE 97 0 [], mkE 98 0 []] [mkT 1 0 [] [mkE 120 0 []], mkT 2 1 [] [], mkT 0 1 [mkA [98, 111, 108, 100] [111, 110]] []] = [mkE 120 0 [], mkE 98 0 [mkA [98, 111, 108, 100] [111, 110]]] := by kernel_rfl
  rw [A5] at A4
  have A6 := same35 [mkA [98, 111, 108, 100] [111, 110]] [mkA [98, 111, 108, 100] [111, 110]] (by decide)
  have A7 : eqA [mkA [98, 111, 108, 100] [111, 110]] [mkA [98, 111, 108, 100] [111, 110]] = true := (eqA_iff _ _).2 rfl
  rw [A7] at A6
  rw [e_law_deltas, A1, A2, A3]
  simp only [Option.bind_some, res_law_letters_0_ret, res_law_on_0_ret]
  have A4' : C_delta_Apply F_delta_Apply [mkE 97 0 [], mkE 98 0 []] [(1, (0, ([], [mkE 120 0 []]))), (2, (1, ([], []))), (0, (1, ([mkA [98, 111, 108, 100] [111, 110]], [])))] = some (ret_delta_Apply [mkE 120 0 [], mkE 98 0 [mkA [98, 111, 108, 100] [111, 110]]] 0) := A4
  rw [A4']
  have A6' : C_R_SameAttrs F_R_SameAttrs (at_ (e := YElem) [mkE 120 0 [], mkE 98 0 [mkA [98, 111, 108, 100] [111, 110]]] 1).2.2 [mkA [98, 111, 108, 100] [111, 110]] = some (ret_R_SameAttrs true) := A6
  simp only [Option.bind_some, res_delta_Apply_0_ret, res_delta_Apply_1_ret, A6']
  rfl

/-! ### The law on Check -/
end Go.Ev.Delta
