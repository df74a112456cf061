
/- Apply and Undo: the law, first part: sizes and shapes. -/
import Derived.Test.YtlgjdgebmiegeaaPAppD
import Derived.Test.YtlgjdgebmiegeaaPSame
namespace Go.Ev.Delta
open Go.Ev Go.Ev.Attr Go.Ev.Track
set_option linter.unusedVariables false
set_option linter.unusedSimpArgs false
theorem size_loop (l : Steps) (hlen : l.length ≤ 1048576) (hv : ∀ s ∈ l, sErr s = 0) (hs : ∀ s ∈ l, Ss s) : ∀ (d i m : Nat) (b : Int), i + d = l.length → d < m → 0 ≤ b → b + befs (l.drop i) ≤ 2147483647 →
    L_R_DeltaSize_0 big m l b (l.length : Int) i = some (ret_R_DeltaSize (b + befs (l.drop i))) := by
  intro d
  induction d with
  | zero =>
    intro i m b hi hm hb hx
    obtain ⟨m, rfl⟩ : ∃ q, m = q + 1 := ⟨m - 1, by omega⟩
    have : i = l.length := by omega
    subst this
    rw [L_R_DeltaSize_0_step, List.drop_length]
    simp [bcond_if, dlt_self, befs]
  | succ d ih =>
    intro i m b hi hm hb hx
    obtain ⟨m, rfl⟩ : ∃ q, m = q + 1 := ⟨m - 1, by omega⟩
    have hil : i < l.length := by omega
    have w1 := wsucc hil (show l.length ≤ 4611686018427387904 by omega)
    have ea0 : at_ (e := YStep) l (i : Int) = atT l i := rfl
    have e2 : (atT l i).2.1 = sn (atT l i) := rfl
    have hm1 := atT_mem l hil
    have hz := hv _ hm1
    have hB : addB (atT l i) 0 = sn (atT l i) := by
      unfold addB
      split
      · rename_i k
        rcases sErr_zero hz with ⟨_, h2, _⟩ | ⟨h1, _⟩
        · omega
        · rcases h1 with h1 | h1 <;> omega
      · omega
    have hn : 0 ≤ sn (atT l i) := by rw [← hB]; exact (one_pos (p := none) (one_of hz (fun q h => by cases h))).1
    have hdr : ∀ s ∈ l.drop (i + 1), s ∈ l := fun s h => List.mem_of_mem_drop h
    obtain ⟨p1, p2⟩ := adds_pos (fun s h => hv s (hdr s h)) (fun s h => hs s (hdr s h))
    rw [drop_step l hil] at hx ⊢
    simp only [befs, hB] at hx ⊢
    have w2 : IntKind.i64.wrap (b + sn (atT l i)) = b + sn (atT l i) := w64 (by omega) (by omega)
    rw [L_R_DeltaSize_0_step]
    simp only [bcond_if, dlt hil, inb, hil, if_true, ea0, e2, w1, w2]
    rw [ih (i + 1) m (b + sn (atT l i)) (by omega) (by omega) (by omega) (by omega), Int.add_assoc]
theorem rsize_eq (l : Steps) (hl : Ds l) (h : err l = 0) : C_R_DeltaSize F_R_DeltaSize l = some (ret_R_DeltaSize (befs l)) := by
  obtain ⟨h1, h2, h3⟩ := dErr_zero l none 0 0 h
  rw [e_R_DeltaSize]
  have := size_loop l hl.1 h1 (fun s hs => ss_mem hl hs) l.length 0 big 0 (by omega) (big_ge (n := l.length + 1) (by have := hl.1; omega)) (by omega) (by rw [List.drop_zero]; omega)
  rw [List.drop_zero, Int.zero_add] at this
  exact this
theorem lfit_eq (f : Flow) (d : Steps) (hf : Fs f) (hd : Ds d) : C_law_fitError F_law_fitError f d = some (ret_law_fitError (fit f d)) := by
  rw [e_law_fitError, (part_eq f hf).2, (check_eq d hd).2]
  unfold fit
  by_cases h1 : pErr f = 0
  · by_cases h2 : err d = 0
    · by_cases h3 : befs d = f.length <;> simp [bcond_if, h1, h2, h3, rsize_eq d hd h2]
    · simp [bcond_if, h1, h2]
  · simp [bcond_if, h1]
theorem ap_len : ∀ (us : List U) (f : Flow), (ap us f).length ≤ cA us
  | [], f => Nat.le_refl _
  | .a x :: us, f => by have := ap_len us f; show (x :: ap us f).length ≤ cA us + 1; simp; omega
  | .c :: us, f => ap_len us _
  | .k t :: us, f => by have := ap_len us (f.drop 1); show ((f.take 1).map (apE t) ++ ap us (f.drop 1)).length ≤ cA us + 1; rw [List.length_append, List.length_map, List.length_take]; omega
theorem len_AB : ∀ (us : List U), us.length ≤ cA us + cB us
  | [] => Nat.le_refl _
  | .a x :: us => by have := len_AB us; show us.length + 1 ≤ cA us + 1 + cB us; omega
  | .c :: us => by have := len_AB us; show us.length + 1 ≤ cA us + (cB us + 1); omega
  | .k t :: us => by have := len_AB us; show us.length + 1 ≤ cA us + 1 + (cB us + 1); omega
theorem bk_AB : ∀ (us : List U) (f : Flow), cB (bk us f) ≤ cA us ∧ cA (bk us f) ≤ cB us
  | [], f => ⟨Nat.le_refl _, Nat.le_refl _⟩
  | .a x :: us, f => by have := bk_AB us f; show cB (bk us f) + 1 ≤ cA us + 1 ∧ cA (bk us f) ≤ cB us; omega
  | .c :: us, f => by
    have := bk_AB us (f.drop 1)
    show cB ((f.take 1).map U.a ++ bk us (f.drop 1)) ≤ cA us ∧ cA ((f.take 1).map U.a ++ bk us (f.drop 1)) ≤ cB us + 1
    rw [cB_append, cA_append, (cB_a _).1, (cB_a _).2, List.length_take]; omega
  | .k t :: us, f => by
    have := bk_AB us (f.drop 1)
    show cB ((f.take 1).map (bkE t) ++ bk us (f.drop 1)) ≤ cA us + 1 ∧ cA ((f.take 1).map (bkE t) ++ bk us (f.drop 1)) ≤ cB us + 1
    rw [cB_append, cA_append]
    have : cB ((f.take 1).map (bkE t)) ≤ 1 ∧ cA ((f.take 1).map (bkE t)) ≤ 1 := by
      cases f with
      | nil => exact ⟨Nat.zero_le _, Nat.zero_le _⟩
      | cons x f => exact ⟨Nat.le_refl _, Nat.le_refl _⟩
    omega
theorem il_AB : ∀ (xs : List Flow) (cs : List Bool) (ts : List Attrs), xs.length = cs.length + 1 → ts.length = cs.length → cB (ilL xs cs ts) = cs.length ∧ ebl xs ≤ cA (ilL xs cs ts)
  | [], cs, ts, h1, h2 => by simp at h1
  | [x], [], [], h1, h2 => by
    show cB (x.map U.a) = 0 ∧ ebl [x] ≤ cA (x.map U.a)
    rw [(cB_a x).1, (cB_a x).2]; exact ⟨rfl, by simp [ebl]⟩
  | x :: y :: xs, [], ts, h1, h2 => by simp at h1
  | [x], [], _ :: _, h1, h2 => by simp at h2
  | [x], _ :: _, ts, h1, h2 => by simp at h1
  | x :: y :: xs, d :: cs, [], h1, h2 => by simp at h2
  | x :: y :: xs, c :: cs, t :: ts, h1, h2 => by
    obtain ⟨q1, q2⟩ := il_AB (y :: xs) cs ts (by simpa using h1) (by simpa using h2)
    show cB (x.map U.a ++ uni c t :: ilL (y :: xs) cs ts) = cs.length + 1 ∧ x.length + ebl (y :: xs) ≤ cA (x.map U.a ++ uni c t :: ilL (y :: xs) cs ts)
    rw [cB_append, cA_append, (cB_a x).1, (cB_a x).2]
    cases c
    · show 0 + (cB (ilL (y :: xs) cs ts) + 1) = _ ∧ _ ≤ x.length + (cA (ilL (y :: xs) cs ts) + 1); omega
    · show 0 + (cB (ilL (y :: xs) cs ts) + 1) = _ ∧ _ ≤ x.length + cA (ilL (y :: xs) cs ts); omega
theorem ebl_mem : ∀ (xs : List Flow) (x : Flow), x ∈ xs → x.length ≤ ebl xs
  | y :: xs, x, h => by
    show x.length ≤ y.length + ebl xs
    rcases List.mem_cons.1 h with rfl | h
    · omega
    · have := ebl_mem xs x h; omega
theorem bkA_all (Q : Attrs → Prop) (h0 : Q []) : ∀ (us : List U) (f : Flow) (b : Act), (∀ t ∈ b.2.2, Q t) → (∀ x ∈ f, ∀ t, U.k t ∈ us → Q (btw (chd (ea x) t) (ea x))) → ∀ t ∈ (bkA us f b).2.2, Q t
  | [], f, b, h, _ => h
  | .a x :: us, f, b, h, h2 => bkA_all Q h0 us f (aU true [] b) (fun t ht => (List.mem_append.1 ht).elim (h t) (fun q => by rw [List.mem_singleton.1 q]; exact h0)) (fun x hx t ht => h2 x hx t (by simp [ht]))
  | .c :: us, f, b, h, h2 => bkA_all Q h0 us (f.drop 1) (aE (f.take 1) b) h (fun x hx t ht => h2 x (List.mem_of_mem_drop hx) t (by simp [ht]))
  | .k t :: us, [], b, h, h2 => bkA_all Q h0 us [] b h (fun x hx => by simp at hx)
  | .k t :: us, x :: f, b, h, h2 => bkA_all Q h0 us f (aU false (btw (chd (ea x) t) (ea x)) b) (fun u hu => (List.mem_append.1 hu).elim (h u) (fun q => by rw [List.mem_singleton.1 q]; exact h2 x (by simp) t (by simp))) (fun y hy u hu => h2 y (by simp [hy]) u (by simp [hu]))
theorem gone_len (b : Attrs) : ∀ l, (gone b l).length ≤ l.length
  | [] => Nat.le_refl _
  | x :: l => by
    have := gone_len b l
    unfold gone
    split <;> simp <;> omega
theorem btw_len (a b : Attrs) : (btw a b).length ≤ a.length + b.length := by
  have h1 := puts_len (gone b a) (puts [] (dif a b))
  have h2 := puts_len (dif a b) []
  have h3 := dif_len a b
  have h4 := gone_len b a
  have h5 : ([] : Attrs).length = 0 := rfl
  show (puts (puts [] (dif a b)) (gone b a)).length ≤ _
  omega
theorem nv_sh {emp : Bool} {l : Attrs} (hl : l.length ≤ 1048576) (h : Nv emp l) : Sh l := ⟨hl, fun i => by
  have hb : ∀ x ∈ l, (an x).length ≤ 1048576 ∧ (av x).length ≤ 1048576 := fun x hx => by
    obtain ⟨h1, h2⟩ := h x hx
    constructor
    · unfold nm at h1
      split at h1
      · cases h1
      · simp only [Bool.and_eq_true, decide_eq_true_eq] at h1; omega
    · rcases h2 with h2 | ⟨_, h2⟩
      · unfold vl at h2
        simp only [Bool.and_eq_true, decide_eq_true_eq] at h2; omega
      · rw [h2]; simp
  by_cases hi : i < l.length
  · have : atA l i = l[i] := at_get (e := YAttr) l i hi
    rw [this]; exact hb _ (List.getElem_mem hi)
  · have : atA l i = mkA [] [] := by
      show l.getD i (Ty.zero YAttr) = _
      rw [List.getD_eq_getElem?_getD, List.getElem?_eq_none (by omega)]; rfl
    rw [this]; exact ⟨by decide, by decide⟩⟩
end Go.Ev.Delta
