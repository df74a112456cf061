
import Derived.Test.YtlgjdgebmiegeaaPDifD
import Derived.Test.YtlgjdgebmiegeaaGDiffL
namespace Go.Ev.Diff
open Go.Ev Go.Ev.Attr Go.Ev.Track Go.Ev.Delta
set_option linter.unusedVariables false
set_option linter.unusedSimpArgs false
theorem fs_lts (s : Str) (h : s.length ≤ 10) : Fs (lts s) := fs_of (by simp [lts]; omega) (fun x hx => by
  obtain ⟨c, _, rfl⟩ := List.mem_map.1 hx
  exact sh_nil)
theorem ea_lts (s : Str) : ∀ x ∈ lts s, ea x = [] := fun x hx => by
  obtain ⟨c, _, rfl⟩ := List.mem_map.1 hx
  rfl
theorem chg_nil : chg [] [] = [] := by
  have f : Full [] := ⟨trivial, fun x h => by simp at h, fun x h => by simp at h⟩
  rw [chg_btw f f]; rfl
theorem diff_facts : C_law_diffs F_law_diffs = some (ret_law_diffs true) := by
  have A1 := letters_eq [97, 98] (by decide)
  have A2 := letters_eq [98] (by decide)
  have A3 := flows_eq (lts [97, 98]) (lts [98]) (fs_lts _ (by decide)) (fs_lts _ (by decide)) (fun x hx y hy => by rw [ea_lts _ x hx, ea_lts _ y hy]; decide)
  have e1 : fErr (lts [97, 98]) (lts [98]) = 0 := by kernel_rfl
  have e2 : tied (lts [97, 98]) (lts [98]) = false := by kernel_rfl
  have e3 : fu (lts [97, 98]) (lts [98]) = [U.c, U.k []] := by
    unfold fu
    rw [e2, if_neg (by decide)]
    have : pa (lts [97, 98]) (lts [98]) = [U.c, U.k (chg [] [])] := by kernel_rfl
    rw [this, chg_nil]
  have e4 : out (runP [U.c, U.k []] w0) = [mkT 2 1 [] [], mkT 0 1 [] []] := by kernel_rfl
  rw [if_pos e1, e3, e4] at A3
  have A5 := sdelta_self [mkT 2 1 [] [], mkT 0 1 [] []] (by decide) (fun s hs => by
    have : s = mkT 2 1 [] [] ∨ s = mkT 0 1 [] [] := by simpa using hs
    rcases this with rfl | rfl <;> exact ⟨Nat.zero_le _, fs_nil⟩)
  have A5' : C_R_SameDelta F_R_SameDelta [mkT 2 1 [] [], mkT 0 1 [] []] [(2, (1, ([], []))), (0, (1, ([], [])))] = some (ret_R_SameDelta true) := A5
  rw [e_law_diffs, A1, A2]
  simp only [Option.bind_some, res_law_letters_0_ret, A3, delta_facts, res_law_deltas_0_ret, res_diff_Flows_0_ret, res_diff_Flows_1_ret, show (true == true) = true from rfl, bct, beq_self_eq_true, A5', res_R_SameDelta_0_ret]
section
variable {a b : Flow} (va : Vf a) (vb : Vf b) (ha : a.length ≤ 2000) (hb : b.length ≤ 2000) (hab : ∀ x ∈ a, ∀ y ∈ b, 2 * (ea x).length + 2 * (ea y).length ≤ 1048576)
include va vb ha hb hab
/-- What Flows writes is a valid delta, and small. -/
theorem fu_out : Delta.err (out (runP (fu a b) w0)) = 0 ∧ befs (out (runP (fu a b) w0)) = a.length ∧ afts (out (runP (fu a b) w0)) = b.length ∧ Ds (out (runP (fu a b) w0)) ∧ (out (runP (fu a b) w0)).length ≤ 13000 := by
  have hab' : ∀ x ∈ a, ∀ y ∈ b, (ea x).length + (ea y).length ≤ 1048576 := fun x hx y hy => by have := hab x hx y hy; omega
  obtain ⟨c1, c2⟩ := fu_AB a b
  have hl := fu_len a b
  obtain ⟨v1, v2, v3⟩ := valid_out (fu a b) (fu_ok va vb) (by omega) (by omega)
  obtain ⟨s1, s2⟩ := SI.run (fu a b) w0 0 ⟨by simp [w0], fun s h => by simp [w0] at h, fun s h => by simp [w0] at h⟩ (fu_sh va vb hab') (by show 0 + _ ≤ _; omega)
  obtain ⟨s3, s4⟩ := s1.outs s2
  exact ⟨v1, by rw [v2, c1], by rw [v3, c2], ds_of (by omega) s4, by omega⟩
omit va vb ha hb hab in
/-- What is told of attributes. -/
theorem fu_t (a b : Flow) : ∀ t ∈ (rdA (fu a b) A0).2.2, t = [] ∨ ∃ x ∈ a, ∃ y ∈ b, t = chg (ea x) (ea y) := by
  have hk : ∀ (us : List U) (o : Delta.Act), (∀ t ∈ o.2.2, t = [] ∨ U.k t ∈ fu a b) → (∀ u ∈ us, u ∈ fu a b) → ∀ t ∈ (rdA us o).2.2, t = [] ∨ U.k t ∈ fu a b := by
    intro us
    induction us with
    | nil => intro o h _; exact h
    | cons u us ih =>
      intro o h hu
      refine ih (rd1 u o) ?_ (fun v hv => hu v (by simp [hv]))
      intro t ht
      cases u with
      | a x => exact h t ht
      | c =>
        rcases List.mem_append.1 (show t ∈ o.2.2 ++ [[]] from ht) with q | q
        · exact h t q
        · exact .inl (by simpa using q)
      | k s =>
        rcases List.mem_append.1 (show t ∈ o.2.2 ++ [s] from ht) with q | q
        · exact h t q
        · have : t = s := by simpa using q
          subst this
          exact .inr (hu _ (by simp))
  have hp : ∀ (a b : Flow) t, U.k t ∈ pa a b → ∃ x ∈ a, ∃ y ∈ b, t = chg (ea x) (ea y) := by
    intro a
    induction a with
    | nil => intro b t h; obtain ⟨x, _, q⟩ := List.mem_map.1 h; cases q
    | cons x a iha =>
      intro b
      induction b with
      | nil =>
        intro t h
        rw [pa_c0] at h
        rcases List.mem_cons.1 h with q | q
        · cases q
        · obtain ⟨u, _, v, hv, _⟩ := iha [] t q
          simp at hv
      | cons y b ihb =>
        intro t h
        rw [pa_cc] at h
        split at h
        · rcases List.mem_cons.1 h with q | q
          · injection q with q; exact ⟨x, by simp, y, by simp, q⟩
          · obtain ⟨u, h1, v, h2, h3⟩ := iha b t q
            exact ⟨u, by simp [h1], v, by simp [h2], h3⟩
        · split at h
          · rcases List.mem_cons.1 h with q | q
            · cases q
            · obtain ⟨u, h1, v, h2, h3⟩ := iha (y :: b) t q
              exact ⟨u, by simp [h1], v, h2, h3⟩
          · rcases List.mem_cons.1 h with q | q
            · cases q
            · obtain ⟨u, h1, v, h2, h3⟩ := ihb t q
              exact ⟨u, h1, v, by simp [h2], h3⟩
  have hf : ∀ t, U.k t ∈ fu a b → ∃ x ∈ a, ∃ y ∈ b, t = chg (ea x) (ea y) := by
    intro t h
    unfold fu at h
    split at h
    · rename_i ht
      obtain ⟨t1, t2, t3, t4⟩ := tied_spec ht
      rcases List.mem_append.1 h with q | q
      · obtain ⟨u, h1, v, h2, h3⟩ := hp _ _ t q
        exact ⟨u, ini_mem h1, v, ini_mem h2, h3⟩
      · have q := List.mem_singleton.1 q
        injection q with q
        exact ⟨_, lst_mem t1, _, lst_mem t2, q⟩
    · exact hp _ _ t h
  intro t ht
  rcases hk (fu a b) A0 (fun t h => by simp [A0] at h) (fun u hu => hu) t ht with h | q
  · exact .inl h
  · exact .inr (hf t q)
theorem eb_small : eb (out (runP (fu a b) w0)) ≤ 2000 := by
  obtain ⟨v1, v2, v3, v4, v5⟩ := fu_out va vb ha hb hab
  have hv := (dErr_zero _ none 0 0 v1).1
  have : ∀ (l : Delta.Steps), (∀ s ∈ l, sErr s = 0) → (eb l : Int) ≤ afts l := by
    intro l
    induction l with
    | nil => intro _; simp [eb, afts]
    | cons s l ih =>
      intro h
      have q := ih (fun t ht => h t (by simp [ht]))
      have hz := h s (by simp)
      simp only [eb, afts]
      have : ((se s).length : Int) ≤ addA s 0 := by
        unfold addA ssz
        rcases sErr_zero hz with ⟨h1, _, _, h4, _⟩ | ⟨h1, h2, h3, _⟩
        · simp [h1]
        · have k1 : ¬ sk s = 1 := by rcases h1 with q | q <;> omega
          rw [h2, if_neg k1]
          split <;> simp <;> omega
      omega
  have := this _ hv
  omega
end
section
variable (a b : Flow) (sa : Fs a) (sb : Fs b) (hab : ∀ x ∈ a, ∀ y ∈ b, 2 * (ea x).length + 2 * (ea y).length ≤ 1048576)
include sa sb hab
end
theorem two_bulk {a b : Flow} (hb : (Ty.list YElem).bulk a + (Ty.list YElem).bulk b ≤ 1048576) : ∀ x ∈ a, ∀ y ∈ b, 2 * (ea x).length + 2 * (ea y).length ≤ 1048576 := fun x hx y hy => by
  have q1 := bulk_mem a x hx
  have q2 := bulk_mem b y hy
  have e1 : Ty.bulk YElem x = 1 + (1 + (Ty.list YAttr).bulk (ea x)) := rfl
  have e2 : Ty.bulk YElem y = 1 + (1 + (Ty.list YAttr).bulk (ea y)) := rfl
  have q3 := bulk2 (ea x)
  have q4 := bulk2 (ea y)
  rw [e1] at q1
  rw [e2] at q2
  omega
end Go.Ev.Diff
