
import Derived.Test.YteojfhgljknmiaaDoorPFlow
namespace Go.Ev.Delta
open Go.Ev Go.Ev.Attr Go.Ev.Track
set_option linter.unusedVariables false
set_option linter.unusedSimpArgs false
/-- Lists that are the same. -/
def eqA (a b : Attrs) : Bool := decide ((a : List (List UInt8 × List UInt8)) = b)
theorem eqA_iff (a b : Attrs) : eqA a b = true ↔ a = b := decide_eq_true_iff
theorem same35 (a b : Attrs) (hl : a.length ≤ 1048576) : C_R_SameAttrs F_R_SameAttrs a b = some (ret_R_SameAttrs (eqA a b)) := by
  obtain ⟨r, h1, h2⟩ := same_eq a b hl
  have : r = eqA a b := by rw [Bool.eq_iff_iff, h2, eqA_iff]
  rw [h1, this]
theorem same38 (a b : Attrs) (hl : a.length ≤ 1048576) : C_attr_Same F_attr_Same a b = some (ret_attr_Same (eqA a b)) := by
  obtain ⟨r, h1, h2⟩ := lsame_eq a b hl
  have : r = eqA a b := by rw [Bool.eq_iff_iff, h2, eqA_iff]
  rw [h1, this]
def emp {α : Type} (l : List α) : Bool := l.isEmpty
theorem sh_nil : Sh [] := ⟨by decide, fun i => by
  have : atA [] i = nul := by unfold atA at_; simp [List.getD_eq_getElem?_getD]; rfl
  rw [this]; exact ⟨by decide, by decide⟩⟩
theorem fs_of {f : Flow} (hl : f.length ≤ 1048576) (h : ∀ x ∈ f, Sh (ea x)) : Fs f := ⟨hl, fun i => by
  by_cases hi : i < f.length
  · refine h _ ?_
    unfold atE at_
    simp [List.getD_eq_getElem?_getD, hi]
  · have : atE f i = mkE 0 0 [] := by
      unfold atE at_
      rw [List.getD_eq_getElem?_getD, List.getElem?_eq_none (by simp; omega)]
      rfl
    rw [this]; exact sh_nil⟩
theorem fs_mem {f : Flow} (hf : Fs f) {x : YElem.den} (h : x ∈ f) : Sh (ea x) := by
  obtain ⟨i, h1, h2⟩ := List.getElem_of_mem h
  have := hf.2 i
  have e : atE f i = x := by
    unfold atE at_
    simp [List.getD_eq_getElem?_getD, h1, h2]
  rwa [e] at this
theorem fs_bulk {f : Flow} (h : (Ty.list YElem).bulk f ≤ 1048576) : Fs f := by
  have h1 := bulk_len f
  refine fs_of (by omega) (fun x hx => ?_)
  have := bulk_mem f _ hx
  have e : YElem.bulk x = 1 + (1 + (Ty.list YAttr).bulk (ea x)) := rfl
  exact sh_of _ (by omega)
noncomputable def eqE (x y : YElem.den) : Bool := @decide (x = y) (Classical.propDecidable _)
theorem eqE_iff (x y : YElem.den) : eqE x y = true ↔ x = y := by unfold eqE; exact @decide_eq_true_iff _ (Classical.propDecidable _)
noncomputable def eqF (a b : Flow) : Bool := @decide (a = b) (Classical.propDecidable _)
theorem eqF_iff (a b : Flow) : eqF a b = true ↔ a = b := by unfold eqF; exact @decide_eq_true_iff _ (Classical.propDecidable _)
theorem selem_eq (x y : YElem.den) (hx : (ea x).length ≤ 1048576) : C_R_SameElem F_R_SameElem x y = some (ret_R_SameElem (eqE x y)) := by
  have e1 : x.1 = ec x := rfl
  have e2 : x.2.1 = er x := rfl
  have e3 : x.2.2 = ea x := rfl
  have f1 : y.1 = ec y := rfl
  have f2 : y.2.1 = er y := rfl
  have f3 : y.2.2 = ea y := rfl
  have key : eqE x y = ((ec x == ec y) && ((er x == er y) && eqA (ea x) (ea y))) := by
    rw [Bool.eq_iff_iff, eqE_iff]
    simp only [Bool.and_eq_true, beq_iff_eq, eqA_iff]
    exact ⟨fun h => by rw [h]; exact ⟨rfl, rfl, rfl⟩, fun ⟨h1, h2, h3⟩ => Prod.ext h1 (Prod.ext h2 h3)⟩
  rw [e_R_SameElem, e1, e2, e3, f1, f2, f3, same35 _ _ hx, key]
  cases (ec x == ec y) <;> cases (er x == er y) <;> simp [bcond_if]
theorem zip_all {α : Type} : ∀ (a b : List α), a.length = b.length → ((∀ p ∈ a.zip b, p.1 = p.2) ↔ a = b)
  | [], [], _ => by simp
  | x :: a, y :: b, h => by
    have ih := zip_all a b (by simpa using h)
    simp only [List.zip_cons_cons, List.mem_cons, forall_eq_or_imp, ih, List.cons.injEq]
  | [], _ :: _, h => by simp at h
  | _ :: _, [], h => by simp at h
theorem fold_all {α O : Type} (p : α → Bool) (y n : O) : ∀ (l : List α), foldO (S := Unit) (fun _ x => if p x = true then .inl () else .inr n) (fun _ => y) () l = @ite _ (∀ x ∈ l, p x = true) (Classical.propDecidable _) y n
  | [] => by rw [foldO, if_pos (by simp)]
  | x :: l => by
    rw [foldO]
    by_cases h : p x = true
    · rw [if_pos h]
      simp only
      rw [fold_all p y n l]
      by_cases h2 : ∀ x ∈ l, p x = true
      · rw [if_pos h2, if_pos (by simpa [h] using h2)]
      · rw [if_neg h2, if_neg (by simpa [h] using h2)]
    · rw [if_neg h]
      simp only
      rw [if_neg (by simp [h])]
theorem sflow_eq (a b : Flow) (ha : Fs a) : C_R_SameFlow F_R_SameFlow a b = some (ret_R_SameFlow (eqF a b)) := by
  have hl := ha.1
  rw [e_R_SameFlow]
  by_cases h : a.length = b.length
  · have hz : (a.zip b).length = a.length := by simp [h]
    have q := range_all (a.zip b) (by omega) (fun m (_ : Unit) i => L_R_SameFlow_0 big m a b (a.length : Int) (i : Int)) (fun _ p => if eqE p.1 p.2 = true then .inl () else .inr (ret_R_SameFlow false)) (fun _ => ret_R_SameFlow true) (fun _ _ => True)
      (fun m i s hi _ => by
        have h1 : i < a.length := by omega
        have h2 : i < b.length := by omega
        have st := L_R_SameFlow_0_step big m a b (a.length : Int) (i : Int)
        rw [at_get (e := YElem) a i h1, at_get (e := YElem) b i h2, selem_eq _ _ (by have := (fs_mem ha (List.getElem_mem h1)).1; exact this)] at st
        simp only [bcond_if, dlt h1, inb, h1, h2, if_true, Option.bind_some, res_R_SameElem_0_ret, wsucc h1 (show a.length ≤ _ by omega)] at st
        simp only [List.getElem_zip]
        cases hq : eqE a[i] b[i]
        · rw [hq] at st; simpa using st
        · rw [hq] at st; simpa using st)
      (fun m s _ => by
        show L_R_SameFlow_0 big (m + 1) a b (a.length : Int) ((a.zip b).length : Int) = _
        rw [hz, L_R_SameFlow_0_step]
        simp only [bcond_if, dlt_self, if_false, Bool.false_eq_true]) () trivial
    rw [fold_all (fun p : YElem.den × YElem.den => eqE p.1 p.2)] at q
    have c0 : (((a.length : Nat) : Int) != ((b.length : Nat) : Int)) = false := by rw [h]; simp
    have q' : L_R_SameFlow_0 big big a b (a.length : Int) 0 = _ := q
    rw [c0, q']
    simp only [bcond_if, Bool.false_eq_true, if_false]
    by_cases e : a = b
    · rw [if_pos (by simpa only [eqE_iff] using (zip_all a b h).2 e), (eqF_iff a b).2 e]
    · have : eqF a b = false := by
        cases hq : eqF a b with
        | true => exact absurd ((eqF_iff a b).1 hq) e
        | false => rfl
      rw [if_neg (fun z => e ((zip_all a b h).1 (by simpa only [eqE_iff] using z))), this]
  · have c0 : (((a.length : Nat) : Int) != ((b.length : Nat) : Int)) = true := by
      rw [bne_iff_ne]; omega
    have : eqF a b = false := by
      cases hq : eqF a b with
      | true => exact absurd (congrArg List.length ((eqF_iff a b).1 hq)) h
      | false => rfl
    rw [c0, this]; rfl
end Go.Ev.Delta
