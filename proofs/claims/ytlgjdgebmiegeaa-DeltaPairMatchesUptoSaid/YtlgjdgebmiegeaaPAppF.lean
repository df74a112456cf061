
/- Apply and Undo: the law. -/
import Derived.Test.YtlgjdgebmiegeaaPAppE
namespace Go.Ev.Delta
open Go.Ev Go.Ev.Attr Go.Ev.Track
set_option linter.unusedVariables false
set_option linter.unusedSimpArgs false
def shU : U → Prop
  | .a x => Sh (ea x)
  | .c => True
  | .k t => Sh t
structure SI (w : W) (k : Nat) : Prop where
  lo : w.1.length ≤ 3 * k
  ss : ∀ s ∈ w.1, Ss s
  a : ∀ x ∈ w.2.1, Sh (ea x)
theorem SI.outs {w : W} {k : Nat} (h : SI w k) (hl : w.2.1.length ≤ 1048576) : (out w).length ≤ 3 * k + 2 ∧ ∀ s ∈ out w, Ss s := by
  have h1 := h.lo
  refine ⟨by have := fl_len w.1 w.2.1 w.2.2; unfold out; omega, fun s hs => ?_⟩
  rcases fl_mem hs with q | q | q
  · exact h.ss s q
  · rw [q.1]; exact ⟨sh_nil, fs_of hl h.a⟩
  · rw [q.1]; exact ⟨sh_nil, fs_nil⟩
theorem SI.run : ∀ (us : List U) (w : W) (k : Nat), SI w k → (∀ u ∈ us, shU u) → w.2.1.length + cA us ≤ 1048576 → SI (runP us w) (k + us.length) ∧ (runP us w).2.1.length ≤ 1048576
  | [], w, k, h, _, hl => ⟨h, by have : cA [] = 0 := rfl; show w.2.1.length ≤ _; omega⟩
  | .a x :: us, w, k, h, hu, hl => by
    have hx : Sh (ea x) := hu (.a x) (by simp)
    have e : (uE [x] w).2.1.length = w.2.1.length + 1 := by show (w.2.1 ++ [x]).length = _; simp
    have c : cA (.a x :: us) = cA us + 1 := rfl
    have := SI.run us (uE [x] w) (k + 1) ⟨by have := h.lo; show w.1.length ≤ _; omega, h.ss, fun y hy => (List.mem_append.1 hy).elim (h.a y) (fun q => by rw [List.mem_singleton.1 q]; exact hx)⟩ (fun u q => hu u (by simp [q])) (by omega)
    rw [List.length_cons, show k + (us.length + 1) = k + 1 + us.length by omega]
    exact this
  | .c :: us, w, k, h, hu, hl => by
    have := SI.run us (uC w) (k + 1) ⟨by have := h.lo; show w.1.length ≤ _; omega, h.ss, h.a⟩ (fun u q => hu u (by simp [q])) hl
    rw [List.length_cons, show k + (us.length + 1) = k + 1 + us.length by omega]
    exact this
  | .k t :: us, w, k, h, hu, hl => by
    have ht : Sh t := hu (.k t) (by simp)
    have c : cA (.k t :: us) = cA us + 1 := rfl
    obtain ⟨o1, o2⟩ := h.outs (by omega)
    have := SI.run us (uK t w) (k + 1) ⟨by have := mrg_len (out w) 1 t; show (mrgK (out w) 1 t).length ≤ _; omega, fun s hs => by
        rcases mrg_mem hs with q | q | ⟨r, r1, r2, r3, r4⟩
        · exact o2 s q
        · rw [q]; exact ⟨ht, fs_nil⟩
        · have := o2 r r1; rw [r4]; exact this, fun y hy => by simp [uK] at hy⟩ (fun u q => hu u (by simp [q])) (by show 0 + cA us ≤ _; omega)
    rw [List.length_cons, show k + (us.length + 1) = k + 1 + us.length by omega]
    exact this
theorem bk_mem : ∀ (us : List U) (f : Flow) (u : U), u ∈ bk us f → u = .c ∨ (∃ x ∈ f, u = .a x) ∨ ∃ x ∈ f, ∃ t, U.k t ∈ us ∧ u = bkE t x
  | [], f, u, h => by simp [bk] at h
  | .a x :: us, f, u, h => by
    rcases List.mem_cons.1 (show u ∈ U.c :: bk us f from h) with rfl | h
    · exact .inl rfl
    · rcases bk_mem us f u h with q | q | ⟨y, y1, t, t1, t2⟩
      · exact .inl q
      · exact .inr (.inl q)
      · exact .inr (.inr ⟨y, y1, t, by simp [t1], t2⟩)
  | .c :: us, f, u, h => by
    rcases List.mem_append.1 (show u ∈ (f.take 1).map U.a ++ bk us (f.drop 1) from h) with h | h
    · obtain ⟨x, h1, h2⟩ := List.mem_map.1 h
      exact .inr (.inl ⟨x, List.mem_of_mem_take h1, h2.symm⟩)
    · rcases bk_mem us _ u h with q | ⟨y, y1, y2⟩ | ⟨y, y1, t, t1, t2⟩
      · exact .inl q
      · exact .inr (.inl ⟨y, List.mem_of_mem_drop y1, y2⟩)
      · exact .inr (.inr ⟨y, List.mem_of_mem_drop y1, t, by simp [t1], t2⟩)
  | .k t :: us, f, u, h => by
    rcases List.mem_append.1 (show u ∈ (f.take 1).map (bkE t) ++ bk us (f.drop 1) from h) with h | h
    · obtain ⟨x, h1, h2⟩ := List.mem_map.1 h
      exact .inr (.inr ⟨x, List.mem_of_mem_take h1, t, by simp, h2.symm⟩)
    · rcases bk_mem us _ u h with q | ⟨y, y1, y2⟩ | ⟨y, y1, t, t1, t2⟩
      · exact .inl q
      · exact .inr (.inl ⟨y, List.mem_of_mem_drop y1, y2⟩)
      · exact .inr (.inr ⟨y, List.mem_of_mem_drop y1, t, by simp [t1], t2⟩)
theorem ap_mem : ∀ (us : List U) (f : Flow) (y : YElem.den), y ∈ ap us f → U.a y ∈ us ∨ ∃ x ∈ f, ∃ t, U.k t ∈ us ∧ y = apE t x
  | [], f, u, h => by simp [ap] at h
  | .a x :: us, f, u, h => by
    rcases List.mem_cons.1 (show u ∈ x :: ap us f from h) with rfl | h
    · exact .inl (by simp)
    · rcases ap_mem us f u h with q | ⟨y, y1, t, t1, t2⟩
      · exact .inl (by simp [q])
      · exact .inr ⟨y, y1, t, by simp [t1], t2⟩
  | .c :: us, f, u, h => by
    rcases ap_mem us (f.drop 1) u h with q | ⟨y, y1, t, t1, t2⟩
    · exact .inl (by simp [q])
    · exact .inr ⟨y, List.mem_of_mem_drop y1, t, by simp [t1], t2⟩
  | .k t :: us, f, u, h => by
    rcases List.mem_append.1 (show u ∈ (f.take 1).map (apE t) ++ ap us (f.drop 1) from h) with h | h
    · obtain ⟨x, h1, h2⟩ := List.mem_map.1 h
      exact .inr ⟨x, List.mem_of_mem_take h1, t, by simp, h2.symm⟩
    · rcases ap_mem us _ u h with q | ⟨y, y1, t, t1, t2⟩
      · exact .inl (by simp [q])
      · exact .inr ⟨y, List.mem_of_mem_drop y1, t, by simp [t1], t2⟩
theorem ex_mem : ∀ (d : Steps) (u : U), u ∈ ex d → (∃ s ∈ d, ∃ x ∈ se s, u = .a x) ∨ u = .c ∨ ∃ s ∈ d, u = .k (sa s)
  | [], u, h => by simp [ex] at h
  | s :: d, u, h => by
    rcases List.mem_append.1 (show u ∈ exS s ++ ex d from h) with h | h
    · unfold exS at h
      split at h
      · obtain ⟨x, h1, h2⟩ := List.mem_map.1 h
        exact .inl ⟨s, by simp, x, h1, h2.symm⟩
      · rw [List.eq_of_mem_replicate h]
        unfold uni
        split
        · exact .inr (.inl rfl)
        · exact .inr (.inr ⟨s, by simp, rfl⟩)
    · rcases ex_mem d u h with ⟨t, t1, t2⟩ | q | ⟨t, t1, t2⟩
      · exact .inl ⟨t, by simp [t1], t2⟩
      · exact .inr (.inl q)
      · exact .inr (.inr ⟨t, by simp [t1], t2⟩)
theorem nb_befs : ∀ {l : Steps}, (∀ s ∈ l, sErr s = 0) → (nb l : Int) = befs l
  | [], _ => rfl
  | s :: l, h => by
    have ih := nb_befs (l := l) (fun t ht => h t (by simp [ht]))
    have hz := h s (by simp)
    show (((if sk s = 1 then 0 else (sn s).toNat) + nb l : Nat) : Int) = addB s 0 + befs l
    unfold addB
    split
    · omega
    · rcases sErr_zero hz with ⟨h1, _⟩ | ⟨_, _, h3, _⟩
      · contradiction
      · omega
theorem len_ba : ∀ (l : Steps), (∀ s ∈ l, sErr s = 0) → (l.length : Int) ≤ befs l + afts l
  | [], _ => by simp [befs, afts]
  | s :: l, h => by
    have ih := len_ba l (fun t ht => h t (by simp [ht]))
    have hz := h s (by simp)
    have : 1 ≤ addB s 0 + addA s 0 := by
      unfold addB addA ssz
      rcases sErr_zero hz with ⟨h1, _, _, h4, _⟩ | ⟨h1, _, h3, _⟩
      · have : 1 ≤ (se s).length := by
          cases hq : se s with
          | nil => exact absurd hq h4
          | cons x y => simp
        simp only [h1, if_true, show ¬ ((1 : Int) = 2) from by decide, if_false]
        omega
      · have k1 : ¬ sk s = 1 := by rcases h1 with q | q <;> omega
        simp only [k1, if_false]
        split <;> omega
    simp only [befs, afts, List.length_cons]
    omega
theorem elem3 : ∀ (f : Flow), 3 * f.length + 1 ≤ (Ty.list YElem).bulk f
  | [] => by simp [Ty.bulk]
  | x :: f => by
    have ih := elem3 f
    have e : (Ty.list YElem).bulk (x :: f) = Ty.bulk YElem x + (Ty.list YElem).bulk f := by simp [Ty.bulk]; omega
    have e2 : Ty.bulk YElem x = 1 + (1 + (Ty.list YAttr).bulk (ea x)) := rfl
    have := bulk_pos (Ty.list YAttr) (ea x)
    rw [e, e2, List.length_cons]; omega
theorem step3 : ∀ (d : Steps), 3 * eb d + 1 ≤ (Ty.list YStep).bulk d
  | [] => by simp [Ty.bulk, eb]
  | s :: d => by
    have ih := step3 d
    have e : (Ty.list YStep).bulk (s :: d) = Ty.bulk YStep s + (Ty.list YStep).bulk d := by simp [Ty.bulk]; omega
    have e2 : Ty.bulk YStep s = 1 + (1 + ((Ty.list YAttr).bulk (sa s) + (Ty.list YElem).bulk (se s))) := rfl
    have := elem3 (se s)
    rw [e, e2]; simp only [eb]; omega
section
variable (f : Flow) (d : Steps) (hf : Fs f) (hd : Ds d) (hsz : f.length + eb d ≤ 349525) (hab : ∀ x ∈ f, ∀ s ∈ d, 2 * (ea x).length + (sa s).length ≤ 1048576)
include hf hd hsz hab
theorem law_apply : C_law_DeltaApplyMatches F_law_DeltaApplyMatches f d = some (ret_law_DeltaApplyMatches true) := by
  have fe := fits_eq f d hf hd
  rw [e_law_DeltaApplyMatches, delta_facts, apply_eq f d hf hd, lfit_eq f d hf hd]
  by_cases hz : fit f d = 0
  · obtain ⟨hp, he, hb⟩ := fit_zero hz
    have hv := (dErr_zero d none 0 0 he).1
    have hfull := pErr_full f hp
    have hnb := nb_befs hv
    have hs0 : ∀ s ∈ d, sk s = 1 ∨ 0 ≤ sn s := fun s hs => by
      rcases sErr_zero (hv s hs) with ⟨h1, _⟩ | ⟨_, _, h3, _⟩
      · exact .inl h1
      · exact .inr (by omega)
    obtain ⟨u1, u2⟩ := un_bk d f hv hfull
    obtain ⟨a1, a2⟩ := act_ex d
    obtain ⟨z1, z2⟩ := actL_size d A0 ⟨rfl, rfl⟩
    have y1 : A0.2.1.length = 0 := rfl
    have y2 : ebl A0.1 = 0 := rfl
    have hl : (actL d A0).2.1.length = f.length := by omega
    obtain ⟨x1, x2⟩ := cB_ex d
    have hat : ∀ x ∈ f, ∀ t ∈ (actL d A0).2.2, 2 * (ea x).length + t.length ≤ 1048576 := fun x hx t ht => actL_all (fun t => 2 * (ea x).length + t.length ≤ 1048576) d A0 (fun t h => by simp [A0] at h) (fun s hs => hab x hx s hs) t ht
    have hact := act_eq d hd.1 hs0 (by omega) (by omega)
    have hap := ap_len (ex d) f
    have hdone := done_all f (actL d A0) a1 hl (by omega) (fun x hx t ht => by have := hat x hx t ht; omega) (by rw [a2]; omega)
    have hlen := len_AB (ex d)
    have hback := back_all f (actL d A0) a1 hl (by omega) hat (fun x hx => by have := ebl_mem _ x hx; omega) (by rw [a2]; omega)
    rw [a2] at hdone hback
    obtain ⟨b1, b2⟩ := bkA_il (ex d) f A0 ⟨rfl, rfl⟩
    have b3 : il (bkA (ex d) f A0) = bk (ex d) f := b2.trans rfl
    obtain ⟨c1, c2⟩ := bk_AB (ex d) f
    have hkey : ∀ x ∈ f, ∀ t, U.k t ∈ ex d → (btw (chd (ea x) t) (ea x)).length ≤ 1048576 ∧ Attr.err true t = 0 ∧ 2 * (ea x).length + t.length ≤ 1048576 := fun x hx t ht => by
      rcases ex_mem d _ ht with ⟨s, _, y, _, q⟩ | q | ⟨s, hs, q⟩
      · cases q
      · cases q
      · injection q with q
        subst q
        have h1 := btw_len (chd (ea x) (sa s)) (ea x)
        have h2 := chd_len (ea x) (sa s)
        have h3 := hab x hx s hs
        exact ⟨by omega, sErr_attr (hv s hs), h3⟩
    have il1 := il_AB (bkA (ex d) f A0).1 (bkA (ex d) f A0).2.1 (bkA (ex d) f A0).2.2 b1.h1 b1.h2
    have il2 : ilL (bkA (ex d) f A0).1 (bkA (ex d) f A0).2.1 (bkA (ex d) f A0).2.2 = bk (ex d) f := b3
    rw [il2] at il1
    have hdel := delta_eq (bkA (ex d) f A0) b1 (by omega) (atr_small _ (bkA_all (fun t => t.length ≤ 1048576) (Nat.zero_le _) (ex d) f A0 (fun t h => by simp [A0] at h) (fun x hx t ht => (hkey x hx t ht).1))) (by omega)
    rw [runA_il, il2] at hdel
    have hok : ∀ u ∈ bk (ex d) f, okU u ∧ shU u := fun u hu => by
      rcases bk_mem (ex d) f u hu with rfl | ⟨x, hx, rfl⟩ | ⟨x, hx, t, ht, rfl⟩
      · exact ⟨trivial, trivial⟩
      · exact ⟨pErr_mem hp x hx, fs_mem hf hx⟩
      · obtain ⟨k1, k2, k3⟩ := hkey x hx t ht
        have k4 := back_ok (hfull x hx) k2
        exact ⟨k4, nv_sh k1 (nv_of k4)⟩
    have hval := valid_out (bk (ex d) f) (fun u hu => (hok u hu).1) (by omega) (by omega)
    obtain ⟨s1, s2⟩ := SI.run (bk (ex d) f) w0 0 ⟨by simp [w0], fun s h => by simp [w0] at h, fun s h => by simp [w0] at h⟩ (fun u hu => (hok u hu).2) (by show 0 + _ ≤ _; omega)
    obtain ⟨s3, s4⟩ := s1.outs s2
    have hlb := len_AB (bk (ex d) f)
    have hba := len_ba _ (dErr_zero _ none 0 0 hval.1).1
    have hDs : Ds (out (runP (bk (ex d) f) w0)) := ds_of (by omega) s4
    have hlo := s1.lo
    obtain ⟨z, t1, t2, t3⟩ := done_eq (runP (bk (ex d) f) w0).1 (runP (bk (ex d) f) w0).2.1 (runP (bk (ex d) f) w0).2.2 (by omega) hDs
    have hval1 : err (fl (runP (bk (ex d) f) w0).1 (runP (bk (ex d) f) w0).2.1 (runP (bk (ex d) f) w0).2.2) = 0 := hval.1
    rw [if_pos hval1] at t2 t3
    have hund := undo_loop d hd hv d.length 0 big f w0 0 (by omega) (big_ge (n := d.length + 1) (by have := hd.1; omega)) hf (by rw [List.drop_zero]; exact hb) hab ⟨by simp [w0], fun s h => by simp [w0] at h, fun s h => by simp [w0] at h, by simp [w0]⟩ (by rw [List.drop_zero]; omega) (by show 0 + _ ≤ _; omega)
    rw [List.drop_zero, u1, t1] at hund
    have hundo : C_delta_Undo F_delta_Undo f d = some (ret_delta_Undo (out (runP (bk (ex d) f) w0)) 0) := by
      rw [e_delta_Undo, fe, hz]
      simp only [Option.bind_some, res_delta_fits_0_ret, bcond_if, bne_self_eq_false, Bool.false_eq_true, if_false]
      refine Eq.trans hund ?_
      simp only [Option.bind_some, t2, t3]
      rfl
    have hfs : Fs (rawD f d) := by
      rw [u2]
      refine fs_of (by omega) fun y hy => ?_
      rcases ap_mem (ex d) f y hy with q | ⟨x, hx, t, ht, rfl⟩
      · rcases ex_mem d _ q with ⟨s, hs, x, hx, r⟩ | r | ⟨s, _, r⟩
        · injection r with r
          subst r
          exact fs_mem (ss_mem hd hs).2 hx
        · cases r
        · cases r
      · obtain ⟨k1, k2, k3⟩ := hkey x hx t ht
        have := chd_len (ea x) t
        exact (nv_sh (l := chd (ea x) t) (by omega) (chd_nv (hfull x hx) k2) : Sh (chd (ea x) t))
    have hsame := sflow_eq (rawD f d) (ap (ex d) f) hfs
    have heq : eqF (rawD f d) (ap (ex d) f) = true := (eqF_iff _ _).2 u2
    rw [heq] at hsame
    have hsd := sdelta_self (out (runP (bk (ex d) f) w0)) (by omega) (fun s hs => ⟨(s4 s hs).1.1, (s4 s hs).2⟩)
    rw [hundo, hz]
    simp only [Option.bind_some, res_law_deltas_0_ret, bcond_if, Bool.not_true, Bool.false_eq_true, if_false, if_true, res_law_fitError_0_ret, bne_self_eq_false, hact, res_R_ActOf_0_ret, res_delta_Apply_0_ret, res_delta_Apply_1_ret, res_delta_Undo_0_ret, res_delta_Undo_1_ret, beq_self_eq_true, hdone, res_R_Done_0_ret, hsame, res_R_SameFlow_0_ret, hback, res_R_Back_0_ret, hdel, res_R_DeltaOf_0_ret, hsd, res_R_SameDelta_0_ret]
  · have hundo : C_delta_Undo F_delta_Undo f d = some (ret_delta_Undo [] (fit f d)) := by
      rw [e_delta_Undo, fe]
      simp [bcond_if, hz]
    rw [hundo, if_neg hz]
    have hz2 : (fit f d != 0) = true := by simpa using hz
    simp only [Option.bind_some, res_law_deltas_0_ret, bcond_if, Bool.not_true, Bool.false_eq_true, if_false, if_true, res_law_fitError_0_ret, hz2, res_delta_Apply_0_ret, res_delta_Apply_1_ret, res_delta_Undo_0_ret, res_delta_Undo_1_ret, beq_self_eq_true]
    rfl
end
theorem holdsApplyD (f : Flow) (d : Steps) (o0 : (Ty.list YElem).ok f) (o1 : (Ty.list YStep).ok d) (hb : (Ty.list YElem).bulk f + (Ty.list YStep).bulk d ≤ 1048576) : C_law_DeltaApplyMatches F_law_DeltaApplyMatches f d = some (ret_law_DeltaApplyMatches true) := by
  have h1 := elem3 f
  have h2 := step3 d
  refine law_apply f d (fs_bulk (by omega)) (ds_bulk (by omega)) (by omega) fun x hx s hs => ?_
  have q1 := bulk_mem f x hx
  have q2 := bulk_mem d s hs
  have e1 : Ty.bulk YElem x = 1 + (1 + (Ty.list YAttr).bulk (ea x)) := rfl
  have e2 : Ty.bulk YStep s = 1 + (1 + ((Ty.list YAttr).bulk (sa s) + (Ty.list YElem).bulk (se s))) := rfl
  have q3 := bulk2 (ea x)
  have q4 := bulk2 (sa s)
  rw [e1] at q1
  rw [e2] at q2
  omega
end Go.Ev.Delta
