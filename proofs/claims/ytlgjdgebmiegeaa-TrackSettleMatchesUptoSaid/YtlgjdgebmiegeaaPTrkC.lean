
import Derived.Test.YtlgjdgebmiegeaaPTrkB
namespace Go.Ev.Delta
open Go.Ev Go.Ev.Attr Go.Ev.Track
set_option linter.unusedVariables false
set_option linter.unusedSimpArgs false
def lostA (acc : Bool) : Str := if acc = true then sCUT else sADD
def keptA (acc : Bool) : Str := if acc = true then sADD else sCUT
theorem way (acc : Bool) : Way (keptA acc) (lostA acc) := by cases acc
                                                             · exact .inr ⟨rfl, rfl⟩
                                                             · exact .inl ⟨rfl, rfl⟩
def both2 : Attrs := [mkA sADD [], mkA sCUT []]
def sE (acc : Bool) (from_ to : Int) (n i : Nat) (x : YElem.den) : Flow :=
  if inR from_ to i then (if has (lostA acc) (ea x) = true then (if i + 1 < n then [] else [mkE (ec x) (er x) (chd (ea x) both2)]) else [mkE (ec x) (er x) (chd (ea x) [mkA (keptA acc) []])]) else [x]
theorem sE_len (acc : Bool) (from_ to : Int) (n i : Nat) (x : YElem.den) : (sE acc from_ to n i x).length ≤ 1 := by
  unfold sE
  split
  · split
    · split <;> simp
    · simp
  · simp
def sEs (acc : Bool) (from_ to : Int) (n : Nat) : Nat → Flow → Flow
  | _, [] => []
  | i, x :: f => sE acc from_ to n i x ++ sEs acc from_ to n (i + 1) f
theorem hs0 (v : Bool) : res_R_Has_0 (ret_R_Has v) = v := id rfl
theorem ch0 (v : Attrs) : res_R_Changed_0 (ret_R_Changed v) = v := id rfl
theorem settled_loop (acc : Bool) (from_ to : Int) (f : Flow) (hf : Fs f) (hs : ∀ x ∈ f, (ea x).length ≤ 524285) : ∀ (d i m : Nat) (o : Flow), i + d = f.length → d < m → o.length ≤ i →
    L_R_Settled_0 big m f from_ to acc o (f.length : Int) (i : Int) = some (ret_R_Settled (o ++ sEs acc from_ to f.length i (f.drop i))) := by
  have hl := hf.1
  intro d
  induction d with
  | zero =>
    intro i m o hi hm ho
    obtain ⟨m, rfl⟩ : ∃ k, m = k + 1 := ⟨m - 1, by omega⟩
    have : i = f.length := by omega
    subst this
    rw [L_R_Settled_0_step, List.drop_length]
    simp only [bcond_if, dlt_self, Bool.false_eq_true, if_false, sEs, List.append_nil]
  | succ d ih =>
    intro i m o hi hm ho
    obtain ⟨m, rfl⟩ : ∃ k, m = k + 1 := ⟨m - 1, by omega⟩
    have hil : i < f.length := by omega
    have w1 := wsucc hil (show f.length ≤ 4611686018427387904 by omega)
    have w2 : IntKind.i64.wrap ((f.length : Int) - 1) = (f.length : Int) - 1 := w64 (by omega) (by omega)
    have ex : at_ (e := YElem) f (i : Int) = atE f i := rfl
    have e1 : (atE f i).1 = ec (atE f i) := rfl
    have e2 : (atE f i).2.1 = er (atE f i) := rfl
    have e3 : (atE f i).2.2 = ea (atE f i) := rfl
    have hx := hs _ (atE_mem f hil)
    have g := fun s => has_eq (ea (atE f i)) (hf.2 i).1 s
    have b1 : ∀ x : YElem.den, (o.length + [x].length) * 40 ≤ 140737488355328 := fun x => c40 _ _ (by simp; omega)
    have IH : ∀ s : Flow, s.length ≤ 1 → L_R_Settled_0 big m f from_ to acc (o ++ s) (f.length : Int) ((i + 1 : Nat) : Int) = some (ret_R_Settled (o ++ (s ++ sEs acc from_ to f.length (i + 1) (f.drop (i + 1))))) := fun s hs => by
      have := ih (i + 1) m (o ++ s) (by omega) (by omega) (by simp; omega)
      rw [this, List.append_assoc]
    rw [drop_elem f hil]
    show _ = some (ret_R_Settled (o ++ (sE acc from_ to f.length i (atE f i) ++ sEs acc from_ to f.length (i + 1) (f.drop (i + 1)))))
    rw [← IH _ (sE_len _ _ _ _ _ _), L_R_Settled_0_step]
    have d2 : C_R_Changed F_R_Changed (ea (atE f i)) [([97, 100, 100], []), ([99, 117, 116], [])] = some (ret_R_Changed (chd (ea (atE f i)) both2)) := chd_eq _ both2 (by show (ea (atE f i)).length + 2 ≤ _; omega)
    have da : C_R_Changed F_R_Changed (ea (atE f i)) [([97, 100, 100], [])] = some (ret_R_Changed (chd (ea (atE f i)) [mkA sADD []])) := chd_eq _ [mkA sADD []] (by show (ea (atE f i)).length + 1 ≤ _; omega)
    have dc : C_R_Changed F_R_Changed (ea (atE f i)) [([99, 117, 116], [])] = some (ret_R_Changed (chd (ea (atE f i)) [mkA sCUT []])) := chd_eq _ [mkA sCUT []] (by show (ea (atE f i)).length + 1 ≤ _; omega)
    have ga := g [97, 100, 100]
    have gc := g [99, 117, 116]
    have ea' : has [97, 100, 100] (ea (atE f i)) = has sADD (ea (atE f i)) := rfl
    have ec' : has [99, 117, 116] (ea (atE f i)) = has sCUT (ea (atE f i)) := rfl
    rw [ea'] at ga
    rw [ec'] at gc
    simp only [bcond_if, dlt hil, inb, hil, if_true, ex, e1, e2, e3, ga, gc, d2, da, dc, Option.bind_some, hs0, ch0, w1, w2]
    unfold sE
    by_cases h1 : (i : Int) < from_
    · have c1 : decide ((i : Int) < from_) = true := decide_eq_true h1
      rw [if_neg (show ¬ inR from_ to i from fun z => by have := z.1; omega)]
      simp only [c1, show (true == false) = false from rfl, Bool.false_eq_true, if_false]
      rw [if_pos (b1 _)]
    · have c1 : decide ((i : Int) < from_) = false := decide_eq_false h1
      by_cases h2 : (i : Int) ≥ to
      · have c2 : decide ((i : Int) ≥ to) = true := decide_eq_true h2
        rw [if_neg (show ¬ inR from_ to i from fun z => by have := z.2; omega)]
        simp only [c1, c2, beq_self_eq_true, if_true]
        rw [if_pos (b1 _)]
      · have c2 : decide ((i : Int) ≥ to) = false := decide_eq_false h2
        rw [if_pos (show inR from_ to i from ⟨by omega, by omega⟩)]
        simp only [c1, c2, beq_self_eq_true, if_true, Bool.false_eq_true, if_false]
        cases acc
        · simp only [Bool.not_false, show (false == true) = false from rfl, beq_self_eq_true, if_true, Bool.false_eq_true, if_false, lostA, keptA]
          cases hq : has sADD (ea (atE f i))
          · simp only [show (false == true) = false from rfl, Bool.false_eq_true, if_false]
            rw [if_pos (b1 _)]; rfl
          · by_cases h3 : i + 1 < f.length
            · have c3 : decide ((i : Int) < (f.length : Int) - 1) = true := decide_eq_true (by omega)
              simp only [beq_self_eq_true, if_true, c3, h3, List.append_nil]
            · have c3 : decide ((i : Int) < (f.length : Int) - 1) = false := decide_eq_false (by omega)
              simp only [beq_self_eq_true, if_true, c3, h3, if_false, Bool.false_eq_true]
              rw [if_pos (b1 _)]; rfl
        · simp only [Bool.not_true, beq_self_eq_true, if_true, show (false == true) = false from rfl, Bool.false_eq_true, if_false, lostA, keptA]
          cases hq : has sCUT (ea (atE f i))
          · simp only [beq_self_eq_true, if_true, Bool.false_eq_true, if_false]
            rw [if_pos (b1 _)]; rfl
          · by_cases h3 : i + 1 < f.length
            · have c3 : decide ((i : Int) < (f.length : Int) - 1) = true := decide_eq_true (by omega)
              simp only [show (true == false) = false from rfl, if_true, c3, h3, List.append_nil, Bool.false_eq_true, if_false]
            · have c3 : decide ((i : Int) < (f.length : Int) - 1) = false := decide_eq_false (by omega)
              simp only [show (true == false) = false from rfl, if_true, c3, h3, if_false, Bool.false_eq_true]
              rw [if_pos (b1 _)]; rfl
theorem sE_ap (acc : Bool) (from_ to : Int) (n i : Nat) (x : YElem.den) (hx : Attr.err false (ea x) = 0) (r : List U) (f : Flow) :
    ap (su (keptA acc) (lostA acc) from_ to n i x :: r) (x :: f) = sE acc from_ to n i x ++ ap r f := by
  have hg := gv_has hx
  have hw := way acc
  have hmem : ∀ s, gv s x = true ↔ ∃ y ∈ ea x, an y = s := fun s => by rw [hg]; exact has_iff s _
  have same : ∀ u : Attrs, Off u → (∀ y ∈ ea x, (∃ z ∈ tk (keptA acc) (lostA acc) (gv (keptA acc) x) (gv (lostA acc) x), an z = an y) ↔ ∃ z ∈ u, an z = an y) → apE (tk (keptA acc) (lostA acc) (gv (keptA acc) x) (gv (lostA acc) x)) x = mkE (ec x) (er x) (chd (ea x) u) := fun u hu h => by
    unfold apE
    rw [chd_same hx (tk_off hw _ _) hu h]
  unfold su sE
  by_cases h1 : inR from_ to i
  · rw [if_pos h1, if_pos h1]
    cases hl : gv (lostA acc) x
    · have hl' : ¬ has (lostA acc) (ea x) = true := by rw [← hg, hl]; decide
      rw [if_neg (by rintro ⟨z, _⟩; cases z), if_neg hl']
      show [apE (tk (keptA acc) (lostA acc) (gv (keptA acc) x) false) x] ++ ap r f = _
      rw [hl] at same
      rw [same _ (off_one _) ?_]
      intro y hy
      rw [tk_names hw]
      constructor
      · rintro (⟨_, q⟩ | ⟨q, _⟩)
        · exact ⟨_, List.mem_singleton.2 rfl, q.symm⟩
        · cases q
      · rintro ⟨z, hz, q⟩
        rw [List.mem_singleton.1 hz] at q
        have q' : keptA acc = an y := q
        exact .inl ⟨(hmem _).2 ⟨y, hy, q'.symm⟩, q'.symm⟩
    · have hl' : has (lostA acc) (ea x) = true := by rw [← hg, hl]
      rw [if_pos hl']
      by_cases h3 : i + 1 < n
      · rw [if_pos ⟨rfl, h3⟩, if_pos h3]; rfl
      · rw [if_neg (fun z => h3 z.2), if_neg h3]
        show [apE (tk (keptA acc) (lostA acc) (gv (keptA acc) x) true) x] ++ ap r f = _
        rw [hl] at same
        rw [same both2 (off_two _ _ add_cut) ?_]
        intro y hy
        rw [tk_names hw]
        have e1 : ∀ s : Str, (∃ z ∈ both2, an z = s) ↔ s = sADD ∨ s = sCUT := fun s => by
          have : ∀ t : Str, an (mkA t []) = t := fun t => rfl
          simp [both2, this, eq_comm]
        rw [e1]
        constructor
        · rintro (⟨_, q⟩ | ⟨_, q⟩)
          · rw [q]; cases acc
            · exact .inr rfl
            · exact .inl rfl
          · rw [q]; cases acc
            · exact .inl rfl
            · exact .inr rfl
        · intro q
          by_cases ql : an y = lostA acc
          · exact .inr ⟨rfl, ql⟩
          · have qk : an y = keptA acc := by
              cases acc
              · rcases q with q | q
                · exact absurd q ql
                · exact q
              · rcases q with q | q
                · exact q
                · exact absurd q ql
            exact .inl ⟨(hmem _).2 ⟨y, hy, qk⟩, qk⟩
  · rw [if_neg h1, if_neg h1]
    show [apE [] x] ++ ap r f = [x] ++ ap r f
    have : apE [] x = x := by unfold apE; rw [chd_nil hx]; rfl
    rw [this]
theorem sEs_ap (acc : Bool) (from_ to : Int) (n : Nat) : ∀ (f : Flow) (i : Nat), (∀ x ∈ f, Attr.err false (ea x) = 0) → ap (us (keptA acc) (lostA acc) from_ to n i f) f = sEs acc from_ to n i f
  | [], i, _ => rfl
  | x :: f, i, h => by
    show ap (su (keptA acc) (lostA acc) from_ to n i x :: us (keptA acc) (lostA acc) from_ to n (i + 1) f) (x :: f) = sE acc from_ to n i x ++ sEs acc from_ to n (i + 1) f
    rw [sE_ap acc from_ to n i x (h x (by simp)), sEs_ap acc from_ to n f (i + 1) (fun y hy => h y (by simp [hy]))]
section
variable (acc : Bool) (from_ to : Int) (f : Flow) (hf : Fs f) (hp : pErr f = 0) (hn : f.length ≤ 349524) (hs : ∀ x ∈ f, (ea x).length ≤ 524285)
include hf hp hn hs
theorem exact_loop (d : Steps) (A : Act) (want : Flow) (hA : A.2.2.length = f.length) (hat : ∀ i (h : i < f.length), Off (atrAt A.2.2 i) ∧ (atrAt A.2.2 i).length ≤ 2 ∧ ∀ y ∈ atrAt A.2.2 i, ∃ x ∈ ea f[i], an x = an y)
    (hap : C_delta_Apply F_delta_Apply f d = some (ret_delta_Apply want 0)) (hsame : C_R_SameFlow F_R_SameFlow want want = some (ret_R_SameFlow true)) : ∀ (k i m : Nat), i + k = f.length → k < m →
    L_law_exact_0 big m f d want A.1 A.2.1 A.2.2 (f.length : Int) (i : Int) = some (ret_law_exact true) := by
  have hl := hf.1
  intro k
  induction k with
  | zero =>
    intro i m hi hm
    obtain ⟨m, rfl⟩ : ∃ k, m = k + 1 := ⟨m - 1, by omega⟩
    have : i = f.length := by omega
    subst this
    rw [L_law_exact_0_step]
    simp only [bcond_if, dlt_self, Bool.false_eq_true, if_false, hap, Option.bind_some, res_delta_Apply_0_ret, res_delta_Apply_1_ret, beq_self_eq_true, if_true, hsame, res_R_SameFlow_0_ret]
  | succ k ih =>
    intro i m hi hm
    obtain ⟨m, rfl⟩ : ∃ k, m = k + 1 := ⟨m - 1, by omega⟩
    have hil : i < f.length := by omega
    have w1 := wsucc hil (show f.length ≤ 4611686018427387904 by omega)
    have ex : at_ (e := YElem) f (i : Int) = f[i] := at_get (e := YElem) f i hil
    have e3 : (f[i] : YElem.den).2.2 = ea f[i] := rfl
    have et : at_ (e := .list YAttr) A.2.2 (i : Int) = atrAt A.2.2 i := rfl
    obtain ⟨t1, t2, t3⟩ := hat i hil
    have hx := hs f[i] (List.getElem_mem hil)
    have hv := pErr_full f hp f[i] (List.getElem_mem hil)
    have ch := chd_eq (ea f[i]) (atrAt A.2.2 i) (by omega)
    have cl := chd_len (ea f[i]) (atrAt A.2.2 i)
    have bt := btw_eq (ea f[i]) (chd (ea f[i]) (atrAt A.2.2 i)) (by omega)
    rw [btw_off hv t1 t3] at bt
    rw [L_law_exact_0_step]
    simp only [bcond_if, dlt hil, inb, hil, show i < A.2.2.length by omega, if_true, ex, e3, et, ch, bt, Option.bind_some, res_R_Changed_0_ret, res_R_Between_0_ret, bne_self_eq_false, Bool.false_eq_true, if_false, w1]
    exact ih (i + 1) m (by omega) (by omega)
theorem exact_eq (d : Steps) (h1 : err d = 0) (h2 : befs d = f.length) (h3 : afts d ≤ f.length) (h4 : Ds d) (h5 : ex d = us (keptA acc) (lostA acc) from_ to f.length 0 f) :
    C_law_exact F_law_exact f d (sEs acc from_ to f.length 0 f) = some (ret_law_exact true) := by
  have hl := hf.1
  have hw := way acc
  have hfull := pErr_full f hp
  obtain ⟨hv, _, _⟩ := dErr_zero d none 0 0 h1
  have nb' := nb_befs hv
  have eb' := eb_afts hv
  have pos : ∀ s ∈ d, sk s = 1 ∨ 0 ≤ sn s := fun s hs => by
    rcases sErr_zero (hv s hs) with ⟨h1, _⟩ | ⟨_, _, h3, _⟩
    · exact .inl h1
    · exact .inr (by omega)
  have hact := act_eq d h4.1 pos (by omega) (by omega)
  obtain ⟨a1, a2⟩ := act_ex d
  have hno : ∀ u ∈ us (keptA acc) (lostA acc) from_ to f.length 0 f, isA u = false := fun u hu => by
    obtain ⟨j, x, _, rfl⟩ := us_mem _ _ _ _ _ _ _ u hu
    exact su_noA _ _ _ _ _ _ _
  obtain ⟨r1, r2⟩ := rest_drop (actL d A0) a1 _ (a2.trans h5) hno
  rw [us_len] at r1
  have cut := cut_attr d (fun s hs k2 => by
    rcases sErr_zero (hv s hs) with ⟨k1, _⟩ | ⟨k1, _⟩
    · omega
    · rcases k1 with k1 | ⟨_, k1⟩
      · omega
      · exact k1)
  have hat : ∀ i (h : i < f.length), Off (atrAt (actL d A0).2.2 i) ∧ (atrAt (actL d A0).2.2 i).length ≤ 2 ∧ ∀ y ∈ atrAt (actL d A0).2.2 i, ∃ x ∈ ea f[i], an x = an y := by
    intro i hi
    have e := r2 i (by rw [us_len]; exact hi)
    rw [us_get _ _ _ _ _ _ _ _ hi, Nat.zero_add] at e
    cases hc : cutAt (actL d A0).2.1 i
    · rw [hc] at e
      have e : su (keptA acc) (lostA acc) from_ to f.length i f[i] = .k (atrAt (actL d A0).2.2 i) := e
      unfold su at e
      split at e
      · split at e
        · cases e
        · injection e with e
          rw [← e]
          refine ⟨tk_off hw _ _, tk_len _ _ _ _, fun y hy => ?_⟩
          have hg := gv_has (hfull f[i] (List.getElem_mem hi))
          rcases (tk_names hw _ _ (an y)).1 ⟨y, hy, rfl⟩ with ⟨q1, q2⟩ | ⟨q1, q2⟩
          · rw [q2]; rw [hg] at q1; exact (has_iff _ _).1 q1
          · rw [q2]; rw [hg] at q1; exact (has_iff _ _).1 q1
      · injection e with e
        rw [← e]
        exact ⟨off_nil, Nat.zero_le _, fun y hy => by simp at hy⟩
    · rw [cut i (by omega) hc]
      exact ⟨off_nil, Nat.zero_le _, fun y hy => by simp at hy⟩
  have hfit : fit f d = 0 := by unfold fit; simp [hp, h1, h2]
  have hap := apply_eq f d hf h4
  rw [if_pos hfit, (un_bk d f hv hfull).2, h5, sEs_ap acc from_ to f.length f 0 hfull] at hap
  have hFs : Fs (sEs acc from_ to f.length 0 f) := by
    rw [← sEs_ap acc from_ to f.length f 0 hfull]
    have al := ap_len (us (keptA acc) (lostA acc) from_ to f.length 0 f) f
    have hB : cA (us (keptA acc) (lostA acc) from_ to f.length 0 f) ≤ f.length := by have := (cA_len (us (keptA acc) (lostA acc) from_ to f.length 0 f)).1; rw [us_len] at this; exact this
    refine fs_of (by omega) fun y hy => ?_
    rcases ap_mem _ f y hy with q | ⟨x, hx, t, ht, rfl⟩
    · have := hno _ q; cases this
    · have ht' : Attr.err true t = 0 ∧ t.length ≤ 2 := by
        obtain ⟨j, z, _, e⟩ := us_mem _ _ _ _ _ _ _ _ ht
        unfold su at e
        split at e
        · split at e
          · cases e
          · injection e with e; rw [e]; exact ⟨tk_err hw _ _, tk_len _ _ _ _⟩
        · injection e with e; rw [e]; exact ⟨rfl, Nat.zero_le _⟩
      have := chd_len (ea x) t
      have := hs x hx
      exact (nv_sh (l := chd (ea x) t) (by omega) (chd_nv (hfull x hx) ht'.1) : Sh (chd (ea x) t))
  have hsame := sflow_eq (sEs acc from_ to f.length 0 f) (sEs acc from_ to f.length 0 f) hFs
  rw [(eqF_iff _ _).2 rfl] at hsame
  rw [e_law_exact, (check_eq d h4).2, h1, rsize_eq d h4 h1, h2, hact]
  simp only [Option.bind_some, res_R_DeltaError_0_ret, res_R_DeltaSize_0_ret, res_R_ActOf_0_ret, bne_self_eq_false, beq_self_eq_true, bct, bcf]
  exact exact_loop f hf hp hn hs d (actL d A0) _ (by have := a1.h2; omega) hat hap hsame f.length 0 big (by omega) (big_ge (n := f.length + 1) (by omega))
end
section
variable (from_ to : Int) (f : Flow) (hf : Fs f) (hn : f.length ≤ 349524) (hs : ∀ x ∈ f, (ea x).length ≤ 524285)
include hf hn hs
theorem law_settle : C_law_TrackSettleMatches F_law_TrackSettleMatches f from_ to = some (ret_law_TrackSettleMatches true) := by
  have hl := hf.1
  have w00 : IntKind.i64.wrap ((([] : Steps).length : Int) + (([] : Steps).length : Int)) = 0 := rfl
  have acc1 : ∀ z, C_track_settle F_track_settle f from_ to sADD sCUT = some z → C_track_Accept F_track_Accept f from_ to = some (ret_track_Accept (res_track_settle_0 z) (res_track_settle_1 z)) := fun z h => by
    rw [e_track_Accept]
    change (C_track_settle F_track_settle f from_ to sADD sCUT).bind _ = _
    rw [h]; rfl
  have acc2 : ∀ z, C_track_settle F_track_settle f from_ to sCUT sADD = some z → C_track_Reject F_track_Reject f from_ to = some (ret_track_Reject (res_track_settle_0 z) (res_track_settle_1 z)) := fun z h => by
    rw [e_track_Reject]
    change (C_track_settle F_track_settle f from_ to sCUT sADD).bind _ = _
    rw [h]; rfl
  have bad : ∀ t : Int, t ≠ 0 → J_law_TrackSettleMatches_0 big f from_ to [] t [] t t = some (ret_law_TrackSettleMatches true) := fun t ht => by
    have b : (t != 0) = true := by simpa using ht
    unfold J_law_TrackSettleMatches_0
    simp only [b, bct, beq_self_eq_true]
    rfl
  obtain ⟨s1, s2⟩ := settle_bad sADD sCUT from_ to f hf
  obtain ⟨r1, r2⟩ := settle_bad sCUT sADD from_ to f hf
  rw [e_law_TrackSettleMatches, tracks_facts, delta_facts, (flow_eq f true hf).2]
  by_cases hz : fErr true f = 0
  · have hp := fErr_zero hz
    by_cases hr : from_ < 0 ∨ to < from_ ∨ (f.length : Int) < to
    · rw [acc1 _ (s2 hz hr), acc2 _ (r2 hz hr), hz]
      simp only [Option.bind_some, res_law_tracks_0_ret, res_law_deltas_0_ret, Bool.not_true, beq_self_eq_true, bct, bcf, res_track_settle_0_ret, res_track_settle_1_ret, res_track_Accept_0_ret, res_track_Accept_1_ret, res_track_Reject_0_ret, res_track_Reject_1_ret, res_R_FlowError_0_ret, bad 2 (by decide), bcond_if]
      by_cases k1 : from_ < 0
      · simp [k1]
      · by_cases k2 : to < from_
        · simp [k1, k2]
        · have k3 : to > (f.length : Int) := by omega
          simp [k1, k2, k3]
    · obtain ⟨d1, e1, q1⟩ := settle_eq (way true) from_ to f hf hn hz (by omega) (by omega) (by omega)
      obtain ⟨d2, e2, q2⟩ := settle_eq (way false) from_ to f hf hn hz (by omega) (by omega) (by omega)
      obtain ⟨x1, f1, a1, a2, a3, a4, a5, _⟩ := settle_out (way true) from_ to f hn
      obtain ⟨x2, f2, b1, b2, b3, b4, b5, _⟩ := settle_out (way false) from_ to f hn
      rw [← e1] at f1
      rw [← e2] at f2
      subst f1 f2
      have E1 := exact_eq true from_ to f hf hp hn hs x1 a1 a2 a3 a4 a5
      have E2 := exact_eq false from_ to f hf hp hn hs x2 b1 b2 b3 b4 b5
      have S : ∀ acc, C_R_Settled F_R_Settled f from_ to acc = some (ret_R_Settled (sEs acc from_ to f.length 0 f)) := fun acc => by
        rw [e_R_Settled]
        have := settled_loop acc from_ to f hf hs f.length 0 big [] (by omega) (big_ge (n := f.length + 1) (by omega)) (Nat.le_refl _)
        rw [List.drop_zero, List.nil_append] at this
        exact this
      have c1 : decide (from_ < 0) = false := decide_eq_false (by omega)
      have c2 : decide (to < from_) = false := decide_eq_false (by omega)
      have c3 : decide (to > (f.length : Int)) = false := decide_eq_false (by omega)
      rw [acc1 _ q1, acc2 _ q2, hz]
      simp only [Option.bind_some, res_law_tracks_0_ret, res_law_deltas_0_ret, Bool.not_true, beq_self_eq_true, bct, bcf, res_track_settle_0_ret, res_track_settle_1_ret, res_track_Accept_0_ret, res_track_Accept_1_ret, res_track_Reject_0_ret, res_track_Reject_1_ret, res_R_FlowError_0_ret, c1, c2, c3]
      unfold J_law_TrackSettleMatches_0
      simp only [bne_self_eq_false, beq_self_eq_true, bct, bcf, S, Option.bind_some, res_R_Settled_0_ret, E1, E2, res_law_exact_0_ret]
  · rw [acc1 _ (s1 hz), acc2 _ (r1 hz)]
    have b : (fErr true f == 0) = false := by simpa using hz
    have := bad _ hz
    simp only [Option.bind_some, res_law_tracks_0_ret, res_law_deltas_0_ret, Bool.not_true, beq_self_eq_true, bct, bcf, res_track_settle_0_ret, res_track_settle_1_ret, res_track_Accept_0_ret, res_track_Accept_1_ret, res_track_Reject_0_ret, res_track_Reject_1_ret, res_R_FlowError_0_ret, b, show (false == true) = false from rfl, this]
end
theorem holdsSettle (f : Flow) (from_ to : Int) (o0 : (Ty.list YElem).ok f) (o1 : (Ty.int .i64).ok from_) (o2 : (Ty.int .i64).ok to) (hb : (Ty.list YElem).bulk f + (Ty.int .i64).bulk from_ + (Ty.int .i64).bulk to ≤ 1048576) : C_law_TrackSettleMatches F_law_TrackSettleMatches f from_ to = some (ret_law_TrackSettleMatches true) := by
  have h1 := elem3 f
  have e1 : (Ty.int .i64).bulk from_ = 1 := rfl
  have e2 : (Ty.int .i64).bulk to = 1 := rfl
  rw [e1, e2] at hb
  refine law_settle from_ to f (fs_bulk (by omega)) (by omega) fun x hx => ?_
  have q1 := bulk_mem f x hx
  have e1 : Ty.bulk YElem x = 1 + (1 + (Ty.list YAttr).bulk (ea x)) := rfl
  have q3 := bulk2 (ea x)
  rw [e1] at q1
  omega
end Go.Ev.Delta
