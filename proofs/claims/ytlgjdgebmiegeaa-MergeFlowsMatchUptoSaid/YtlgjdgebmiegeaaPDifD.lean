
import Derived.Test.YtlgjdgebmiegeaaPAppF
import Derived.Test.YtlgjdgebmiegeaaGDiff
namespace Go.Ev.Diff
open Go.Ev Go.Ev.Attr Go.Ev.Track Go.Ev.Delta
set_option linter.unusedVariables false
set_option linter.unusedSimpArgs false
/-- An element can be kept as another one. -/
def alE (x y : YElem.den) : Bool := (ec x == ec y) && (er x == er y)
def pcE (x y : YElem.den) : Nat := if eqA (ea x) (ea y) = true then 0 else 1
def dsR (x : YElem.den) (f : Flow → Nat) : Flow → Nat
  | [] => f [] + 1
  | y :: b => if alE x y = true then min (1 + min (f (y :: b)) (dsR x f b)) (f b + pcE x y) else 1 + min (f (y :: b)) (dsR x f b)
/-- The least cost. -/
def ds : Flow → Flow → Nat
  | [], b => b.length
  | x :: a, b => dsR x (ds a) b
theorem ds_nil (b : Flow) : ds [] b = b.length := rfl
theorem ds_r0 : ∀ (a : Flow), ds a [] = a.length
  | [] => rfl
  | x :: a => by
    show ds a [] + 1 = a.length + 1
    rw [ds_r0 a]
theorem ds_cc (x y : YElem.den) (a b : Flow) : ds (x :: a) (y :: b) = if alE x y = true then min (1 + min (ds a (y :: b)) (ds (x :: a) b)) (ds a b + pcE x y) else 1 + min (ds a (y :: b)) (ds (x :: a) b) := rfl
theorem ds_step (x y : YElem.den) (a b : Flow) : ds (x :: a) (y :: b) ≤ 1 + ds a (y :: b) ∧ ds (x :: a) (y :: b) ≤ 1 + ds (x :: a) b := by
  rw [ds_cc]
  split <;> omega
theorem ds_ins : ∀ (a : Flow) (y : YElem.den) (b : Flow), ds a (y :: b) ≤ ds a b + 1
  | [], y, b => Nat.le_refl _
  | x :: a, y, b => by have := (ds_step x y a b).2; omega
theorem ds_del (x : YElem.den) (a : Flow) : ∀ (b : Flow), ds (x :: a) b ≤ ds a b + 1
  | [] => by rw [ds_r0, ds_r0]; simp
  | y :: b => by have := (ds_step x y a b).1; omega
theorem ds_len : ∀ (a b : Flow), ds a b ≤ a.length + b.length
  | [], b => by show b.length ≤ _; omega
  | x :: a, b => by
    have := ds_del x a b
    have := ds_len a b
    simp only [List.length_cons]; omega
/-- A way from one flow to another, and its cost. -/
inductive Ali : Flow → Flow → Nat → Prop
  | nil : Ali [] [] 0
  | del {a b n} (x : YElem.den) : Ali a b n → Ali (x :: a) b (n + 1)
  | ins {a b n} (y : YElem.den) : Ali a b n → Ali a (y :: b) (n + 1)
  | sub {a b n} (x y : YElem.den) : alE x y = true → Ali a b n → Ali (x :: a) (y :: b) (n + pcE x y)
theorem ali_ins0 : ∀ (b : Flow), Ali [] b b.length
  | [] => .nil
  | y :: b => .ins y (ali_ins0 b)
theorem ali_ds : ∀ (a b : Flow), Ali a b (ds a b)
  | [], b => ali_ins0 b
  | x :: a, [] => Ali.del x (ali_ds a [])
  | x :: a, y :: b => by
    have h1 := ali_ds a (y :: b)
    have h2 := ali_ds (x :: a) b
    have h3 := ali_ds a b
    rw [ds_cc]
    split
    · rename_i he
      by_cases c1 : ds a b + pcE x y ≤ 1 + min (ds a (y :: b)) (ds (x :: a) b)
      · rw [Nat.min_eq_right c1]; exact .sub x y he h3
      · rw [Nat.min_eq_left (by omega), Nat.add_comm]
        by_cases c2 : ds a (y :: b) ≤ ds (x :: a) b
        · rw [Nat.min_eq_left c2]; exact .del x h1
        · rw [Nat.min_eq_right (by omega)]; exact .ins y h2
    · rw [Nat.add_comm]
      by_cases c2 : ds a (y :: b) ≤ ds (x :: a) b
      · rw [Nat.min_eq_left c2]; exact .del x h1
      · rw [Nat.min_eq_right (by omega)]; exact .ins y h2
theorem ali_le {a b : Flow} {n : Nat} (h : Ali a b n) : ds a b ≤ n := by
  induction h with
  | nil => exact Nat.le_refl _
  | del x _ ih => exact Nat.le_trans (ds_del x _ _) (by omega)
  | ins y _ ih => exact Nat.le_trans (ds_ins _ y _) (by omega)
  | sub x y he _ ih =>
    rw [ds_cc, if_pos he]
    omega
theorem ali_del (x : YElem.den) {a b : Flow} {n : Nat} (h : Ali a b n) : Ali (a ++ [x]) b (n + 1) := by
  induction h with
  | nil => exact .del x .nil
  | del y _ ih => exact .del y ih
  | ins y _ ih => exact .ins y ih
  | @sub _ _ n u v he _ ih => rw [show n + pcE u v + 1 = n + 1 + pcE u v by omega]; exact .sub u v he ih
theorem ali_ins (x : YElem.den) {a b : Flow} {n : Nat} (h : Ali a b n) : Ali a (b ++ [x]) (n + 1) := by
  induction h with
  | nil => exact .ins x .nil
  | del y _ ih => exact .del y ih
  | ins y _ ih => exact .ins y ih
  | @sub _ _ n u v he _ ih => rw [show n + pcE u v + 1 = n + 1 + pcE u v by omega]; exact .sub u v he ih
theorem ali_sub (x y : YElem.den) (he : alE x y = true) {a b : Flow} {n : Nat} (h : Ali a b n) : Ali (a ++ [x]) (b ++ [y]) (n + pcE x y) := by
  induction h with
  | nil => exact .sub x y he .nil
  | @del a b n u _ ih => rw [show n + 1 + pcE x y = n + pcE x y + 1 by omega]; exact .del u ih
  | @ins a b n u _ ih => rw [show n + 1 + pcE x y = n + pcE x y + 1 by omega]; exact .ins u ih
  | @sub _ _ n u v he2 _ ih => rw [show n + pcE u v + pcE x y = n + pcE x y + pcE u v by omega]; exact .sub u v he2 ih
theorem ali_rev {a b : Flow} {n : Nat} (h : Ali a b n) : Ali a.reverse b.reverse n := by
  induction h with
  | nil => exact .nil
  | del x _ ih => rw [List.reverse_cons]; exact ali_del x ih
  | ins x _ ih => rw [List.reverse_cons]; exact ali_ins x ih
  | sub x y he _ ih => rw [List.reverse_cons, List.reverse_cons]; exact ali_sub x y he ih
/-- From the end it costs the same. -/
theorem ds_rev (a b : Flow) : ds a.reverse b.reverse = ds a b := by
  have h1 := ali_le (ali_rev (ali_ds a b))
  have h2 := ali_le (ali_rev (ali_ds a.reverse b.reverse))
  rw [List.reverse_reverse, List.reverse_reverse] at h2
  omega
def paR (x : YElem.den) (a : Flow) (f : Flow → List U) : Flow → List U
  | [] => .c :: f []
  | y :: b => if alE x y = true ∧ ds (x :: a) (y :: b) = ds a b + pcE x y then .k (chg (ea x) (ea y)) :: f b
    else if ds (x :: a) (y :: b) = 1 + ds a (y :: b) then .c :: f (y :: b) else .a y :: paR x a f b
def pa : Flow → Flow → List U
  | [], b => b.map U.a
  | x :: a, b => paR x a (pa a) b
theorem pa_0c (y : YElem.den) (b : Flow) : pa [] (y :: b) = .a y :: pa [] b := rfl
theorem pa_c0 (x : YElem.den) (a : Flow) : pa (x :: a) [] = .c :: pa a [] := rfl
theorem pa_cc (x y : YElem.den) (a b : Flow) : pa (x :: a) (y :: b) = if alE x y = true ∧ ds (x :: a) (y :: b) = ds a b + pcE x y then .k (chg (ea x) (ea y)) :: pa a b
    else if ds (x :: a) (y :: b) = 1 + ds a (y :: b) then .c :: pa a (y :: b) else .a y :: pa (x :: a) b := rfl
/-- What units cost. -/
def uc : U → Nat
  | .a _ => 1
  | .c => 1
  | .k t => if emp t = true then 0 else 1
def uco : List U → Nat
  | [] => 0
  | u :: us => uc u + uco us
theorem uco_append : ∀ (x y : List U), uco (x ++ y) = uco x + uco y
  | [], y => by simp [uco]
  | u :: x, y => by
    show uc u + uco (x ++ y) = uc u + uco x + uco y
    rw [uco_append x y]; omega
theorem btw_mem {a b : Attrs} (ha : Full a) (hb : Full b) (x : YAttr.den) : x ∈ btw a b ↔ (∃ y ∈ a, get (an y) b = [] ∧ x = mkA (an y) []) ∨ (x ∈ b ∧ get (an x) a ≠ av x) := by
  show x ∈ puts (puts [] (dif a b)) (gone b a) ↔ _
  rw [puts_mem _ _ (gone_srt b a ha.1), gone_mem, puts_mem _ _ (dif_srt a b hb.1), dif_mem]
  constructor
  · rintro (h | ⟨⟨h1, h2⟩ | ⟨h1, _⟩, h3⟩)
    · exact .inl h
    · exact .inr ⟨h1, h2⟩
    · simp at h1
  · rintro (h | h)
    · exact .inl h
    · refine .inr ⟨.inl h, fun w hw e => ?_⟩
      obtain ⟨y, h1, h2, rfl⟩ := (gone_mem b a w).1 hw
      have := get_some hb.1 x h.1
      have e : an y = an x := e
      rw [← e, h2] at this
      exact hb.2.2 x h.1 this.symm
/-- What leads from one list to another does. -/
theorem chd_btw {a b : Attrs} (ha : Full a) (hb : Full b) : chd a (btw a b) = b := by
  have hs : Srt (btw a b) := puts_srt _ _ (puts_srt _ [] trivial)
  refine srt_ext (keepv_srt _ (puts_srt _ _ (puts_srt a [] trivial))) hb.1 (fun x => ?_)
  show x ∈ keepv (puts (puts [] a) (btw a b)) ↔ _
  rw [keepv_mem, puts_mem _ _ hs, puts_mem a [] ha.1, btw_mem ha hb]
  constructor
  · rintro ⟨(⟨y, h1, h2, rfl⟩ | h) | ⟨h1 | ⟨h1, _⟩, h2⟩, h3⟩
    · exact absurd rfl h3
    · exact h.1
    · by_cases hx : get (an x) b = []
      · exact absurd rfl (h2 (mkA (an x) []) ((btw_mem ha hb _).2 (.inl ⟨x, h1, hx, rfl⟩)))
      · obtain ⟨y, hy, e⟩ : ∃ y ∈ b, an y = an x := by
          apply Classical.byContradiction
          intro hn
          exact hx (get_none fun y hy e => hn ⟨y, hy, e⟩)
        by_cases hv : get (an y) a = av y
        · have : av x = av y := by rw [← hv, e]; exact (get_some ha.1 x h1).symm
          rw [attr_ext e.symm this]; exact hy
        · exact absurd e (h2 y ((btw_mem ha hb _).2 (.inr ⟨hy, hv⟩)))
    · simp at h1
  · intro h
    refine ⟨?_, hb.2.2 x h⟩
    by_cases hv : get (an x) a = av x
    · refine .inr ⟨.inl ?_, fun y hy e => ?_⟩
      · obtain ⟨y, hy, e⟩ : ∃ y ∈ a, an y = an x := by
          apply Classical.byContradiction
          intro hn
          rw [get_none fun y hy e => hn ⟨y, hy, e⟩] at hv
          exact hb.2.2 x h hv.symm
        have : av y = av x := by rw [← hv, ← e]; exact (get_some ha.1 y hy).symm
        rw [← attr_ext e this]; exact hy
      · rcases (btw_mem ha hb y).1 hy with ⟨z, h1, h2, rfl⟩ | ⟨h1, h2⟩
        · have e : an z = an x := e
          have := get_some hb.1 x h
          rw [← e, h2] at this
          exact hb.2.2 x h this.symm
        · have h4 := get_some hb.1 x h
          have h5 := get_some hb.1 y h1
          rw [e, h4] at h5
          rw [e, hv] at h2
          exact h2 h5
    · exact .inl (.inr ⟨h, hv⟩)
theorem chd_nil {a : Attrs} (ha : Full a) : chd a [] = a := by
  refine srt_ext (keepv_srt _ (puts_srt _ _ (puts_srt a [] trivial))) ha.1 (fun x => ?_)
  show x ∈ keepv (puts (puts [] a) []) ↔ _
  rw [keepv_mem, puts_mem [] _ (show Srt [] from trivial), puts_mem a [] ha.1]
  constructor
  · rintro ⟨h | ⟨h | ⟨h, _⟩, _⟩, _⟩
    · simp at h
    · exact h
    · simp at h
  · exact fun h => ⟨.inr ⟨.inl h, fun y hy => by simp at hy⟩, ha.2.2 x h⟩
/-- A flow whose elements have valid attributes. -/
def Ff (f : Flow) : Prop := ∀ x ∈ f, Full (ea x)
theorem Ff.cons {x : YElem.den} {f : Flow} (h : Ff (x :: f)) : Full (ea x) ∧ Ff f := ⟨h x (by simp), fun y hy => h y (by simp [hy])⟩
theorem cB_pa : ∀ (a b : Flow), cB (pa a b) = a.length ∧ cA (pa a b) = b.length
  | [], b => cB_a b
  | x :: a, [] => by
    obtain ⟨h1, h2⟩ := cB_pa a []
    rw [pa_c0]
    exact ⟨by show cB _ + 1 = a.length + 1; rw [h1], h2⟩
  | x :: a, y :: b => by
    obtain ⟨h1, h1'⟩ := cB_pa a (y :: b)
    obtain ⟨h2, h2'⟩ := cB_pa (x :: a) b
    obtain ⟨h3, h3'⟩ := cB_pa a b
    rw [pa_cc]
    split
    · exact ⟨by show cB _ + 1 = a.length + 1; rw [h3], by show cA _ + 1 = b.length + 1; rw [h3']⟩
    · split
      · exact ⟨by show cB _ + 1 = a.length + 1; rw [h1], by show cA (pa a (y :: b)) = b.length + 1; rw [h1']; rfl⟩
      · exact ⟨by show cB (pa (x :: a) b) = a.length + 1; rw [h2]; rfl, by show cA _ + 1 = b.length + 1; rw [h2']⟩
theorem ok_pa : ∀ (a b : Flow), (∀ x ∈ a, eErr x = 0) → (∀ x ∈ b, eErr x = 0) → (∀ x, eErr x = 0 → err false (ea x) = 0) → ∀ u ∈ pa a b, okU u
  | [], b, ha, hb, hE => fun u hu => by
    obtain ⟨x, hx, rfl⟩ := List.mem_map.1 hu
    exact hb x hx
  | x :: a, [], ha, hb, hE => fun u hu => by
    rw [pa_c0] at hu
    rcases List.mem_cons.1 hu with rfl | hu
    · trivial
    · exact ok_pa a [] (fun y hy => ha y (by simp [hy])) hb hE u hu
  | x :: a, y :: b, ha, hb, hE => fun u hu => by
    have ha' : ∀ z ∈ a, eErr z = 0 := fun z hz => ha z (by simp [hz])
    have hb' : ∀ z ∈ b, eErr z = 0 := fun z hz => hb z (by simp [hz])
    rw [pa_cc] at hu
    split at hu
    · rcases List.mem_cons.1 hu with rfl | hu
      · have vx := hE x (ha x (by simp))
        have vy := hE y (hb y (by simp))
        show Attr.err true (chg (ea x) (ea y)) = 0
        rw [chg_btw (full_of vx) (full_of vy)]
        exact btw_ok (full_of vx) (full_of vy) (fun z hz => ⟨(nv_of vx z hz).1, (nv_of vx z hz).2.elim .inl fun q => by cases q.1⟩) (fun z hz => ⟨(nv_of vy z hz).1, (nv_of vy z hz).2.elim .inl fun q => by cases q.1⟩)
      · exact ok_pa a b ha' hb' hE u hu
    · split at hu
      · rcases List.mem_cons.1 hu with rfl | hu
        · trivial
        · exact ok_pa a (y :: b) ha' hb hE u hu
      · rcases List.mem_cons.1 hu with rfl | hu
        · exact hb y (by simp)
        · exact ok_pa (x :: a) b ha hb' hE u hu
end Go.Ev.Diff
namespace Go.Ev.Diff
open Go.Ev Go.Ev.Attr Go.Ev.Track Go.Ev.Delta
set_option linter.unusedVariables false
set_option linter.unusedSimpArgs false
abbrev Act := Delta.Act
abbrev Steps := Delta.Steps
def tcr : List Bool → Nat
  | true :: l => tcr l + 1
  | _ => 0
/-- How many are cut at the end. -/
def tc (cs : List Bool) : Nat := tcr cs.reverse
theorem tcr_rep (n : Nat) (l : List Bool) : tcr (List.replicate n true ++ l) = n + tcr l := by
  induction n with
  | zero => simp
  | succ n ih =>
    rw [List.replicate_succ]
    show tcr (List.replicate n true ++ l) + 1 = _
    rw [ih]; omega
theorem tc_base (b : List Bool) (h : b = [] ∨ ∃ cs, b = cs ++ [false]) (n : Nat) : tc (b ++ List.replicate n true) = n := by
  unfold tc
  rw [List.reverse_append, List.reverse_replicate, tcr_rep]
  rcases h with rfl | ⟨cs, rfl⟩
  · rfl
  · rw [List.reverse_append]; rfl
/-- An element is added ahead of what is cut at the end. -/
def rdI (x : YElem.den) (a : Act) : Act := (a.1.set (a.2.1.length - tc a.2.1) (a.1.getD (a.2.1.length - tc a.2.1) [] ++ [x]), a.2.1, a.2.2)
def rd1 : U → Act → Act
  | .a x, a => rdI x a
  | .c, a => aU true [] a
  | .k t, a => aU false t a
def rdA : List U → Act → Act
  | [], a => a
  | u :: us, a => rdA us (rd1 u a)
theorem aE_nil {a : Act} (h : AOk a) : aE [] a = a := by
  obtain ⟨A, y, hA, hl⟩ := snoc_of a.1 _ h.h1
  obtain ⟨a1, a2, a3⟩ := a
  simp only at hA
  subst hA
  simp [aE, List.getD_eq_getElem?_getD]
theorem aUn_snoc (n : Nat) (b : Act) : aUn (n + 1) b = aU true [] (aUn n b) := by
  unfold aUn aU
  simp only [List.replicate_succ', List.append_assoc]
theorem aUn_il : ∀ (n : Nat) (b : Act), AOk b → il (aUn n b) = il b ++ List.replicate n U.c
  | 0, b, h => by rw [aUn_zero]; simp
  | n + 1, b, h => by
    rw [aUn_snoc, aU_il _ _ (aUn_ok n h), aUn_il n b h, List.replicate_succ', List.append_assoc]; rfl
theorem rdI_eq {b : Act} (h : AOk b) (hb : b.2.1 = [] ∨ ∃ cs, b.2.1 = cs ++ [false]) (x : YElem.den) (e : Flow) (n : Nat) : rdI x (aUn n (aE e b)) = aUn n (aE (e ++ [x]) b) := by
  obtain ⟨A, z, hA, hl⟩ := snoc_of b.1 _ h.h1
  obtain ⟨b1, b2, b3⟩ := b
  simp only at hA hb hl
  subst hA
  have ht := tc_base b2 hb n
  unfold rdI aUn aE
  simp only [ht, List.length_append, List.length_replicate, Nat.add_sub_cancel]
  rw [← hl]
  simp [List.getD_eq_getElem?_getD]
theorem actL_append : ∀ (l m : Steps) (a : Act), actL (l ++ m) a = actL m (actL l a)
  | [], m, a => rfl
  | s :: l, m, a => actL_append l m (stA s a)
theorem actL_fl (y : Steps) (e : Flow) (c : Int) (hc : 0 ≤ c) : actL (fl y e c) A0 = aUn c.toNat (aE e (actL y A0)) := by
  have ok := (act_run y).1
  unfold fl
  rw [actL_append, actL_append]
  have e1 : actL (if emp e = true then [] else [mkT 1 0 [] e]) (actL y A0) = aE e (actL y A0) := by
    split
    · rename_i h
      rw [(emp_iff e).1 h, aE_nil ok]; rfl
    · rfl
  rw [e1]
  split
  · rfl
  · have : c = 0 := by omega
    subst this
    rw [show Int.toNat 0 = 0 from rfl, aUn_zero]; rfl
theorem actL_mrg (y : Steps) (t : Attrs) (hy : ∀ s ∈ y, 0 ≤ sn s) : actL (mrgK y 1 t) A0 = aU false t (actL y A0) := by
  rcases last_cases y with h | ⟨d, s, h⟩
  · subst h; rfl
  · subst h
    rw [mrg_last]
    have hs := hy s (by simp)
    split
    · rename_i hc
      rw [actL_append, actL_append]
      generalize actL d A0 = a
      have et := (eqA_iff _ _).1 hc.2
      show stA (mkT (sk s) (sn s + 1) (sa s) (se s)) a = aU false t (stA s a)
      unfold stA
      rw [sk_mk, sn_mk, sa_mk, hc.1, if_neg (by decide), if_neg (by decide), et]
      have : (sn s + 1).toNat = (sn s).toNat + 1 := by omega
      rw [this]
      unfold aU
      simp only [List.replicate_succ', List.append_assoc]
      rfl
    · rw [actL_append]; rfl
/-- What steps cost. -/
def sco (s : YStep.den) : Int := if sk s = 1 then (se s).length else if sk s = 2 then sn s else if emp (sa s) = true then 0 else sn s
theorem sco_keep {s : YStep.den} (h : sk s = 0) : sco s = if emp (sa s) = true then 0 else sn s := by
  unfold sco
  rw [h, if_neg (by decide), if_neg (by decide)]
def cost : Steps → Int
  | [] => 0
  | s :: l => sco s + cost l
theorem cost_append : ∀ (l m : Steps), cost (l ++ m) = cost l + cost m
  | [], m => by simp [cost]
  | s :: l, m => by
    show sco s + cost (l ++ m) = sco s + cost l + cost m
    rw [cost_append l m]; omega
theorem cost_fl (y : Steps) (e : Flow) (c : Int) (hc : 0 ≤ c) : cost (fl y e c) = cost y + e.length + c := by
  unfold fl
  rw [cost_append, cost_append]
  have e1 : cost (if emp e = true then [] else [mkT 1 0 [] e]) = e.length := by
    split
    · rename_i h; rw [(emp_iff e).1 h]; rfl
    · show sco (mkT 1 0 [] e) + 0 = _
      unfold sco; rw [sk_mk, if_pos rfl, se_mk]; omega
  have e2 : cost (if 0 < c then [mkT 2 c [] []] else []) = c := by
    split
    · show sco (mkT 2 c [] []) + 0 = _
      unfold sco; rw [sk_mk, if_neg (by decide), if_pos rfl, sn_mk]; omega
    · show (0 : Int) = c; omega
  rw [e1, e2]
theorem cost_mrg (y : Steps) (t : Attrs) : cost (mrgK y 1 t) = cost y + (uc (.k t) : Int) := by
  have e1 : sco (mkT 0 1 t []) = (uc (.k t) : Int) := by
    unfold sco; rw [sk_mk, if_neg (by decide), if_neg (by decide), sa_mk, sn_mk]
    show _ = (((if emp t = true then 0 else 1) : Nat) : Int)
    split <;> rfl
  rcases last_cases y with h | ⟨d, s, h⟩
  · subst h
    show sco (mkT 0 1 t []) + 0 = 0 + _
    rw [e1]; omega
  · subst h
    rw [mrg_last]
    split
    · rename_i hc
      have et := (eqA_iff _ _).1 hc.2
      rw [cost_append, cost_append]
      have : sco (mkT (sk s) (sn s + 1) (sa s) (se s)) = sco s + (uc (.k t) : Int) := by
        rw [sco_keep hc.1, sco_keep (s := mkT (sk s) (sn s + 1) (sa s) (se s)) (by rw [sk_mk]; exact hc.1), sa_mk, sn_mk, et]
        show _ = _ + (((if emp t = true then 0 else 1) : Nat) : Int)
        by_cases he : emp t = true
        · rw [if_pos he, if_pos he, if_pos he]; rfl
        · rw [if_neg he, if_neg he, if_neg he]; rfl
      show cost d + (sco _ + 0) = cost d + (sco s + 0) + _
      rw [this]; omega
    · rw [cost_append]
      show _ + (sco (mkT 0 1 t []) + 0) = _
      rw [e1]; omega
/-- What is written (`w`) of units and what is read of them (`a`) go together. -/
structure RI (us : List U) (w : W) (a b : Act) : Prop where
  ok : AOk b
  lst : b.2.1 = [] ∨ ∃ cs, b.2.1 = cs ++ [false]
  eq : a = aUn w.2.2.toNat (aE w.2.1 b)
  c : 0 ≤ w.2.2
  run : runP (il b) w0 = (w.1, [], 0)
  act : actL w.1 A0 = b
  sn : ∀ s ∈ w.1, 0 ≤ Delta.sn s
  app : ∀ vs f, ap (il a ++ vs) f = ap (us ++ vs) f
  co : cost w.1 + w.2.1.length + w.2.2 = uco us
theorem ri0 : RI [] w0 A0 A0 := ⟨⟨rfl, rfl⟩, .inl rfl, by rw [show w0.2.2.toNat = 0 from rfl, aUn_zero]; exact (aE_nil ⟨rfl, rfl⟩).symm, by decide, rfl, rfl, fun s h => by simp [w0] at h, fun vs f => rfl, rfl⟩
theorem RI.il_a {us : List U} {w : W} {a b : Act} (h : RI us w a b) : AOk a ∧ il a = il b ++ w.2.1.map U.a ++ List.replicate w.2.2.toNat U.c := by
  have o1 := aE_ok w.2.1 h.ok
  rw [h.eq]
  exact ⟨aUn_ok _ o1, by rw [aUn_il _ _ o1, aE_il _ h.ok]⟩
theorem RI.out {us : List U} {w : W} {a b : Act} (h : RI us w a b) : actL (out w) A0 = a ∧ cost (Delta.out w) = uco us ∧ runP (il a) w0 = w := by
  have h1 := actL_fl w.1 w.2.1 w.2.2 h.c
  rw [h.act, ← h.eq] at h1
  have h2 := cost_fl w.1 w.2.1 w.2.2 h.c
  rw [h.co] at h2
  refine ⟨h1, h2, ?_⟩
  have hc := h.c
  rw [h.il_a.2, runP_append, runP_append, h.run, runP_a, runP_c]
  obtain ⟨y, e, c⟩ := w
  show (y, [] ++ e, (0 : Int) + (c.toNat : Int)) = (y, e, c)
  have : (0 : Int) + (c.toNat : Int) = c := by
    have : 0 ≤ c := hc
    omega
  rw [this]; rfl
theorem mrg_sn (y : Steps) (t : Attrs) (hy : ∀ s ∈ y, 0 ≤ Delta.sn s) : ∀ s ∈ mrgK y 1 t, 0 ≤ Delta.sn s := by
  intro s hs
  rcases mrg_mem hs with h | h | ⟨q, hq, _, _, h⟩
  · exact hy s h
  · rw [h, sn_mk]; decide
  · rw [h, sn_mk]; have := hy q hq; omega
theorem fl_sn (y : Steps) (e : Flow) (c : Int) (hy : ∀ s ∈ y, 0 ≤ Delta.sn s) : ∀ s ∈ fl y e c, 0 ≤ Delta.sn s := by
  intro s hs
  rcases fl_mem hs with h | ⟨h, _⟩ | ⟨h, h2⟩
  · exact hy s h
  · rw [h, sn_mk]; decide
  · rw [h, sn_mk]; omega
theorem RI.step {us : List U} {w : W} {a b : Act} (h : RI us w a b) (u : U) : ∃ b', RI (us ++ [u]) (uU u w) (rd1 u a) b' := by
  obtain ⟨oa, ia⟩ := h.il_a
  have hc := h.c
  have hco := h.co
  cases u with
  | a x =>
    refine ⟨b, h.ok, h.lst, ?_, h.c, h.run, h.act, h.sn, fun vs f => ?_, ?_⟩
    · show rdI x a = _
      rw [h.eq, rdI_eq h.ok h.lst]; rfl
    · have e : rd1 (.a x) a = aUn w.2.2.toNat (aE (w.2.1 ++ [x]) b) := by
        show rdI x a = _
        rw [h.eq, rdI_eq h.ok h.lst]
      have e2 : il (rd1 (.a x) a) = il b ++ (w.2.1 ++ [x]).map U.a ++ List.replicate w.2.2.toNat U.c := by
        rw [e, aUn_il _ _ (aE_ok _ h.ok), aE_il _ h.ok]
      rw [List.append_assoc, ← h.app, e2, ia]
      have sw : ∀ (p : List U) (g : Flow), ap (p ++ (.a x :: (List.replicate w.2.2.toNat U.c ++ vs))) g = ap (p ++ (List.replicate w.2.2.toNat U.c ++ (.a x :: vs))) g := by
        intro p
        induction p with
        | nil =>
          intro g
          show x :: ap (List.replicate _ U.c ++ vs) g = ap (List.replicate _ U.c ++ (.a x :: vs)) g
          rw [ap_c, ap_c]; rfl
        | cons v p ih =>
          intro g
          cases v with
          | a z => show z :: _ = z :: _; exact congrArg _ (ih g)
          | c => exact ih (g.drop 1)
          | k t => show _ ++ _ = _ ++ _; exact congrArg _ (ih (g.drop 1))
      have := sw (il b ++ w.2.1.map U.a) f
      simpa using this
    · rw [uco_append]
      show cost w.1 + ((w.2.1 ++ [x]).length : Int) + w.2.2 = ((uco us + 1 : Nat) : Int)
      simp; omega
  | c =>
    have e : aU true [] a = aUn (w.2.2 + 1).toNat (aE w.2.1 b) := by
      have : (w.2.2 + 1).toNat = w.2.2.toNat + 1 := by omega
      rw [this, aUn_snoc, ← h.eq]
    refine ⟨b, h.ok, h.lst, e, by show 0 ≤ w.2.2 + 1; omega, h.run, h.act, h.sn, fun vs f => ?_, ?_⟩
    · show ap (il (aU true [] a) ++ vs) f = _
      rw [aU_il _ _ oa, List.append_assoc, h.app, List.append_assoc]; rfl
    · rw [uco_append]
      show cost w.1 + (w.2.1.length : Int) + (w.2.2 + 1) = ((uco us + 1 : Nat) : Int)
      omega
  | k t =>
    obtain ⟨o1, o2, o3⟩ := h.out
    have fs := fl_sn w.1 w.2.1 w.2.2 h.sn
    refine ⟨aU false t a, aU_ok _ _ oa, .inr ⟨a.2.1, rfl⟩, ?_, Int.le_refl 0, ?_, ?_, mrg_sn _ _ fs, fun vs f => ?_, ?_⟩
    · show aU false t a = aUn (0 : Int).toNat (aE [] (aU false t a))
      rw [aE_nil (aU_ok _ _ oa), show (0 : Int).toNat = 0 from rfl, aUn_zero]
    · rw [aU_il _ _ oa, runP_append, o3]; rfl
    · exact (actL_mrg (Delta.out w) t fs).trans (by rw [o1])
    · show ap (il (aU false t a) ++ vs) f = _
      rw [aU_il _ _ oa, List.append_assoc, h.app, List.append_assoc]; rfl
    · rw [uco_append]
      show cost (mrgK (Delta.out w) 1 t) + (([] : Flow).length : Int) + 0 = ((uco us + (uc (.k t) + 0) : Nat) : Int)
      rw [cost_mrg, o2]
      simp
theorem RI.all : ∀ (vs us : List U) (w : W) (a b : Act), RI us w a b → ∃ b', RI (us ++ vs) (runP vs w) (rdA vs a) b'
  | [], us, w, a, b, h => ⟨b, by rw [List.append_nil]; exact h⟩
  | v :: vs, us, w, a, b, h => by
    obtain ⟨b1, h1⟩ := h.step v
    obtain ⟨b2, h2⟩ := RI.all vs _ _ _ b1 h1
    rw [List.append_assoc] at h2
    exact ⟨b2, h2⟩
/-- What is written of units: what it does, what it costs, and that it is written again of what it does. -/
theorem units_all (us : List U) : actL (out (runP us w0)) A0 = rdA us A0 ∧ cost (out (runP us w0)) = uco us ∧ runP (il (rdA us A0)) w0 = runP us w0 ∧ AOk (rdA us A0) ∧ ∀ f, ap (il (rdA us A0)) f = ap us f := by
  obtain ⟨b, h⟩ := RI.all us [] w0 A0 A0 ri0
  obtain ⟨h1, h2, h3⟩ := h.out
  refine ⟨h1, h2, h3, h.il_a.1, fun f => ?_⟩
  have := h.app [] f
  simpa using this
end Go.Ev.Diff
namespace Go.Ev.Diff
open Go.Ev Go.Ev.Attr Go.Ev.Track Go.Ev.Delta
set_option linter.unusedVariables false
set_option linter.unusedSimpArgs false
theorem bct {A : Type} (x y : A) : bcond true x y = x := rfl
theorem bcf {A : Type} (x y : A) : bcond false x y = y := rfl
theorem alike_eq (x y : YElem.den) : C_diff_alike F_diff_alike x y = some (ret_diff_alike (alE x y)) := by
  rw [e_diff_alike]
  show bcond ((ec x == ec y) == true) (some (ret_diff_alike (er x == er y))) _ = some (ret_diff_alike ((ec x == ec y) && (er x == er y)))
  cases (ec x == ec y) <;> rfl
theorem price_eq (x y : YElem.den) (hx : (ea x).length ≤ 1048576) : C_diff_price F_diff_price x y = some (ret_diff_price (pcE x y : Int)) := by
  rw [e_diff_price]
  have e1 : x.2.2 = ea x := rfl
  have e2 : y.2.2 = ea y := rfl
  rw [e1, e2, same38 _ _ hx]
  unfold pcE
  cases h : eqA (ea x) (ea y) <;> simp [h, bcond]
section
variable (a b : Flow)
def cell (i k : Nat) : Int := (ds (a.drop i) (b.drop k) : Nat)
def row (i : Nat) : List Int := (List.range (b.length + 1)).map (cell a b i)
def tbl : List (List Int) := (List.range (a.length + 1)).map (row a b)
theorem row_len (i : Nat) : (row a b i).length = b.length + 1 := by simp [row]
theorem row_get (i k : Nat) (h : k ≤ b.length) : (row a b i).getD k 0 = cell a b i k := by
  simp [row, List.getD_eq_getElem?_getD, show k < b.length + 1 by omega]
theorem row_ext (i : Nat) (x : List Int) (hl : x.length = b.length + 1) (h : ∀ k, k ≤ b.length → x.getD k 0 = cell a b i k) : x = row a b i := by
  apply List.ext_getElem (by rw [hl, row_len])
  intro k h1 h2
  have q1 := h k (by omega)
  have q2 := row_get a b i k (by omega)
  simp only [List.getD_eq_getElem?_getD, List.getElem?_eq_getElem h1, List.getElem?_eq_getElem h2, Option.getD_some] at q1 q2
  rw [q1, q2]
theorem tbl_get (i : Nat) (h : i ≤ a.length) : (tbl a b).getD i [] = row a b i := by
  simp [tbl, List.getD_eq_getElem?_getD, show i < a.length + 1 by omega]
theorem tbl_len : (tbl a b).length = a.length + 1 := by simp [tbl]
theorem tbl_ext (x : List (List Int)) (hl : x.length = a.length + 1) (h : ∀ i, i ≤ a.length → x.getD i [] = row a b i) : x = tbl a b := by
  apply List.ext_getElem (by rw [hl, tbl_len])
  intro k h1 h2
  have q1 := h k (by omega)
  have q2 := tbl_get a b k (by omega)
  simp only [List.getD_eq_getElem?_getD, List.getElem?_eq_getElem h1, List.getElem?_eq_getElem h2, Option.getD_some] at q1 q2
  rw [q1, q2]
theorem cell_end (k : Nat) (h : k ≤ b.length) : cell a b a.length k = (b.length : Int) - k := by
  unfold cell
  rw [List.drop_length, ds_nil, List.length_drop]; omega
theorem cell_r (i : Nat) (h : i ≤ a.length) : cell a b i b.length = (a.length : Int) - i := by
  unfold cell
  rw [List.drop_length, ds_r0, List.length_drop]; omega
theorem cell_le (i k : Nat) : 0 ≤ cell a b i k ∧ cell a b i k ≤ a.length + b.length := by
  unfold cell
  have := ds_len (a.drop i) (b.drop k)
  rw [List.length_drop, List.length_drop] at this
  omega
theorem cell_cc (i k : Nat) (hi : i < a.length) (hk : k < b.length) : cell a b i k = if alE (atE a i) (atE b k) = true then
      (if cell a b (i + 1) (k + 1) + pcE (atE a i) (atE b k) < 1 + (if cell a b i (k + 1) < cell a b (i + 1) k then cell a b i (k + 1) else cell a b (i + 1) k) then cell a b (i + 1) (k + 1) + pcE (atE a i) (atE b k)
        else 1 + (if cell a b i (k + 1) < cell a b (i + 1) k then cell a b i (k + 1) else cell a b (i + 1) k))
    else 1 + (if cell a b i (k + 1) < cell a b (i + 1) k then cell a b i (k + 1) else cell a b (i + 1) k) := by
  unfold cell
  rw [drop_elem a hi, drop_elem b hk, ds_cc]
  generalize ds (a.drop (i + 1)) (atE b k :: b.drop (k + 1)) = p
  generalize ds (atE a i :: a.drop (i + 1)) (b.drop (k + 1)) = q
  generalize ds (a.drop (i + 1)) (b.drop (k + 1)) = r
  generalize pcE (atE a i) (atE b k) = s
  split
  · split <;> split <;> omega
  · split <;> omega
theorem getD_set_self {x : List Int} {k : Nat} (h : k < x.length) (v : Int) : (x.set k v).getD k 0 = v := by
  simp [List.getD_eq_getElem?_getD, h]
theorem getD_set_ne {x : List Int} {k j : Nat} (h : k ≠ j) (v : Int) : (x.set k v).getD j 0 = x.getD j 0 := by
  simp [List.getD_eq_getElem?_getD, List.getElem?_set, h]
theorem atI (xs : List Int) (i : Nat) : at_ (e := .int .i64) xs (i : Int) = xs.getD i 0 := rfl
theorem set_next {x : List Int} {i d : Nat} (hx : x.length = b.length + 1) (hd : d ≤ b.length) (h : ∀ k, d + 1 ≤ k → k ≤ b.length → x.getD k 0 = cell a b i k) {v : Int} (hv : v = cell a b i d) :
    (x.set d v).length = b.length + 1 ∧ ∀ k, d ≤ k → k ≤ b.length → (x.set d v).getD k 0 = cell a b i k := by
  refine ⟨by simp [hx], fun k h1 h2 => ?_⟩
  by_cases hk : d = k
  · subst hk; rw [getD_set_self (by omega), hv]
  · rw [getD_set_ne hk]; exact h k (by omega) h2
variable (ha : a.length ≤ 2000) (hb : b.length ≤ 2000) (sa' : ∀ x ∈ a, (ea x).length ≤ 1048576)
include ha hb sa'
theorem tab_inner (i : Nat) (hi : i ≤ a.length) (x5 : List (List Int)) (h5 : x5.length = a.length + 1) (hrow : i < a.length → x5.getD (i + 1) [] = row a b (i + 1)) (m1 : Nat) :
    ∀ (d m : Nat) (x : List Int), d ≤ b.length + 1 → d < m → x.length = b.length + 1 → (∀ k, d ≤ k → k ≤ b.length → x.getD k 0 = cell a b i k) →
      L_diff_table_1 big m1 m a b x5 (i : Int) (i : Int) ((d : Int) - 1) x = L_diff_table_0 big m1 a b (x5.set i (row a b i)) ((i : Int) - 1) := by
  intro d
  induction d with
  | zero =>
    intro m x hd hm hx h
    cases m with
    | zero => omega
    | succ m =>
    have c1 : decide (((0 : Nat) : Int) - 1 ≥ 0) = false := decide_eq_false (by omega)
    have w1 : IntKind.i64.wrap ((i : Int) - 1) = (i : Int) - 1 := w64 (by omega) (by omega)
    rw [L_diff_table_1_step]
    simp only [c1, bcf, Int.toNat_natCast, w1, row_ext a b i x hx (fun k hk => h k (by omega) hk)]
  | succ d ih =>
    intro m x hd hm hx h
    cases m with
    | zero => omega
    | succ m =>
    have e7 : (((d + 1 : Nat) : Int) - 1) = (d : Int) := by omega
    have c1 : decide ((d : Int) ≥ 0) = true := decide_eq_true (by omega)
    have c2 : decide ((i : Int) = (i : Int)) = true := decide_eq_true rfl
    have w1 : IntKind.i64.wrap ((d : Int) - 1) = (d : Int) - 1 := w64 (by omega) (by omega)
    have q5 : 0 ≤ (i : Int) ∧ (i : Int) < (x5.length : Int) := by omega
    have qx : 0 ≤ (d : Int) ∧ (d : Int) < (x.length : Int) := by omega
    rw [e7, L_diff_table_1_step]
    by_cases hia : i = a.length
    · have d1 : ((i : Int) == (a.length : Int)) = true := by simp [hia]
      have w2 : IntKind.i64.wrap ((b.length : Int) - (d : Int)) = (b.length : Int) - d := w64 (by omega) (by omega)
      simp only [c1, bct, d1, if_pos q5, decide_true, if_pos qx, w1, w2, Int.toNat_natCast]
      obtain ⟨n1, n2⟩ := set_next a b hx (by omega) h (v := (b.length : Int) - d) (by rw [hia, cell_end a b d (by omega)])
      exact ih m _ (by omega) (by omega) n1 n2
    · have hil : i < a.length := by omega
      have d1 : ((i : Int) == (a.length : Int)) = false := by
        rw [beq_eq_false_iff_ne]; omega
      by_cases hdb : d = b.length
      · have d2 : ((d : Int) == (b.length : Int)) = true := by simp [hdb]
        have w2 : IntKind.i64.wrap ((a.length : Int) - (i : Int)) = (a.length : Int) - i := w64 (by omega) (by omega)
        simp only [c1, bct, bcf, d1, d2, if_pos q5, decide_true, if_pos qx, w1, w2, Int.toNat_natCast]
        obtain ⟨n1, n2⟩ := set_next a b hx (by omega) h (v := (a.length : Int) - i) (by rw [hdb, cell_r a b i hi])
        exact ih m _ (by omega) (by omega) n1 n2
      · have hdl : d < b.length := by omega
        have d2 : ((d : Int) == (b.length : Int)) = false := by
          rw [beq_eq_false_iff_ne]; omega
        have w3 : IntKind.i64.wrap ((i : Int) + 1) = ((i + 1 : Nat) : Int) := wnat (by omega) (by omega)
        have w4 : IntKind.i64.wrap ((d : Int) + 1) = ((d + 1 : Nat) : Int) := wnat (by omega) (by omega)
        have q5' : 0 ≤ ((i + 1 : Nat) : Int) ∧ ((i + 1 : Nat) : Int) < (x5.length : Int) := by omega
        have qn : ¬ ((i + 1 : Nat) : Int) = (i : Int) := by omega
        have er : at_ (e := .list (.int .i64)) x5 ((i + 1 : Nat) : Int) = row a b (i + 1) := hrow hil
        have rl := row_len a b (i + 1)
        have qr : 0 ≤ (d : Int) ∧ (d : Int) < ((row a b (i + 1)).length : Int) := by omega
        have qr' : 0 ≤ ((d + 1 : Nat) : Int) ∧ ((d + 1 : Nat) : Int) < ((row a b (i + 1)).length : Int) := by omega
        have qx' : 0 ≤ ((d + 1 : Nat) : Int) ∧ ((d + 1 : Nat) : Int) < (x.length : Int) := by omega
        have qa : 0 ≤ (i : Int) ∧ (i : Int) < (a.length : Int) := by omega
        have qb : 0 ≤ (d : Int) ∧ (d : Int) < (b.length : Int) := by omega
        have ex : at_ (e := YElem) a (i : Int) = atE a i := rfl
        have ey : at_ (e := YElem) b (d : Int) = atE b d := rfl
        have v1 : x.getD (d + 1) 0 = cell a b i (d + 1) := h (d + 1) (by omega) (by omega)
        have v2 := row_get a b (i + 1) d (by omega)
        have v3 := row_get a b (i + 1) (d + 1) (by omega)
        have l1 := cell_le a b i (d + 1)
        have l2 := cell_le a b (i + 1) d
        have l3 := cell_le a b (i + 1) (d + 1)
        have cc := cell_cc a b i d hil hdl
        have sx := sa' (atE a i) (atE_mem a hil)
        have wm : IntKind.i64.wrap (1 + (if cell a b i (d + 1) < cell a b (i + 1) d then cell a b i (d + 1) else cell a b (i + 1) d)) = 1 + (if cell a b i (d + 1) < cell a b (i + 1) d then cell a b i (d + 1) else cell a b (i + 1) d) := by
          apply w64
          · split <;> omega
          · split <;> omega
        have ps : (pcE (atE a i) (atE b d) : Nat) ≤ 1 := by unfold pcE; split <;> omega
        have wp : IntKind.i64.wrap (cell a b (i + 1) (d + 1) + (pcE (atE a i) (atE b d) : Nat)) = cell a b (i + 1) (d + 1) + (pcE (atE a i) (atE b d) : Nat) := w64 (by omega) (by omega)
        simp only [c1, bct, bcf, d1, d2, if_pos q5, if_pos trivial, w3, w4, er, if_pos q5', if_pos qn, if_pos qr, if_pos qx', if_pos qx, if_pos qa, if_pos qb, ex, ey, alike_eq, Option.bind_some, res_diff_alike_0_ret, if_true, atI, v1, v2, v3, wm, Int.toNat_natCast, w1]
        by_cases al : alE (atE a i) (atE b d) = true
        · rw [if_pos al] at cc
          generalize hM : 1 + (if cell a b i (d + 1) < cell a b (i + 1) d then cell a b i (d + 1) else cell a b (i + 1) d) = M at cc ⊢
          have ls : (x.set d M).length = x.length := by simp
          have gs : (x.set d M).getD d 0 = M := getD_set_self (by omega) _
          simp only [al, bct, if_pos q5, if_pos qa, if_pos qb, ls, if_pos qx, if_pos qr', price_eq _ _ sx, Option.bind_some, res_diff_price_0_ret, wp, gs, List.set_set, if_pos qn, if_true]
          obtain ⟨n1, n2⟩ := set_next a b hx (by omega) h (v := _) cc.symm
          exact ih m _ (by omega) (by omega) n1 n2
        · rw [if_neg al] at cc
          simp only [eq_false_of_ne_true al, bcf]
          obtain ⟨n1, n2⟩ := set_next a b hx (by omega) h (v := _) cc.symm
          exact ih m _ (by omega) (by omega) n1 n2
theorem tab_loop : ∀ (d m : Nat) (x5 : List (List Int)), d ≤ a.length + 1 → d < m → x5.length = a.length + 1 → (∀ j, d ≤ j → j ≤ a.length → x5.getD j [] = row a b j) →
    L_diff_table_0 big m a b x5 ((d : Int) - 1) = some (ret_diff_table (tbl a b)) := by
  intro d
  induction d with
  | zero =>
    intro m x5 hd hm hx h
    cases m with
    | zero => omega
    | succ m =>
    have c1 : decide (((0 : Nat) : Int) - 1 ≥ 0) = false := decide_eq_false (by omega)
    rw [L_diff_table_0_step]
    simp only [c1, bcf, tbl_ext a b x5 hx (fun k hk => h k (by omega) hk)]
  | succ d ih =>
    intro m x5 hd hm hx h
    cases m with
    | zero => omega
    | succ m =>
    have e7 : (((d + 1 : Nat) : Int) - 1) = (d : Int) := by omega
    have c1 : decide ((d : Int) ≥ 0) = true := decide_eq_true (by omega)
    have w1 : IntKind.i64.wrap ((b.length : Int) + 1) = ((b.length + 1 : Nat) : Int) := wnat (by omega) (by omega)
    have q5 : 0 ≤ (d : Int) ∧ (d : Int) < (x5.length : Int) := by omega
    have mk : 0 ≤ ((b.length + 1 : Nat) : Int) ∧ True ∧ ((b.length + 1 : Nat) : Int) * 8 ≤ 140737488355328 ∧ ((b.length + 1 : Nat) : Int) ≤ 140737488355328 := ⟨by omega, trivial, by omega, by omega⟩
    rw [e7, L_diff_table_0_step]
    simp only [c1, bct, w1, if_pos mk, if_pos q5, Int.toNat_natCast]
    have eb : (b.length : Int) = ((b.length + 1 : Nat) : Int) - 1 := by omega
    have := tab_inner a b ha hb sa' d (by omega) x5 hx (fun hl => h (d + 1) (by omega) (by omega)) m (b.length + 1) big (List.replicate (b.length + 1) 0) (by omega) (by have := big_ge (n := b.length + 2) (by omega); omega) (by simp) (fun k h1 h2 => by omega)
    rw [eb, this]
    refine ih m _ (by omega) (by omega) (by simp [hx]) (fun j h1 h2 => ?_)
    by_cases hj : d = j
    · subst hj
      simp [List.getD_eq_getElem?_getD, hx, show d < a.length + 1 by omega]
    · have := h j (by omega) h2
      simp only [List.getD_eq_getElem?_getD, List.getElem?_set, hj, if_false] at this ⊢
      exact this
theorem table_eq : C_diff_table F_diff_table a b = some (ret_diff_table (tbl a b)) := by
  have w1 : IntKind.i64.wrap ((a.length : Int) + 1) = ((a.length + 1 : Nat) : Int) := wnat (by omega) (by omega)
  have mk : 0 ≤ ((a.length + 1 : Nat) : Int) ∧ True ∧ ((a.length + 1 : Nat) : Int) * 24 ≤ 140737488355328 ∧ ((a.length + 1 : Nat) : Int) ≤ 140737488355328 := ⟨by omega, trivial, by omega, by omega⟩
  rw [e_diff_table]
  simp only [w1, if_pos mk, Int.toNat_natCast]
  have ea' : (a.length : Int) = ((a.length + 1 : Nat) : Int) - 1 := by omega
  rw [ea']
  exact tab_loop a b ha hb sa' (a.length + 1) big _ (by omega) (by have := big_ge (n := a.length + 2) (by omega); omega) (by simp) (fun j h1 h2 => by omega)
end
end Go.Ev.Diff
namespace Go.Ev.Diff
open Go.Ev Go.Ev.Attr Go.Ev.Track Go.Ev.Delta
set_option linter.unusedVariables false
set_option linter.unusedSimpArgs false
/-- A unit as a step. -/
def stp : U → YStep.den
  | .a x => mkT 1 0 [] [x]
  | .c => mkT 2 1 [] []
  | .k t => mkT 0 1 t []
theorem ex_stp : ∀ (us : List U), ex (us.map stp) = us
  | [] => rfl
  | u :: us => by
    show exS (stp u) ++ ex (us.map stp) = _
    rw [ex_stp us]
    cases u <;> rfl
theorem stp_ok {u : U} (h : okU u) : sErr (stp u) = 0 := by
  cases u with
  | a x =>
    have h : eErr x = 0 := h
    exact add_ok [x] rfl (by simp [pErr, h])
  | c => exact cut_ok 1 (by decide) (by decide)
  | k t => exact keep_ok 1 t (by decide) (by decide) h
theorem tErr_of {s : YStep.den} (h : sErr s = 0) : tErr s = 0 := by
  unfold tErr
  rw [if_neg]
  · exact h
  · rintro (⟨_, _, q⟩ | ⟨_, _, q⟩) <;> rw [h] at q <;> cases q
theorem nsum_stp : ∀ (us : List U), nsum (us.map stp) ≤ us.length ∧ eb (us.map stp) ≤ us.length
  | [] => ⟨by decide, by decide⟩
  | u :: us => by
    obtain ⟨h1, h2⟩ := nsum_stp us
    have e1 : nsum ((u :: us).map stp) = sn (stp u) + nsum (us.map stp) := rfl
    have e2 : eb ((u :: us).map stp) = (se (stp u)).length + eb (us.map stp) := rfl
    rw [e1, e2, List.length_cons]
    cases u
    · rw [show sn (stp (.a _)) = 0 from rfl, show se (stp (.a _)) = [_] from rfl]
      simp; omega
    · rw [show sn (stp .c) = 1 from rfl, show se (stp .c) = [] from rfl]
      simp; omega
    · rw [show sn (stp (.k _)) = 1 from rfl, show se (stp (.k _)) = [] from rfl]
      simp; omega
theorem cAB_le : ∀ (us : List U), cA us ≤ us.length ∧ cB us ≤ us.length
  | [] => ⟨Nat.le_refl _, Nat.le_refl _⟩
  | u :: us => by
    have := cAB_le us
    cases u <;> simp only [cA, cB, List.length_cons] <;> omega
theorem tidy_units (us : List U) (hl : us.length ≤ 5000) (ok : ∀ u ∈ us, okU u) (sh : ∀ u ∈ us, shU u) : C_delta_Tidy F_delta_Tidy (us.map stp) = some (ret_delta_Tidy (out (runP us w0)) 0) := by
  obtain ⟨n1, n2⟩ := nsum_stp us
  have hd : Ds (us.map stp) := ds_of (by simp; omega) fun s hs => by
    obtain ⟨u, hu, rfl⟩ := List.mem_map.1 hs
    have := sh u hu
    cases u with
    | a x => exact ⟨sh_nil, fs_of (show [x].length ≤ 1048576 from by show 1 ≤ 1048576; decide) fun y hy => by rw [List.mem_singleton.1 hy]; exact this⟩
    | c => exact ⟨sh_nil, fs_nil⟩
    | k t => exact ⟨this, fs_nil⟩
  rw [tidy_eq _ hd (by simp; omega) (by omega)]
  have hr := tdy_run (us.map stp) w0 (fun s hs => by
    obtain ⟨u, hu, rfl⟩ := List.mem_map.1 hs
    exact tErr_of (stp_ok (ok u hu))) (by decide) (by show (0 : Int) + nsum _ ≤ _; omega)
  rw [runU_ex, ex_stp] at hr
  have hc := cAB_le us
  rw [if_pos (valid_out us ok (by omega) (by omega)).1] at hr
  rw [hr]
def tied (a b : Flow) : Bool := decide (0 < a.length) && (decide (0 < b.length) && ((ec (atE a (a.length - 1)) == 10) && (ec (atE b (b.length - 1)) == 10)))
def ini (a : Flow) : Flow := a.take (a.length - 1)
def lst (a : Flow) : YElem.den := atE a (a.length - 1)
/-- The units of Flows. -/
def fu (a b : Flow) : List U := if tied a b = true then pa (ini a) (ini b) ++ [.k (chg (ea (lst a)) (ea (lst b)))] else pa a b
theorem tied_spec {a b : Flow} (h : tied a b = true) : 0 < a.length ∧ 0 < b.length ∧ ec (lst a) = 10 ∧ ec (lst b) = 10 := by
  unfold tied at h
  simp only [Bool.and_eq_true, decide_eq_true_eq, beq_iff_eq] at h
  exact h
theorem ini_lst {a : Flow} (h : 0 < a.length) : a = ini a ++ [lst a] := by
  have h1 : a.drop (a.length - 1) = lst a :: a.drop (a.length - 1 + 1) := drop_elem a (by omega)
  have h2 : a.drop (a.length - 1 + 1) = [] := List.drop_of_length_le (by omega)
  rw [h2] at h1
  have := List.take_append_drop (a.length - 1) a
  rw [h1] at this
  exact this.symm
theorem ini_len (a : Flow) : (ini a).length = a.length - 1 := by simp [ini]
theorem ini_mem {a : Flow} {x : YElem.den} (h : x ∈ ini a) : x ∈ a := List.mem_of_mem_take h
theorem lst_mem {a : Flow} (h : 0 < a.length) : lst a ∈ a := atE_mem a (by omega)
structure Vf (a : Flow) : Prop where
  e : pErr a = 0
  s : Fs a
theorem Vf.ok {a : Flow} (h : Vf a) : ∀ x ∈ a, eErr x = 0 := pErr_mem h.e
theorem Vf.err {a : Flow} (h : Vf a) : ∀ x ∈ a, Attr.err false (ea x) = 0 := pErr_full a h.e
theorem Vf.ff {a : Flow} (h : Vf a) : Ff a := fun x hx => full_of (h.err x hx)
theorem err_of_e {x : YElem.den} (h : eErr x = 0) : Attr.err false (ea x) = 0 := pErr_full [x] (by simp [pErr, h]) x (by simp)
theorem chg_ok {x y : YElem.den} (hx : Attr.err false (ea x) = 0) (hy : Attr.err false (ea y) = 0) : Attr.err true (chg (ea x) (ea y)) = 0 := by
  rw [chg_btw (full_of hx) (full_of hy)]
  exact btw_ok (full_of hx) (full_of hy) (fun z hz => ⟨(nv_of hx z hz).1, (nv_of hx z hz).2.elim .inl fun q => by cases q.1⟩) (fun z hz => ⟨(nv_of hy z hz).1, (nv_of hy z hz).2.elim .inl fun q => by cases q.1⟩)
theorem pa_sh : ∀ (a b : Flow), (∀ x ∈ b, Sh (ea x)) → (∀ x ∈ a, ∀ y ∈ b, (ea x).length + (ea y).length ≤ 1048576) → (∀ x ∈ a, Attr.err false (ea x) = 0) → (∀ x ∈ b, Attr.err false (ea x) = 0) → ∀ u ∈ pa a b, shU u
  | [], b, hb, hab, ha, he => fun u hu => by
    obtain ⟨x, hx, rfl⟩ := List.mem_map.1 hu
    exact hb x hx
  | x :: a, [], hb, hab, ha, he => fun u hu => by
    rw [pa_c0] at hu
    rcases List.mem_cons.1 hu with rfl | hu
    · trivial
    · exact pa_sh a [] hb (fun y hy => hab y (by simp [hy])) (fun y hy => ha y (by simp [hy])) he u hu
  | x :: a, y :: b, hb, hab, ha, he => fun u hu => by
    have ha' : ∀ z ∈ a, Attr.err false (ea z) = 0 := fun z hz => ha z (by simp [hz])
    have he' : ∀ z ∈ b, Attr.err false (ea z) = 0 := fun z hz => he z (by simp [hz])
    have hb' : ∀ z ∈ b, Sh (ea z) := fun z hz => hb z (by simp [hz])
    rw [pa_cc] at hu
    split at hu
    · rcases List.mem_cons.1 hu with rfl | hu
      · have hl := chg_len (ea x) (ea y)
        have := hab x (by simp) y (by simp)
        exact nv_sh (by omega) (nv_of (chg_ok (ha x (by simp)) (he y (by simp))))
      · exact pa_sh a b hb' (fun z hz w hw => hab z (by simp [hz]) w (by simp [hw])) ha' he' u hu
    · split at hu
      · rcases List.mem_cons.1 hu with rfl | hu
        · trivial
        · exact pa_sh a (y :: b) hb (fun z hz w hw => hab z (by simp [hz]) w hw) ha' he u hu
      · rcases List.mem_cons.1 hu with rfl | hu
        · exact hb y (by simp)
        · exact pa_sh (x :: a) b hb' (fun z hz w hw => hab z hz w (by simp [hw])) ha he' u hu
section
variable {a b : Flow} (va : Vf a) (vb : Vf b) (hab : ∀ x ∈ a, ∀ y ∈ b, (ea x).length + (ea y).length ≤ 1048576)
include va vb
theorem fu_ok : ∀ u ∈ fu a b, okU u := by
  intro u hu
  unfold fu at hu
  split at hu
  · rename_i ht
    obtain ⟨t1, t2, t3, t4⟩ := tied_spec ht
    rcases List.mem_append.1 hu with hu | hu
    · exact ok_pa _ _ (fun x hx => va.ok x (ini_mem hx)) (fun x hx => vb.ok x (ini_mem hx)) (fun x hx => err_of_e hx) u hu
    · rw [List.mem_singleton.1 hu]
      exact chg_ok (va.err _ (lst_mem t1)) (vb.err _ (lst_mem t2))
  · exact ok_pa _ _ va.ok vb.ok (fun x hx => err_of_e hx) u hu
include hab
theorem fu_sh : ∀ u ∈ fu a b, shU u := by
  intro u hu
  unfold fu at hu
  split at hu
  · rename_i ht
    obtain ⟨t1, t2, t3, t4⟩ := tied_spec ht
    rcases List.mem_append.1 hu with hu | hu
    · exact pa_sh _ _ (fun x hx => fs_mem vb.s (ini_mem hx)) (fun x hx y hy => hab x (ini_mem hx) y (ini_mem hy)) (fun x hx => va.err x (ini_mem hx)) (fun x hx => vb.err x (ini_mem hx)) u hu
    · rw [List.mem_singleton.1 hu]
      have hl := chg_len (ea (lst a)) (ea (lst b))
      have := hab _ (lst_mem t1) _ (lst_mem t2)
      exact nv_sh (by omega) (nv_of (chg_ok (va.err _ (lst_mem t1)) (vb.err _ (lst_mem t2))))
  · exact pa_sh _ _ (fun x hx => fs_mem vb.s hx) hab va.err vb.err u hu
end
theorem fu_AB (a b : Flow) : cB (fu a b) = a.length ∧ cA (fu a b) = b.length := by
  unfold fu
  split
  · rename_i ht
    obtain ⟨t1, t2, t3, t4⟩ := tied_spec ht
    obtain ⟨h1, h2⟩ := cB_pa (ini a) (ini b)
    have e1 := ini_len a
    have e2 := ini_len b
    rw [cB_append, cA_append, h1, h2, e1, e2]
    exact ⟨by show a.length - 1 + 1 = _; omega, by show b.length - 1 + 1 = _; omega⟩
  · exact cB_pa a b
theorem fu_len (a b : Flow) : (fu a b).length ≤ a.length + b.length := by
  have h := fu_AB a b
  have := len_AB (fu a b)
  omega
section
variable (a b : Flow) (ha : a.length ≤ 2000) (hb : b.length ≤ 2000) (sa' : ∀ x ∈ a, (ea x).length ≤ 1048576) (sb' : ∀ x ∈ b, (ea x).length ≤ 1048576) (last : Delta.Steps) (hlast : last.length ≤ 1)
include ha hb sa' sb' hlast
omit ha hb sa' sb' in
theorem raw_end (m : Nat) (o : Delta.Steps) (ho : o.length ≤ 4000) : L_diff_Raw_0 big (m + 1) a b last (tbl a b) o (a.length : Int) (b.length : Int) =
    (C_delta_Tidy F_delta_Tidy (o ++ (pa (a.drop a.length) (b.drop b.length)).map stp ++ last)).bind fun r1 => some (ret_diff_Raw (res_delta_Tidy_0 r1)) := by
  have b1 : (List.length (o : List YStep.den) + List.length (last : List YStep.den)) * 64 ≤ 140737488355328 := by omega
  rw [L_diff_Raw_0_step, List.drop_length, List.drop_length]
  simp only [dlt_self, show (false == false) = true from rfl, bct, bcf, if_pos b1]
  rw [show (pa [] []).map stp = [] from rfl, List.append_nil]
theorem raw_loop : ∀ (n i k m : Nat) (o : Delta.Steps), (a.length - i) + (b.length - k) ≤ n → n < m → i ≤ a.length → k ≤ b.length → o.length + n ≤ 4000 →
    L_diff_Raw_0 big m a b last (tbl a b) o (i : Int) (k : Int) = (C_delta_Tidy F_delta_Tidy (o ++ (pa (a.drop i) (b.drop k)).map stp ++ last)).bind fun r1 => some (ret_diff_Raw (res_delta_Tidy_0 r1)) := by
  intro n
  induction n with
  | zero =>
    intro i k m o hn hm hi hk ho
    cases m with
    | zero => omega
    | succ m =>
    obtain rfl : i = a.length := by omega
    obtain rfl : k = b.length := by omega
    exact raw_end a b last hlast m o (by omega)
  | succ n ih =>
    intro i k m o hn hm hi hk ho
    cases m with
    | zero => omega
    | succ m =>
    have b1 : ∀ s : YStep.den, (List.length (o : List YStep.den) + List.length ([s] : List YStep.den)) * 64 ≤ 140737488355328 := fun s => by
      have : [s].length = 1 := rfl
      omega
    have tl := tbl_len a b
    by_cases hia : i = a.length
    · -- added
      subst hia
      by_cases hkb' : k = b.length
      · subst hkb'
        exact raw_end a b last hlast m o (by omega)
      rw [L_diff_Raw_0_step]
      have hkb : k < b.length := by omega
      have w2 : IntKind.i64.wrap ((k : Int) + 1) = ((k + 1 : Nat) : Int) := wnat (by omega) (by omega)
      have sl : 0 ≤ ((k + 1 : Nat) : Int) ∧ ((k + 1 : Nat) : Int) ≤ (b.length : Int) ∧ 0 ≤ (k : Int) ∧ (k : Int) ≤ ((k + 1 : Nat) : Int) := by omega
      have dt : List.drop k (List.take (k + 1) b) = [atE b k] := by
        rw [List.take_succ_eq_append_getElem hkb, List.drop_append]
        have : (List.take k b).length = k := by simp; omega
        rw [List.drop_of_length_le (by omega), this]
        simp [atE, at_, List.getD_eq_getElem?_getD, hkb]
      have key := ih a.length (k + 1) m (o ++ [stp (.a (atE b k))]) (by omega) (by omega) (by omega) (by omega) (by rw [List.length_append]; show o.length + 1 + n ≤ 4000; omega)
      simp only [dlt_self, dlt hkb, show (false == false) = true from rfl, show (true == true) = true from rfl, show (false == true) = false from rfl, bct, bcf, w2, if_pos sl, Int.toNat_natCast, dt, if_pos (b1 _)]
      rw [show ([(1, (0, ([], [atE b k])))] : Delta.Steps) = [stp (.a (atE b k))] from rfl, key, List.drop_length, drop_elem b hkb, pa_0c]
      simp
    · have hil : i < a.length := by omega
      rw [L_diff_Raw_0_step]
      have w1 : IntKind.i64.wrap ((i : Int) + 1) = ((i + 1 : Nat) : Int) := wnat (by omega) (by omega)
      by_cases hkb : k = b.length
      · subst hkb
        have key := ih (i + 1) b.length m (o ++ [stp .c]) (by omega) (by omega) (by omega) (by omega) (by rw [List.length_append]; show o.length + 1 + n ≤ 4000; omega)
        simp only [dlt_self, dlt hil, beq_self_eq_true, show (true == false) = false from rfl, show (true == true) = true from rfl, show (false == true) = false from rfl, bct, bcf, w1, if_pos (b1 _)]
        rw [show ([(2, (1, ([], [])))] : Delta.Steps) = [stp .c] from rfl, key, List.drop_length, drop_elem a hil, pa_c0]
        simp
      · have hkl : k < b.length := by omega
        have hke : ((k : Int) == (b.length : Int)) = false := by rw [beq_eq_false_iff_ne]; omega
        have w2 : IntKind.i64.wrap ((k : Int) + 1) = ((k + 1 : Nat) : Int) := wnat (by omega) (by omega)
        have sl : 0 ≤ ((k + 1 : Nat) : Int) ∧ ((k + 1 : Nat) : Int) ≤ (b.length : Int) ∧ 0 ≤ (k : Int) ∧ (k : Int) ≤ ((k + 1 : Nat) : Int) := by omega
        have dt : List.drop k (List.take (k + 1) b) = [atE b k] := by
          rw [List.take_succ_eq_append_getElem hkl, List.drop_append]
          have : (List.take k b).length = k := by simp; omega
          rw [List.drop_of_length_le (by omega), this]
          simp [atE, at_, List.getD_eq_getElem?_getD, hkl]
        have qa : 0 ≤ (i : Int) ∧ (i : Int) < (a.length : Int) := by omega
        have qb : 0 ≤ (k : Int) ∧ (k : Int) < (b.length : Int) := by omega
        have qt : 0 ≤ (i : Int) ∧ (i : Int) < ((tbl a b).length : Int) := by omega
        have qt' : 0 ≤ ((i + 1 : Nat) : Int) ∧ ((i + 1 : Nat) : Int) < ((tbl a b).length : Int) := by omega
        have er : at_ (e := .list (.int .i64)) (tbl a b) (i : Int) = row a b i := tbl_get a b i (by omega)
        have er' : at_ (e := .list (.int .i64)) (tbl a b) ((i + 1 : Nat) : Int) = row a b (i + 1) := tbl_get a b (i + 1) (by omega)
        have rl := row_len a b i
        have rl' := row_len a b (i + 1)
        have qr : 0 ≤ (k : Int) ∧ (k : Int) < ((row a b i).length : Int) := by omega
        have qr1 : 0 ≤ (k : Int) ∧ (k : Int) < ((row a b (i + 1)).length : Int) := by omega
        have qr2 : 0 ≤ ((k + 1 : Nat) : Int) ∧ ((k + 1 : Nat) : Int) < ((row a b (i + 1)).length : Int) := by omega
        have v1 := row_get a b i k (by omega)
        have v2 := row_get a b (i + 1) k (by omega)
        have v3 := row_get a b (i + 1) (k + 1) (by omega)
        have l2 := cell_le a b (i + 1) k
        have l3 := cell_le a b (i + 1) (k + 1)
        have ps : (pcE (atE a i) (atE b k) : Nat) ≤ 1 := by unfold pcE; split <;> omega
        have wp : IntKind.i64.wrap (cell a b (i + 1) (k + 1) + (pcE (atE a i) (atE b k) : Nat)) = cell a b (i + 1) (k + 1) + (pcE (atE a i) (atE b k) : Nat) := w64 (by omega) (by omega)
        have w1c : IntKind.i64.wrap (1 + cell a b (i + 1) k) = 1 + cell a b (i + 1) k := w64 (by omega) (by omega)
        have sx := sa' (atE a i) (atE_mem a hil)
        have sy := sb' (atE b k) (atE_mem b hkl)
        have ex : at_ (e := YElem) a (i : Int) = atE a i := rfl
        have ey : at_ (e := YElem) b (k : Int) = atE b k := rfl
        have ex2 : (atE a i).2.2 = ea (atE a i) := rfl
        have ey2 : (atE b k).2.2 = ea (atE b k) := rfl
        have k1 := ih (i + 1) (k + 1) m (o ++ [stp (.k (chg (ea (atE a i)) (ea (atE b k))))]) (by omega) (by omega) (by omega) (by omega) (by rw [List.length_append]; show o.length + 1 + n ≤ 4000; omega)
        have k2 := ih (i + 1) k m (o ++ [stp .c]) (by omega) (by omega) (by omega) (by omega) (by rw [List.length_append]; show o.length + 1 + n ≤ 4000; omega)
        have k3 := ih i (k + 1) m (o ++ [stp (.a (atE b k))]) (by omega) (by omega) (by omega) (by omega) (by rw [List.length_append]; show o.length + 1 + n ≤ 4000; omega)
        have pc : pa (a.drop i) (b.drop k) = if alE (atE a i) (atE b k) = true ∧ cell a b i k = cell a b (i + 1) (k + 1) + pcE (atE a i) (atE b k) then .k (chg (ea (atE a i)) (ea (atE b k))) :: pa (a.drop (i + 1)) (b.drop (k + 1))
            else if cell a b i k = 1 + cell a b (i + 1) k then .c :: pa (a.drop (i + 1)) (b.drop k) else .a (atE b k) :: pa (a.drop i) (b.drop (k + 1)) := by
          unfold cell
          rw [drop_elem a hil, drop_elem b hkl, pa_cc]
          generalize ds (atE a i :: a.drop (i + 1)) (atE b k :: b.drop (k + 1)) = p
          generalize ds (a.drop (i + 1)) (b.drop (k + 1)) = q
          generalize ds (a.drop (i + 1)) (atE b k :: b.drop (k + 1)) = r
          generalize pcE (atE a i) (atE b k) = s
          have e1 : ((p : Int) = (q : Int) + (s : Int)) ↔ p = q + s := by omega
          have e2 : ((p : Int) = 1 + (r : Int)) ↔ p = 1 + r := by omega
          simp only [e1, e2]
        have tail : bcond (cell a b i k == 1 + cell a b (i + 1) k) (L_diff_Raw_0 big m a b last (tbl a b) (o ++ [(2, (1, ([], [])))]) ((i + 1 : Nat) : Int) (k : Int))
            (L_diff_Raw_0 big m a b last (tbl a b) (o ++ [(1, (0, ([], [atE b k])))]) (i : Int) ((k + 1 : Nat) : Int)) =
            (C_delta_Tidy F_delta_Tidy (o ++ (if cell a b i k = 1 + cell a b (i + 1) k then U.c :: pa (a.drop (i + 1)) (b.drop k) else U.a (atE b k) :: pa (a.drop i) (b.drop (k + 1))).map stp ++ last)).bind fun r1 => some (ret_diff_Raw (res_delta_Tidy_0 r1)) := by
          by_cases h : cell a b i k = 1 + cell a b (i + 1) k
          · rw [if_pos h, h, beq_self_eq_true, bct, show ([(2, (1, ([], [])))] : Delta.Steps) = [stp .c] from rfl, k2]
            simp
          · rw [if_neg h, beq_eq_false_iff_ne.2 h, bcf, show ([(1, (0, ([], [atE b k])))] : Delta.Steps) = [stp (.a (atE b k))] from rfl, k3]
            simp
        simp only [dlt hil, dlt hkl, hke, show (true == false) = false from rfl, show (true == true) = true from rfl, show (false == false) = true from rfl, bct, bcf, if_pos qa, if_pos qb, ex, ey, alike_eq, Option.bind_some, res_diff_alike_0_ret, if_pos qt, if_pos qt', w1, w2, er, er', if_pos qr, if_pos qr1, if_pos qr2, price_eq _ _ sx, res_diff_price_0_ret, atI, v1, v2, v3, wp, w1c, ex2, ey2, chg_eq _ _ sx sy, res_attr_Change_0_ret, if_pos (b1 _), if_pos sl, Int.toNat_natCast, dt]
        rw [pc]
        by_cases al : alE (atE a i) (atE b k) = true
        · rw [al]
          simp only [show (true == true) = true from rfl, bct, true_and]
          by_cases h : cell a b i k = cell a b (i + 1) (k + 1) + pcE (atE a i) (atE b k)
          · rw [if_pos h, h, beq_self_eq_true, bct, show ([(0, (1, (chg (ea (atE a i)) (ea (atE b k)), [])))] : Delta.Steps) = [stp (.k (chg (ea (atE a i)) (ea (atE b k))))] from rfl, k1]
            simp
          · rw [if_neg h, beq_eq_false_iff_ne.2 h, bcf]
            exact tail
        · rw [if_neg (fun z => al z.1)]
          simp only [eq_false_of_ne_true al, show (false == true) = false from rfl, bcf]
          exact tail
end
section
variable (a b : Flow) (ha : a.length ≤ 2000) (hb : b.length ≤ 2000) (va : Vf a) (vb : Vf b) (hab : ∀ x ∈ a, ∀ y ∈ b, (ea x).length + (ea y).length ≤ 1048576)
include ha hb va vb hab
theorem diff_raw_eq : C_diff_Raw F_diff_Raw a b = some (ret_diff_Raw (out (runP (fu a b) w0))) := by
  have sa : ∀ x ∈ a, (ea x).length ≤ 1048576 := fun x hx => (fs_mem va.s hx).1
  have sb : ∀ x ∈ b, (ea x).length ≤ 1048576 := fun x hx => (fs_mem vb.s hx).1
  have td := tidy_units (fu a b) (by have := fu_len a b; omega) (fu_ok va vb) (fu_sh va vb hab)
  have free : tied a b = false → ((C_diff_table F_diff_table a b).bind fun r1 => L_diff_Raw_0 big big a b [] (res_diff_table_0 r1) [] 0 0) = some (ret_diff_Raw (out (runP (fu a b) w0))) := fun ht => by
    have e : fu a b = pa a b := by unfold fu; rw [ht]; rfl
    rw [table_eq a b ha hb sa]
    simp only [Option.bind_some, res_diff_table_0_ret]
    have := raw_loop a b ha hb sa sb [] (by decide) (a.length + b.length) 0 0 big [] (by omega) (by have := big_ge (n := 5000) (by omega); omega) (by omega) (by omega) (by simp; omega)
    rw [show ((0 : Nat) : Int) = 0 from rfl, List.nil_append, List.append_nil, List.drop_zero, List.drop_zero, ← e, td] at this
    rw [this]; rfl
  have wa : ∀ h : 0 < a.length, IntKind.i64.wrap ((a.length : Int) - 1) = ((a.length - 1 : Nat) : Int) := fun h => wnat (by omega) (by omega)
  have wb : ∀ h : 0 < b.length, IntKind.i64.wrap ((b.length : Int) - 1) = ((b.length - 1 : Nat) : Int) := fun h => wnat (by omega) (by omega)
  rw [e_diff_Raw]
  by_cases a0 : 0 < a.length
  · by_cases b0 : 0 < b.length
    · have c1 : decide ((a.length : Int) > 0) = true := decide_eq_true (by omega)
      have c2 : decide ((b.length : Int) > 0) = true := decide_eq_true (by omega)
      have qa : 0 ≤ ((a.length - 1 : Nat) : Int) ∧ ((a.length - 1 : Nat) : Int) < (a.length : Int) := by omega
      have qb : 0 ≤ ((b.length - 1 : Nat) : Int) ∧ ((b.length - 1 : Nat) : Int) < (b.length : Int) := by omega
      have ex : at_ (e := YElem) a ((a.length - 1 : Nat) : Int) = lst a := rfl
      have ey : at_ (e := YElem) b ((b.length - 1 : Nat) : Int) = lst b := rfl
      have ex1 : (lst a).1 = ec (lst a) := rfl
      have ey1 : (lst b).1 = ec (lst b) := rfl
      simp only [c1, c2, show (true == true) = true from rfl, bct, wa a0, wb b0, if_pos qa, if_pos qb, ex, ey, ex1, ey1]
      have tt : tied a b = ((ec (lst a) == 10) && (ec (lst b) == 10)) := by
        unfold tied
        rw [decide_eq_true a0, decide_eq_true b0]; rfl
      cases h1 : (ec (lst a) == 10) with
      | false =>
        simp only [show (false == true) = false from rfl, bcf]
        exact free (by rw [tt, h1]; rfl)
      | true =>
        cases h2 : (ec (lst b) == 10) with
        | false =>
          simp only [show (true == true) = true from rfl, bct, bcf]
          exact free (by rw [tt, h1, h2]; rfl)
        | true =>
          have ht : tied a b = true := by rw [tt, h1, h2]; rfl
          have e : fu a b = pa (ini a) (ini b) ++ [.k (chg (ea (lst a)) (ea (lst b)))] := by unfold fu; rw [if_pos ht]
          have sl : 0 ≤ ((a.length - 1 : Nat) : Int) ∧ ((a.length - 1 : Nat) : Int) ≤ (a.length : Int) ∧ 0 ≤ (0 : Int) ∧ (0 : Int) ≤ ((a.length - 1 : Nat) : Int) := by omega
          have sl2 : 0 ≤ ((b.length - 1 : Nat) : Int) ∧ ((b.length - 1 : Nat) : Int) ≤ (b.length : Int) ∧ 0 ≤ (0 : Int) ∧ (0 : Int) ≤ ((b.length - 1 : Nat) : Int) := by omega
          have i1 : List.drop (Int.toNat 0) (List.take (a.length - 1) a) = ini a := rfl
          have i2 : List.drop (Int.toNat 0) (List.take (b.length - 1) b) = ini b := rfl
          have l1 := ini_len a
          have l2 := ini_len b
          have ea1 : (lst a).2.2 = ea (lst a) := rfl
          have eb1 : (lst b).2.2 = ea (lst b) := rfl
          simp only [show (true == true) = true from rfl, bct, J_diff_Raw_0, wa a0, wb b0, if_pos sl, if_pos sl2, Int.toNat_natCast, i1, i2, ea1, eb1, chg_eq _ _ (sa _ (lst_mem a0)) (sb _ (lst_mem b0)), Option.bind_some, res_attr_Change_0_ret,
            table_eq (ini a) (ini b) (by omega) (by omega) (fun x hx => sa x (ini_mem hx)), res_diff_table_0_ret]
          have := raw_loop (ini a) (ini b) (by omega) (by omega) (fun x hx => sa x (ini_mem hx)) (fun x hx => sb x (ini_mem hx)) [stp (.k (chg (ea (lst a)) (ea (lst b))))] (Nat.le_refl 1) ((ini a).length + (ini b).length) 0 0 big [] (by omega) (by have := big_ge (n := 5000) (by omega); omega) (by omega) (by omega) (by simp; omega)
          have e3 : (pa (ini a) (ini b)).map stp ++ [stp (.k (chg (ea (lst a)) (ea (lst b))))] = (fu a b).map stp := by rw [e]; simp
          rw [show ((0 : Nat) : Int) = 0 from rfl, List.nil_append, List.drop_zero, List.drop_zero, e3, td] at this
          exact this
    · have c1 : decide ((a.length : Int) > 0) = true := decide_eq_true (by omega)
      have c2 : decide ((b.length : Int) > 0) = false := decide_eq_false (by omega)
      simp only [c1, c2, show (true == true) = true from rfl, show (false == true) = false from rfl, bct, bcf]
      exact free (by unfold tied; rw [decide_eq_false b0]; simp)
  · have c1 : decide ((a.length : Int) > 0) = false := decide_eq_false (by omega)
    simp only [c1, show (false == true) = false from rfl, bcf]
    exact free (by unfold tied; rw [decide_eq_false a0]; simp)
end
end Go.Ev.Diff
namespace Go.Ev.Diff
open Go.Ev Go.Ev.Attr Go.Ev.Track Go.Ev.Delta
set_option linter.unusedVariables false
set_option linter.unusedSimpArgs false
section
variable (a b : Flow)
def pcell (i k : Nat) : Int := (ds (a.take i).reverse (b.take k).reverse : Nat)
def prow (i : Nat) : List Int := (List.range (b.length + 1)).map (pcell a b i)
theorem prow_len (i : Nat) : (prow a b i).length = b.length + 1 := by simp [prow]
theorem prow_get (i k : Nat) (h : k ≤ b.length) : (prow a b i).getD k 0 = pcell a b i k := by
  simp [prow, List.getD_eq_getElem?_getD, show k < b.length + 1 by omega]
theorem prow_ext (i : Nat) (x : List Int) (hl : x.length = b.length + 1) (h : ∀ k, k ≤ b.length → x.getD k 0 = pcell a b i k) : x = prow a b i := by
  apply List.ext_getElem (by rw [hl, prow_len])
  intro k h1 h2
  have q1 := h k (by omega)
  have q2 := prow_get a b i k (by omega)
  simp only [List.getD_eq_getElem?_getD, List.getElem?_eq_getElem h1, List.getElem?_eq_getElem h2, Option.getD_some] at q1 q2
  rw [q1, q2]
theorem pcell_0 (k : Nat) (h : k ≤ b.length) : pcell a b 0 k = k := by
  unfold pcell
  rw [List.take_zero, List.reverse_nil, ds_nil, List.length_reverse, List.length_take]; omega
theorem pcell_r (i : Nat) (h : i ≤ a.length) : pcell a b i 0 = i := by
  unfold pcell
  rw [List.take_zero, List.reverse_nil, ds_r0, List.length_reverse, List.length_take]; omega
theorem pcell_le (i k : Nat) : 0 ≤ pcell a b i k ∧ pcell a b i k ≤ a.length + b.length := by
  unfold pcell
  have := ds_len (a.take i).reverse (b.take k).reverse
  rw [List.length_reverse, List.length_reverse, List.length_take, List.length_take] at this
  omega
theorem take_rev {f : Flow} {i : Nat} (h : i < f.length) : (f.take (i + 1)).reverse = atE f i :: (f.take i).reverse := by
  rw [List.take_succ_eq_append_getElem h, List.reverse_append]
  simp [atE, at_, List.getD_eq_getElem?_getD, h]
theorem pcell_cc (i k : Nat) (hi : i < a.length) (hk : k < b.length) : pcell a b (i + 1) (k + 1) = if alE (atE a i) (atE b k) = true then
      (if pcell a b i k + pcE (atE a i) (atE b k) < 1 + (if pcell a b (i + 1) k < pcell a b i (k + 1) then pcell a b (i + 1) k else pcell a b i (k + 1)) then pcell a b i k + pcE (atE a i) (atE b k)
        else 1 + (if pcell a b (i + 1) k < pcell a b i (k + 1) then pcell a b (i + 1) k else pcell a b i (k + 1)))
    else 1 + (if pcell a b (i + 1) k < pcell a b i (k + 1) then pcell a b (i + 1) k else pcell a b i (k + 1)) := by
  unfold pcell
  rw [take_rev hi, take_rev hk, ds_cc]
  generalize ds (a.take i).reverse (atE b k :: (b.take k).reverse) = p
  generalize ds (atE a i :: (a.take i).reverse) (b.take k).reverse = q
  generalize ds (a.take i).reverse (b.take k).reverse = r
  generalize pcE (atE a i) (atE b k) = s
  split
  · split <;> split <;> omega
  · split <;> omega
theorem pcell_all : pcell a b a.length b.length = (ds a b : Nat) := by
  unfold pcell
  rw [List.take_length, List.take_length, ds_rev]
theorem getD_snoc_lt {x : List Int} {j : Nat} (h : j < x.length) (v : Int) : (x ++ [v]).getD j 0 = x.getD j 0 := by
  simp [List.getD_eq_getElem?_getD, List.getElem?_append_left h]
theorem getD_snoc_eq {x : List Int} (v : Int) : (x ++ [v]).getD x.length 0 = v := by
  simp [List.getD_eq_getElem?_getD]
variable (ha : a.length ≤ 1000000) (hb : b.length ≤ 1000000) (sa' : ∀ x ∈ a, (ea x).length ≤ 1048576) (F : sig_R_DiffCost.Fn)
include ha hb sa'
theorem rc_inner (i : Nat) (hi : i < a.length) (m1 : Nat) : ∀ (d k m : Nat) (nx : List Int), k + d = b.length → d < m → nx.length = k + 1 → (∀ j, j ≤ k → nx.getD j 0 = pcell a b (i + 1) j) →
    L_R_DiffCost_2 F big m1 m a b (prow a b i) (i : Int) nx (a.length : Int) (i : Int) (b.length : Int) (k : Int) = L_R_DiffCost_1 F big m1 a b (prow a b (i + 1)) (a.length : Int) ((i + 1 : Nat) : Int) := by
  intro d
  induction d with
  | zero =>
    intro k m nx hk hm hl h
    cases m with
    | zero => omega
    | succ m =>
    obtain rfl : k = b.length := by omega
    have w1 : IntKind.i64.wrap ((i : Int) + 1) = ((i + 1 : Nat) : Int) := wnat (by omega) (by omega)
    rw [L_R_DiffCost_2_step]
    simp only [dlt_self, bcf, w1, prow_ext a b (i + 1) nx hl h]
  | succ d ih =>
    intro k m nx hk hm hl h
    cases m with
    | zero => omega
    | succ m =>
    have hkl : k < b.length := by omega
    have w2 : IntKind.i64.wrap ((k : Int) + 1) = ((k + 1 : Nat) : Int) := wnat (by omega) (by omega)
    have pl := prow_len a b i
    have q1 : 0 ≤ ((k + 1 : Nat) : Int) ∧ ((k + 1 : Nat) : Int) < ((prow a b i).length : Int) := by omega
    have q0 : 0 ≤ (k : Int) ∧ (k : Int) < ((prow a b i).length : Int) := by omega
    have qn : 0 ≤ (k : Int) ∧ (k : Int) < (nx.length : Int) := by omega
    have qa : 0 ≤ (i : Int) ∧ (i : Int) < (a.length : Int) := by omega
    have qb : 0 ≤ (k : Int) ∧ (k : Int) < (b.length : Int) := by omega
    have ex : at_ (e := YElem) a (i : Int) = atE a i := rfl
    have ey : at_ (e := YElem) b (k : Int) = atE b k := rfl
    have e1 : (atE a i).1 = ec (atE a i) := rfl
    have e2 : (atE b k).1 = ec (atE b k) := rfl
    have e3 : (atE a i).2.1 = er (atE a i) := rfl
    have e4 : (atE b k).2.1 = er (atE b k) := rfl
    have e5 : (atE a i).2.2 = ea (atE a i) := rfl
    have e6 : (atE b k).2.2 = ea (atE b k) := rfl
    have v1 := prow_get a b i k (by omega)
    have v2 := prow_get a b i (k + 1) (by omega)
    have v3 := h k (by omega)
    have l1 := pcell_le a b i k
    have l2 := pcell_le a b i (k + 1)
    have l3 := pcell_le a b (i + 1) k
    have sx := sa' (atE a i) (atE_mem a hi)
    have cc := pcell_cc a b i k hi hkl
    have wm : IntKind.i64.wrap (1 + (if pcell a b (i + 1) k < pcell a b i (k + 1) then pcell a b (i + 1) k else pcell a b i (k + 1))) = 1 + (if pcell a b (i + 1) k < pcell a b i (k + 1) then pcell a b (i + 1) k else pcell a b i (k + 1)) := by
      apply w64
      · split <;> omega
      · split <;> omega
    have wp : IntKind.i64.wrap (pcell a b i k + 1) = pcell a b i k + 1 := w64 (by omega) (by omega)
    have b1 : ∀ v : Int, (List.length (nx : List Int) + List.length ([v] : List Int)) * 8 ≤ 140737488355328 := fun v => by
      have : [v].length = 1 := rfl
      omega
    have key : ∀ v, v = pcell a b (i + 1) (k + 1) → L_R_DiffCost_2 F big m1 m a b (prow a b i) (i : Int) (nx ++ [v]) (a.length : Int) (i : Int) (b.length : Int) ((k + 1 : Nat) : Int) = L_R_DiffCost_1 F big m1 a b (prow a b (i + 1)) (a.length : Int) ((i + 1 : Nat) : Int) := fun v hv => by
      refine ih (k + 1) m (nx ++ [v]) (by omega) (by omega) (by simp [hl]) fun j hj => ?_
      by_cases hjk : j = k + 1
      · rw [hjk, ← hl, getD_snoc_eq, hv, hl]
      · rw [getD_snoc_lt (by omega)]; exact h j (by omega)
    rw [L_R_DiffCost_2_step]
    simp only [dlt hkl, bct, w2, if_pos q1, if_pos qn, if_pos qa, if_pos qb, ex, ey, e1, e2, e3, e4, e5, e6, if_pos q0, atI, v1, v2, v3, same35 _ _ sx, Option.bind_some, res_R_SameAttrs_0_ret, wm, wp, if_pos (b1 _)]
    have al : alE (atE a i) (atE b k) = ((ec (atE a i) == ec (atE b k)) && (er (atE a i) == er (atE b k))) := rfl
    cases h1 : (ec (atE a i) == ec (atE b k)) with
    | false =>
      simp only [show (false == true) = false from rfl, bcf]
      refine key _ ?_
      rw [cc, al, h1, Bool.false_and, if_neg (show ¬ (false : Bool) = true by decide)]
    | true =>
      simp only [show (true == true) = true from rfl, bct]
      cases h2 : (er (atE a i) == er (atE b k)) with
      | false =>
        simp only [bcf]
        refine key _ ?_
        rw [cc, al, h1, h2, Bool.and_false, if_neg (show ¬ (false : Bool) = true by decide)]
      | true =>
        rw [al, h1, h2, if_pos (show (true && true) = true from rfl)] at cc
        simp only [bct]
        cases h3 : eqA (ea (atE a i)) (ea (atE b k)) with
        | false =>
          have hp : (pcE (atE a i) (atE b k) : Nat) = 1 := by unfold pcE; rw [h3]; rfl
          rw [hp] at cc
          simp only [Bool.not_false, bct]
          exact key _ cc.symm
        | true =>
          have hp : (pcE (atE a i) (atE b k) : Nat) = 0 := by unfold pcE; rw [h3]; rfl
          rw [hp, Int.natCast_zero, Int.add_zero] at cc
          simp only [Bool.not_true, bcf]
          exact key _ cc.symm
theorem rc_loop : ∀ (d i m : Nat), i + d = a.length → d < m → L_R_DiffCost_1 F big m a b (prow a b i) (a.length : Int) (i : Int) = some (ret_R_DiffCost (ds a b : Nat)) := by
  intro d
  induction d with
  | zero =>
    intro i m hi hm
    cases m with
    | zero => omega
    | succ m =>
    obtain rfl : i = a.length := by omega
    have pl := prow_len a b a.length
    have q1 : 0 ≤ (b.length : Int) ∧ (b.length : Int) < ((prow a b a.length).length : Int) := by omega
    rw [L_R_DiffCost_1_step]
    simp only [dlt_self, bcf, if_pos q1, atI, prow_get a b a.length b.length (Nat.le_refl _)]
    rw [pcell_all a b]
  | succ d ih =>
    intro i m hi hm
    cases m with
    | zero => omega
    | succ m =>
    have hil : i < a.length := by omega
    have w1 : IntKind.i64.wrap ((i : Int) + 1) = ((i + 1 : Nat) : Int) := wnat (by omega) (by omega)
    rw [L_R_DiffCost_1_step]
    simp only [dlt hil, bct, w1]
    have := rc_inner a b ha hb sa' F i hil m b.length 0 big [((i + 1 : Nat) : Int)] (by omega) (big_ge (n := b.length + 1) (by omega)) rfl (fun j hj => by
      obtain rfl : j = 0 := by omega
      rw [pcell_r a b (i + 1) (by omega)]; rfl)
    rw [show ((0 : Nat) : Int) = 0 from rfl] at this
    rw [this]
    exact ih (i + 1) m (by omega) (by omega)
theorem rc_fill : ∀ (d k m : Nat) (x : List Int), k + d = b.length + 1 → d < m → x.length = b.length + 1 → (∀ j, j < k → x.getD j 0 = j) →
    L_R_DiffCost_0 F big m a b x ((b.length + 1 : Nat) : Int) (k : Int) = some (ret_R_DiffCost (ds a b : Nat)) := by
  intro d
  induction d with
  | zero =>
    intro k m x hk hm hl h
    cases m with
    | zero => omega
    | succ m =>
    obtain rfl : k = b.length + 1 := by omega
    rw [L_R_DiffCost_0_step]
    simp only [dlt_self, bcf, prow_ext a b 0 x hl (fun j hj => by rw [pcell_0 a b j hj, h j (by omega)])]
    exact rc_loop a b ha hb sa' F a.length 0 big (by omega) (big_ge (n := a.length + 1) (by omega))
  | succ d ih =>
    intro k m x hk hm hl h
    cases m with
    | zero => omega
    | succ m =>
    have hkl : k < b.length + 1 := by omega
    have w1 : IntKind.i64.wrap ((k : Int) + 1) = ((k + 1 : Nat) : Int) := wnat (by omega) (by omega)
    have q0 : 0 ≤ (k : Int) ∧ (k : Int) < (x.length : Int) := by omega
    rw [L_R_DiffCost_0_step]
    simp only [dlt hkl, bct, w1, if_pos q0, Int.toNat_natCast]
    refine ih (k + 1) m _ (by omega) (by omega) (by simp [hl]) fun j hj => ?_
    by_cases hjk : k = j
    · subst hjk; rw [getD_set_self (by omega)]
    · rw [getD_set_ne hjk]; exact h j (by omega)
theorem rcost0 (k : Nat) : C_R_DiffCost (F_R_DiffCostk (k + 1)) a b false = some (ret_R_DiffCost (ds a b : Nat)) := by
  have w1 : IntKind.i64.wrap ((b.length : Int) + 1) = ((b.length + 1 : Nat) : Int) := wnat (by omega) (by omega)
  have mk : 0 ≤ ((b.length + 1 : Nat) : Int) ∧ True ∧ ((b.length + 1 : Nat) : Int) * 8 ≤ 140737488355328 ∧ ((b.length + 1 : Nat) : Int) ≤ 140737488355328 := ⟨by omega, trivial, by omega, by omega⟩
  rw [e_R_DiffCost]
  simp only [bcf, w1, if_pos mk, Int.toNat_natCast, List.length_replicate]
  exact rc_fill a b ha hb sa' _ (b.length + 1) 0 big _ (by omega) (big_ge (n := b.length + 2) (by omega)) (by simp) (fun j hj => by omega)
end
/-- The cost that the document tells. -/
def dcost (a b : Flow) (t : Bool) : Nat := if t = true then pcE (lst a) (lst b) + ds (ini a) (ini b) else ds a b
theorem rcost_eq (a b : Flow) (ha : a.length ≤ 1000000) (hb : b.length ≤ 1000000) (sa' : ∀ x ∈ a, (ea x).length ≤ 1048576) (t : Bool) (ht : t = true → 0 < a.length ∧ 0 < b.length) :
    C_R_DiffCost F_R_DiffCost a b t = some (ret_R_DiffCost (dcost a b t : Nat)) := by
  obtain ⟨m, hm⟩ := big_succ (n := 1) (by omega)
  have e : C_R_DiffCost F_R_DiffCost a b t = C_R_DiffCost (F_R_DiffCostk (m + 1 + 1)) a b t := by
    show F_R_DiffCostk big _ _ = F_R_DiffCostk (m + 1 + 1) _ _
    rw [show m + 1 + 1 = big by omega]
  rw [e]
  cases t with
  | false => exact rcost0 a b ha hb sa' _
  | true =>
    obtain ⟨a0, b0⟩ := ht rfl
    have wa : IntKind.i64.wrap ((a.length : Int) - 1) = ((a.length - 1 : Nat) : Int) := wnat (by omega) (by omega)
    have wb : IntKind.i64.wrap ((b.length : Int) - 1) = ((b.length - 1 : Nat) : Int) := wnat (by omega) (by omega)
    have qa : 0 ≤ ((a.length - 1 : Nat) : Int) ∧ ((a.length - 1 : Nat) : Int) < (a.length : Int) := by omega
    have qb : 0 ≤ ((b.length - 1 : Nat) : Int) ∧ ((b.length - 1 : Nat) : Int) < (b.length : Int) := by omega
    have ex : (at_ (e := YElem) a ((a.length - 1 : Nat) : Int)).2.2 = ea (lst a) := rfl
    have ey : (at_ (e := YElem) b ((b.length - 1 : Nat) : Int)).2.2 = ea (lst b) := rfl
    have sl : 0 ≤ ((a.length - 1 : Nat) : Int) ∧ ((a.length - 1 : Nat) : Int) ≤ (a.length : Int) ∧ 0 ≤ (0 : Int) ∧ (0 : Int) ≤ ((a.length - 1 : Nat) : Int) := by omega
    have sl2 : 0 ≤ ((b.length - 1 : Nat) : Int) ∧ ((b.length - 1 : Nat) : Int) ≤ (b.length : Int) ∧ 0 ≤ (0 : Int) ∧ (0 : Int) ≤ ((b.length - 1 : Nat) : Int) := by omega
    have i1 : List.drop (Int.toNat 0) (List.take (a.length - 1) a) = ini a := rfl
    have i2 : List.drop (Int.toNat 0) (List.take (b.length - 1) b) = ini b := rfl
    have l1 := ini_len a
    have l2 := ini_len b
    have r := rcost0 (ini a) (ini b) (by omega) (by omega) (fun x hx => sa' x (ini_mem hx)) m
    have dl := ds_len (ini a) (ini b)
    have ws : ∀ p : Int, 0 ≤ p → p ≤ 1 → IntKind.i64.wrap (p + (ds (ini a) (ini b) : Nat)) = p + (ds (ini a) (ini b) : Nat) := fun p h1 h2 => w64 (by omega) (by omega)
    rw [e_R_DiffCost]
    simp only [bct, wa, wb, if_pos qa, if_pos qb, ex, ey, same35 _ _ (sa' _ (lst_mem a0)), Option.bind_some, res_R_SameAttrs_0_ret, if_pos sl, if_pos sl2, Int.toNat_natCast, i1, i2, r, res_R_DiffCost_0_ret, ws 1 (by decide) (by decide), ws 0 (by decide) (by decide)]
    unfold dcost pcE
    cases eqA (ea (lst a)) (ea (lst b)) with
    | false => simp only [Bool.not_false, bct]; rfl
    | true => simp only [Bool.not_true, bcf]; rfl
theorem tied_eq (a b : Flow) (ha : a.length ≤ 1048576) (hb : b.length ≤ 1048576) : C_R_Tied F_R_Tied a b = some (ret_R_Tied (tied a b)) := by
  have ex : (at_ (e := YElem) a ((a.length - 1 : Nat) : Int)).1 = ec (atE a (a.length - 1)) := rfl
  have ey : (at_ (e := YElem) b ((b.length - 1 : Nat) : Int)).1 = ec (atE b (b.length - 1)) := rfl
  rw [e_R_Tied]
  unfold tied
  by_cases a0 : 0 < a.length
  · have c1 : decide ((a.length : Int) > 0) = true := decide_eq_true (by omega)
    have wa : IntKind.i64.wrap ((a.length : Int) - 1) = ((a.length - 1 : Nat) : Int) := wnat (by omega) (by omega)
    have qa : 0 ≤ ((a.length - 1 : Nat) : Int) ∧ ((a.length - 1 : Nat) : Int) < (a.length : Int) := by omega
    by_cases b0 : 0 < b.length
    · have c2 : decide ((b.length : Int) > 0) = true := decide_eq_true (by omega)
      have wb : IntKind.i64.wrap ((b.length : Int) - 1) = ((b.length - 1 : Nat) : Int) := wnat (by omega) (by omega)
      have qb : 0 ≤ ((b.length - 1 : Nat) : Int) ∧ ((b.length - 1 : Nat) : Int) < (b.length : Int) := by omega
      simp only [c1, c2, show (true == true) = true from rfl, bct, wa, wb, if_pos qa, if_pos qb, ex, ey, decide_eq_true a0, decide_eq_true b0, Bool.true_and]
      cases (ec (atE a (a.length - 1)) == 10)
      · rfl
      · rfl
    · have c2 : decide ((b.length : Int) > 0) = false := decide_eq_false (by omega)
      simp only [c1, c2, show (true == true) = true from rfl, show (false == true) = false from rfl, bct, bcf, decide_eq_true a0, decide_eq_false b0]
      rfl
  · have c1 : decide ((a.length : Int) > 0) = false := decide_eq_false (by omega)
    simp only [c1, show (false == true) = false from rfl, bcf, decide_eq_false a0]
    rfl
theorem char_ref {x : YElem.den} (h : eErr x = 0) (hc : ec x = 10) : er x = 0 := by
  unfold eErr at h
  split at h
  · cases h
  · split at h
    · cases h
    · rename_i h1 h2
      revert h1 h2
      simp [hc]
      omega
end Go.Ev.Diff
