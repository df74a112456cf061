
/- Apply and Undo, unit by unit: the plain side. -/
import Derived.Test.YtlgjdgebmiegeaaPTidyC
namespace Go.Ev.Attr
open Go.Ev
set_option linter.unusedVariables false
set_option linter.unusedSimpArgs false
/-! ### Valid changes -/
def Nv (emp : Bool) (l : Attrs) : Prop := ∀ x ∈ l, nm (an x) = true ∧ (vl (av x) = true ∨ emp = true ∧ av x = [])
theorem nv_of {emp : Bool} {l : Attrs} (h : err emp l = 0) : Nv emp l := fun x hx => ⟨((err_srt emp l none h).2 x hx).1, ((err_srt emp l none h).2 x hx).2.1⟩
theorem srt_aerr (emp : Bool) : ∀ (l : Attrs) (p : Option Str), Srt l → Nv emp l → (∀ q, p = some q → ∀ x ∈ l, strLess q (an x) = true) → aErr emp p l = 0
  | [], p, _, _, _ => rfl
  | a :: l, p, h, hn, hp => by
    obtain ⟨n1, n2⟩ := hn a (by simp)
    have e : eOne emp p a = 0 := by
      unfold eOne
      rw [if_neg (by rw [n1]; decide), if_neg ?_]
      · cases p with
        | none => rfl
        | some q => simp [hp q rfl a (by simp)]
      · rintro ⟨q1, q2⟩
        rcases n2 with z | z
        · rw [q1] at z; cases z
        · exact q2 z
    simp only [aErr, e, ne_eq, not_true, if_false]
    refine srt_aerr emp l _ h.2 (fun x hx => hn x (by simp [hx])) (fun q hq x hx => ?_)
    injection hq with hq
    subst hq
    exact h.1 x hx
theorem srt_err {emp : Bool} {l : Attrs} (h : Srt l) (hn : Nv emp l) : err emp l = 0 := srt_aerr emp l none h hn (fun q h => by cases h)
theorem btw_ok {a b : Attrs} (ha : Full a) (hb : Full b) (na : Nv true a) (nb : Nv true b) : err true (btw a b) = 0 := by
  refine srt_err (puts_srt _ _ (puts_srt _ _ trivial)) fun x hx => ?_
  rw [show btw a b = puts (puts [] (dif a b)) (gone b a) from rfl, puts_mem _ _ (gone_srt b a ha.1), puts_mem _ _ (dif_srt a b hb.1)] at hx
  rcases hx with hx | ⟨hx | hx, _⟩
  · obtain ⟨y, h1, h2, rfl⟩ := (gone_mem b a x).1 hx
    exact ⟨(na y h1).1, .inr ⟨rfl, rfl⟩⟩
  · exact nb x ((dif_mem a b x).1 hx).1
  · simp at hx
theorem chd_nv {l c : Attrs} (hl : err false l = 0) (hc : err true c = 0) : Nv true (chd l c) := by
  intro x hx
  have h1 := nv_of hl
  have h2 := nv_of hc
  rw [show chd l c = keepv (puts (puts [] l) c) from rfl, keepv_mem, puts_mem _ _ (err_srt true c none hc).1, puts_mem _ _ (err_srt false l none hl).1] at hx
  rcases hx with ⟨hx | ⟨hx | hx, _⟩, _⟩
  · exact h2 x hx
  · refine ⟨(h1 x hx).1, .inl ?_⟩
    rcases (h1 x hx).2 with z | z
    · exact z
    · cases z.1
  · simp at hx
theorem back_ok {l c : Attrs} (hl : err false l = 0) (hc : err true c = 0) : err true (btw (chd l c) l) = 0 := by
  have hf := raw_full hl hc
  rw [raw_chd hl hc] at hf
  refine btw_ok hf (full_of hl) (chd_nv hl hc) fun x hx => ?_
  have := nv_of hl x hx
  refine ⟨this.1, .inl ?_⟩
  rcases this.2 with z | z
  · exact z
  · cases z.1
theorem back_chg {l c : Attrs} (hl : err false l = 0) (hc : err true c = 0) : chg (raw l c) l = btw (chd l c) l := by
  rw [chg_btw (raw_full hl hc) (full_of hl), raw_chd hl hc]
end Go.Ev.Attr
namespace Go.Ev.Delta
open Go.Ev Go.Ev.Attr Go.Ev.Track
set_option linter.unusedVariables false
set_option linter.unusedSimpArgs false
/-! ### What units give of a flow, and what takes them back -/
def apE (t : Attrs) (x : YElem.den) : YElem.den := mkE (ec x) (er x) (chd (ea x) t)
def bkE (t : Attrs) (x : YElem.den) : U := .k (btw (chd (ea x) t) (ea x))
def ap : List U → Flow → Flow
  | [], _ => []
  | .a x :: us, f => x :: ap us f
  | .c :: us, f => ap us (f.drop 1)
  | .k t :: us, f => (f.take 1).map (apE t) ++ ap us (f.drop 1)
def bk : List U → Flow → List U
  | [], _ => []
  | .a x :: us, f => .c :: bk us f
  | .c :: us, f => (f.take 1).map U.a ++ bk us (f.drop 1)
  | .k t :: us, f => (f.take 1).map (bkE t) ++ bk us (f.drop 1)
theorem ap_a : ∀ (x : Flow) (us : List U) (f : Flow), ap (x.map U.a ++ us) f = x ++ ap us f
  | [], us, f => rfl
  | y :: x, us, f => by
    show y :: ap (x.map U.a ++ us) f = _
    rw [ap_a x]; rfl
theorem ap_c (us : List U) : ∀ (n : Nat) (f : Flow), ap (List.replicate n U.c ++ us) f = ap us (f.drop n)
  | 0, f => rfl
  | n + 1, f => by
    show ap (List.replicate n U.c ++ us) (f.drop 1) = _
    rw [ap_c us n, List.drop_drop, Nat.add_comm]
theorem ap_k (t : Attrs) (us : List U) : ∀ (n : Nat) (f : Flow), ap (List.replicate n (U.k t) ++ us) f = (f.take n).map (apE t) ++ ap us (f.drop n)
  | 0, f => rfl
  | n + 1, [] => by
    show [] ++ ap (List.replicate n (U.k t) ++ us) [] = _
    rw [ap_k t us n]; simp
  | n + 1, x :: f => by
    show [apE t x] ++ ap (List.replicate n (U.k t) ++ us) f = _
    rw [ap_k t us n]; simp
theorem bk_a : ∀ (x : Flow) (us : List U) (f : Flow), bk (x.map U.a ++ us) f = List.replicate x.length U.c ++ bk us f
  | [], us, f => rfl
  | y :: x, us, f => by
    show U.c :: bk (x.map U.a ++ us) f = _
    rw [bk_a x]; rfl
theorem bk_c (us : List U) : ∀ (n : Nat) (f : Flow), bk (List.replicate n U.c ++ us) f = (f.take n).map U.a ++ bk us (f.drop n)
  | 0, f => rfl
  | n + 1, [] => by
    show [] ++ bk (List.replicate n U.c ++ us) [] = _
    rw [bk_c us n]; simp
  | n + 1, x :: f => by
    show [U.a x] ++ bk (List.replicate n U.c ++ us) f = _
    rw [bk_c us n]; simp
theorem bk_k (t : Attrs) (us : List U) : ∀ (n : Nat) (f : Flow), bk (List.replicate n (U.k t) ++ us) f = (f.take n).map (bkE t) ++ bk us (f.drop n)
  | 0, f => rfl
  | n + 1, [] => by
    show [] ++ bk (List.replicate n (U.k t) ++ us) [] = _
    rw [bk_k t us n]; simp
  | n + 1, x :: f => by
    show [bkE t x] ++ bk (List.replicate n (U.k t) ++ us) f = _
    rw [bk_k t us n]; simp
/-- What Undo writes. -/
def unE (c : Attrs) (x : YElem.den) : U := .k (chg (raw (ea x) c) (ea x))
def un : Steps → Flow → List U
  | [], _ => []
  | s :: d, f => if sk s = 0 then (f.take (sn s).toNat).map (unE (sa s)) ++ un d (f.drop (sn s).toNat) else if sk s = 1 then List.replicate (se s).length U.c ++ un d f
    else (f.take (sn s).toNat).map U.a ++ un d (f.drop (sn s).toNat)
theorem sErr_attr {s : YStep.den} (h : sErr s = 0) : Attr.err true (sa s) = 0 := by
  rcases sErr_zero h with ⟨_, _, h3, _, _⟩ | ⟨_, _, _, _, h5⟩
  · rw [h3]; rfl
  · exact h5
theorem un_bk : ∀ (d : Steps) (f : Flow), (∀ s ∈ d, sErr s = 0) → (∀ x ∈ f, Attr.err false (ea x) = 0) → un d f = bk (ex d) f ∧ rawD f d = ap (ex d) f
  | [], f, _, _ => ⟨rfl, rfl⟩
  | s :: d, f, h, hf => by
    have hz := h s (by simp)
    have ih1 := un_bk d f (fun t ht => h t (by simp [ht])) hf
    have ih2 := un_bk d (f.drop (sn s).toNat) (fun t ht => h t (by simp [ht])) (fun x hx => hf x (List.mem_of_mem_drop hx))
    have ha := sErr_attr hz
    show (if sk s = 0 then _ else _) = bk (exS s ++ ex d) f ∧ (if sk s = 0 then _ else _) = ap (exS s ++ ex d) f
    unfold exS
    rcases sErr_kind hz with k | k | k
    · rw [if_pos k, if_pos k, if_neg (by omega), k]
      show _ = bk (List.replicate (sn s).toNat (U.k (sa s)) ++ ex d) f ∧ _ = ap (List.replicate (sn s).toNat (U.k (sa s)) ++ ex d) f
      rw [bk_k, ap_k, ih2.1, ih2.2]
      constructor
      · congr 1
        refine List.map_congr_left fun x hx => ?_
        unfold unE bkE
        rw [back_chg (hf x (List.mem_of_mem_take hx)) ha]
      · congr 1
        refine List.map_congr_left fun x hx => ?_
        unfold chgE apE
        rw [raw_chd (hf x (List.mem_of_mem_take hx)) ha]
    · have k0 : ¬ sk s = 0 := by omega
      simp only [if_neg k0, if_pos k]
      rw [bk_a, ap_a, ih1.1, ih1.2]
      exact ⟨rfl, rfl⟩
    · have k0 : ¬ sk s = 0 := by omega
      have k1 : ¬ sk s = 1 := by omega
      simp only [if_neg k0, if_neg k1]
      rw [k]
      show _ = bk (List.replicate (sn s).toNat U.c ++ ex d) f ∧ _ = ap (List.replicate (sn s).toNat U.c ++ ex d) f
      rw [bk_c, ap_c, ih2.1, ih2.2]
      exact ⟨rfl, rfl⟩
theorem ex_il_step (s : YStep.den) (a : Act) (h : AOk a) : il (stA s a) = il a ++ exS s := by
  unfold exS
  split
  · rename_i k
    have : stA s a = aE (se s) a := by unfold stA; rw [if_pos k]; rfl
    rw [this, aE_il _ h]
  · rename_i k
    have : ∀ (n : Nat) (a : Act), AOk a → il (a.1 ++ List.replicate n [], a.2.1 ++ List.replicate n (sk s == 2), a.2.2 ++ List.replicate n (sa s)) = il a ++ List.replicate n (uni (sk s == 2) (sa s)) := by
      intro n
      induction n with
      | zero => intro a h; simp
      | succ n ih =>
        intro a h
        have := ih (aU (sk s == 2) (sa s) a) (aU_ok _ _ h)
        rw [aU_il _ _ h] at this
        simp only [aU, List.append_assoc, List.singleton_append] at this
        simp only [List.replicate_succ]
        exact this
    have e : stA s a = (a.1 ++ List.replicate (sn s).toNat [], a.2.1 ++ List.replicate (sn s).toNat (sk s == 2), a.2.2 ++ List.replicate (sn s).toNat (sa s)) := by unfold stA; rw [if_neg k]
    rw [e, this _ _ h]
theorem ex_il : ∀ (l : Steps) (a : Act), AOk a → AOk (actL l a) ∧ il (actL l a) = il a ++ ex l
  | [], a, h => ⟨h, by simp [actL, ex]⟩
  | s :: l, a, h => by
    obtain ⟨q1, q2⟩ := ex_il l (stA s a) (stA_ok s h)
    refine ⟨q1, ?_⟩
    show il (actL l (stA s a)) = il a ++ (exS s ++ ex l)
    rw [q2, ex_il_step s a h, List.append_assoc]
theorem act_ex (l : Steps) : AOk (actL l A0) ∧ il (actL l A0) = ex l := by
  obtain ⟨h1, h2⟩ := ex_il l A0 ⟨rfl, rfl⟩
  exact ⟨h1, h2.trans rfl⟩
end Go.Ev.Delta
