
import Derived.Test.YtpmeeopafdgbpaaDoorEvPure
namespace Go.Ev.Lex
set_option linter.unusedVariables false
variable {A : Type}
/-- The order of places. -/
def lt2 (a b : Int × Int) : Prop := a.1 < b.1 ∨ (a.1 = b.1 ∧ a.2 < b.2)
instance (a b : Int × Int) : Decidable (lt2 a b) := by unfold lt2; infer_instance
theorem lt2_irrefl (a : Int × Int) : ¬ lt2 a a := by unfold lt2; omega
theorem lt2_trans {a b c : Int × Int} (h1 : lt2 a b) (h2 : lt2 b c) : lt2 a c := by unfold lt2 at *; omega
theorem lt2_tri (a b : Int × Int) : lt2 a b ∨ a = b ∨ lt2 b a := by
  obtain ⟨a1, a2⟩ := a
  obtain ⟨b1, b2⟩ := b
  unfold lt2
  simp only [Prod.mk.injEq]
  omega
theorem lt2_asymm {a b : Int × Int} (h : lt2 a b) : ¬ lt2 b a := by unfold lt2 at *; omega
/-- In order. -/
def Srt (k : A → Int × Int) (l : List A) : Prop := l.Pairwise fun a b => lt2 (k a) (k b)
theorem srt_nodup {k : A → Int × Int} {l : List A} (h : Srt k l) : l.Nodup := List.Pairwise.imp (S := fun a b => a ≠ b) (fun {a b} h e => by subst e; exact lt2_irrefl _ h) h
theorem srt_ext {k : A → Int × Int} {l m : List A} (hl : Srt k l) (hm : Srt k m) (h : ∀ x, x ∈ l ↔ x ∈ m) : l = m :=
  List.Perm.eq_of_pairwise (le := fun a b => lt2 (k a) (k b)) (fun a b _ _ h1 h2 => absurd h2 (lt2_asymm h1)) hl hm ((List.perm_ext_iff_of_nodup (srt_nodup hl) (srt_nodup hm)).2 h)
/-- At most one at each place. -/
theorem srt_one {k : A → Int × Int} {l : List A} (h : Srt k l) {x y : A} (hx : x ∈ l) (hy : y ∈ l) (e : k x = k y) : x = y := by
  induction l with
  | nil => cases hx
  | cons z l ih =>
    have h := List.pairwise_cons.1 h
    rcases List.mem_cons.1 hx with hx | hx
    · rcases List.mem_cons.1 hy with hy | hy
      · rw [hx, hy]
      · have := h.1 y hy; rw [← hx, e] at this; exact absurd this (lt2_irrefl _)
    · rcases List.mem_cons.1 hy with hy | hy
      · have := h.1 x hx; rw [← hy, e] at this; exact absurd this (lt2_irrefl _)
      · exact ih h.2 hx hy
/-- Those ahead of a place; those behind it, or at it. -/
def bef (k : A → Int × Int) (c : Int × Int) (l : List A) : List A := l.takeWhile fun x => decide (lt2 (k x) c)
def aft (k : A → Int × Int) (c : Int × Int) (l : List A) : List A := l.dropWhile fun x => decide (lt2 (k x) c)
def skip (k : A → Int × Int) (c : Int × Int) : List A → List A
  | [] => []
  | x :: l => if k x = c then l else x :: l
/-- Put new ones in, those that are not empty. -/
def putL (k : A → Int × Int) (em : A → Bool) : List A → List A → List A
  | l, [] => l
  | l, c :: ns => bef k (k c) l ++ ((if em c = true then [] else [c]) ++ putL k em (skip k (k c) (aft k (k c) l)) ns)
theorem bef_aft (k : A → Int × Int) (c : Int × Int) (l : List A) : bef k c l ++ aft k c l = l := List.takeWhile_append_dropWhile
theorem bef_lt {k : A → Int × Int} {c : Int × Int} {l : List A} {x : A} (h : x ∈ bef k c l) : lt2 (k x) c := by
  have := List.all_takeWhile (p := fun x => decide (lt2 (k x) c)) (l := l)
  exact of_decide_eq_true (List.all_eq_true.1 this x h)
theorem aft_ge {k : A → Int × Int} {c : Int × Int} : ∀ {l : List A}, Srt k l → ∀ {x : A}, x ∈ aft k c l → ¬ lt2 (k x) c
  | [], _, x, h => by cases h
  | y :: l, hs, x, h => by
    have hs' := List.pairwise_cons.1 hs
    simp only [aft, List.dropWhile_cons] at h
    split at h
    · exact aft_ge hs'.2 h
    · rename_i hy
      have hy : ¬ lt2 (k y) c := by simpa using hy
      rcases List.mem_cons.1 h with rfl | h
      · exact hy
      · intro hx
        exact hy (lt2_trans (hs'.1 x h) hx)
theorem aft_srt {k : A → Int × Int} {c : Int × Int} {l : List A} (h : Srt k l) : Srt k (aft k c l) := List.Pairwise.sublist (List.dropWhile_sublist _) h
theorem skip_sub (k : A → Int × Int) (c : Int × Int) : ∀ l : List A, (skip k c l).Sublist l
  | [] => List.Sublist.refl _
  | x :: l => by
    simp only [skip]
    split
    · exact List.sublist_cons_self _ _
    · exact List.Sublist.refl _
theorem skip_mem {k : A → Int × Int} {c : Int × Int} {l : List A} (h : Srt k l) (hg : ∀ x ∈ l, ¬ lt2 (k x) c) (x : A) : x ∈ skip k c l ↔ x ∈ l ∧ k x ≠ c := by
  cases l with
  | nil => simp [skip]
  | cons y l =>
    have hs := List.pairwise_cons.1 h
    have gt : ∀ z ∈ l, k z ≠ c := fun z hz e => by
      have h1 := hs.1 z hz
      rw [e] at h1
      exact hg y List.mem_cons_self h1
    simp only [skip]
    split
    · rename_i e
      constructor
      · intro hx; exact ⟨List.mem_cons_of_mem _ hx, gt x hx⟩
      · rintro ⟨hx, hn⟩
        rcases List.mem_cons.1 hx with rfl | hx
        · exact absurd e hn
        · exact hx
    · rename_i e
      constructor
      · intro hx
        refine ⟨hx, ?_⟩
        rcases List.mem_cons.1 hx with rfl | hx
        · exact e
        · exact gt x hx
      · exact fun hx => hx.1
theorem mem_rest {k : A → Int × Int} {c : Int × Int} {l : List A} (h : Srt k l) (x : A) : x ∈ skip k c (aft k c l) ↔ x ∈ l ∧ lt2 c (k x) := by
  rw [skip_mem (aft_srt h) fun x hx => aft_ge h hx]
  constructor
  · rintro ⟨h1, h2⟩
    refine ⟨(List.dropWhile_sublist _).subset h1, ?_⟩
    rcases lt2_tri (k x) c with h3 | h3 | h3
    · exact absurd h3 (aft_ge h h1)
    · exact absurd h3 h2
    · exact h3
  · rintro ⟨h1, h2⟩
    refine ⟨?_, fun e => lt2_irrefl _ (e ▸ h2)⟩
    rw [← bef_aft k c l] at h1
    rcases List.mem_append.1 h1 with h1 | h1
    · exact absurd h2 (lt2_asymm (bef_lt h1))
    · exact h1
theorem mem_bef {k : A → Int × Int} {c : Int × Int} {l : List A} (h : Srt k l) (x : A) : x ∈ bef k c l ↔ x ∈ l ∧ lt2 (k x) c := by
  constructor
  · intro hx; exact ⟨(List.takeWhile_sublist _).subset hx, bef_lt hx⟩
  · rintro ⟨h1, h2⟩
    rw [← bef_aft k c l] at h1
    rcases List.mem_append.1 h1 with h1 | h1
    · exact h1
    · exact absurd h2 (aft_ge h h1)
theorem mem_put {k : A → Int × Int} {em : A → Bool} : ∀ {ns l : List A}, Srt k l → Srt k ns → ∀ x : A, x ∈ putL k em l ns ↔ (x ∈ ns ∧ em x = false) ∨ (x ∈ l ∧ ∀ y ∈ ns, k y ≠ k x)
  | [], l, hl, hn, x => by simp [putL]
  | c :: ns, l, hl, hn, x => by
    have hn' := List.pairwise_cons.1 hn
    have hr : Srt k (skip k (k c) (aft k (k c) l)) := List.Pairwise.sublist (skip_sub _ _ _) (aft_srt hl)
    unfold putL
    rw [List.mem_append, List.mem_append, mem_bef hl, mem_put hr hn'.2, mem_rest hl]
    have he : x ∈ (if em c = true then [] else [c]) ↔ x = c ∧ em c = false := by
      cases em c <;> simp
    rw [he]
    constructor
    · rintro (⟨h1, h2⟩ | ⟨rfl, h2⟩ | (⟨h1, h2⟩ | ⟨⟨h1, h2⟩, h3⟩))
      · refine .inr ⟨h1, fun y hy e => ?_⟩
        rcases List.mem_cons.1 hy with rfl | hy
        · exact lt2_irrefl _ (e ▸ h2)
        · have := lt2_trans (e ▸ h2 : lt2 (k y) (k c)) (hn'.1 y hy)
          exact lt2_irrefl _ this
      · exact .inl ⟨List.mem_cons_self, h2⟩
      · exact .inl ⟨List.mem_cons_of_mem _ h1, h2⟩
      · refine .inr ⟨h1, fun y hy e => ?_⟩
        rcases List.mem_cons.1 hy with rfl | hy
        · exact lt2_irrefl _ (e ▸ h2)
        · exact h3 y hy e
    · rintro (⟨h1, h2⟩ | ⟨h1, h2⟩)
      · rcases List.mem_cons.1 h1 with rfl | h1
        · exact .inr (.inl ⟨rfl, h2⟩)
        · exact .inr (.inr (.inl ⟨h1, h2⟩))
      · rcases lt2_tri (k x) (k c) with h3 | h3 | h3
        · exact .inl ⟨h1, h3⟩
        · exact absurd h3.symm (h2 c List.mem_cons_self)
        · exact .inr (.inr (.inr ⟨⟨h1, h3⟩, fun y hy => h2 y (List.mem_cons_of_mem _ hy)⟩))
theorem srt_put {k : A → Int × Int} {em : A → Bool} : ∀ {ns l : List A}, Srt k l → Srt k ns → Srt k (putL k em l ns)
  | [], l, hl, hn => hl
  | c :: ns, l, hl, hn => by
    have hn' := List.pairwise_cons.1 hn
    have hr : Srt k (skip k (k c) (aft k (k c) l)) := List.Pairwise.sublist (skip_sub _ _ _) (aft_srt hl)
    have hgt : ∀ x ∈ putL k em (skip k (k c) (aft k (k c) l)) ns, lt2 (k c) (k x) := fun x hx => by
      rw [mem_put hr hn'.2, mem_rest hl] at hx
      rcases hx with ⟨h1, _⟩ | ⟨⟨_, h1⟩, _⟩
      · exact hn'.1 x h1
      · exact h1
    unfold putL
    refine List.pairwise_append.2 ⟨List.Pairwise.sublist (List.takeWhile_sublist _) hl, ?_, fun x hx y hy => ?_⟩
    · refine List.pairwise_append.2 ⟨?_, srt_put hr hn'.2, fun x hx y hy => ?_⟩
      · split <;> simp
      · split at hx
        · cases hx
        · obtain rfl := List.mem_singleton.1 hx
          exact hgt y hy
    · have h1 := bef_lt hx
      rcases List.mem_append.1 hy with hy | hy
      · split at hy
        · cases hy
        · obtain rfl := List.mem_singleton.1 hy
          exact h1
      · exact lt2_trans h1 (hgt y hy)
theorem put_len {k : A → Int × Int} {em : A → Bool} : ∀ (ns l : List A), (putL k em l ns).length ≤ l.length + ns.length
  | [], l => by simp [putL]
  | c :: ns, l => by
    have h1 := put_len (k := k) (em := em) ns (skip k (k c) (aft k (k c) l))
    have h2 := (skip_sub k (k c) (aft k (k c) l)).length_le
    have h3 : (bef k (k c) l).length + (aft k (k c) l).length = l.length := by rw [← List.length_append, bef_aft]
    unfold putL
    simp only [List.length_append, List.length_cons]
    split <;> simp <;> omega
/-- Row by row, what each place holds. -/
def scan (R C : Nat) (f : Nat → Nat → List A) : List A := (List.range R).flatMap fun r => (List.range C).flatMap fun c => f r c
theorem mem_scan {R C : Nat} {f : Nat → Nat → List A} (x : A) : x ∈ scan R C f ↔ ∃ r c, r < R ∧ c < C ∧ x ∈ f r c := by
  unfold scan
  simp only [List.mem_flatMap, List.mem_range]
  constructor
  · rintro ⟨r, h1, c, h2, h3⟩; exact ⟨r, c, h1, h2, h3⟩
  · rintro ⟨r, c, h1, h2, h3⟩; exact ⟨r, h1, c, h2, h3⟩
theorem srt_scan {k : A → Int × Int} {R C : Nat} {f : Nat → Nat → List A} (hk : ∀ r c x, x ∈ f r c → k x = ((r : Int), (c : Int))) (h1 : ∀ r c, (f r c).length ≤ 1) : Srt k (scan R C f) := by
  unfold scan Srt
  rw [List.pairwise_flatMap]
  refine ⟨fun r hr => ?_, List.pairwise_lt_range.imp fun {a b} hab x hx y hy => ?_⟩
  · rw [List.pairwise_flatMap]
    refine ⟨fun c hc => ?_, List.pairwise_lt_range.imp fun {a b} hab x hx y hy => ?_⟩
    · have := h1 r c
      match f r c, this with
      | [], _ => exact List.Pairwise.nil
      | [x], _ => exact List.pairwise_singleton _ _
    · rw [hk _ _ _ hx, hk _ _ _ hy]
      exact .inr ⟨rfl, by simpa using hab⟩
  · obtain ⟨c, _, hx⟩ := List.mem_flatMap.1 hx
    obtain ⟨d, _, hy⟩ := List.mem_flatMap.1 hy
    rw [hk _ _ _ hx, hk _ _ _ hy]
    exact .inl (by simpa using hab)
end Go.Ev.Lex
