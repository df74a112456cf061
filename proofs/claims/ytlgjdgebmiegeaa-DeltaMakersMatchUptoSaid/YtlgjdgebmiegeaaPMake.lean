
import Derived.Test.YtlgjdgebmiegeaaPThrB
import Derived.Test.YtlgjdgebmiegeaaGMake
namespace Go.Ev.AxisP
open Go.Ev Go.Ev.Attr Go.Ev.Track Go.Ev.Delta
set_option linter.unusedVariables false
set_option linter.unusedSimpArgs false
def bnd (n from_ to : Int) : Prop := n < 0 ∨ 2147483647 < n ∨ from_ < 0 ∨ to < from_ ∨ n < to
instance (n from_ to : Int) : Decidable (bnd n from_ to) := by unfold bnd; infer_instance
theorem bounds_eq (n from_ to : Int) : C_delta_bounds F_delta_bounds n from_ to = some (ret_delta_bounds (if bnd n from_ to then 2 else 0)) := by
  rw [e_delta_bounds]
  unfold bnd
  by_cases h1 : n < 0
  · simp [bcond_if, h1]
  · by_cases h2 : 2147483647 < n
    · have h2' : n > 2147483647 := h2
      simp [bcond_if, h1, h2, h2']
    · have h2' : ¬ n > 2147483647 := h2
      by_cases h3 : from_ < 0
      · simp [bcond_if, h1, h2, h2', h3]
      · by_cases h4 : to < from_
        · simp [bcond_if, h1, h2, h2', h3, h4]
        · by_cases h5 : n < to
          · have h5' : to > n := h5
            simp [bcond_if, h1, h2, h2', h3, h4, h5, h5']
          · have h5' : ¬ to > n := h5
            simp [bcond_if, h1, h2, h2', h3, h4, h5, h5']
theorem keep_any {w : W} {k : Nat} (h : Ti w k) (hl : w.2.1.length ≤ 1048576) (hk : k ≤ 300000) (n : Nat) (h2 : (n : Int) ≤ 2147483647) (t : Attrs) (ht : Sh t) (he : Attr.err true t = 0) :
    C_delta_writer_keep F_delta_writer_keep n t w.1 w.2.1 w.2.2 = some (ret_delta_writer_keep (runP (List.replicate n (U.k t)) w).1 (runP (List.replicate n (U.k t)) w).2.1 (runP (List.replicate n (U.k t)) w).2.2) ∧
    Ti (runP (List.replicate n (U.k t)) w) (k + 1) ∧ (runP (List.replicate n (U.k t)) w).2.1.length ≤ w.2.1.length ∧ (runP (List.replicate n (U.k t)) w).2.2 ≤ w.2.2 := by
  by_cases h0 : n = 0
  · subst h0
    have hlo := h.lo
    have kq := keep_eq 0 t w.1 w.2.1 w.2.2 (by omega) (h.wy hl (by omega)).1 (by decide) ht.1
    rw [if_pos rfl] at kq
    exact ⟨kq, h.mono (by omega), Nat.le_refl _, Int.le_refl _⟩
  · obtain ⟨q1, q2, q3, q4⟩ := keep_w h hl hk n (by omega) h2 t ht he
    exact ⟨q1, q2, by omega, by have := h.c; omega⟩
def ruR (A B N : Nat) (e : Flow) : List U := List.replicate A (U.k []) ++ (e.map U.a ++ (List.replicate (B - A) U.c ++ List.replicate (N - B) (U.k [])))
def ruS (A B N : Nat) (t : Attrs) : List U := List.replicate A (U.k []) ++ (List.replicate (B - A) (U.k t) ++ List.replicate (N - B) (U.k []))
section
variable (A B N : Nat) (hAB : A ≤ B) (hBN : B ≤ N) (hN : (N : Int) ≤ 2147483647)
include hAB hBN hN
theorem bnd_no : ¬ bnd (N : Int) (A : Int) (B : Int) := by unfold bnd; omega
theorem replace_eq (e : Flow) (he : Fs e) (hp : pErr e = 0) : ∃ k, k ≤ 300000 ∧ Ti (runP (ruR A B N e) w0) k ∧ (runP (ruR A B N e) w0).2.1.length ≤ 1048576 ∧
    C_delta_Replace F_delta_Replace N A B e = some (ret_delta_Replace (if err (out (runP (ruR A B N e) w0)) = 0 then out (runP (ruR A B N e) w0) else []) (if err (out (runP (ruR A B N e) w0)) = 0 then 0 else 3)) := by
  have hel := he.1
  obtain ⟨a1, a2, a3, a4⟩ := keep_any ti0 (by decide) (by decide) A (by omega) [] sh_nil rfl
  have z0 : w0.2.1.length = 0 := rfl
  have z2 : w0.2.2 = 0 := rfl
  generalize hw1 : runP (List.replicate A (U.k [])) w0 = w1 at a1 a2 a3 a4
  obtain ⟨b1, b2, b3, b4⟩ := elems_w a2 e he hp (by omega)
  generalize hw2 : runP (e.map U.a) w1 = w2 at b1 b2 b3 b4
  have hc1 := a2.c
  have e22 : w2.2.2 = 0 := by omega
  obtain ⟨c1, c2, c3⟩ := cut_w b2 (by omega) (B - A) (by omega)
  rw [e22, Int.zero_add] at c2 c3
  obtain ⟨d1, d2, d3, d4⟩ := keep_any c3 (by show w2.2.1.length ≤ _; omega) (by omega) (N - B) (by omega) [] sh_nil rfl
  have hw : runP (ruR A B N e) w0 = runP (List.replicate (N - B) (U.k [])) (w2.1, w2.2.1, ((B - A : Nat) : Int)) := by
    unfold ruR
    rw [runP_append, runP_append, runP_append, hw1, hw2, c2]
  have hb2 : w2.2.1.length ≤ 1048576 := by omega
  have ha : (runP (ruR A B N e) w0).2.1.length ≤ 1048576 := by
    rw [hw]
    exact Nat.le_trans d3 hb2
  rw [← hw] at d1 d2
  refine ⟨_, by omega, d2, ha, ?_⟩
  have wy := d2.wy ha (by omega)
  have lo := d2.lo
  obtain ⟨z, q1, q2, q3⟩ := done_eq (runP (ruR A B N e) w0).1 (runP (ruR A B N e) w0).2.1 (runP (ruR A B N e) w0).2.2 (by omega) wy.2
  have wA : IntKind.i64.wrap ((N : Int) - B) = ((N - B : Nat) : Int) := wnat (by omega) (by omega)
  have wB : IntKind.i64.wrap ((B : Int) - A) = ((B - A : Nat) : Int) := wnat (by omega) (by omega)
  have a1 : C_delta_writer_keep F_delta_writer_keep A [] [] [] 0 = _ := a1
  have nb := bnd_no A B N hAB hBN hN
  rw [e_delta_Replace, bounds_eq, if_neg nb, (part_eq e he).1, hp, wA, wB]
  simp only [Option.bind_some, res_delta_bounds_0_ret, res_flow_CheckPart_0_ret, bne_self_eq_false, bcf, a1, res_delta_writer_keep_0_ret, res_delta_writer_keep_1_ret, res_delta_writer_keep_2_ret, b1, res_delta_writer_elems_0_ret, res_delta_writer_elems_1_ret, d1, q1, q2, q3]
  rfl
theorem restyle_eq (t : Attrs) (ht : Sh t) (he : Attr.err true t = 0) : ∃ k, k ≤ 300000 ∧ Ti (runP (ruS A B N t) w0) k ∧ (runP (ruS A B N t) w0).2.1.length ≤ 1048576 ∧
    C_delta_Restyle F_delta_Restyle N A B t = some (ret_delta_Restyle (if err (out (runP (ruS A B N t) w0)) = 0 then out (runP (ruS A B N t) w0) else []) (if err (out (runP (ruS A B N t) w0)) = 0 then 0 else 3)) := by
  obtain ⟨a1, a2, a3, a4⟩ := keep_any ti0 (by decide) (by decide) A (by omega) [] sh_nil rfl
  have z0 : w0.2.1.length = 0 := rfl
  generalize hw1 : runP (List.replicate A (U.k [])) w0 = w1 at a1 a2 a3 a4
  obtain ⟨b1, b2, b3, b4⟩ := keep_any a2 (by omega) (by omega) (B - A) (by omega) t ht he
  generalize hw2 : runP (List.replicate (B - A) (U.k t)) w1 = w2 at b1 b2 b3 b4
  obtain ⟨d1, d2, d3, d4⟩ := keep_any b2 (by omega) (by omega) (N - B) (by omega) [] sh_nil rfl
  have hw : runP (ruS A B N t) w0 = runP (List.replicate (N - B) (U.k [])) w2 := by
    unfold ruS
    rw [runP_append, runP_append, hw1, hw2]
  rw [← hw] at d1 d2 d3
  have ha : (runP (ruS A B N t) w0).2.1.length ≤ 1048576 := by omega
  refine ⟨_, by omega, d2, ha, ?_⟩
  have wy := d2.wy ha (by omega)
  have lo := d2.lo
  obtain ⟨z, q1, q2, q3⟩ := done_eq (runP (ruS A B N t) w0).1 (runP (ruS A B N t) w0).2.1 (runP (ruS A B N t) w0).2.2 (by omega) wy.2
  have wA : IntKind.i64.wrap ((N : Int) - B) = ((N - B : Nat) : Int) := wnat (by omega) (by omega)
  have wB : IntKind.i64.wrap ((B : Int) - A) = ((B - A : Nat) : Int) := wnat (by omega) (by omega)
  have a1 : C_delta_writer_keep F_delta_writer_keep A [] [] [] 0 = _ := a1
  have nb := bnd_no A B N hAB hBN hN
  rw [e_delta_Restyle, bounds_eq, if_neg nb, checkc_eq t ht, he, wA, wB]
  simp only [Option.bind_some, res_delta_bounds_0_ret, res_attr_CheckChange_0_ret, bne_self_eq_false, bcf, a1, res_delta_writer_keep_0_ret, res_delta_writer_keep_1_ret, res_delta_writer_keep_2_ret, b1, d1, q1, q2, q3]
  rfl
end
def gr {α : Type} (x y : α) (A k r : Nat) : List α := List.replicate A x ++ (List.replicate k y ++ List.replicate r x)
theorem gr_len {α : Type} (x y : α) (A k r : Nat) : (gr x y A k r).length = A + (k + r) := by simp [gr]
theorem gr_set {α : Type} (x y : α) (A k r : Nat) : (gr x y A k (r + 1)).set (A + k) y = gr x y A (k + 1) r := by
  unfold gr
  have e1 : List.replicate A x ++ (List.replicate k y ++ List.replicate (r + 1) x) = (List.replicate A x ++ List.replicate k y) ++ x :: List.replicate r x := by
    rw [List.replicate_succ, List.append_assoc]
  have e2 : A + k = (List.replicate A x ++ List.replicate k y).length := by simp
  rw [e1, e2]
  have : ∀ (P Q : List α) (a b : α), (P ++ a :: Q).set P.length b = P ++ b :: Q := fun P Q a b => by simp
  rw [this, List.replicate_succ', List.append_assoc, List.append_assoc]
  rfl
theorem gr_zero {α : Type} (x y : α) (A r : Nat) : gr x y A 0 r = List.replicate (A + r) x := by
  unfold gr; rw [List.replicate_zero, List.nil_append, List.replicate_append_replicate]
theorem il_pre (c : Bool) (t : Attrs) (X : List Flow) (C : List Bool) (T : List Attrs) : ∀ a, ilL (List.replicate a [] ++ X) (List.replicate a c ++ C) (List.replicate a t ++ T) = List.replicate a (uni c t) ++ ilL X C T
  | 0 => rfl
  | a + 1 => by
    rw [List.replicate_succ, List.replicate_succ, List.replicate_succ, List.replicate_succ]
    show uni c t :: ilL (List.replicate a [] ++ X) (List.replicate a c ++ C) (List.replicate a t ++ T) = _
    rw [il_pre c t X C T a]; rfl
theorem il_zip : ∀ (C : List Bool) (T : List Attrs) (e : Flow), T.length = C.length → ilL (e :: List.replicate C.length []) C T = e.map U.a ++ List.zipWith uni C T
  | [], [], e, _ => by show e.map U.a = e.map U.a ++ []; rw [List.append_nil]
  | c :: C, t :: T, e, h => by
    show e.map U.a ++ uni c t :: ilL (List.replicate (C.length + 1) []) C T = _
    rw [List.replicate_succ, il_zip C T [] (by simpa using h)]
    rfl
  | [], _ :: _, e, h => by simp at h
  | _ :: _, [], e, h => by simp at h
theorem zw (c : Bool) (t : Attrs) (n : Nat) : List.zipWith uni (List.replicate n c) (List.replicate n t) = List.replicate n (uni c t) := by
  induction n with
  | zero => rfl
  | succ n ih => rw [List.replicate_succ, List.replicate_succ, List.zipWith_cons_cons, ih, ← List.replicate_succ]
theorem zw_k (n : Nat) : ∀ (T : List Attrs), T.length = n → List.zipWith uni (List.replicate n false) T = T.map U.k := by
  induction n with
  | zero => intro T h; rw [List.eq_nil_of_length_eq_zero h]; rfl
  | succ n ih =>
    intro T h
    cases T with
    | nil => simp at h
    | cons t T =>
      rw [List.replicate_succ, List.zipWith_cons_cons, ih T (by simpa using h)]
      rfl
section
variable (A B N : Nat) (hAB : A ≤ B) (hBN : B ≤ N)
include hAB hBN
def actX (A B N : Nat) (e : Flow) : Delta.Act := ((List.replicate (N + 1) []).set A e, gr false true A (B - A) (N - B), List.replicate N [])
def actY (A B N : Nat) (t : Attrs) : Delta.Act := (List.replicate (N + 1) [], List.replicate N false, gr [] t A (B - A) (N - B))
theorem adds_x (e : Flow) : (List.replicate (N + 1) ([] : Flow)).set A e = List.replicate A [] ++ e :: List.replicate (N - A) [] := by
  have e1 : List.replicate (N + 1) ([] : Flow) = List.replicate A [] ++ [] :: List.replicate (N - A) [] := by
    rw [← List.replicate_succ, List.replicate_append_replicate]
    congr 1; omega
  rw [e1]
  have : ∀ (P Q : List Flow) (a b : Flow) (n : Nat), n = P.length → (P ++ a :: Q).set n b = P ++ b :: Q := fun P Q a b n hn => by rw [hn]; simp
  exact this _ _ _ _ _ (by simp)
theorem actX_ok (e : Flow) : AOk (actX A B N e) := ⟨by show ((List.replicate (N + 1) []).set A e).length = (gr false true A (B - A) (N - B)).length + 1; rw [gr_len]; simp; omega, by show (List.replicate N []).length = (gr false true A (B - A) (N - B)).length; rw [gr_len]; simp; omega⟩
theorem actY_ok (t : Attrs) : AOk (actY A B N t) := ⟨by show (List.replicate (N + 1) []).length = (List.replicate N false).length + 1; simp, by show (gr [] t A (B - A) (N - B)).length = (List.replicate N false).length; rw [gr_len]; simp; omega⟩
theorem actX_il (e : Flow) : il (actX A B N e) = ruR A B N e := by
  show ilL ((List.replicate (N + 1) []).set A e) (gr false true A (B - A) (N - B)) (List.replicate N []) = _
  have e3 : (List.replicate N ([] : Attrs)) = List.replicate A [] ++ (List.replicate (B - A) [] ++ List.replicate (N - B) []) := by
    rw [List.replicate_append_replicate, List.replicate_append_replicate]; congr 1; omega
  rw [adds_x A B N hAB hBN, e3]
  unfold gr ruR
  rw [il_pre]
  have hl : N - A = (List.replicate (B - A) true ++ List.replicate (N - B) false).length := by simp; omega
  rw [hl, il_zip _ _ _ (by simp)]
  rw [List.zipWith_append (by simp), zw, zw]
  rfl
theorem actY_il (t : Attrs) : il (actY A B N t) = ruS A B N t := by
  show ilL (List.replicate (N + 1) []) (List.replicate N false) (gr [] t A (B - A) (N - B)) = _
  have hg : (gr ([] : Attrs) t A (B - A) (N - B)).length = N := by rw [gr_len]; omega
  have h1 := il_zip (List.replicate N false) (gr [] t A (B - A) (N - B)) [] (by rw [hg]; simp)
  rw [List.length_replicate] at h1
  rw [List.replicate_succ, h1, zw_k N _ hg]
  unfold gr ruS
  simp
theorem ebl_set (e : Flow) : ebl ((List.replicate (N + 1) ([] : Flow)).set A e) = e.length := by
  rw [adds_x A B N hAB hBN, ebl_append, ebl_nils]
  show 0 + (e.length + ebl (List.replicate (N - A) [])) = _
  rw [ebl_nils]; omega
theorem dx_eq (hN : N ≤ 300) (e : Flow) (he : e.length ≤ 1048576) : C_R_DeltaOf F_R_DeltaOf (actX A B N e) = some (ret_R_DeltaOf (out (runP (ruR A B N e) w0))) := by
  have g := gr_len false true A (B - A) (N - B)
  have b := ebl_set A B N hAB hBN e
  have := delta_eq (actX A B N e) (actX_ok A B N hAB hBN e) (by show (gr false true A (B - A) (N - B)).length ≤ _; omega) (atr_small _ (fun t ht => by rw [List.eq_of_mem_replicate (show t ∈ List.replicate N [] from ht)]; exact Nat.zero_le _)) (by show ebl ((List.replicate (N + 1) []).set A e) ≤ _; omega)
  rw [this, runA_il]
  have e2 := actX_il A B N hAB hBN e
  unfold il at e2
  rw [e2]
theorem dy_eq (hN : N ≤ 300) (t : Attrs) (ht : t.length ≤ 1048576) : C_R_DeltaOf F_R_DeltaOf (actY A B N t) = some (ret_R_DeltaOf (out (runP (ruS A B N t) w0))) := by
  have := delta_eq (actY A B N t) (actY_ok A B N hAB hBN t) (by show (List.replicate N false).length ≤ _; simp; omega) (atr_small _ (fun u hu => by
    have hu : u ∈ gr [] t A (B - A) (N - B) := hu
    unfold gr at hu
    simp only [List.mem_append, List.mem_replicate] at hu
    rcases hu with ⟨_, q⟩ | ⟨_, q⟩ | ⟨_, q⟩ <;> rw [q]
    · exact Nat.zero_le _
    · exact ht
    · exact Nat.zero_le _)) (by show ebl (List.replicate (N + 1) []) ≤ _; rw [ebl_nils]; omega)
  rw [this, runA_il]
  have e2 := actY_il A B N hAB hBN t
  unfold il at e2
  rw [e2]
theorem make_loop (hN : N ≤ 300) (e : Flow) (he : Fs e) (t : Attrs) (ht : Sh t) (a b : Delta.Steps) (ea eb' : Int) (p q : Int)
    (ha : p = 0 → ea = 0 ∧ a = out (runP (ruR A B N e) w0) ∧ C_R_SameDelta F_R_SameDelta a a = some (ret_R_SameDelta true))
    (hb : q = 0 → eb' = 0 ∧ b = out (runP (ruS A B N t) w0) ∧ C_R_SameDelta F_R_SameDelta b b = some (ret_R_SameDelta true)) :
    ∀ (d i m : Nat), i + d = B → A ≤ i → d < m →
    L_law_DeltaMakersMatch_0 big m B t a ea b eb' p q ((List.replicate (N + 1) []).set A e) (gr false true A (i - A) (N - i)) (List.replicate N []) (List.replicate (N + 1) []) (List.replicate N false) (gr [] t A (i - A) (N - i)) (i : Int) = some (ret_law_DeltaMakersMatch true) := by
  intro d
  induction d with
  | zero =>
    intro i m hi hAi hm
    obtain ⟨m, rfl⟩ : ∃ k, m = k + 1 := ⟨m - 1, by omega⟩
    have : i = B := by omega
    subst this
    have dx := dx_eq A i N hAB hBN hN e he.1
    have dy := dy_eq A i N hAB hBN hN t ht.1
    have dx : C_R_DeltaOf F_R_DeltaOf ((List.replicate (N + 1) []).set A e, (gr false true A (i - A) (N - i), List.replicate N [])) = _ := dx
    have dy : C_R_DeltaOf F_R_DeltaOf (List.replicate (N + 1) [], (List.replicate N false, gr [] t A (i - A) (N - i))) = _ := dy
    rw [L_law_DeltaMakersMatch_0_step]
    have c0 : decide ((i : Int) < (i : Int)) = false := dlt_self i
    simp only [c0, bcf, dx, dy, Option.bind_some, res_R_DeltaOf_0_ret]
    by_cases hp : p = 0
    · obtain ⟨h1, h2, h3⟩ := ha hp
      rw [← h2, h3, hp, h1]
      by_cases hq : q = 0
      · obtain ⟨g1, g2, g3⟩ := hb hq
        rw [← g2, g3, hq, g1]
        simp only [bne_self_eq_false, beq_self_eq_true, bct, Option.bind_some, res_R_SameDelta_0_ret]
      · have bq : ((q != 0) == false) = false := by simpa using hq
        simp only [bne_self_eq_false, beq_self_eq_true, bct, bcf, bq, Option.bind_some, res_R_SameDelta_0_ret]
    · have bp : ((p != 0) == false) = false := by simpa using hp
      by_cases hq : q = 0
      · obtain ⟨g1, g2, g3⟩ := hb hq
        rw [← g2, g3, hq, g1]
        simp only [bp, bne_self_eq_false, beq_self_eq_true, bct, bcf, Option.bind_some, res_R_SameDelta_0_ret]
      · have bq : ((q != 0) == false) = false := by simpa using hq
        simp only [bp, bq, bct, bcf]
  | succ d ih =>
    intro i m hi hAi hm
    obtain ⟨m, rfl⟩ : ∃ k, m = k + 1 := ⟨m - 1, by omega⟩
    have w1 := wsucc (show i < B by omega) (show B ≤ 4611686018427387904 by omega)
    have g1 : i < (gr false true A (i - A) (N - i)).length := by rw [gr_len]; omega
    have g2 : i < (gr ([] : Attrs) t A (i - A) (N - i)).length := by rw [gr_len]; omega
    have := ih (i + 1) m (by omega) (by omega) (by omega)
    have s1 := gr_set false true A (i - A) (N - (i + 1))
    have s2 := gr_set ([] : Attrs) t A (i - A) (N - (i + 1))
    have x1 : N - (i + 1) + 1 = N - i := by omega
    have x2 : A + (i - A) = i := by omega
    have x3 : i - A + 1 = i + 1 - A := by omega
    rw [x1, x2, x3] at s1 s2
    rw [← this, L_law_DeltaMakersMatch_0_step]
    simp only [bcond_if, dlt (show i < B by omega), if_true, inb, g1, g2, Int.toNat_natCast, s1, s2, w1]
end
theorem k4_bad (n from_ to : Int) (e : Flow) (t : Attrs) (hb : bnd n from_ to) : K_law_DeltaMakersMatch_4 big n from_ to e t (res_delta_Replace_0 (ret_delta_Replace [] 2)) (res_delta_Replace_1 (ret_delta_Replace [] 2)) (res_delta_Restyle_0 (ret_delta_Restyle [] 2)) (res_delta_Restyle_1 (ret_delta_Restyle [] 2)) = some (ret_law_DeltaMakersMatch true) := by
  have y1 : res_delta_Replace_0 (ret_delta_Replace [] 2) = [] := rfl
  have y2 : res_delta_Replace_1 (ret_delta_Replace [] 2) = 2 := rfl
  have y3 : res_delta_Restyle_0 (ret_delta_Restyle [] 2) = [] := rfl
  have y4 : res_delta_Restyle_1 (ret_delta_Restyle [] 2) = 2 := rfl
  have y5 : IntKind.i64.wrap ((List.length ([] : Delta.Steps) : Int) + (List.length ([] : Delta.Steps) : Int)) = 0 := rfl
  have q1 : (true == false) = false := rfl
  have q2 : (false == false) = true := rfl
  rw [y1, y2, y3, y4, K_law_DeltaMakersMatch_4_step, Axis.in_eq]
  simp only [Option.bind_some, res_R_In_0_ret, y5]
  unfold bnd at hb
  by_cases h1 : 0 ≤ n ∧ n ≤ 2147483647
  · have c1 : (decide (0 ≤ n) && decide (n ≤ 2147483647)) = true := by rw [decide_eq_true h1.1, decide_eq_true h1.2]; rfl
    by_cases h2 : from_ < 0
    · have c2 : decide (from_ < 0) = true := decide_eq_true h2
      simp only [c1, c2, Bool.not_true, q1, q2, bct, bcf, beq_self_eq_true]
    · have c2 : decide (from_ < 0) = false := decide_eq_false h2
      by_cases h3 : to < from_
      · have c3 : decide (to < from_) = true := decide_eq_true h3
        simp only [c1, c2, c3, Bool.not_true, q1, q2, bct, bcf, beq_self_eq_true]
      · have c3 : decide (to < from_) = false := decide_eq_false h3
        have c4 : decide (to > n) = true := decide_eq_true (by omega)
        simp only [c1, c2, c3, c4, Bool.not_true, q1, q2, bct, bcf, beq_self_eq_true]
  · have c1 : (decide (0 ≤ n) && decide (n ≤ 2147483647)) = false := by
      by_cases q : 0 ≤ n
      · rw [decide_eq_false (p := n ≤ 2147483647) (by omega)]; simp
      · rw [decide_eq_false q]; rfl
    simp only [c1, Bool.not_false, q1, q2, bct, bcf, beq_self_eq_true]
theorem k2_eq (A B N : Nat) (hAB : A ≤ B) (hBN : B ≤ N) (hN : (N : Int) ≤ 2147483647) (e : Flow) (t : Attrs) (he : Fs e) (ht : Sh t) (z : sig_delta_Replace.Out) (w : sig_delta_Restyle.Out) (hz : C_delta_Replace F_delta_Replace N A B e = some z) (hw : C_delta_Restyle F_delta_Restyle N A B t = some w) :
    K_law_DeltaMakersMatch_2 big N A B e t (res_delta_Replace_0 z) (res_delta_Replace_1 z) (res_delta_Restyle_0 w) (res_delta_Restyle_1 w) (pErr e) (Attr.err true t) = some (ret_law_DeltaMakersMatch true) := by
  rw [K_law_DeltaMakersMatch_2_step]
  by_cases h300 : (N : Int) > 300
  · rw [decide_eq_true h300, bct]
  · rw [decide_eq_false h300, bcf]
    have hN3 : N ≤ 300 := by omega
    have wN : IntKind.i64.wrap ((N : Int) + 1) = ((N + 1 : Nat) : Int) := wnat (by omega) (by omega)
    have i1 : 0 ≤ ((N + 1 : Nat) : Int) ∧ ((N + 1 : Nat) : Int) = ((N + 1 : Nat) : Int) ∧ ((N + 1 : Nat) : Int) * 24 ≤ 140737488355328 ∧ ((N + 1 : Nat) : Int) ≤ 140737488355328 := by omega
    have i2 : 0 ≤ (N : Int) ∧ (N : Int) = N ∧ (N : Int) * 1 ≤ 140737488355328 ∧ (N : Int) ≤ 140737488355328 := by omega
    have i3 : 0 ≤ (N : Int) ∧ (N : Int) = N ∧ (N : Int) * 24 ≤ 140737488355328 ∧ (N : Int) ≤ 140737488355328 := by omega
    rw [K_law_DeltaMakersMatch_1_step, wN, if_pos i1, if_pos i2, if_pos i3, K_law_DeltaMakersMatch_0_step, wN, if_pos i1, if_pos i2, if_pos i3]
    simp only [Int.toNat_natCast]
    rw [if_pos (by simp only [List.length_replicate]; omega)]
    have fin : ∀ (us : List U) (k : Nat), k ≤ 300000 → Ti (runP us w0) k → (runP us w0).2.1.length ≤ 1048576 → (∀ u ∈ us, okU u) → cB us ≤ 2147483647 → cA us ≤ 2147483647 → err (out (runP us w0)) = 0 ∧ C_R_SameDelta F_R_SameDelta (out (runP us w0)) (out (runP us w0)) = some (ret_R_SameDelta true) := fun us k hk h1 h2 h3 h4 h5 => by
      have wy := h1.wy h2 (by omega)
      exact ⟨(valid_out us h3 h4 h5).1, sdelta_self _ wy.1.l (fun s hs => ⟨(ss_mem wy.2 hs).1.1, (ss_mem wy.2 hs).2⟩)⟩
    have hel := he.1
    have loop := make_loop A B N hAB hBN hN3 e he t ht (res_delta_Replace_0 z) (res_delta_Restyle_0 w) (res_delta_Replace_1 z) (res_delta_Restyle_1 w) (pErr e) (Attr.err true t)
      (fun hp => by
        obtain ⟨k, k1, k2, k3, k4⟩ := replace_eq A B N hAB hBN hN e he hp
        have hc := cA_len (ruR A B N e)
        have hlen : (ruR A B N e).length ≤ 2000000 := by unfold ruR; simp; omega
        obtain ⟨f1, f2⟩ := fin (ruR A B N e) k k1 k2 k3 (fun u hu => by
          unfold ruR at hu
          simp only [List.mem_append, List.mem_replicate, List.mem_map] at hu
          rcases hu with ⟨_, q⟩ | ⟨x, hx, q⟩ | ⟨_, q⟩ | ⟨_, q⟩
          · rw [q]; exact (rfl : Attr.err true [] = 0)
          · rw [← q]; exact pErr_mem hp x hx
          · rw [q]; trivial
          · rw [q]; exact (rfl : Attr.err true [] = 0)) (by omega) (by omega)
        rw [if_pos f1, if_pos f1] at k4
        have ez : z = ret_delta_Replace (out (runP (ruR A B N e) w0)) 0 := Option.some.inj (hz.symm.trans k4)
        rw [ez]
        exact ⟨rfl, rfl, f2⟩)
      (fun hp => by
        obtain ⟨k, k1, k2, k3, k4⟩ := restyle_eq A B N hAB hBN hN t ht hp
        have hc := cA_len (ruS A B N t)
        have hlen : (ruS A B N t).length ≤ 2000000 := by unfold ruS; simp; omega
        obtain ⟨f1, f2⟩ := fin (ruS A B N t) k k1 k2 k3 (fun u hu => by
          unfold ruS at hu
          simp only [List.mem_append, List.mem_replicate] at hu
          rcases hu with ⟨_, q⟩ | ⟨_, q⟩ | ⟨_, q⟩
          · rw [q]; exact (rfl : Attr.err true [] = 0)
          · rw [q]; exact hp
          · rw [q]; exact (rfl : Attr.err true [] = 0)) (by omega) (by omega)
        rw [if_pos f1, if_pos f1] at k4
        have ew : w = ret_delta_Restyle (out (runP (ruS A B N t) w0)) 0 := Option.some.inj (hw.symm.trans k4)
        rw [ew]
        exact ⟨rfl, rfl, f2⟩) (B - A) A big (by omega) (Nat.le_refl _) (big_ge (n := B - A + 1) (by omega))
    rw [Nat.sub_self, gr_zero, gr_zero, show A + (N - A) = N by omega] at loop
    exact loop
section
variable (n from_ to : Int) (e : Flow) (t : Attrs) (d : Delta.Steps) (he : Fs e) (ht : Sh t) (hd : Ds d) (heb : eb d ≤ 349525)
include he ht
theorem k4_eq : ∃ z w, C_delta_Replace F_delta_Replace n from_ to e = some z ∧ C_delta_Restyle F_delta_Restyle n from_ to t = some w ∧
    K_law_DeltaMakersMatch_4 big n from_ to e t (res_delta_Replace_0 z) (res_delta_Replace_1 z) (res_delta_Restyle_0 w) (res_delta_Restyle_1 w) = some (ret_law_DeltaMakersMatch true) := by
  by_cases hb : bnd n from_ to
  · refine ⟨ret_delta_Replace [] 2, ret_delta_Restyle [] 2, ?_, ?_, k4_bad n from_ to e t hb⟩
    · rw [e_delta_Replace, bounds_eq, if_pos hb]
      simp only [Option.bind_some, res_delta_bounds_0_ret, show ((2 : Int) != 0) = true from rfl, bct]
    · rw [e_delta_Restyle, bounds_eq, if_pos hb]
      simp only [Option.bind_some, res_delta_bounds_0_ret, show ((2 : Int) != 0) = true from rfl, bct]
  · unfold bnd at hb
    obtain ⟨A, rfl⟩ : ∃ A : Nat, from_ = (A : Int) := ⟨from_.toNat, by omega⟩
    obtain ⟨B, rfl⟩ : ∃ B : Nat, to = (B : Int) := ⟨to.toNat, by omega⟩
    obtain ⟨N, rfl⟩ : ∃ N : Nat, n = (N : Int) := ⟨n.toNat, by omega⟩
    have hAB : A ≤ B := by omega
    have hBN : B ≤ N := by omega
    have hN : (N : Int) ≤ 2147483647 := by omega
    have nb := bnd_no A B N hAB hBN hN
    obtain ⟨z, hz, hz0⟩ : ∃ z, C_delta_Replace F_delta_Replace N A B e = some z ∧ (pErr e ≠ 0 → z = ret_delta_Replace [] (pErr e)) := by
      by_cases hp : pErr e = 0
      · obtain ⟨_, _, _, _, q⟩ := replace_eq A B N hAB hBN hN e he hp
        exact ⟨_, q, fun h => absurd hp h⟩
      · refine ⟨ret_delta_Replace [] (pErr e), ?_, fun _ => rfl⟩
        have b : (pErr e != 0) = true := by simpa using hp
        rw [e_delta_Replace, bounds_eq, if_neg nb, (part_eq e he).1]
        simp only [Option.bind_some, res_delta_bounds_0_ret, res_flow_CheckPart_0_ret, bne_self_eq_false, bcf, b, bct]
    obtain ⟨w, hw, hw0⟩ : ∃ w, C_delta_Restyle F_delta_Restyle N A B t = some w ∧ (Attr.err true t ≠ 0 → w = ret_delta_Restyle [] (Attr.err true t)) := by
      by_cases hp : Attr.err true t = 0
      · obtain ⟨_, _, _, _, q⟩ := restyle_eq A B N hAB hBN hN t ht hp
        exact ⟨_, q, fun h => absurd hp h⟩
      · refine ⟨ret_delta_Restyle [] (Attr.err true t), ?_, fun _ => rfl⟩
        have b : (Attr.err true t != 0) = true := by simpa using hp
        rw [e_delta_Restyle, bounds_eq, if_neg nb, checkc_eq t ht]
        simp only [Option.bind_some, res_delta_bounds_0_ret, res_attr_CheckChange_0_ret, bne_self_eq_false, bcf, b, bct]
    refine ⟨z, w, hz, hw, ?_⟩
    have K2 := k2_eq A B N hAB hBN hN e t he ht z w hz hw
    have c1 : (decide (0 ≤ (N : Int)) && decide ((N : Int) ≤ 2147483647)) = true := by rw [decide_eq_true (by omega), decide_eq_true hN]; rfl
    have c2 : decide ((A : Int) < 0) = false := decide_eq_false (by omega)
    have c3 : decide ((B : Int) < (A : Int)) = false := decide_eq_false (by omega)
    have c4 : decide ((B : Int) > (N : Int)) = false := decide_eq_false (by omega)
    rw [K_law_DeltaMakersMatch_4_step, Axis.in_eq]
    simp only [Option.bind_some, res_R_In_0_ret, c1, c2, c3, c4, Bool.not_true, beq_self_eq_true, bct, bcf]
    rw [K_law_DeltaMakersMatch_3_step, (part_eq e he).2, rerr_eq t ht]
    simp only [Option.bind_some, res_R_PartError_0_ret, res_R_AttrsError_0_ret]
    by_cases hp : pErr e = 0
    · have b1 : ((pErr e != 0) == true) = false := by rw [hp]; rfl
      by_cases hq : Attr.err true t = 0
      · have b2 : ((Attr.err true t != 0) == true) = false := by rw [hq]; rfl
        simp only [b1, b2, bcf, K2]
      · have b2 : ((Attr.err true t != 0) == true) = true := by simpa using hq
        have ew := hw0 hq
        have r1 : ((res_delta_Restyle_1 w != Attr.err true t) == false) = true := by rw [ew]; simp
        have r2 : ((List.length (res_delta_Restyle_0 w) : Int) != 0) = false := by rw [ew]; rfl
        simp only [b1, b2, r1, r2, bct, bcf, K2]
    · have b1 : ((pErr e != 0) == true) = true := by simpa using hp
      have ez := hz0 hp
      have s1 : ((res_delta_Replace_1 z != pErr e) == false) = true := by rw [ez]; simp
      have s2 : (((List.length (res_delta_Replace_0 z) : Int) != 0) == false) = true := by rw [ez]; rfl
      by_cases hq : Attr.err true t = 0
      · have b2 : ((Attr.err true t != 0) == true) = false := by rw [hq]; rfl
        simp only [b1, b2, s1, s2, bct, bcf, K2]
      · have b2 : ((Attr.err true t != 0) == true) = true := by simpa using hq
        have ew := hw0 hq
        have r1 : ((res_delta_Restyle_1 w != Attr.err true t) == false) = true := by rw [ew]; simp
        have r2 : ((List.length (res_delta_Restyle_0 w) : Int) != 0) = false := by rw [ew]; rfl
        simp only [b1, b2, s1, s2, r1, r2, bct, bcf, K2]
include hd heb
theorem law_make : C_law_DeltaMakersMatch F_law_DeltaMakersMatch n from_ to e t d = some (ret_law_DeltaMakersMatch true) := by
  obtain ⟨z, w, hz, hw, k4⟩ := k4_eq n from_ to e t he ht
  rw [e_law_DeltaMakersMatch, delta_facts, hz, hw, (Delta.check_eq d hd).2]
  simp only [Option.bind_some, res_law_deltas_0_ret, Bool.not_true, bcf, res_R_DeltaError_0_ret]
  by_cases hs : err d = 0
  · rw [daxis_ok d hd hs]
    simp only [Option.bind_some, hs, bne_self_eq_false, bcf, short_eq d hd hs, res_law_short_0_ret, res_delta_Axis_0_ret, res_delta_Axis_1_ret]
    by_cases h3 : befs d ≤ 300
    · obtain ⟨r1, r2, r3, r4, _, _⟩ := raxis_eq d hd hs h3 (by omega)
      have r3 : C_law_steps F_law_steps ((actL d A0).1, (actL d A0).2.1, List.replicate (actL d A0).2.1.length []) = some (ret_law_steps (ax d)) := r3
      have r4 : (ax d).length ≤ 3000000 := by show ((pd [] d).map ph).length ≤ _; simpa using r4
      have ss := ssteps_self (ax d) r4
      simp only [decide_eq_true h3, beq_self_eq_true, bct, r1, r2, r3, Option.bind_some, res_R_ActOf_0_ret, res_law_plain_0_ret, res_law_steps_0_ret, ss, res_R_SameSteps_0_ret, Bool.not_true, bcf, k4]
    · simp only [decide_eq_false h3, show (false == true) = false from rfl, bcf, k4]
  · rw [daxis_bad d hd hs]
    have b : (err d != 0) = true := by simpa using hs
    have z0 : ((List.length ([] : Ax) : Int) != 0) = false := rfl
    simp only [Option.bind_some, b, bct, res_delta_Axis_0_ret, res_delta_Axis_1_ret, bne_self_eq_false, beq_self_eq_true, z0, bcf]
    exact k4
end
theorem holdsMake (n from_ to : Int) (e : Flow) (t : Attrs) (d : Delta.Steps) (o0 : (Ty.int .i64).ok n) (o1 : (Ty.int .i64).ok from_) (o2 : (Ty.int .i64).ok to) (o3 : (Ty.list YElem).ok e) (o4 : (Ty.list YAttr).ok t) (o5 : (Ty.list YStep).ok d)
    (hb : (Ty.int .i64).bulk n + (Ty.int .i64).bulk from_ + (Ty.int .i64).bulk to + (Ty.list YElem).bulk e + (Ty.list YAttr).bulk t + (Ty.list YStep).bulk d ≤ 1048576) : C_law_DeltaMakersMatch F_law_DeltaMakersMatch n from_ to e t d = some (ret_law_DeltaMakersMatch true) := by
  have h1 := step3 d
  exact law_make n from_ to e t d (fs_bulk (by omega)) (sh_of t (by omega)) (ds_bulk (by omega)) (by omega)
end Go.Ev.AxisP
