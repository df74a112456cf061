
import Derived.Test.YtlgjdgebmiegeaaPTidyC
import Derived.Test.YtlgjdgebmiegeaaGUndo
import Derived.Test.YtlgjdgebmiegeaaPSame
namespace Go.Ev.Attr
open Go.Ev
set_option linter.unusedVariables false
set_option linter.unusedSimpArgs false
def Nv (emp : Bool) (l : Attrs) : Prop := ∀ x ∈ l, nm (an x) = true ∧ (vl (av x) = true ∨ emp = true ∧ av x = [])
theorem nv_of {emp : Bool} {l : Attrs} (h : err emp l = 0) : Nv emp l := fun x hx => ⟨((err_srt emp l none h).2 x hx).1, ((err_srt emp l none h).2 x hx).2.1⟩
theorem srt_aerr (emp : Bool) : ∀ (l : Attrs) (p : Option Str), Srt l → Nv emp l → (∀ q, p = some q → ∀ x ∈ l, strLess q (an x) = true) → aErr emp p l = 0
  | [], p, _, _, _ => rfl
  | a :: l, p, h, hn, hp => by
    obtain ⟨n1, n2⟩ := hn a (by simp)
    have e : eOne emp p a = 0 := by
      unfold eOne
      rw [if_neg (by rw [n1]; decide), if_neg ?_]
      · cases p with
        | none => rfl
        | some q => simp [hp q rfl a (by simp)]
      · rintro ⟨q1, q2⟩
        rcases n2 with z | z
        · rw [q1] at z; cases z
        · exact q2 z
    simp only [aErr, e, ne_eq, not_true, if_false]
    refine srt_aerr emp l _ h.2 (fun x hx => hn x (by simp [hx])) (fun q hq x hx => ?_)
    injection hq with hq
    subst hq
    exact h.1 x hx
theorem srt_err {emp : Bool} {l : Attrs} (h : Srt l) (hn : Nv emp l) : err emp l = 0 := srt_aerr emp l none h hn (fun q h => by cases h)
theorem chd_nv {l c : Attrs} (hl : err false l = 0) (hc : err true c = 0) : Nv true (chd l c) := by
  intro x hx
  have h1 := nv_of hl
  have h2 := nv_of hc
  rw [show chd l c = keepv (puts (puts [] l) c) from rfl, keepv_mem, puts_mem _ _ (err_srt true c none hc).1, puts_mem _ _ (err_srt false l none hl).1] at hx
  rcases hx with ⟨hx | ⟨hx | hx, _⟩, _⟩
  · exact h2 x hx
  · refine ⟨(h1 x hx).1, .inl ?_⟩
    rcases (h1 x hx).2 with z | z
    · exact z
    · cases z.1
  · simp at hx
end Go.Ev.Attr
namespace Go.Ev.Delta
open Go.Ev Go.Ev.Attr Go.Ev.Track
set_option linter.unusedVariables false
set_option linter.unusedSimpArgs false
def apE (t : Attrs) (x : YElem.den) : YElem.den := mkE (ec x) (er x) (chd (ea x) t)
def bkE (t : Attrs) (x : YElem.den) : U := .k (btw (chd (ea x) t) (ea x))
def bk : List U → Flow → List U
  | [], _ => []
  | .a x :: us, f => .c :: bk us f
  | .c :: us, f => (f.take 1).map U.a ++ bk us (f.drop 1)
  | .k t :: us, f => (f.take 1).map (bkE t) ++ bk us (f.drop 1)
/-- What Undo writes. -/
def unE (c : Attrs) (x : YElem.den) : U := .k (chg (raw (ea x) c) (ea x))
def un : Steps → Flow → List U
  | [], _ => []
  | s :: d, f => if sk s = 0 then (f.take (sn s).toNat).map (unE (sa s)) ++ un d (f.drop (sn s).toNat) else if sk s = 1 then List.replicate (se s).length U.c ++ un d f
    else (f.take (sn s).toNat).map U.a ++ un d (f.drop (sn s).toNat)
theorem sErr_attr {s : YStep.den} (h : sErr s = 0) : Attr.err true (sa s) = 0 := by
  rcases sErr_zero h with ⟨_, _, h3, _, _⟩ | ⟨_, _, _, _, h5⟩
  · rw [h3]; rfl
  · exact h5
theorem ex_il_step (s : YStep.den) (a : Act) (h : AOk a) : il (stA s a) = il a ++ exS s := by
  unfold exS
  split
  · rename_i k
    have : stA s a = aE (se s) a := by unfold stA; rw [if_pos k]; rfl
    rw [this, aE_il _ h]
  · rename_i k
    have : ∀ (n : Nat) (a : Act), AOk a → il (a.1 ++ List.replicate n [], a.2.1 ++ List.replicate n (sk s == 2), a.2.2 ++ List.replicate n (sa s)) = il a ++ List.replicate n (uni (sk s == 2) (sa s)) := by
      intro n
      induction n with
      | zero => intro a h; simp
      | succ n ih =>
        intro a h
        have := ih (aU (sk s == 2) (sa s) a) (aU_ok _ _ h)
        rw [aU_il _ _ h] at this
        simp only [aU, List.append_assoc, List.singleton_append] at this
        simp only [List.replicate_succ]
        exact this
    have e : stA s a = (a.1 ++ List.replicate (sn s).toNat [], a.2.1 ++ List.replicate (sn s).toNat (sk s == 2), a.2.2 ++ List.replicate (sn s).toNat (sa s)) := by unfold stA; rw [if_neg k]
    rw [e, this _ _ h]
theorem ex_il : ∀ (l : Steps) (a : Act), AOk a → AOk (actL l a) ∧ il (actL l a) = il a ++ ex l
  | [], a, h => ⟨h, by simp [actL, ex]⟩
  | s :: l, a, h => by
    obtain ⟨q1, q2⟩ := ex_il l (stA s a) (stA_ok s h)
    refine ⟨q1, ?_⟩
    show il (actL l (stA s a)) = il a ++ (exS s ++ ex l)
    rw [q2, ex_il_step s a h, List.append_assoc]
theorem act_ex (l : Steps) : AOk (actL l A0) ∧ il (actL l A0) = ex l := by
  obtain ⟨h1, h2⟩ := ex_il l A0 ⟨rfl, rfl⟩
  exact ⟨h1, h2.trans rfl⟩
end Go.Ev.Delta
namespace Go.Ev.Delta
open Go.Ev Go.Ev.Attr Go.Ev.Track
set_option linter.unusedVariables false
set_option linter.unusedSimpArgs false
theorem c40 (n k : Nat) (h : n + k ≤ 3000000) : (n + k) * 40 ≤ 140737488355328 := Nat.le_trans (Nat.mul_le_mul_right 40 h) (by decide)
section
variable (f : Flow) (a : Act) (ha : AOk a) (hl : a.2.1.length = f.length) (hf : f.length ≤ 1048576)
def rest (i : Nat) : List U := ilL (a.1.drop i) (a.2.1.drop i) (a.2.2.drop i)
include ha hl
theorem rest_step (i : Nat) (hi : i < f.length) : rest a i = (adAt a.1 i).map U.a ++ uni (cutAt a.2.1 i) (atrAt a.2.2 i) :: rest a (i + 1) := by
  have h1 := ha.h1
  have h2 := ha.h2
  have e1 : a.1.drop i = adAt a.1 i :: a.1.drop (i + 1) := drop_l (e := .list YElem) a.1 (by omega)
  have e2 : a.2.1.drop i = cutAt a.2.1 i :: a.2.1.drop (i + 1) := drop_l (e := .bool) a.2.1 (by omega)
  have e3 : a.2.2.drop i = atrAt a.2.2 i :: a.2.2.drop (i + 1) := drop_l (e := .list YAttr) a.2.2 (by omega)
  show ilL (a.1.drop i) (a.2.1.drop i) (a.2.2.drop i) = _
  rw [e1, e2, e3]
  rfl
theorem rest_end : rest a f.length = (adAt a.1 f.length).map U.a := by
  have h1 := ha.h1
  have h2 := ha.h2
  have e1 : a.1.drop f.length = adAt a.1 f.length :: a.1.drop (f.length + 1) := drop_l (e := .list YElem) a.1 (by omega)
  have e2 : a.2.1.drop f.length = [] := List.drop_eq_nil_of_le (by omega)
  have e4 : a.1.drop (f.length + 1) = [] := List.drop_eq_nil_of_le (by omega)
  show ilL (a.1.drop f.length) (a.2.1.drop f.length) (a.2.2.drop f.length) = _
  rw [e1, e2, e4]
  rfl
include hf
end
end Go.Ev.Delta
namespace Go.Ev.Delta
open Go.Ev Go.Ev.Attr Go.Ev.Track
set_option linter.unusedVariables false
set_option linter.unusedSimpArgs false
theorem c24 (n k : Nat) (h : n + k ≤ 4000000) : (n + k) * 24 ≤ 140737488355328 := Nat.le_trans (Nat.mul_le_mul_right 24 h) (by decide)
theorem c1 (n k : Nat) (h : n + k ≤ 4000000) : (n + k) * 1 ≤ 140737488355328 := Nat.le_trans (Nat.mul_le_mul_right 1 h) (by decide)
/-- Every row of what is added is short. -/
def Low (n : Nat) (b : Act) : Prop := ∀ k, (b.1.getD k []).length ≤ n
theorem low_of {b : Act} {n : Nat} (h : ∀ x ∈ b.1, x.length ≤ n) : Low n b := fun k => by
  by_cases hk : k < b.1.length
  · rw [List.getD_eq_getElem?_getD, List.getElem?_eq_getElem hk]; exact h _ (List.getElem_mem hk)
  · rw [List.getD_eq_getElem?_getD, List.getElem?_eq_none (by omega)]; simp
structure BI (n k : Nat) (b : Act) : Prop where
  ok : AOk b
  lo : ∀ x ∈ b.1, x.length ≤ n
  sz : b.2.1.length ≤ k
theorem BI.aU {n k : Nat} {b : Act} (h : BI n k b) (c : Bool) (t : Attrs) : BI n (k + 1) (aU c t b) := ⟨aU_ok _ _ h.ok, fun x hx => by
  rcases List.mem_append.1 hx with hx | hx
  · exact h.lo x hx
  · rw [List.mem_singleton.1 hx]; exact Nat.zero_le _, by have := h.sz; simp [Delta.aU]; omega⟩
theorem BI.aE {n k : Nat} {b : Act} (h : BI n k b) (y : YElem.den) : BI (n + 1) k (aE [y] b) := ⟨aE_ok _ h.ok, fun x hx => by
  have hw := low_of h.lo (b.1.length - 1)
  rcases List.mem_or_eq_of_mem_set hx with hx | hx
  · have := h.lo x hx; omega
  · rw [hx]; simp only [List.length_append, List.length_cons, List.length_nil]; omega, h.sz⟩
theorem BI.mono {n k n' k' : Nat} {b : Act} (h : BI n k b) (h1 : n ≤ n') (h2 : k ≤ k') : BI n' k' b := ⟨h.ok, fun x hx => Nat.le_trans (h.lo x hx) h1, Nat.le_trans h.sz h2⟩
section
variable (f : Flow) (a : Act) (ha : AOk a) (hl : a.2.1.length = f.length) (hf : f.length ≤ 1048576)
include ha hl hf
end
end Go.Ev.Delta
namespace Go.Ev.Delta
open Go.Ev Go.Ev.Attr Go.Ev.Track
set_option linter.unusedVariables false
set_option linter.unusedSimpArgs false
theorem runP_c (n : Nat) (w : W) : runP (List.replicate n U.c) w = (w.1, w.2.1, w.2.2 + n) := by
  have := runP_units n true [] w
  rw [units_cut] at this
  exact this
end Go.Ev.Delta
namespace Go.Ev.Delta
open Go.Ev Go.Ev.Attr Go.Ev.Track
set_option linter.unusedVariables false
set_option linter.unusedSimpArgs false
theorem size_loop (l : Steps) (hlen : l.length ≤ 1048576) (hv : ∀ s ∈ l, sErr s = 0) (hs : ∀ s ∈ l, Ss s) : ∀ (d i m : Nat) (b : Int), i + d = l.length → d < m → 0 ≤ b → b + befs (l.drop i) ≤ 2147483647 →
    L_R_DeltaSize_0 big m l b (l.length : Int) i = some (ret_R_DeltaSize (b + befs (l.drop i))) := by
  intro d
  induction d with
  | zero =>
    intro i m b hi hm hb hx
    obtain ⟨m, rfl⟩ : ∃ q, m = q + 1 := ⟨m - 1, by omega⟩
    have : i = l.length := by omega
    subst this
    rw [L_R_DeltaSize_0_step, List.drop_length]
    simp [bcond_if, dlt_self, befs]
  | succ d ih =>
    intro i m b hi hm hb hx
    obtain ⟨m, rfl⟩ : ∃ q, m = q + 1 := ⟨m - 1, by omega⟩
    have hil : i < l.length := by omega
    have w1 := wsucc hil (show l.length ≤ 4611686018427387904 by omega)
    have ea0 : at_ (e := YStep) l (i : Int) = atT l i := rfl
    have e2 : (atT l i).2.1 = sn (atT l i) := rfl
    have hm1 := atT_mem l hil
    have hz := hv _ hm1
    have hB : addB (atT l i) 0 = sn (atT l i) := by
      unfold addB
      split
      · rename_i k
        rcases sErr_zero hz with ⟨_, h2, _⟩ | ⟨h1, _⟩
        · omega
        · rcases h1 with h1 | h1 <;> omega
      · omega
    have hn : 0 ≤ sn (atT l i) := by rw [← hB]; exact (one_pos (p := none) (one_of hz (fun q h => by cases h))).1
    have hdr : ∀ s ∈ l.drop (i + 1), s ∈ l := fun s h => List.mem_of_mem_drop h
    obtain ⟨p1, p2⟩ := adds_pos (fun s h => hv s (hdr s h)) (fun s h => hs s (hdr s h))
    rw [drop_step l hil] at hx ⊢
    simp only [befs, hB] at hx ⊢
    have w2 : IntKind.i64.wrap (b + sn (atT l i)) = b + sn (atT l i) := w64 (by omega) (by omega)
    rw [L_R_DeltaSize_0_step]
    simp only [bcond_if, dlt hil, inb, hil, if_true, ea0, e2, w1, w2]
    rw [ih (i + 1) m (b + sn (atT l i)) (by omega) (by omega) (by omega) (by omega), Int.add_assoc]
theorem rsize_eq (l : Steps) (hl : Ds l) (h : err l = 0) : C_R_DeltaSize F_R_DeltaSize l = some (ret_R_DeltaSize (befs l)) := by
  obtain ⟨h1, h2, h3⟩ := dErr_zero l none 0 0 h
  rw [e_R_DeltaSize]
  have := size_loop l hl.1 h1 (fun s hs => ss_mem hl hs) l.length 0 big 0 (by omega) (big_ge (n := l.length + 1) (by have := hl.1; omega)) (by omega) (by rw [List.drop_zero]; omega)
  rw [List.drop_zero, Int.zero_add] at this
  exact this
theorem len_AB : ∀ (us : List U), us.length ≤ cA us + cB us
  | [] => Nat.le_refl _
  | .a x :: us => by have := len_AB us; show us.length + 1 ≤ cA us + 1 + cB us; omega
  | .c :: us => by have := len_AB us; show us.length + 1 ≤ cA us + (cB us + 1); omega
  | .k t :: us => by have := len_AB us; show us.length + 1 ≤ cA us + 1 + (cB us + 1); omega
theorem il_AB : ∀ (xs : List Flow) (cs : List Bool) (ts : List Attrs), xs.length = cs.length + 1 → ts.length = cs.length → cB (ilL xs cs ts) = cs.length ∧ ebl xs ≤ cA (ilL xs cs ts)
  | [], cs, ts, h1, h2 => by simp at h1
  | [x], [], [], h1, h2 => by
    show cB (x.map U.a) = 0 ∧ ebl [x] ≤ cA (x.map U.a)
    rw [(cB_a x).1, (cB_a x).2]; exact ⟨rfl, by simp [ebl]⟩
  | x :: y :: xs, [], ts, h1, h2 => by simp at h1
  | [x], [], _ :: _, h1, h2 => by simp at h2
  | [x], _ :: _, ts, h1, h2 => by simp at h1
  | x :: y :: xs, d :: cs, [], h1, h2 => by simp at h2
  | x :: y :: xs, c :: cs, t :: ts, h1, h2 => by
    obtain ⟨q1, q2⟩ := il_AB (y :: xs) cs ts (by simpa using h1) (by simpa using h2)
    show cB (x.map U.a ++ uni c t :: ilL (y :: xs) cs ts) = cs.length + 1 ∧ x.length + ebl (y :: xs) ≤ cA (x.map U.a ++ uni c t :: ilL (y :: xs) cs ts)
    rw [cB_append, cA_append, (cB_a x).1, (cB_a x).2]
    cases c
    · show 0 + (cB (ilL (y :: xs) cs ts) + 1) = _ ∧ _ ≤ x.length + (cA (ilL (y :: xs) cs ts) + 1); omega
    · show 0 + (cB (ilL (y :: xs) cs ts) + 1) = _ ∧ _ ≤ x.length + cA (ilL (y :: xs) cs ts); omega
theorem ebl_mem : ∀ (xs : List Flow) (x : Flow), x ∈ xs → x.length ≤ ebl xs
  | y :: xs, x, h => by
    show x.length ≤ y.length + ebl xs
    rcases List.mem_cons.1 h with rfl | h
    · omega
    · have := ebl_mem xs x h; omega
theorem nv_sh {emp : Bool} {l : Attrs} (hl : l.length ≤ 1048576) (h : Nv emp l) : Sh l := ⟨hl, fun i => by
  have hb : ∀ x ∈ l, (an x).length ≤ 1048576 ∧ (av x).length ≤ 1048576 := fun x hx => by
    obtain ⟨h1, h2⟩ := h x hx
    constructor
    · unfold nm at h1
      split at h1
      · cases h1
      · simp only [Bool.and_eq_true, decide_eq_true_eq] at h1; omega
    · rcases h2 with h2 | ⟨_, h2⟩
      · unfold vl at h2
        simp only [Bool.and_eq_true, decide_eq_true_eq] at h2; omega
      · rw [h2]; simp
  by_cases hi : i < l.length
  · have : atA l i = l[i] := at_get (e := YAttr) l i hi
    rw [this]; exact hb _ (List.getElem_mem hi)
  · have : atA l i = mkA [] [] := by
      show l.getD i (Ty.zero YAttr) = _
      rw [List.getD_eq_getElem?_getD, List.getElem?_eq_none (by omega)]; rfl
    rw [this]; exact ⟨by decide, by decide⟩⟩
end Go.Ev.Delta
namespace Go.Ev.Delta
open Go.Ev Go.Ev.Attr Go.Ev.Track
set_option linter.unusedVariables false
set_option linter.unusedSimpArgs false
def shU : U → Prop
  | .a x => Sh (ea x)
  | .c => True
  | .k t => Sh t
structure SI (w : W) (k : Nat) : Prop where
  lo : w.1.length ≤ 3 * k
  ss : ∀ s ∈ w.1, Ss s
  a : ∀ x ∈ w.2.1, Sh (ea x)
theorem SI.outs {w : W} {k : Nat} (h : SI w k) (hl : w.2.1.length ≤ 1048576) : (out w).length ≤ 3 * k + 2 ∧ ∀ s ∈ out w, Ss s := by
  have h1 := h.lo
  refine ⟨by have := fl_len w.1 w.2.1 w.2.2; unfold out; omega, fun s hs => ?_⟩
  rcases fl_mem hs with q | q | q
  · exact h.ss s q
  · rw [q.1]; exact ⟨sh_nil, fs_of hl h.a⟩
  · rw [q.1]; exact ⟨sh_nil, fs_nil⟩
theorem SI.run : ∀ (us : List U) (w : W) (k : Nat), SI w k → (∀ u ∈ us, shU u) → w.2.1.length + cA us ≤ 1048576 → SI (runP us w) (k + us.length) ∧ (runP us w).2.1.length ≤ 1048576
  | [], w, k, h, _, hl => ⟨h, by have : cA [] = 0 := rfl; show w.2.1.length ≤ _; omega⟩
  | .a x :: us, w, k, h, hu, hl => by
    have hx : Sh (ea x) := hu (.a x) (by simp)
    have e : (uE [x] w).2.1.length = w.2.1.length + 1 := by show (w.2.1 ++ [x]).length = _; simp
    have c : cA (.a x :: us) = cA us + 1 := rfl
    have := SI.run us (uE [x] w) (k + 1) ⟨by have := h.lo; show w.1.length ≤ _; omega, h.ss, fun y hy => (List.mem_append.1 hy).elim (h.a y) (fun q => by rw [List.mem_singleton.1 q]; exact hx)⟩ (fun u q => hu u (by simp [q])) (by omega)
    rw [List.length_cons, show k + (us.length + 1) = k + 1 + us.length by omega]
    exact this
  | .c :: us, w, k, h, hu, hl => by
    have := SI.run us (uC w) (k + 1) ⟨by have := h.lo; show w.1.length ≤ _; omega, h.ss, h.a⟩ (fun u q => hu u (by simp [q])) hl
    rw [List.length_cons, show k + (us.length + 1) = k + 1 + us.length by omega]
    exact this
  | .k t :: us, w, k, h, hu, hl => by
    have ht : Sh t := hu (.k t) (by simp)
    have c : cA (.k t :: us) = cA us + 1 := rfl
    obtain ⟨o1, o2⟩ := h.outs (by omega)
    have := SI.run us (uK t w) (k + 1) ⟨by have := mrg_len (out w) 1 t; show (mrgK (out w) 1 t).length ≤ _; omega, fun s hs => by
        rcases mrg_mem hs with q | q | ⟨r, r1, r2, r3, r4⟩
        · exact o2 s q
        · rw [q]; exact ⟨ht, fs_nil⟩
        · have := o2 r r1; rw [r4]; exact this, fun y hy => by simp [uK] at hy⟩ (fun u q => hu u (by simp [q])) (by show 0 + cA us ≤ _; omega)
    rw [List.length_cons, show k + (us.length + 1) = k + 1 + us.length by omega]
    exact this
theorem ex_mem : ∀ (d : Steps) (u : U), u ∈ ex d → (∃ s ∈ d, ∃ x ∈ se s, u = .a x) ∨ u = .c ∨ ∃ s ∈ d, u = .k (sa s)
  | [], u, h => by simp [ex] at h
  | s :: d, u, h => by
    rcases List.mem_append.1 (show u ∈ exS s ++ ex d from h) with h | h
    · unfold exS at h
      split at h
      · obtain ⟨x, h1, h2⟩ := List.mem_map.1 h
        exact .inl ⟨s, by simp, x, h1, h2.symm⟩
      · rw [List.eq_of_mem_replicate h]
        unfold uni
        split
        · exact .inr (.inl rfl)
        · exact .inr (.inr ⟨s, by simp, rfl⟩)
    · rcases ex_mem d u h with ⟨t, t1, t2⟩ | q | ⟨t, t1, t2⟩
      · exact .inl ⟨t, by simp [t1], t2⟩
      · exact .inr (.inl q)
      · exact .inr (.inr ⟨t, by simp [t1], t2⟩)
theorem nb_befs : ∀ {l : Steps}, (∀ s ∈ l, sErr s = 0) → (nb l : Int) = befs l
  | [], _ => rfl
  | s :: l, h => by
    have ih := nb_befs (l := l) (fun t ht => h t (by simp [ht]))
    have hz := h s (by simp)
    show (((if sk s = 1 then 0 else (sn s).toNat) + nb l : Nat) : Int) = addB s 0 + befs l
    unfold addB
    split
    · omega
    · rcases sErr_zero hz with ⟨h1, _⟩ | ⟨_, _, h3, _⟩
      · contradiction
      · omega
theorem elem3 : ∀ (f : Flow), 3 * f.length + 1 ≤ (Ty.list YElem).bulk f
  | [] => by simp [Ty.bulk]
  | x :: f => by
    have ih := elem3 f
    have e : (Ty.list YElem).bulk (x :: f) = Ty.bulk YElem x + (Ty.list YElem).bulk f := by simp [Ty.bulk]; omega
    have e2 : Ty.bulk YElem x = 1 + (1 + (Ty.list YAttr).bulk (ea x)) := rfl
    have := bulk_pos (Ty.list YAttr) (ea x)
    rw [e, e2, List.length_cons]; omega
theorem step3 : ∀ (d : Steps), 3 * eb d + 1 ≤ (Ty.list YStep).bulk d
  | [] => by simp [Ty.bulk, eb]
  | s :: d => by
    have ih := step3 d
    have e : (Ty.list YStep).bulk (s :: d) = Ty.bulk YStep s + (Ty.list YStep).bulk d := by simp [Ty.bulk]; omega
    have e2 : Ty.bulk YStep s = 1 + (1 + ((Ty.list YAttr).bulk (sa s) + (Ty.list YElem).bulk (se s))) := rfl
    have := elem3 (se s)
    rw [e, e2]; simp only [eb]; omega
section
variable (f : Flow) (d : Steps) (hf : Fs f) (hd : Ds d) (hsz : f.length + eb d ≤ 349525) (hab : ∀ x ∈ f, ∀ s ∈ d, 2 * (ea x).length + (sa s).length ≤ 1048576)
include hf hd hsz hab
end
end Go.Ev.Delta
