
import Derived.Test.YtlgjdgebmiegeaaPTidyC
import Derived.Test.YtlgjdgebmiegeaaGUndo
import Derived.Test.YtlgjdgebmiegeaaPSame
namespace Go.Ev.Attr
open Go.Ev
set_option linter.unusedVariables false
set_option linter.unusedSimpArgs false
def Nv (emp : Bool) (l : Attrs) : Prop := ∀ x ∈ l, nm (an x) = true ∧ (vl (av x) = true ∨ emp = true ∧ av x = [])
theorem nv_of {emp : Bool} {l : Attrs} (h : err emp l = 0) : Nv emp l := fun x hx => ⟨((err_srt emp l none h).2 x hx).1, ((err_srt emp l none h).2 x hx).2.1⟩
theorem srt_aerr (emp : Bool) : ∀ (l : Attrs) (p : Option Str), Srt l → Nv emp l → (∀ q, p = some q → ∀ x ∈ l, strLess q (an x) = true) → aErr emp p l = 0
  | [], p, _, _, _ => rfl
  | a :: l, p, h, hn, hp => by
    obtain ⟨n1, n2⟩ := hn a (by simp)
    have e : eOne emp p a = 0 := by
      unfold eOne
      rw [if_neg (by rw [n1]; decide), if_neg ?_]
      · cases p with
        | none => rfl
        | some q => simp [hp q rfl a (by simp)]
      · rintro ⟨q1, q2⟩
        rcases n2 with z | z
        · rw [q1] at z; cases z
        · exact q2 z
    simp only [aErr, e, ne_eq, not_true, if_false]
    refine srt_aerr emp l _ h.2 (fun x hx => hn x (by simp [hx])) (fun q hq x hx => ?_)
    injection hq with hq
    subst hq
    exact h.1 x hx
theorem srt_err {emp : Bool} {l : Attrs} (h : Srt l) (hn : Nv emp l) : err emp l = 0 := srt_aerr emp l none h hn (fun q h => by cases h)
theorem btw_ok {a b : Attrs} (ha : Full a) (hb : Full b) (na : Nv true a) (nb : Nv true b) : err true (btw a b) = 0 := by
  refine srt_err (puts_srt _ _ (puts_srt _ _ trivial)) fun x hx => ?_
  rw [show btw a b = puts (puts [] (dif a b)) (gone b a) from rfl, puts_mem _ _ (gone_srt b a ha.1), puts_mem _ _ (dif_srt a b hb.1)] at hx
  rcases hx with hx | ⟨hx | hx, _⟩
  · obtain ⟨y, h1, h2, rfl⟩ := (gone_mem b a x).1 hx
    exact ⟨(na y h1).1, .inr ⟨rfl, rfl⟩⟩
  · exact nb x ((dif_mem a b x).1 hx).1
  · simp at hx
theorem chd_nv {l c : Attrs} (hl : err false l = 0) (hc : err true c = 0) : Nv true (chd l c) := by
  intro x hx
  have h1 := nv_of hl
  have h2 := nv_of hc
  rw [show chd l c = keepv (puts (puts [] l) c) from rfl, keepv_mem, puts_mem _ _ (err_srt true c none hc).1, puts_mem _ _ (err_srt false l none hl).1] at hx
  rcases hx with ⟨hx | ⟨hx | hx, _⟩, _⟩
  · exact h2 x hx
  · refine ⟨(h1 x hx).1, .inl ?_⟩
    rcases (h1 x hx).2 with z | z
    · exact z
    · cases z.1
  · simp at hx
end Go.Ev.Attr
namespace Go.Ev.Delta
open Go.Ev Go.Ev.Attr Go.Ev.Track
set_option linter.unusedVariables false
set_option linter.unusedSimpArgs false
def apE (t : Attrs) (x : YElem.den) : YElem.den := mkE (ec x) (er x) (chd (ea x) t)
def bkE (t : Attrs) (x : YElem.den) : U := .k (btw (chd (ea x) t) (ea x))
def ap : List U → Flow → Flow
  | [], _ => []
  | .a x :: us, f => x :: ap us f
  | .c :: us, f => ap us (f.drop 1)
  | .k t :: us, f => (f.take 1).map (apE t) ++ ap us (f.drop 1)
def bk : List U → Flow → List U
  | [], _ => []
  | .a x :: us, f => .c :: bk us f
  | .c :: us, f => (f.take 1).map U.a ++ bk us (f.drop 1)
  | .k t :: us, f => (f.take 1).map (bkE t) ++ bk us (f.drop 1)
theorem ap_c (us : List U) : ∀ (n : Nat) (f : Flow), ap (List.replicate n U.c ++ us) f = ap us (f.drop n)
  | 0, f => rfl
  | n + 1, f => by
    show ap (List.replicate n U.c ++ us) (f.drop 1) = _
    rw [ap_c us n, List.drop_drop, Nat.add_comm]
/-- What Undo writes. -/
def unE (c : Attrs) (x : YElem.den) : U := .k (chg (raw (ea x) c) (ea x))
def un : Steps → Flow → List U
  | [], _ => []
  | s :: d, f => if sk s = 0 then (f.take (sn s).toNat).map (unE (sa s)) ++ un d (f.drop (sn s).toNat) else if sk s = 1 then List.replicate (se s).length U.c ++ un d f
    else (f.take (sn s).toNat).map U.a ++ un d (f.drop (sn s).toNat)
end Go.Ev.Delta
namespace Go.Ev.Delta
open Go.Ev Go.Ev.Attr Go.Ev.Track
set_option linter.unusedVariables false
set_option linter.unusedSimpArgs false
section
variable (f : Flow) (a : Act) (ha : AOk a) (hl : a.2.1.length = f.length) (hf : f.length ≤ 1048576)
def rest (i : Nat) : List U := ilL (a.1.drop i) (a.2.1.drop i) (a.2.2.drop i)
include ha hl
include hf
end
end Go.Ev.Delta
namespace Go.Ev.Delta
open Go.Ev Go.Ev.Attr Go.Ev.Track
set_option linter.unusedVariables false
set_option linter.unusedSimpArgs false
def aUn (n : Nat) (b : Act) : Act := (b.1 ++ List.replicate n [], b.2.1 ++ List.replicate n true, b.2.2 ++ List.replicate n [])
theorem aUn_zero (b : Act) : aUn 0 b = b := by unfold aUn; simp
theorem aUn_ok (n : Nat) {b : Act} (h : AOk b) : AOk (aUn n b) := ⟨by have := h.h1; simp [aUn]; omega, by have := h.h2; simp [aUn]; omega⟩
theorem c1 (n k : Nat) (h : n + k ≤ 4000000) : (n + k) * 1 ≤ 140737488355328 := Nat.le_trans (Nat.mul_le_mul_right 1 h) (by decide)
/-- Every row of what is added is short. -/
def Low (n : Nat) (b : Act) : Prop := ∀ k, (b.1.getD k []).length ≤ n
theorem low_of {b : Act} {n : Nat} (h : ∀ x ∈ b.1, x.length ≤ n) : Low n b := fun k => by
  by_cases hk : k < b.1.length
  · rw [List.getD_eq_getElem?_getD, List.getElem?_eq_getElem hk]; exact h _ (List.getElem_mem hk)
  · rw [List.getD_eq_getElem?_getD, List.getElem?_eq_none (by omega)]; simp
structure BI (n k : Nat) (b : Act) : Prop where
  ok : AOk b
  lo : ∀ x ∈ b.1, x.length ≤ n
  sz : b.2.1.length ≤ k
theorem BI.aUn {n k : Nat} {b : Act} (h : BI n k b) (d : Nat) : BI n (k + d) (aUn d b) := ⟨aUn_ok d h.ok, fun x hx => by
  rcases List.mem_append.1 hx with hx | hx
  · exact h.lo x hx
  · rw [List.eq_of_mem_replicate hx]; exact Nat.zero_le _, by have := h.sz; simp [Delta.aUn]; omega⟩
theorem BI.aU {n k : Nat} {b : Act} (h : BI n k b) (c : Bool) (t : Attrs) : BI n (k + 1) (aU c t b) := ⟨aU_ok _ _ h.ok, fun x hx => by
  rcases List.mem_append.1 hx with hx | hx
  · exact h.lo x hx
  · rw [List.mem_singleton.1 hx]; exact Nat.zero_le _, by have := h.sz; simp [Delta.aU]; omega⟩
theorem BI.aE {n k : Nat} {b : Act} (h : BI n k b) (y : YElem.den) : BI (n + 1) k (aE [y] b) := ⟨aE_ok _ h.ok, fun x hx => by
  have hw := low_of h.lo (b.1.length - 1)
  rcases List.mem_or_eq_of_mem_set hx with hx | hx
  · have := h.lo x hx; omega
  · rw [hx]; simp only [List.length_append, List.length_cons, List.length_nil]; omega, h.sz⟩
theorem BI.mono {n k n' k' : Nat} {b : Act} (h : BI n k b) (h1 : n ≤ n') (h2 : k ≤ k') : BI n' k' b := ⟨h.ok, fun x hx => Nat.le_trans (h.lo x hx) h1, Nat.le_trans h.sz h2⟩
section
variable (f : Flow) (a : Act) (ha : AOk a) (hl : a.2.1.length = f.length) (hf : f.length ≤ 1048576)
include ha hl hf
end
end Go.Ev.Delta
namespace Go.Ev.Delta
open Go.Ev Go.Ev.Attr Go.Ev.Track
set_option linter.unusedVariables false
set_option linter.unusedSimpArgs false
theorem DI.cut {w : W} {k : Nat} (h : DI w k) (n : Nat) : DI (w.1, w.2.1, w.2.2 + n) (k + n) := ⟨by have := h.lo; show w.1.length ≤ _; omega, fun s hs => by have := h.sn s hs; omega, h.sa, by have := h.c; show 0 ≤ w.2.2 + n ∧ w.2.2 + n ≤ ((k + n : Nat) : Int); omega⟩
theorem runP_c (n : Nat) (w : W) : runP (List.replicate n U.c) w = (w.1, w.2.1, w.2.2 + n) := by
  have := runP_units n true [] w
  rw [units_cut] at this
  exact this
end Go.Ev.Delta
namespace Go.Ev.Delta
open Go.Ev Go.Ev.Attr Go.Ev.Track
set_option linter.unusedVariables false
set_option linter.unusedSimpArgs false
theorem len_AB : ∀ (us : List U), us.length ≤ cA us + cB us
  | [] => Nat.le_refl _
  | .a x :: us => by have := len_AB us; show us.length + 1 ≤ cA us + 1 + cB us; omega
  | .c :: us => by have := len_AB us; show us.length + 1 ≤ cA us + (cB us + 1); omega
  | .k t :: us => by have := len_AB us; show us.length + 1 ≤ cA us + 1 + (cB us + 1); omega
theorem ebl_mem : ∀ (xs : List Flow) (x : Flow), x ∈ xs → x.length ≤ ebl xs
  | y :: xs, x, h => by
    show x.length ≤ y.length + ebl xs
    rcases List.mem_cons.1 h with rfl | h
    · omega
    · have := ebl_mem xs x h; omega
theorem nv_sh {emp : Bool} {l : Attrs} (hl : l.length ≤ 1048576) (h : Nv emp l) : Sh l := ⟨hl, fun i => by
  have hb : ∀ x ∈ l, (an x).length ≤ 1048576 ∧ (av x).length ≤ 1048576 := fun x hx => by
    obtain ⟨h1, h2⟩ := h x hx
    constructor
    · unfold nm at h1
      split at h1
      · cases h1
      · simp only [Bool.and_eq_true, decide_eq_true_eq] at h1; omega
    · rcases h2 with h2 | ⟨_, h2⟩
      · unfold vl at h2
        simp only [Bool.and_eq_true, decide_eq_true_eq] at h2; omega
      · rw [h2]; simp
  by_cases hi : i < l.length
  · have : atA l i = l[i] := at_get (e := YAttr) l i hi
    rw [this]; exact hb _ (List.getElem_mem hi)
  · have : atA l i = mkA [] [] := by
      show l.getD i (Ty.zero YAttr) = _
      rw [List.getD_eq_getElem?_getD, List.getElem?_eq_none (by omega)]; rfl
    rw [this]; exact ⟨by decide, by decide⟩⟩
end Go.Ev.Delta
namespace Go.Ev.Delta
open Go.Ev Go.Ev.Attr Go.Ev.Track
set_option linter.unusedVariables false
set_option linter.unusedSimpArgs false
def shU : U → Prop
  | .a x => Sh (ea x)
  | .c => True
  | .k t => Sh t
structure SI (w : W) (k : Nat) : Prop where
  lo : w.1.length ≤ 3 * k
  ss : ∀ s ∈ w.1, Ss s
  a : ∀ x ∈ w.2.1, Sh (ea x)
theorem SI.outs {w : W} {k : Nat} (h : SI w k) (hl : w.2.1.length ≤ 1048576) : (out w).length ≤ 3 * k + 2 ∧ ∀ s ∈ out w, Ss s := by
  have h1 := h.lo
  refine ⟨by have := fl_len w.1 w.2.1 w.2.2; unfold out; omega, fun s hs => ?_⟩
  rcases fl_mem hs with q | q | q
  · exact h.ss s q
  · rw [q.1]; exact ⟨sh_nil, fs_of hl h.a⟩
  · rw [q.1]; exact ⟨sh_nil, fs_nil⟩
theorem SI.run : ∀ (us : List U) (w : W) (k : Nat), SI w k → (∀ u ∈ us, shU u) → w.2.1.length + cA us ≤ 1048576 → SI (runP us w) (k + us.length) ∧ (runP us w).2.1.length ≤ 1048576
  | [], w, k, h, _, hl => ⟨h, by have : cA [] = 0 := rfl; show w.2.1.length ≤ _; omega⟩
  | .a x :: us, w, k, h, hu, hl => by
    have hx : Sh (ea x) := hu (.a x) (by simp)
    have e : (uE [x] w).2.1.length = w.2.1.length + 1 := by show (w.2.1 ++ [x]).length = _; simp
    have c : cA (.a x :: us) = cA us + 1 := rfl
    have := SI.run us (uE [x] w) (k + 1) ⟨by have := h.lo; show w.1.length ≤ _; omega, h.ss, fun y hy => (List.mem_append.1 hy).elim (h.a y) (fun q => by rw [List.mem_singleton.1 q]; exact hx)⟩ (fun u q => hu u (by simp [q])) (by omega)
    rw [List.length_cons, show k + (us.length + 1) = k + 1 + us.length by omega]
    exact this
  | .c :: us, w, k, h, hu, hl => by
    have := SI.run us (uC w) (k + 1) ⟨by have := h.lo; show w.1.length ≤ _; omega, h.ss, h.a⟩ (fun u q => hu u (by simp [q])) hl
    rw [List.length_cons, show k + (us.length + 1) = k + 1 + us.length by omega]
    exact this
  | .k t :: us, w, k, h, hu, hl => by
    have ht : Sh t := hu (.k t) (by simp)
    have c : cA (.k t :: us) = cA us + 1 := rfl
    obtain ⟨o1, o2⟩ := h.outs (by omega)
    have := SI.run us (uK t w) (k + 1) ⟨by have := mrg_len (out w) 1 t; show (mrgK (out w) 1 t).length ≤ _; omega, fun s hs => by
        rcases mrg_mem hs with q | q | ⟨r, r1, r2, r3, r4⟩
        · exact o2 s q
        · rw [q]; exact ⟨ht, fs_nil⟩
        · have := o2 r r1; rw [r4]; exact this, fun y hy => by simp [uK] at hy⟩ (fun u q => hu u (by simp [q])) (by show 0 + cA us ≤ _; omega)
    rw [List.length_cons, show k + (us.length + 1) = k + 1 + us.length by omega]
    exact this
theorem nb_befs : ∀ {l : Steps}, (∀ s ∈ l, sErr s = 0) → (nb l : Int) = befs l
  | [], _ => rfl
  | s :: l, h => by
    have ih := nb_befs (l := l) (fun t ht => h t (by simp [ht]))
    have hz := h s (by simp)
    show (((if sk s = 1 then 0 else (sn s).toNat) + nb l : Nat) : Int) = addB s 0 + befs l
    unfold addB
    split
    · omega
    · rcases sErr_zero hz with ⟨h1, _⟩ | ⟨_, _, h3, _⟩
      · contradiction
      · omega
section
variable (f : Flow) (d : Steps) (hf : Fs f) (hd : Ds d) (hsz : f.length + eb d ≤ 349525) (hab : ∀ x ∈ f, ∀ s ∈ d, 2 * (ea x).length + (sa s).length ≤ 1048576)
include hf hd hsz hab
end
end Go.Ev.Delta
