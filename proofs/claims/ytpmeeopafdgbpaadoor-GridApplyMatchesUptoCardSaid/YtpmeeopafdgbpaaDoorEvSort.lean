/- Sorting: what slices.SortFunc does with an owned row of structs, by the library's contract. -/
import Derived.Test.YtpmeeopafdgbpaaDoorEvMd
import Derived.Shelf.SlSortCmp.NoneTotal
namespace Go.Ev
set_option linter.unusedVariables false
open Go.Proofs Go.Shelf Go.RowKit
/-- No two that differ tie. -/
def TieFree {A : Type} (cf : A → A → Int) (xs : List A) : Prop := ∀ x ∈ xs, ∀ y ∈ xs, ¬ cf x y < 0 → ¬ cf y x < 0 → x = y
def sorted {A : Type} (cf : A → A → Int) (xs : List A) : List A := xs.mergeSort fun x y => !decide (cf y x < 0)
/-- A list that is sorted, without ties, is the sorted one. -/
theorem sorted_eq {A : Type} {cf : A → A → Int} (hO : Go.Sort.SWO (ltOf cf)) {xs ys : List A} (ht : TieFree cf xs) (hp : ys.Perm xs) (hs : ys.Pairwise fun x y => ¬ cf y x < 0) : ys = sorted cf xs := by
  have hp2 : (sorted cf xs).Perm xs := List.mergeSort_perm _ _
  refine List.Perm.eq_of_pairwise (le := fun x y => ¬ cf y x < 0) (fun a b ha hb h1 h2 => ht a (hp.mem_iff.1 ha) b (hp2.mem_iff.1 hb) h2 h1) hs ?_ (hp.trans hp2.symm)
  have := List.pairwise_mergeSort (le := fun x y => !decide (cf y x < 0)) (fun a b c h1 h2 => by
    have e := hO.ntrans c b a
    simp only [ltOf] at e
    simp only [Bool.not_eq_true'] at h1 h2 ⊢
    exact e h2 h1) (fun a b => by
    have e := hO.trans b a b
    have i := hO.irrefl b
    simp only [ltOf] at e i
    cases h1 : decide (cf b a < 0) with
    | false => rfl
    | true =>
      cases h2 : decide (cf a b < 0) with
      | false => rfl
      | true => have h3 := e h1 h2; rw [i] at h3; cases h3) xs
  exact this.imp fun h => by simpa using h
section
variable {w : World} {S : Nat → Prop} {e : Ty}
/-- An element with its cells. -/
abbrev El (w : World) (S : Nat → Prop) (e : Ty) : Type := { p : e.den × List Value // rel w S e p.1 p.2 }
def El.enc (x : El w S e) : List Value := x.1.2
instance : Inhabited (El w S e) := ⟨⟨(e.zero, zcells e), rel_zero w S e⟩⟩
theorem rows_el : ∀ {xs : List e.den} {vs : List Value}, rows w S e xs vs → ∃ l : List (El w S e), l.map (fun x => x.1.1) = xs ∧ (l.map El.enc).flatten = vs
  | [], vs, h => by simp only [rows] at h; exact ⟨[], rfl, by rw [h]; rfl⟩
  | x :: xs, vs, h => by
    simp only [rows] at h
    obtain ⟨c, r, rfl, h1, h2⟩ := h
    obtain ⟨l, e1, e2⟩ := rows_el h2
    exact ⟨⟨(x, c), h1⟩ :: l, by simp [e1], by simp [e2, El.enc]⟩
theorem el_rows {w' : World} (hw : ∀ b, S b → w'.heap[b]? = w.heap[b]?) : ∀ l : List (El w S e), rows w' S e (l.map fun x => x.1.1) (l.map El.enc).flatten
  | [] => rfl
  | x :: l => ⟨x.1.2, _, rfl, rel_mono (fun _ h => h) hw x.2, el_rows hw l⟩
theorem flat_get {A : Type} [Inhabited A] (enc : A → List Value) (k : Nat) (hk : ∀ x, (enc x).length = k) (k0 : 0 < k) : ∀ (l : List A) (t : Nat), t < l.length * k → (l.map enc).flatten[t]? = some (enc l[t / k]!)[t % k]!
  | [], t, h => by simp at h
  | x :: l, t, h => by
    simp only [List.map_cons, List.flatten_cons]
    by_cases ht : t < k
    · rw [List.getElem?_append_left (by rw [hk]; exact ht), Nat.div_eq_of_lt ht, Nat.mod_eq_of_lt ht]
      have : t < (enc x).length := by rw [hk]; exact ht
      show _ = some (enc x)[t]!
      rw [List.getElem?_eq_getElem this, getElem!_pos (enc x) t this]
    · have ht : k ≤ t := Nat.le_of_not_lt ht
      rw [List.getElem?_append_right (by rw [hk]; exact ht), hk, flat_get enc k hk k0 l (t - k) (by simp only [List.length_cons, Nat.add_mul, Nat.one_mul] at h; omega)]
      have e1 : t / k = (t - k) / k + 1 := by
        have := Nat.sub_add_cancel ht
        rw [← this, Nat.add_div_right _ k0]; simp
      have e2 : t % k = (t - k) % k := by
        have := Nat.sub_add_cancel ht
        conv => lhs; rw [← this]
        rw [Nat.add_mod_right]
      rw [e1, e2]
      rfl
theorem flatK_toList {A : Type} [Inhabited A] (enc : A → List Value) (k : Nat) (hk : ∀ x, (enc x).length = k) (k0 : 0 < k) (d : Array A) : (Go.Sort.flatK enc k d).toList = (d.toList.map enc).flatten := by
  have hlen : (d.toList.map enc).flatten.length = d.size * k := by
    rw [List.length_flatten, List.map_map]
    have : (List.length ∘ enc) = fun _ => k := funext fun x => hk x
    rw [this, List.map_const', List.sum_replicate_nat]; simp
  apply List.ext_getElem?
  intro t
  by_cases ht : t < d.size * k
  · rw [flat_get enc k hk k0 _ t (by simpa using ht), Array.getElem?_toList, getElem?_pos _ t (by simpa using ht)]
    have := Go.Sort.get_flatK enc k d t ht
    rw [getElem!_pos _ t (by simpa using ht)] at this
    rw [this, show d.toList[t / k]! = d[t / k]! from Array.getElem!_toList]
  · rw [List.getElem?_eq_none (by rw [Array.length_toList, Go.Sort.size_flatK]; omega), List.getElem?_eq_none (by rw [hlen]; omega)]
/-- The world has the same blocks but one. -/
theorem sortWorld_heap {A : Type} [Inhabited A] (enc : A → List Value) (k : Nat) (w : World) (blk off m : Nat) (dk : Array A) (os : Array Obj) (c : Nat) (hc : c < w.heap.size) (hb : c ≠ blk) : (Go.Proofs.sortWorldK enc k w blk off m dk os).heap[c]? = w.heap[c]? := by
  unfold Go.Proofs.sortWorldK Go.Sort.grow Go.Sort.putRowK Go.Sort.putRow Go.Sort.mapBlock Go.Sort.ahead
  simp only
  rw [Array.getElem?_append_left (by simpa using hc), Array.getElem?_modify, if_neg (Ne.symm hb)]
theorem sortWorld_blk {A : Type} [Inhabited A] (enc : A → List Value) (k : Nat) (w : World) (blk m : Nat) (dk : Array A) (os : Array Obj) {cur : Array Value} {te : TypeId} {fr : Nat × Nat} (h : w.heap[blk]? = some (.cells cur te fr)) :
    (Go.Proofs.sortWorldK enc k w blk 0 m dk os).heap[blk]? = some (.cells (Go.Sort.putCells id 0 (Go.Sort.flatK enc k dk) cur) te fr) := by
  have hc := (Array.getElem?_eq_some_iff.1 h).1
  unfold Go.Proofs.sortWorldK Go.Sort.grow Go.Sort.putRowK Go.Sort.putRow Go.Sort.mapBlock Go.Sort.ahead
  simp only
  rw [Array.getElem?_append_left (by simpa using hc), Array.getElem?_modify, if_pos rfl, h]
  rfl
theorem sortWorld_size {A : Type} [Inhabited A] (enc : A → List Value) (k : Nat) (w : World) (blk off m : Nat) (dk : Array A) (os : Array Obj) : w.heap.size ≤ (Go.Proofs.sortWorldK enc k w blk off m dk os).heap.size := by
  unfold Go.Proofs.sortWorldK Go.Sort.grow Go.Sort.putRowK Go.Sort.putRow Go.Sort.mapBlock Go.Sort.ahead
  simp
theorem putCells_take (F cur : Array Value) (h : F.size ≤ cur.size) : (Go.Sort.putCells id 0 F cur).toList.take F.size = F.toList := by
  apply List.ext_getElem?
  intro t
  rw [List.getElem?_take]
  by_cases ht : t < F.size
  · rw [if_pos ht, Array.getElem?_toList, Array.getElem?_toList]
    unfold Go.Sort.putCells
    rw [Array.getElem?_mapIdx, getElem?_pos cur t (by omega), getElem?_pos F t ht]
    simp only [Option.map_some, Nat.zero_le, Nat.zero_add, true_and, Nat.sub_zero, id]
    rw [if_pos ht, getElem!_pos F t ht]
  · rw [if_neg ht, List.getElem?_eq_none (by simpa using ht)]
/-- A world that came of another one, without anything changed. -/
theorem grow_of {w w' : World} (hos : w'.os = w.os) (htape : w'.tape = w.tape) (hdr : w.drawn ≤ w'.drawn) (hout : w'.output = w.output) (hsz : w.heap.size ≤ w'.heap.size) (hfr : ∀ b, b < w.heap.size → w'.heap[b]? = w.heap[b]?) :
    ∃ q os', w' = Go.Sort.grow (w.drewN q) os' := by
  refine ⟨w'.drawn - w.drawn, w'.heap.extract w.heap.size w'.heap.size, ?_⟩
  have hh : w'.heap = w.heap ++ w'.heap.extract w.heap.size w'.heap.size := by
    apply Array.ext_getElem?
    intro t
    by_cases ht : t < w.heap.size
    · rw [Array.getElem?_append_left ht, hfr t ht]
    · rw [Array.getElem?_append_right (by omega), Array.getElem?_extract]
      by_cases h2 : t < w'.heap.size
      · rw [if_pos (by omega)]; congr 1; omega
      · rw [if_neg (by omega), Array.getElem?_eq_none (by omega)]
  obtain ⟨h, t, dr, o, ou⟩ := w
  obtain ⟨h', t', dr', o', ou'⟩ := w'
  simp only at hos htape hout hdr hh
  subst hos htape hout
  unfold Go.Sort.grow World.drewN
  simp only
  rw [← hh, show dr + (dr' - dr) = dr' from by omega]
end
/-- A comparison of two structs. -/
@[reducible] def sigC (e : Ty) : Sig := ⟨[.v true e, .v true e], [], [(false, [.fr (.int .i64)])]⟩
@[reducible] def sigS (te : TypeId) (e : Ty) (g : FuncId) : Sig := ⟨[.w te e, .f g []], [], []⟩
/-- What the comparison gives, as the sort asks it. -/
theorem cmp_lays {P : Program} {e : Ty} {g : FuncId} {G : (sigC e).Fn} (hg : Sound P g ⟨sigC e, G⟩) {cf : e.den → e.den → Int} (hG : ∀ x y, G (x, y, ()) () = some (((cf x y, ()), ()), ())) {w : World} {S : Nat → Prop} {blk size : Nat}
    (hS : ∀ b, S b → b < w.heap.size ∧ b ≠ blk) (hL : Lay w S) : CmpLays P g #[] (El.enc (w := w) (S := S) (e := e)) e.sz (fun x y => cf x.1.1 y.1.1) blk 0 size w := by
  intro m os dk hdk x y
  have hW : ∀ b, S b → (Go.Proofs.sortWorldK (El.enc (w := w) (S := S) (e := e)) e.sz w blk 0 m dk os).heap[b]? = w.heap[b]? := fun b hb => sortWorld_heap _ _ _ _ _ _ _ _ _ (hS b hb).1 (hS b hb).2
  have hsz := sortWorld_size (El.enc (w := w) (S := S) (e := e)) e.sz w blk 0 m dk os
  generalize Go.Proofs.sortWorldK (El.enc (w := w) (S := S) (e := e)) e.sz w blk 0 m dk os = W at hW hsz ⊢
  have hr : rel W S (.pair e e) (x.1.1, y.1.1) (x.1.2 ++ y.1.2) := ⟨_, _, rfl, rel_mono (fun _ h => h) hW x.2, rel_mono (fun _ h => h) hW y.2⟩
  have hls : outL (sigC e).ins (x.1.1, y.1.1, ()) = explode (.pair e e) (x.1.1, y.1.1) := by
    show explode e x.1.1 ++ (explode e y.1.1 ++ []) = _
    rw [List.append_nil]; rfl
  have hno : ∀ o b, pob (explode (.pair e e) (x.1.1, y.1.1)) (x.1.2 ++ y.1.2) 0 (fun _ => []) (fun _ => []) (fun _ => 0) o ≠ some b := by
    intro o b hb
    cases o with
    | arg j => simp only [pob, own1_explode] at hb; cases hb
    | box i => simp [pob] at hb
    | leaf i j => simp [pob] at hb
  have hh : Hand W S (outL (sigC e).ins (x.1.1, y.1.1, ())) (x.1.2 ++ y.1.2) 0 (fun _ => []) (fun _ => []) (fun _ => 0) := by
    rw [hls]
    exact ⟨by rw [rel_len hr, length_explode], fun j => LO_explode hr j, fun i hi => by omega, fun o1 o2 b e1 => absurd e1 (hno o1 b), fun o b e1 => absurd e1 (hno o b), fun b hb => by have := (hS b hb).1; omega, hL.mono (fun _ h => h) hW⟩
  have ha : ArgShape (fun _ => 0) (sigC e).ps [.agg x.1.2.toArray, .agg y.1.2.toArray] (x.1.2 ++ y.1.2) :=
    ⟨_, _, x.1.2, y.1.2, rfl, rfl, rel_len x.2, .inl ⟨rfl, rfl⟩, _, _, y.1.2, [], rfl, by simp, rel_len y.2, .inl ⟨rfl, rfl⟩, rfl, rfl⟩
  have := hg.call (x.1.1, y.1.1, ()) () _ (hG _ _) W S _ _ (fun _ => []) (fun _ => 0) hh ha
  simp only [Array.append_empty, El.enc]
  refine this.mono fun e' w' hR => ?_
  obtain ⟨v, rfl, ⟨⟨S', rc, bc, rh, rwl, rv, _⟩, hos, htape, hdr, hout, hgrow, hframe⟩⟩ := hR
  have hv : v = .int .i64 (cf x.1.1 y.1.1) := by
    obtain ⟨q1, q2⟩ := rv
    subst q2
    have h0 := rh.rel 0
    exact (by simpa [LO, outSlot, outR, outL, explode, Slot.leaves, lget, rel, wLs, wvs, splitB] using h0)
  refine ⟨by rw [hv], grow_of hos htape hdr hout hgrow fun b hb => hframe b hb fun ⟨o, he⟩ => ?_⟩
  rw [hls] at he
  exact hno o b he
/-- slices.SortFunc, of a row in which no two that differ tie. -/
theorem sort_sound {P : Program} {ρ : Ren} (L : SlLaysF0.n6 P ρ) {T : TypeId → Option TI} (hT : TOk P T) {te : TypeId} (hte : ρ.t 24 = te) {ti : TI} (hti : T te = some ti) (hag : ti.agg = true) {g : FuncId} {G : (sigC ti.ty).Fn} (hg : Sound P g ⟨sigC ti.ty, G⟩)
    {cf : ti.ty.den → ti.ty.den → Int} (hG : ∀ x y, G (x, y, ()) () = some (((cf x y, ()), ()), ())) (hO : Go.Sort.SWO (ltOf cf)) (heg : ∀ args w, (callFunc g args).run P w = .ok (.enter g args) w) {f : FuncId} (hf : ρ.f 6 = f)
    (hfn : ∃ fn, P.funcs[f]? = some fn ∧ fn.body.isNone = false ∧ (fn.name == "runtime.NumGoroutine") = false) (F : (sigS te ti.ty g).Fn) (hF : ∀ x out, F x () = some out → (TieFree cf x.1 ∧ x.1.length < 4611686018427387904) ∧ out = ((), ((sorted cf x.1, ()), ()))) : Sound P f ⟨sigS te ti.ty g, F⟩ := by
  subst hf
  refine ⟨rfl, (fun ks hks => by cases hks), hfn, ?_⟩
  rintro ⟨xs, ⟨⟩⟩ ⟨⟩ out hout w S vs cs bc bk hh ha
  obtain ⟨⟨htf, hlt⟩, rfl⟩ := hF _ _ hout
  obtain ⟨v, vs', cs', rfl, rfl, vs'', rfl, rfl, rfl⟩ := ha
  have h0 : ownR w S te ti.ty xs v := hh.rel 0
  have hback : ∀ (w' : World), w'.os = w.os → w'.tape = w.tape → w.drawn ≤ w'.drawn → w'.output = w.output → w.heap.size ≤ w'.heap.size → (∀ b, b < w.heap.size → v.ownBlock ≠ some b → w'.heap[b]? = w.heap[b]?) → ownR w' S te ti.ty (sorted cf xs) v →
      Back (sigS te ti.ty g) w w' S (fun b => ∃ o, pob (outL (sigS te ti.ty g).ins (xs, ())) [v] 0 (boxLs [] ()) bc bk o = some b) bk [v] (.tuple #[]) ((), ((sorted cf xs, ()), ())) := by
    intro w' h1 h2 h3 h4 h5 h6 h7
    have hM : ∀ b, v.ownBlock = some b → pob (outL (sigS te ti.ty g).ins (xs, ())) [v] 0 (boxLs [] ()) bc bk (.arg 0) = some b := fun b hb => hb
    have hp : ∀ o b, pob [Leaf.own te ti.ty (sorted cf xs)] [v] 0 (boxLs [] ()) (fun _ => []) bk o = some b → o = .arg 0 ∧ v.ownBlock = some b := by
      intro o b hb
      cases o with
      | arg j => cases j with
        | zero => exact ⟨rfl, hb⟩
        | succ j => simp [pob, own1, lget, Leaf.isOwn] at hb
      | box i => simp [pob] at hb
      | leaf i j => simp [pob] at hb
    refine ⟨⟨S, [], fun _ => [], ⟨rfl, fun j => ?_, fun i hi => absurd hi (Nat.not_lt_zero _), fun o1 o2 b e1 e2 => ?_, fun o b e1 => ?_, fun b hb => Nat.lt_of_lt_of_le (hh.sb b hb) h5, ?_⟩, rfl, ⟨rfl, [], rfl, rfl, rfl⟩, fun _ h => h, fun _ h => .inl h, fun o b hb => .inl ⟨.arg 0, hM b (hp o b hb).2⟩⟩, h1, h2, h3, h4, h5, fun b hb hn => h6 b hb fun e => hn ⟨_, hM b e⟩⟩
    · cases j with
      | zero => exact h7
      | succ j => trivial
    · rw [(hp _ _ e1).1, (hp _ _ e2).1]
    · have := hh.fr (.arg 0) b (hM b (hp _ _ e1).2)
      exact ⟨this.1, Nat.lt_of_lt_of_le this.2 h5⟩
    · refine hh.lay.mono (fun _ h => h) fun b hb => h6 b (hh.sb b hb) fun e => ?_
      exact (hh.fr (.arg 0) b (hM b e)).1 hb
  have fin0 : xs = [] → sorted cf xs = [] := fun h => by rw [h]; exact List.mergeSort_nil
  rcases ownR_form h0 with ⟨rfl, rfl⟩ | ⟨b, cap, cur, rfl, hb, hn, hcap, hcs, hrw⟩
  · refine (AnyF.slices_SortFunc_none { L with } none 0 _ w).mono ?_
    rintro e w' ⟨rfl, rfl⟩
    exact ⟨_, rfl, hback w' rfl rfl (Nat.le_refl _) rfl (Nat.le_refl _) (fun _ _ _ => rfl) (by rw [fin0 rfl]; exact h0)⟩
  · by_cases hx : xs = []
    · subst hx
      refine (AnyF.slices_SortFunc_none { L with } (some ⟨b, 0, none⟩) cap _ w).mono ?_
      rintro e w' ⟨rfl, rfl⟩
      exact ⟨_, rfl, hback w' rfl rfl (Nat.le_refl _) rfl (Nat.le_refl _) (fun _ _ _ => rfl) (by rw [fin0 rfl]; exact h0)⟩
    have hSb : ∀ c, S c → c < w.heap.size ∧ c ≠ b := fun c hc => ⟨hh.sb c hc, fun e => (hh.fr (.arg 0) b rfl).1 (e ▸ hc)⟩
    have hblk : b < w.heap.size := (Array.getElem?_eq_some_iff.1 hb).1
    obtain ⟨l, hl1, hl2⟩ := rows_el hrw
    have hll : l.length = xs.length := by rw [← hl1]; simp
    have hk : ∀ x : El w S ti.ty, (El.enc x).length = ti.ty.sz := fun x => rel_len x.2
    have k0 : 0 < ti.ty.sz := sz_pos _
    have hH : Go.Sort.HoldsK (El.enc (w := w) (S := S) (e := ti.ty)) ti.ty.sz w b 0 l.toArray := by
      intro t ht
      have ht' : t < xs.length * ti.ty.sz := by simpa [hll] using ht
      have e1 := flatK_toList El.enc ti.ty.sz hk k0 l.toArray
      simp only at e1
      rw [hl2] at e1
      have e2 : (Go.Sort.flatK El.enc ti.ty.sz l.toArray)[t]? = cur[t]? := by
        rw [← Array.getElem?_toList, e1, List.getElem?_take, if_pos ht', Array.getElem?_toList]
      rw [getElem?_pos _ t ht] at e2
      refine ⟨?_, ?_⟩
      · rw [getElem!_pos _ t ht]
        simp only [World.cell?, hb, Nat.zero_add, Option.isSome_none, Bool.false_eq_true, if_false]
        exact e2.symm
      · simp [World.frozen?, hb]
    have hsz : l.toArray.size < 4611686018427387904 := by
      rw [List.size_toArray, hll]
      exact hlt
    have hO' : Go.Sort.SWO (ltOf fun x y : El w S ti.ty => cf x.1.1 y.1.1) := ⟨fun x => hO.irrefl x.1.1, fun x y z => hO.trans x.1.1 y.1.1 z.1.1, fun x y z => hO.ntrans x.1.1 y.1.1 z.1.1⟩
    have hc := cmp_lays hg hG (blk := b) (size := l.toArray.size) hSb hh.lay
    have key := AnyQ.slices_SortFunc L ti.ty.sz (fun w => by rw [hte, hT.isAgg hti, hag]) (fun w => by rw [hte]; exact hT.sizeOf hti w) El.enc hk (fun x v hv => rel_one x.2 v hv) _ hO' g #[] b 0 cap l.toArray w heg hc hH hblk hsz
    simp only [List.size_toArray, hll] at key
    refine key.mono ?_
    rintro e w' ⟨rfl, d', n, os, ⟨hd1, _, hd3⟩, hd4, rfl⟩
    have hds : d'.size = xs.length := by rw [hd1]; simpa using hll
    have hperm : d'.toList.Perm l := by
      have e1 : d'.extract 0 xs.length = d' := by rw [← hds]; exact Array.extract_size
      have e2 : l.toArray.extract 0 xs.length = l.toArray := by rw [← hll]; exact Array.extract_size
      rw [e1, e2] at hd3
      exact hd3
    have hxs : d'.toList.map (fun x => x.1.1) = sorted cf xs := by
      refine sorted_eq hO htf ?_ ?_
      · rw [← hl1]; exact hperm.map _
      · rw [List.pairwise_map, List.pairwise_iff_getElem]
        intro i j hi hj hij
        have hi' : i < d'.size := by simpa using hi
        have hj' : j < d'.size := by simpa using hj
        have := hd4 i j (Nat.zero_le _) hij (by rw [← hds]; exact hj')
        rw [getElem!_pos d' i hi', getElem!_pos d' j hj'] at this
        simp only [ltOf, decide_eq_false_iff_not] at this
        simpa using this
    refine ⟨_, rfl, hback _ rfl rfl (Nat.le_add_right _ _) rfl (sortWorld_size _ _ _ _ _ _ _ _) (fun c hc hne => sortWorld_heap _ _ _ _ _ _ _ _ _ hc fun e => hne (by rw [e]; rfl)) ?_⟩
    have hF : (Go.Sort.flatK El.enc ti.ty.sz d').toList = (d'.toList.map El.enc).flatten := flatK_toList El.enc ti.ty.sz hk k0 d'
    have hFs : (Go.Sort.flatK (El.enc (w := w) (S := S) (e := ti.ty)) ti.ty.sz d').size = xs.length * ti.ty.sz := by simp [hds]
    have hle : xs.length * ti.ty.sz ≤ cur.size := by rw [hcs]; exact Nat.mul_le_mul_right _ hn
    have hlen : (sorted cf xs).length = xs.length := by rw [← hxs]; simpa using hds
    refine ⟨(d'.toList.map El.enc).flatten, ?_, ?_, .inr ⟨b, cap, _, by rw [hlen], Nat.zero_le _, sortWorld_blk _ _ _ _ _ _ _ hb, by rw [hlen]; exact hn, hcap, by simpa [Go.Sort.putCells] using hcs, ?_⟩⟩
    · rw [← hxs]
      exact el_rows (fun c hc => sortWorld_heap _ _ _ _ _ _ _ _ _ (hSb c hc).1 (hSb c hc).2) _
    · rw [← hF, hlen]; simp [hds]
    · rw [hlen, ← hFs, putCells_take _ _ (by rw [hFs]; exact hle), hF]
open Classical in
/-- The sort, by whatever the comparison gives. -/
noncomputable def sortF {te : TypeId} {e : Ty} {g : FuncId} (G : (sigC e).Fn) : (sigS te e g).Fn := fun x _ =>
  if h : ∃ cf : e.den → e.den → Int, (∀ x y, G (x, y, ()) () = some (((cf x y, ()), ()), ())) ∧ Go.Sort.SWO (ltOf cf) ∧ TieFree cf x.1 ∧ x.1.length < 4611686018427387904 then some ((), ((sorted (Classical.choose h) x.1, ()), ())) else none
theorem sortF_eq {te : TypeId} {e : Ty} {g : FuncId} {G : (sigC e).Fn} {cf : e.den → e.den → Int} (hG : ∀ x y, G (x, y, ()) () = some (((cf x y, ()), ()), ())) (hO : Go.Sort.SWO (ltOf cf)) {xs : List e.den} (ht : TieFree cf xs) (hl : xs.length < 4611686018427387904) :
    sortF (te := te) (g := g) G (xs, ()) () = some ((), ((sorted cf xs, ()), ())) := by
  have h : ∃ cf : e.den → e.den → Int, (∀ x y, G (x, y, ()) () = some (((cf x y, ()), ()), ())) ∧ Go.Sort.SWO (ltOf cf) ∧ TieFree cf xs ∧ xs.length < 4611686018427387904 := ⟨cf, hG, hO, ht, hl⟩
  have e1 : Classical.choose h = cf := by
    funext x y
    have := (Classical.choose_spec h).1 x y
    rw [hG x y] at this
    exact (congrArg (fun r : (sigC e).Out => (r.1.1.1 : Int)) (Option.some.inj this)).symm
  unfold sortF
  rw [dif_pos h, e1]
  rfl
theorem sort_given {P : Program} {ρ : Ren} (L : SlLaysF0.n6 P ρ) {T : TypeId → Option TI} (hT : TOk P T) {te : TypeId} (hte : ρ.t 24 = te) {ti : TI} (hti : T te = some ti) (hag : ti.agg = true) {g : FuncId} {G : (sigC ti.ty).Fn} (hg : Sound P g ⟨sigC ti.ty, G⟩)
    (heg : ∀ args w, (callFunc g args).run P w = .ok (.enter g args) w) {f : FuncId} (hf : ρ.f 6 = f) (hfn : ∃ fn, P.funcs[f]? = some fn ∧ fn.body.isNone = false ∧ (fn.name == "runtime.NumGoroutine") = false) : Sound P f ⟨sigS te ti.ty g, sortF G⟩ := by
  refine ⟨rfl, (fun ks hks => by cases hks), hfn, fun x y out hout w S vs cs bc bk hh ha => ?_⟩
  have hout : sortF (te := te) (g := g) G x y = some out := hout
  unfold sortF at hout
  split at hout
  · rename_i h
    obtain ⟨hG, hO, ht, hl⟩ := Classical.choose_spec h
    generalize Classical.choose h = cf at hG hO ht hl hout
    have key := sort_sound L hT hte hti hag hg hG hO heg hf hfn (fun z _ => open Classical in if TieFree cf z.1 ∧ z.1.length < 4611686018427387904 then some ((), ((sorted cf z.1, ()), ())) else none) (fun z o hz => by
      simp only at hz
      split at hz
      · rename_i hc
        injection hz with hz
        exact ⟨hc, hz.symm⟩
      · cases hz)
    refine key.call x y out ?_ w S vs cs bc bk hh ha
    simp only
    rw [if_pos ⟨ht, hl⟩]
    exact hout
  · cases hout
end Go.Ev
