/- Operations, part G: numbers, texts, functions' values, tuples. -/
import Derived.Test.YtphlkpahfcainaaEvOpF
namespace Go.Ev
set_option linter.unusedVariables false
set_option linter.unusedSimpArgs false

section
variable {P : Program} {T : TypeId → Option TI} {env : Env} {X : Ctx} {σ : St} {a : Act} {w : World} {g : Gh} {A : Type} {r : A} {k : St → Option A} {K : Act → World → Prop} {Q : Exit → Act → World → Prop}
  {d : Option Tmp} {ty : TypeId} {pos : String} {aft : Array Edge} {gd : Option (Nat × Bool)}

theorem op_unOp {u : UnOp} {t : TypeId} {x : Operand} (h : Rel X σ a w g) (hN : X.N ≤ σ.length) (ho : OpIn X.N ⟨d, .unOp u t x, ty, pos, aft, gd⟩) (hk : opK T env ⟨d, .unOp u t x, ty, pos, aft, gd⟩ σ k = some r) (hK : Nx X σ.length k r K) :
    Oper.wpS P ⟨d, .unOp u t x, ty, pos, aft, gd⟩ a w K := by
  have hx := rd1_ok h hN x (ho.ops x (by simp [Op.operands]))
  simp only [opK] at hk
  split at hk
  · rename_i b hb
    rw [hb] at hx
    have hv := LR_bool hx
    exact resL (l := .val .bool (!b)) (v := .bool (!b)) h hN ho (by simp [execOp, hv, Op.unary]) rfl rfl hk hK
  · rename_i kk i hb
    rw [hb] at hx
    have hv := LR_int hx
    exact resL (l := .val (.int kk) (kk.wrap (0 - (i : Int)))) (v := .int kk (kk.wrap (0 - (i : Int)))) h hN ho (by simp [execOp, hv, Op.unary, Op.intArith]) rfl rfl hk hK
  · cases hk

theorem op_convert {t t' : TypeId} {x : Operand} (hT : TOk P T) (h : Rel X σ a w g) (hN : X.N ≤ σ.length) (ho : OpIn X.N ⟨d, .convert t t' x, ty, pos, aft, gd⟩) (hk : opK T env ⟨d, .convert t t' x, ty, pos, aft, gd⟩ σ k = some r) (hK : Nx X σ.length k r K) :
    Oper.wpS P ⟨d, .convert t t' x, ty, pos, aft, gd⟩ a w K := by
  have hx := rd1_ok h hN x (ho.ops x (by simp [Op.operands]))
  simp only [opK] at hk
  split at hk
  rotate_left
  · cases hk
  rename_i si ti hsi hti
  split at hk
  · rename_i k1 k2 i e1 e2 hl
    split at hk
    · cases hk
    rename_i hag
    have ha1 : ti.agg = false := by cases hh : ti.agg <;> simp_all
    have ha2 : si.agg = false := by cases hh : si.agg <;> simp_all
    have h1 := hT.sca _ _ hsi ha2
    have h2 := hT.sca _ _ hti ha1
    rw [e1] at h1
    rw [e2] at h2
    rw [hl] at hx
    have hv := LR_int hx
    exact resL (l := .val (.int k1) (k1.wrap i)) (v := .int k1 (k1.wrap i)) h hN ho (by simp [execOp, hv, convert, run_underlying h1, run_underlying h2, Conv.intToInt]) rfl rfl hk hK
  · rename_i s e1 e2 hl
    split at hk
    · cases hk
    rename_i hag
    have ha1 : ti.agg = false := by cases hh : ti.agg <;> simp_all
    have ha2 : si.agg = false := by cases hh : si.agg <;> simp_all
    have h1 := hT.sca _ _ hsi ha2
    have h2 := hT.sca _ _ hti ha1
    rw [e1] at h1
    rw [e2] at h2
    rw [hl] at hx
    have hv := LR_str hx
    exact resL (l := .val .str s) h hN ho (by simp [execOp, hv, convert, run_underlying h1, run_underlying h2]) rfl rfl hk hK
  · cases hk

theorem op_index {t : TypeId} {x ix : Operand} (hT : TOk P T) (h : Rel X σ a w g) (hN : X.N ≤ σ.length) (ho : OpIn X.N ⟨d, .index t x ix, ty, pos, aft, gd⟩) (hk : opK T env ⟨d, .index t x ix, ty, pos, aft, gd⟩ σ k = some r) (hK : Nx X σ.length k r K) :
    Oper.wpS P ⟨d, .index t x ix, ty, pos, aft, gd⟩ a w K := by
  have hx := rd1_ok h hN x (ho.ops x (by simp [Op.operands]))
  have hi := rd1_ok h hN ix (ho.ops ix (by simp [Op.operands]))
  simp only [opK] at hk
  cases hti : T t with
  | none => rw [hti] at hk; cases hk
  | some ti =>
  rw [hti] at hk
  simp only at hk
  split at hk
  · cases hk
  rename_i hag
  have hag : ti.agg = false := by simpa using hag
  have hsc := hT.sca t ti hti hag
  split at hk
  rotate_left
  · cases hk
  rename_i s kk i hty hl hil
  rw [hty] at hsc
  rw [hl] at hx
  rw [hil] at hi
  have hv := LR_str hx
  have hiv := LR_int hi
  split at hk
  · rename_i hb
    have hlt := toNat_lt' hb.1 hb.2
    refine resL (l := .val (.int .u8) ((List.getD s (Int.toNat i) 0).toNat : Int)) (v := .int .u8 ((List.getD s (Int.toNat i) 0).toNat : Int)) h hN ho ?_ rfl rfl hk hK
    have hg : (⟨s.toArray⟩ : ByteArray)[Int.toNat i]? = some (s.getD (Int.toNat i) 0) := by
      have hsz : Int.toNat i < (⟨s.toArray⟩ : ByteArray).size := by simpa [ByteArray.size] using hlt
      have e1 : (⟨s.toArray⟩ : ByteArray)[Int.toNat i]? = if hh : Int.toNat i < (⟨s.toArray⟩ : ByteArray).size then some ((⟨s.toArray⟩ : ByteArray)[Int.toNat i]) else none := rfl
      rw [e1, dif_pos hsz]
      have e2 : (⟨s.toArray⟩ : ByteArray)[Int.toNat i] = s.toArray[Int.toNat i]'(by simpa using hlt) := rfl
      rw [e2]
      simp [List.getD_eq_getElem?_getD, hlt]
    simp [execOp, hv, hiv, Instr.index, asIntOf, run_underlying hsc, hb.1, hg]
  · cases hk

theorem op_makeFunc {f : Fn} {first captured : Array Operand} (h : Rel X σ a w g) (hN : X.N ≤ σ.length) (ho : OpIn X.N ⟨d, .makeFunc f first captured, ty, pos, aft, gd⟩) (hk : opK T env ⟨d, .makeFunc f first captured, ty, pos, aft, gd⟩ σ k = some r) (hK : Nx X σ.length k r K) :
    Oper.wpS P ⟨d, .makeFunc f first captured, ty, pos, aft, gd⟩ a w K := by
  cases f with
  | func f =>
    simp only [opK] at hk
    split at hk
    · rename_i hall
      simp only [Bool.and_eq_true] at hall
      obtain ⟨hfirst, hall⟩ := hall
      have hcap : ∀ x ∈ captured.toList, ∃ b, rd1 σ x = .ptr b 0 ∧ a.eval x = .pointer (some ⟨g.blk b, 0, none⟩) ∧ isBox σ b := by
        intro x hx
        have hx1 := rd1_ok h hN x (ho.ops x (by
          have : x ∈ captured := by simpa using hx
          simp [Op.operands, this]))
        have := List.all_eq_true.1 hall (rd1 σ x) (List.mem_map_of_mem hx)
        split at this
        · rename_i b hb
          rw [hb] at hx1
          exact ⟨b, hb, hx1.1, hx1.2⟩
        · cases this
      have hf : first = #[] := by
        have : first.toList = [] := by simpa using hfirst
        exact Array.toList_eq_nil_iff.1 this
      subst hf
      refine resL (l := .clo f _) (v := .func (.func f) #[] (captured.map a.eval)) h hN ho (by simp [execOp, Instr.makeFunc]) ⟨?_, ?_⟩ rfl hk hK
      · congr 1
        apply Array.ext'
        simp only [Array.toList_map, List.map_map, List.toList_toArray]
        apply List.map_congr_left
        intro x hx
        obtain ⟨b, h1, h2, _⟩ := hcap x hx
        simp [h1, h2]
      · intro b hb
        simp only [List.map_map, List.mem_map] at hb
        obtain ⟨x, hx, rfl⟩ := hb
        obtain ⟨b, h1, _, h3⟩ := hcap x hx
        simpa [h1] using h3
    · cases hk
  | _ => simp [opK] at hk

theorem tupR_get : ∀ {ks : List (Bool × Nat)} {vs cs : List Value} {i : Nat} {ag : Bool} {n : Nat}, tupR ks vs cs → ks[i]? = some (ag, n) →
    ∃ v c, vs[i]? = some v ∧ c = (cs.drop ((ks.take i).map (·.2)).sum).take n ∧ c.length = n ∧ (ag = true ∧ v = .agg c.toArray ∨ ag = false ∧ c = [v])
  | [], _, _, i, _, _, _, hi => by simp at hi
  | (a0, n0) :: ks, vs, cs, 0, ag, n, h, hi => by
    obtain ⟨v, vs', c, cs', rfl, rfl, h3, h4, h5⟩ := h
    simp only [List.getElem?_cons_zero, Option.some.injEq, Prod.mk.injEq] at hi
    obtain ⟨rfl, rfl⟩ := hi
    exact ⟨v, c, rfl, by simp [← h3], h3, h4⟩
  | (a0, n0) :: ks, vs, cs, i + 1, ag, n, h, hi => by
    obtain ⟨v, vs', c, cs', rfl, rfl, h3, h4, h5⟩ := h
    simp only [List.getElem?_cons_succ] at hi
    obtain ⟨v2, c2, h6, h7, h8⟩ := tupR_get h5 hi
    refine ⟨v2, c2, by simpa using h6, ?_, h8⟩
    rw [h7, List.take_succ_cons, List.map_cons, List.sum_cons]
    generalize (List.map (fun x => x.snd) (List.take i ks)).sum = S
    simp only
    have e1 : List.drop (n0 + S) (c ++ cs') = List.drop S cs' := by
      rw [List.drop_append, show List.drop (n0 + S) c = [] from List.drop_eq_nil_of_le (by omega), List.nil_append]
      congr 1
      omega
    rw [e1]

theorem op_extract {x : Operand} {i : Nat} (h : Rel X σ a w g) (hN : X.N ≤ σ.length) (ho : OpIn X.N ⟨d, .extract x i, ty, pos, aft, gd⟩) (hk : opK T env ⟨d, .extract x i, ty, pos, aft, gd⟩ σ k = some r) (hK : Nx X σ.length k r K) :
    Oper.wpS P ⟨d, .extract x i, ty, pos, aft, gd⟩ a w K := by
  simp only [opK] at hk
  cases x with
  | tmp s =>
    have hs : s < X.N := ho.ops (.tmp s) (by simp [Op.operands]) s rfl
    simp only at hk
    have hsh := h.sh s (Nat.lt_of_lt_of_le hs hN)
    have hview := fun j => LR_view h s j
    cases hg : gs σ s with
    | tup ks ls =>
      rw [hg] at hk hsh
      simp only [hg] at hview
      simp only at hk
      cases hki : ks[i]? with
      | none => rw [hki] at hk; cases hk
      | some an =>
      obtain ⟨ag, n⟩ := an
      rw [hki] at hk
      simp only at hk
      obtain ⟨vs, h1, h2⟩ := hsh
      obtain ⟨v, c, h3, h4, h5, h6⟩ := tupR_get h2 hki
      have hv : v = mkV ag c := by
        rcases h6 with ⟨rfl, rfl⟩ | ⟨rfl, rfl⟩ <;> rfl
      generalize hoff : ((ks.take i).map (·.2)).sum = off at *
      have hcs : c.length = min n (ls.length - off) := by
        rw [h4]; simp
      refine resVp h hN ho (ag := ag) (cs := c) ?_ (by simp [length_ltake, length_ldrop]; omega) (fun ha => ?_) (fun j => ?_) (fun j => view_own _ _ _ _) hk hK
      · have : (a.tmps.getD s undef) = .tuple vs.toArray := h1
        rw [← hv]
        simp [execOp, Act.eval, this, Instr.extract, h3]
      · rcases h6 with ⟨rfl, _⟩ | ⟨_, rfl⟩
        · cases ha
        · rfl
      · rw [lget_view, lget_ltake]
        by_cases hj : j < n
        · rw [if_pos hj, lget_ldrop]
          have := hview (off + j)
          have hc : c.getD j undef = g.c ⟨s, off + j⟩ := by
            rw [h4]
            simp only [List.getD_eq_getElem?_getD, List.getElem?_take, hj, if_true, List.getElem?_drop]
            have : off + j < ls.length := by omega
            simp [cellsL, this]
          rw [hc]
          exact this
        · rw [if_neg hj]; trivial
    | _ => rw [hg] at hk; cases hk
  | _ => cases hk

end
end Go.Ev
