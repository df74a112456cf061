
import Derived.Test.YteojfhgljknmiaaDoorPElem
import Derived.Test.YteojfhgljknmiaaDoorPInts
import Derived.Test.YteojfhgljknmiaaDoorGFlowC
namespace Go.Ev.Utf
open Go.Ev Go.Ev.Attr Go.Ev.Track Go.Ev.Delta
set_option linter.unusedVariables false
set_option linter.unusedSimpArgs false
def ref1 (s : List Int) (x : YElem.den) : List Int := if er x ≠ 0 then s ++ [er x] else s
def refs (f : Flow) : List Int := f.foldl ref1 []
theorem foldO_inl {α S O : Type} (f : S → α → S) (g : S → O) : ∀ (l : List α) (s : S), foldO (fun s x => .inl (f s x)) g s l = g (l.foldl f s)
  | [], s => rfl
  | x :: l, s => by rw [foldO]; exact foldO_inl f g l _
theorem ref1_len (s : List Int) (x : YElem.den) : (ref1 s x).length ≤ s.length + 1 := by
  unfold ref1
  split
  · simp
  · omega
theorem refs_len : ∀ (f : Flow) (s : List Int), (f.foldl ref1 s).length ≤ s.length + f.length
  | [], s => by simp
  | x :: f, s => by
    have := refs_len f (ref1 s x)
    have h := ref1_len s x
    simp only [List.foldl_cons, List.length_cons]
    omega
theorem ref_step (s : List Int) (x : YElem.den) : ref1 s x = bcond (er x != 0) (s ++ [er x]) s := by
  unfold ref1
  by_cases h : er x = 0
  · simp [h, bcond]
  · have : (er x != 0) = true := by simpa using h
    rw [if_pos h, this]; rfl
theorem refs_eq (f : Flow) (hf : f.length ≤ 1048576) : C_flow_Refs F_flow_Refs f = some (ret_flow_Refs (refs f)) := by
  rw [e_flow_Refs]
  have q := range_all f (by omega) (fun m (s : List Int) i => L_flow_Refs_0 big m s f (f.length : Int) (i : Int)) (fun s x => .inl (ref1 s x)) (fun s => ret_flow_Refs s) (fun i s => s.length ≤ i)
    (fun m i s hi hI => by
      rw [hop_inl]
      have st := L_flow_Refs_0_step big m s f (f.length : Int) (i : Int)
      have e2 : (f[i] : YElem.den).2.1 = er f[i] := rfl
      have b1 : (List.length (s : List Int) + List.length ([er f[i]] : List Int)) * 8 ≤ 140737488355328 := by simp only [List.length_cons, List.length_nil]; omega
      refine ⟨Nat.le_trans (ref1_len s f[i]) (by omega), ?_⟩
      rw [st, at_get (e := YElem) f i hi, ref_step]
      simp only [dlt hi, if_pos ((inb i f.length).2 hi), e2, if_pos b1, wsucc hi (show f.length ≤ _ by omega)]
      cases (er f[i] != 0) <;> rfl)
    (fun m s _ => by
      show L_flow_Refs_0 big (m + 1) s f (f.length : Int) (f.length : Int) = _
      rw [L_flow_Refs_0_step, dlt_self]; rfl) [] (by simp)
  rw [foldO_inl] at q
  exact q
end Go.Ev.Utf
