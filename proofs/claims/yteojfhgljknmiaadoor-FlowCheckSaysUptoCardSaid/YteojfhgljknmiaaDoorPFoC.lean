
import Derived.Test.YteojfhgljknmiaaDoorPFof
import Derived.Test.YteojfhgljknmiaaDoorPRefs
namespace Go.Ev.Utf
open Go.Ev Go.Ev.Attr Go.Ev.Track Go.Ev.Delta
set_option linter.unusedVariables false
set_option linter.unusedSimpArgs false
theorem fc_loop (f : Flow) (hf : f.length ≤ 1048576) : L_law_FlowCheckSays_0 big big f [] (f.length : Int) 0 = some (ret_law_FlowCheckSays true) := by
  have hr : (refs f).length ≤ 1048576 := by
    have := refs_len f []
    simp only [List.length_nil] at this
    unfold refs; omega
  have q := range_all f (by omega) (fun m (s : List Int) i => L_law_FlowCheckSays_0 big m f s (f.length : Int) (i : Int)) (fun s x => .inl (ref1 s x)) (fun s => ret_law_FlowCheckSays (decide (refs f = s))) (fun i s => s.length ≤ i)
    (fun m i s hi hI => by
      rw [hop_inl]
      have st := L_law_FlowCheckSays_0_step big m f s (f.length : Int) (i : Int)
      have e2 : (f[i] : YElem.den).2.1 = er f[i] := rfl
      have b1 : (List.length (s : List Int) + List.length ([er f[i]] : List Int)) * 8 ≤ 140737488355328 := by simp only [List.length_cons, List.length_nil]; omega
      refine ⟨Nat.le_trans (ref1_len s f[i]) (by omega), ?_⟩
      rw [st, at_get (e := YElem) f i hi, ref_step]
      simp only [dlt hi, if_pos ((inb i f.length).2 hi), e2, if_pos b1, wsucc hi (show f.length ≤ _ by omega)]
      cases (er f[i] != 0) <;> rfl)
    (fun m s _ => by
      show L_law_FlowCheckSays_0 big (m + 1) f s (f.length : Int) (f.length : Int) = _
      rw [L_law_FlowCheckSays_0_step, dlt_self, refs_eq f hf]
      simp only [bF, Option.bind_some, res_flow_Refs_0_ret, ints_eq _ _ hr, res_R_SameInts_0_ret]) [] (by simp)
  rw [foldO_inl] at q
  have h : decide (refs f = f.foldl ref1 []) = true := decide_eq_true rfl
  rw [h] at q
  exact q
theorem law_FlowCheck (c : Int) (f g : Flow) (text : Bool) (o0 : (Ty.int .i64).ok c) (o1 : (Ty.list YElem).ok f) (o2 : (Ty.list YElem).ok g) (o3 : (Ty.bool).ok text)
    (hb : (Ty.int .i64).bulk c + (Ty.list YElem).bulk f + (Ty.list YElem).bulk g + (Ty.bool).bulk text ≤ 1048576) : F_law_FlowCheckSays (c, f, g, text, ()) () = some (ret_law_FlowCheckSays true) := by
  show C_law_FlowCheckSays F_law_FlowCheckSays c f g text = _
  have hf : Fs f := fs_bulk (by omega)
  have ha : ∀ x ∈ f, (ea x).length ≤ 1048576 := fun x hx => (fs_mem hf hx).1
  rw [e_law_FlowCheckSays, flows_eq, char_eq, rchar_eq, (part_eq f hf).1, (part_eq f hf).2, (flow_eq f text hf).1, (flow_eq f text hf).2, fsame_eq f g hf.1 ha, sflow_eq f g hf]
  simp only [Option.bind_some, res_law_flows_0_ret, res_flow_Char_0_ret, res_R_Char_0_ret, res_flow_CheckPart_0_ret, res_R_PartError_0_ret, res_flow_Check_0_ret, res_R_FlowError_0_ret, res_flow_Same_0_ret, res_R_SameFlow_0_ret, bne_self_eq_false, Bool.not_true, beq_self_eq_true, bT, bF]
  exact fc_loop f hf.1
end Go.Ev.Utf
