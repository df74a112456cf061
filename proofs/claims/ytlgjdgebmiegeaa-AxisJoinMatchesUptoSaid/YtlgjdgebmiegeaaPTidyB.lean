
import Derived.Test.YtlgjdgebmiegeaaPUnit
import Derived.Test.YtlgjdgebmiegeaaGTidy
namespace Go.Ev.Delta
open Go.Ev Go.Ev.Attr Go.Ev.Track
set_option linter.unusedVariables false
set_option linter.unusedSimpArgs false
structure TOk' (s : YStep.den) : Prop where
  k : sk s = 0 ∨ sk s = 1 ∨ sk s = 2
  n : 0 ≤ sn s ∧ sn s ≤ 2147483647
  z : sk s = 1 → sn s = 0 ∧ pErr (se s) = 0
  e : sk s ≠ 1 → se s = []
  a : Attr.err true (sa s) = 0
structure Ti (w : W) (k : Nat) : Prop where
  lo : w.1.length ≤ 3 * k
  sn : ∀ s ∈ w.1, 0 ≤ sn s ∧ sn s ≤ k * 2147483648
  ss : ∀ s ∈ w.1, Ss s
  a : ∀ x ∈ w.2.1, Sh (ea x)
  c : 0 ≤ w.2.2 ∧ w.2.2 ≤ 2147483647
theorem Ti.outs {w : W} {k : Nat} (h : Ti w k) (hl : w.2.1.length ≤ 1048576) : ∀ s ∈ out w, (0 ≤ Delta.sn s ∧ Delta.sn s ≤ k * 2147483648 + 2147483647) ∧ Ss s := fun s hs => by
  have hc := h.c
  rcases fl_mem hs with q | q | q
  · have := h.sn s q
    exact ⟨by omega, h.ss s q⟩
  · rw [q.1, sn_mk]
    exact ⟨by omega, sh_nil, fs_of hl h.a⟩
  · rw [q.1, sn_mk]
    exact ⟨by omega, sh_nil, fs_nil⟩
theorem Ti.wy {w : W} {k : Nat} (h : Ti w k) (hl : w.2.1.length ≤ 1048576) (hk : k ≤ 349524) : Wy (out w) ∧ Ds (out w) := by
  have h1 := h.lo
  have h2 : (out w).length ≤ 3 * k + 2 := by have := fl_len w.1 w.2.1 w.2.2; unfold out; omega
  refine ⟨⟨by omega, fun s hs => ?_, fun s hs => ((h.outs hl s hs).2).1.1⟩, ds_of (by omega) fun s hs => (h.outs hl s hs).2⟩
  have := (h.outs hl s hs).1
  omega
theorem Ti.step {w : W} {k : Nat} (h : Ti w k) (hl : w.2.1.length ≤ 1048576) {s : YStep.den} (ht : TOk' s) (hs : Ss s) (hc : sk s = 2 → w.2.2 + Delta.sn s ≤ 2147483647) : Ti (stT s w) (k + 1) := by
  have h1 := h.lo
  have h4 := h.c
  have hn := ht.n
  have kk : ((k + 1 : Nat) : Int) * 2147483648 = k * 2147483648 + 2147483648 := by omega
  unfold stT
  split
  · refine ⟨by show w.1.length ≤ _; omega, fun q hq => ?_, h.ss, fun x hx => ?_, h4⟩
    · have := h.sn q hq; omega
    · rcases List.mem_append.1 hx with hx | hx
      · exact h.a x hx
      · exact fs_mem hs.2 hx
  · split
    · rename_i k2
      have := hc k2
      refine ⟨by show w.1.length ≤ _; omega, fun q hq => ?_, h.ss, h.a, ?_⟩
      · have := h.sn q hq; omega
      · show 0 ≤ w.2.2 + Delta.sn s ∧ w.2.2 + Delta.sn s ≤ _; omega
    · split
      · refine ⟨by omega, fun q hq => ?_, h.ss, h.a, h4⟩
        have := h.sn q hq; omega
      · refine ⟨?_, fun q hq => ?_, fun q hq => ?_, fun x hx => by simp at hx, ?_⟩
        · have q1 := mrg_len (out w) (Delta.sn s) (sa s)
          have q2 := fl_len w.1 w.2.1 w.2.2
          show (mrgK (out w) _ _).length ≤ _
          unfold out at q1 ⊢; omega
        · rcases mrg_mem hq with z | z | ⟨r, r1, r2, r3, r4⟩
          · have := (h.outs hl q z).1; omega
          · rw [z, sn_mk]; omega
          · rw [r4, sn_mk]
            rcases fl_mem r1 with y | y | y
            · have := h.sn r y; omega
            · rw [y.1, sk_mk] at r2; cases r2
            · rw [y.1, sk_mk] at r2; cases r2
        · rcases mrg_mem hq with z | z | ⟨r, r1, r2, r3, r4⟩
          · exact (h.outs hl q z).2
          · rw [z]; exact ⟨hs.1, fs_nil⟩
          · have := (h.outs hl r r1).2; rw [r4]; exact this
        · show (0 : Int) ≤ 0 ∧ (0 : Int) ≤ 2147483647; omega
theorem ti0 : Ti w0 0 := ⟨by simp [w0], fun s h => by simp [w0] at h, fun s h => by simp [w0] at h, fun s h => by simp [w0] at h, by simp [w0]⟩
end Go.Ev.Delta
