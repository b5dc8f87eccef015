/- Delays are bounded: the law returns true for every code; no condition. -/
import Derived.Laws.BitsLemmas
import Derived.Test.YtidicbddlpeiiaaPurePick
import Derived.Test.YtidicbddlpeiiaaPureDelay
import Derived.Test.YtidicbddlpeiiaaQx12
namespace Go.Proofs.Ytidicbddlpeiiaa.Pure
open Go.Proofs.Ytidicbddlpeiiaa.H Go.RowKit Go.Proofs.YtidicbddlpeiiaaW.PrintWords Go.Proofs.YtidicbddlpeiiaaW.PrintLast Go.Proofs.YtidicbddlpeiiaaW.PrintMore Go.Proofs.Ytidicbddlpeiiaa.Q
set_option linter.unusedSimpArgs false
set_option linter.unusedVariables false

theorem DrawDelayOf_all (code : List Int) (h : ∀ x ∈ code, (Lit.int .u8 x).wf = true) :
    ∃ n, (∀ k, spec_DrawDelayOf.f (k + 1) code = some n) ∧ n ∈ ([-1, 0, 1, 2, 3, 4, 5, 6] : List Int) := by
  obtain ⟨b, hb0, hbl, hb⟩ := newReader_all code h
  obtain ⟨r, hr, r0, r1, _⟩ := pick_all b hb hbl 0 8 (by omega) (by omega)
  have r1 := r1 (by omega)
  refine ⟨r - 1, fun k => ?_, ?_⟩
  · unfold spec_DrawDelayOf.f
    rw [hb0]
    simp only [Option.bind_some]
    rw [hr]
    simp only [Option.bind_some]
    rw [w64 _ (by omega) (by omega)]
  · simp only [List.mem_cons, List.not_mem_nil, or_false]
    omega
set_option maxRecDepth 100000 in
theorem FnDelayOfBound : laws_FnDelayOfBound.Pure := by
  intro code _ _ hw
  by_cases hc : (code.length : Int) > 1048576
  · exact ⟨0, by unfold laws_FnDelayOfBound.f; rw [if_pos hc]⟩
  obtain ⟨n, hd, hn⟩ := DrawDelayOf_all code hw
  refine ⟨20, ?_⟩
  unfold laws_FnDelayOfBound.f
  rw [if_neg hc, hd 19]
  simp only [Option.bind_some]
  clear hd hc hw
  revert n
  decide +kernel

end Go.Proofs.Ytidicbddlpeiiaa.Pure
