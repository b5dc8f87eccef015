/- Flaky tasks succeed with tries alone: the law returns true for every code; no condition. -/
import Derived.Laws.BitsLemmas
import Derived.Test.YtidicbddlpeiiaaPureBools
import Derived.Test.YtidicbddlpeiiaaQx22
namespace Go.Proofs.Ytidicbddlpeiiaa.Pure
open Go.Proofs.Ytidicbddlpeiiaa.H Go.RowKit Go.Proofs.YtidicbddlpeiiaaW.PrintWords Go.Proofs.YtidicbddlpeiiaaW.PrintLast Go.Proofs.YtidicbddlpeiiaaW.PrintMore Go.Proofs.Ytidicbddlpeiiaa.Q
set_option linter.unusedSimpArgs false
set_option linter.unusedVariables false

set_option maxRecDepth 100000 in
theorem FnIsFlaky : laws_FnIsFlaky.Pure := by
  intro code _ _ hw
  by_cases hc : (code.length : Int) > 1048576
  · exact ⟨0, by unfold laws_FnIsFlaky.f; rw [if_pos hc]⟩
  obtain ⟨l, t, hd, hl, ht⟩ := DrawTryTask_all code hw
  have hl2 := allB_mem 7 l hl
  clear hl
  refine ⟨30, ?_⟩
  unfold laws_FnIsFlaky.f spec_DrawIsFlaky.f
  rw [if_neg hc, hd 30 (by omega)]
  simp only [Option.bind_some]
  clear hd hc hw
  revert t
  revert l
  decide +kernel

end Go.Proofs.Ytidicbddlpeiiaa.Pure
