/- The program's DelayOf is the reference's; no condition. -/
import Derived.Laws.BitsLemmas
import Derived.Test.YtidicbddlpeiiaaPureDelay
import Derived.Test.YtidicbddlpeiiaaQx3
namespace Go.Proofs.Ytidicbddlpeiiaa.Pure
open Go.Proofs.Ytidicbddlpeiiaa.H Go.RowKit Go.Proofs.YtidicbddlpeiiaaW.PrintWords Go.Proofs.YtidicbddlpeiiaaW.PrintLast Go.Proofs.YtidicbddlpeiiaaW.PrintMore Go.Proofs.Ytidicbddlpeiiaa.Q
set_option linter.unusedSimpArgs false
set_option linter.unusedVariables false

theorem FnExactDelayOf : laws_FnExactDelayOf.Pure := by
  intro a0 _
  refine ⟨7, ?_⟩
  unfold laws_FnExactDelayOf.f
  rw [DelayOf_same a0 7 (by omega)]
  simp [impl_DelayOf.f]

end Go.Proofs.Ytidicbddlpeiiaa.Pure
