/- The program's ValidRoom is the reference's, for all arguments. -/
import Derived.Laws.BitsLemmas
import Derived.Test.YtidicbddlpeiiaaPureRoom
import Derived.Test.YtidicbddlpeiiaaPureIntS
import Derived.Test.YtidicbddlpeiiaaQx6
namespace Go.Proofs.Ytidicbddlpeiiaa.Pure
open Go.RowKit Go.Proofs.YtidicbddlpeiiaaW.PrintWords Go.Proofs.YtidicbddlpeiiaaW.PrintLast Go.Proofs.YtidicbddlpeiiaaW.PrintMore Go.Proofs.Ytidicbddlpeiiaa.Q
set_option linter.unusedSimpArgs false
set_option linter.unusedVariables false

theorem FnExactValidRoom : laws_FnExactValidRoom.Pure := by
  intro l _ _ _
  by_cases hc : (l.length : Int) > 1048576
  · exact ⟨0, by unfold laws_FnExactValidRoom.f; rw [if_pos hc]⟩
  have hl : l.length ≤ 1048576 := by omega
  refine ⟨l.length + 2, ?_⟩
  unfold laws_FnExactValidRoom.f
  rw [if_neg hc, toIntS_all l hl _ (by omega)]
  simp only [Option.bind_some]
  rw [ValidRoom_is l (by omega) _ (by omega), implRoom_is l (by omega) _ (by omega)]
  simp only [Option.bind_some]
  rw [if_neg (by simp), eqIntS_all l hl _ (by omega)]
  rfl

end Go.Proofs.Ytidicbddlpeiiaa.Pure
