/- DelayOf of the reference is that of the program, no condition. -/
import Derived.Laws.BitsLemmas
import Derived.Test.YtidicbddlpeiiaaPureNum
import Derived.Test.YtidicbddlpeiiaaHDelay
import Derived.Test.YtidicbddlpeiiaaQx2
namespace Go.Proofs.Ytidicbddlpeiiaa.Pure
open Go.Proofs.Ytidicbddlpeiiaa.H Go.RowKit Go.Proofs.YtidicbddlpeiiaaW.PrintWords Go.Proofs.YtidicbddlpeiiaaW.PrintLast Go.Proofs.YtidicbddlpeiiaaW.PrintMore Go.Proofs.Ytidicbddlpeiiaa.Q
set_option linter.unusedSimpArgs false
set_option linter.unusedVariables false

theorem DelayOf_same (a0 : Int) : ∀ k, 7 ≤ k → spec_DelayOf.f k a0 = some (delayOf a0) := by
  intro k hk
  refine at_rounds (spec_DelayOf.mono a0) hk ?_
  by_cases h : 1 ≤ a0 ∧ a0 ≤ 5
  · have h5 : a0 ∈ ([1, 2, 3, 4, 5] : List Int) := by
      simp only [List.mem_cons, List.not_mem_nil, or_false]
      omega
    clear h hk
    revert a0
    decide +kernel
  · unfold spec_DelayOf.f spec_inRange.f
    have e : delayOf a0 = -1 := by
      unfold delayOf
      have : pairs.find? (fun p => p.1 == a0) = none := by
        rw [List.find?_eq_none]
        intro p hp
        simp only [pairs, List.mem_cons, List.not_mem_nil, or_false] at hp
        simp only [beq_iff_eq]
        rcases hp with rfl | rfl | rfl | rfl | rfl <;> omega
      rw [this]
      rfl
    rw [e]
    by_cases h1 : 1 ≤ a0
    · rw [if_pos h1]
      simp only [Option.bind_some]
      rw [if_neg (by simp; omega)]
    · rw [if_neg h1]
      rfl

end Go.Proofs.Ytidicbddlpeiiaa.Pure
