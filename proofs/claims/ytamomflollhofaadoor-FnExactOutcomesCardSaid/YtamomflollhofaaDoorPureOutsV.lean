/- Outcomes as the reference answers it; plain Lean. -/
import Derived.Test.YtamomflollhofaaDoorPureOutV
import Derived.Test.YtamomflollhofaaDoorQx27
namespace Go.Proofs.YtamomflollhofaaDoor.H
open Go.RowKit Go.Proofs.YtamomflollhofaaDoorW.PrintWords Go.Proofs.YtamomflollhofaaDoor.Q
set_option linter.unusedVariables false

theorem specOutcomes_is (g : List S32) (fs : List Int) (a : Int) (hg : Held g) (ht : ∀ t, t ∈ g → Held t.f1) (hfs : Held fs) : Evn (fun k => spec_Outcomes.f k g fs a) (outcomesAns g fs a) := by
  unfold spec_Outcomes.f outcomesAns
  refine Evn.bind (validFails_is g fs hg ht hfs) ?_
  by_cases hv : failOk g fs = true
  · obtain ⟨h1, h2⟩ := failOk_eq hv
    simp only [hv, if_true, true_and]
    rw [inRange_is]
    refine Evn.bind (Evn.const rfl) ?_
    by_cases ha : 1 ≤ a ∧ a ≤ 8
    · simp only [decide_eq_true ha, if_true, if_pos ha]
      exact Evn.bind (specOut_is h1 fs hfs h2 a) (Evn.const rfl)
    · simp only [decide_eq_false ha, Bool.false_eq_true, if_false, if_neg ha]
      exact Evn.const rfl
  · simp only [hv]
    exact Evn.const (by simp)
theorem outcomes_small (g : List S32) (fs : List Int) (a : Int) : (outcomesAns g fs a).length ≤ 1048576 := by
  unfold outcomesAns
  split
  · rename_i h
    rw [outcomesOf_len]
    have := fine_len (valid_fine (failOk_eq h.1).1)
    omega
  · simp
end Go.Proofs.YtamomflollhofaaDoor.H
