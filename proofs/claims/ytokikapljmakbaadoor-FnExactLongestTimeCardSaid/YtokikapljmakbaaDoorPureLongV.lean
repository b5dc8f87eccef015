/- LongestTime in the program's words and in the reference's; plain Lean. -/
import Derived.Test.YtokikapljmakbaaDoorPureLongI
import Derived.Test.YtokikapljmakbaaDoorQx23
namespace Go.Proofs.YtokikapljmakbaaDoor.H
open Go.RowKit Go.Proofs.YtokikapljmakbaaDoorW.PrintWords Go.Proofs.YtokikapljmakbaaDoorW.PrintLast Go.Proofs.YtokikapljmakbaaDoorW.PrintMore Go.Proofs.YtokikapljmakbaaDoor.Q
set_option linter.unusedVariables false

theorem longestTime_no {g : List S29} (hv : ¬ valid g = true) : longestTime g = -1 := if_neg hv
theorem specLongestTime_is (g : List S29) (hg : Held g) (ht : ∀ t, t ∈ g → Held t.f1) : Evn (fun k => spec_LongestTime.f k g) (longestTime g) := by
  unfold spec_LongestTime.f
  refine Evn.bind (validGraph_is g hg ht) ?_
  by_cases hv : valid g = true
  · simp only [hv, if_true]
    exact Evn.bind (specLongest_is hv) (Evn.const rfl)
  · simp only [hv]
    rw [longestTime_no hv]
    exact Evn.const rfl
end Go.Proofs.YtokikapljmakbaaDoor.H
