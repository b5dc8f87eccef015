/- TailTimes in the program's words and in the reference's; plain Lean. -/
import Derived.Test.YtokikapljmakbaaDoorPureTailV
import Derived.Test.YtokikapljmakbaaDoorHTailT
import Derived.Test.YtokikapljmakbaaDoorQx26
namespace Go.Proofs.YtokikapljmakbaaDoor.H
open Go.RowKit Go.Proofs.YtokikapljmakbaaDoorW.PrintWords Go.Proofs.YtokikapljmakbaaDoorW.PrintLast Go.Proofs.YtokikapljmakbaaDoorW.PrintMore Go.Proofs.YtokikapljmakbaaDoor.Q
set_option linter.unusedVariables false

theorem specTailTimes_is (g : List S29) (hg : Held g) (ht : ∀ t, t ∈ g → Held t.f1) : Evn (fun k => spec_TailTimes.f k g) (tailTimes g) := by
  unfold spec_TailTimes.f
  refine Evn.bind (validGraph_is g hg ht) ?_
  by_cases hv : valid g = true
  · simp only [hv, if_true]
    exact Evn.bind (specTails_is hv) (Evn.const rfl)
  · simp only [hv]
    rw [tailTimes_no hv]
    exact Evn.const rfl
theorem implTail_is {g : List S29} (h : held g = true) : impl_TailTimes.f g = some (tailTimes g) := if_pos h
end Go.Proofs.YtokikapljmakbaaDoor.H
