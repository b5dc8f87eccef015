/- The pure statement of FnExactLongestTime: the program's answer is the reference's, for all graphs. -/
import Derived.Test.YtokikapljmakbaaDoorPureMark
import Derived.Test.YtokikapljmakbaaDoorPureLongV
import Derived.Test.YtokikapljmakbaaDoorQx41
namespace Go.Proofs.YtokikapljmakbaaDoor.Pure
open Go.RowKit Go.Proofs.YtokikapljmakbaaDoor.Q Go.Proofs.YtokikapljmakbaaDoor.H Go.Proofs.YtokikapljmakbaaDoorW.PrintWords Go.Proofs.YtokikapljmakbaaDoorW.PrintMore
set_option linter.unusedVariables false

theorem FnExactLongestTime (l0 : List S64) (h : Held l0 ∧ ∀ t, t ∈ l0 → Held t.f1) : ∃ k, laws_FnExactLongestTime.f k l0 = some true := by
  obtain ⟨r, hr, hs⟩ := szTaskS_is l0 h.1 h.2
  refine Evn.at_ (f := fun k => laws_FnExactLongestTime.f k l0) ?_
  unfold laws_FnExactLongestTime.f
  refine Evn.bind hr ?_
  by_cases hr0 : r < 0
  · simp only [if_pos hr0]
    exact Evn.const rfl
  · simp only [if_neg hr0]
    have hsm := hs (by omega)
    obtain ⟨c1, c2, c3⟩ := conv_held hsm
    have hc := conv_all hsm
    refine Evn.bind (toTaskS_is l0 hsm) (Evn.bind (specLongestTime_is (conv l0) c1 c2) (Evn.bind (toTaskS_is l0 hsm) (Evn.bind (Evn.const (implLong_is hc)) ?_)))
    simp only [if_true]
    refine Evn.bind (toTaskS_is l0 hsm) (Evn.bind (eqTaskS_same _ c1 c2) (Evn.const rfl))
end Go.Proofs.YtokikapljmakbaaDoor.Pure
