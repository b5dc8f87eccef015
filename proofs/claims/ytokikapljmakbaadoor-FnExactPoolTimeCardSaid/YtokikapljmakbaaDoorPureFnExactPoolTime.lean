/- The pure statement of FnExactPoolTime: the program's answer is the reference's, for all graphs and numbers. -/
import Derived.Test.YtokikapljmakbaaDoorPureMark
import Derived.Test.YtokikapljmakbaaDoorPurePoolV
import Derived.Test.YtokikapljmakbaaDoorQx37
namespace Go.Proofs.YtokikapljmakbaaDoor.Pure
open Go.RowKit Go.Proofs.YtokikapljmakbaaDoor.Q Go.Proofs.YtokikapljmakbaaDoor.H Go.Proofs.YtokikapljmakbaaDoorW.PrintWords Go.Proofs.YtokikapljmakbaaDoorW.PrintMore
set_option linter.unusedVariables false

theorem FnExactPoolTime (l0 : List S64) (a1 a2 : Int) (h : Held l0 ∧ ∀ t, t ∈ l0 → Held t.f1) (_ : (Lit.int .i64 a1).wf = true) (_ : (Lit.int .i64 a2).wf = true) : ∃ k, laws_FnExactPoolTime.f k l0 a1 a2 = some true := by
  obtain ⟨r, hr, hs⟩ := szTaskS_is l0 h.1 h.2
  refine Evn.at_ (f := fun k => laws_FnExactPoolTime.f k l0 a1 a2) ?_
  unfold laws_FnExactPoolTime.f
  refine Evn.bind hr ?_
  by_cases hr0 : r < 0
  · simp only [if_pos hr0]
    exact Evn.const rfl
  · simp only [if_neg hr0]
    have hsm := hs (by omega)
    obtain ⟨c1, c2, c3⟩ := conv_held hsm
    have hc := conv_all hsm
    refine Evn.bind (toTaskS_is l0 hsm) (Evn.bind (specPool_is (conv l0) a1 a2 c1 c2) (Evn.bind (toTaskS_is l0 hsm) (Evn.bind (implPool_is a1 a2 hc) ?_)))
    simp only [if_true]
    refine Evn.bind (toTaskS_is l0 hsm) (Evn.bind (eqTaskS_same _ c1 c2) (Evn.const rfl))
end Go.Proofs.YtokikapljmakbaaDoor.Pure
