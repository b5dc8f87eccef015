/- The pure statement of FnExactLeastTime: the program's answer is the reference's, for all graphs, lists and numbers. -/
import Derived.Test.YtokikapljmakbaaDoorPureLeastV
import Derived.Test.YtokikapljmakbaaDoorPureMark
import Derived.Test.YtokikapljmakbaaDoorQx42
namespace Go.Proofs.YtokikapljmakbaaDoor.Pure
open Go.RowKit Go.Proofs.YtokikapljmakbaaDoor.Q Go.Proofs.YtokikapljmakbaaDoor.H Go.Proofs.YtokikapljmakbaaDoorW.PrintWords

theorem FnExactLeastTime (l0 : List S64) (l1 : List Int) (a2 : Int) (h : Held l0 ∧ ∀ t, t ∈ l0 → Held t.f1) (h1 : l1.length ≤ 9223372036854775807) (_ : (Lit.int .i64 a2).wf = true) : ∃ k, laws_FnExactLeastTime.f k l0 l1 a2 = some true := by
  obtain ⟨r, hr, hs⟩ := szTaskS_is l0 h.1 h.2
  refine Evn.at_ (f := fun k => laws_FnExactLeastTime.f k l0 l1 a2) ?_
  unfold laws_FnExactLeastTime.f
  by_cases hl : (l1.length : Int) > 1048576
  · simp only [if_pos hl]
    exact Evn.const rfl
  simp only [if_neg hl]
  have hl1 : l1.length ≤ 1048576 := by omega
  refine Evn.bind hr ?_
  by_cases hr0 : r < 0
  · simp only [if_pos hr0]
    exact Evn.const rfl
  · simp only [if_neg hr0]
    have hsm := hs (by omega)
    obtain ⟨c1, c2, c3⟩ := conv_held hsm
    have hc := conv_all hsm
    have hsp := specLeastTime_is (conv l0) l1 a2 c1 c2
    have him := implLeast_is (g := conv l0) l1 a2 hc
    refine Evn.bind (toTaskS_is l0 hsm) (Evn.bind (toIntS_is l1 hl1) (Evn.bind hsp (Evn.bind (toTaskS_is l0 hsm) (Evn.bind (toIntS_is l1 hl1) (Evn.bind (Evn.const him) ?_)))))
    simp only [if_true]
    refine Evn.bind (toTaskS_is l0 hsm) (Evn.bind (eqTaskS_same _ c1 c2) ?_)
    simp only [if_true]
    refine Evn.bind (toIntS_is l1 hl1) (Evn.bind (eqIntS_same _ h1) ?_)
    simp only [if_true]
    exact Evn.const rfl
end Go.Proofs.YtokikapljmakbaaDoor.Pure
