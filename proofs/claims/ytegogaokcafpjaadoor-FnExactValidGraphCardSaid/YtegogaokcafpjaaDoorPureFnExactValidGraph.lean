/- The pure statement of FnExactValidGraph: the program's answer is the reference's, for all graphs. -/
import Derived.Test.YtegogaokcafpjaaDoorPureTasks
import Derived.Test.YtegogaokcafpjaaDoorHTop
import Derived.Test.YtegogaokcafpjaaDoorQx8
namespace Go.Proofs.YtegogaokcafpjaaDoor.Pure
open Go.RowKit Go.Proofs.YtegogaokcafpjaaDoor.Q Go.Proofs.YtegogaokcafpjaaDoor.H Go.Proofs.YtegogaokcafpjaaDoorW.PrintWords

theorem FnExactValidGraph (l0 : List S46) (h : Held l0 ∧ ∀ t, t ∈ l0 → Held t.f1) : ∃ k, laws_FnExactValidGraph.f k l0 = some true := by
  obtain ⟨r, hr, hs⟩ := szTaskS_is l0 h.1 h.2
  refine Evn.at_ (f := fun k => laws_FnExactValidGraph.f k l0) ?_
  unfold laws_FnExactValidGraph.f
  refine Evn.bind hr ?_
  by_cases hr0 : r < 0
  · simp only [if_pos hr0]
    exact Evn.const rfl
  · simp only [if_neg hr0]
    have hsm := hs (by omega)
    obtain ⟨c1, c2, c3⟩ := conv_held hsm
    refine Evn.bind (toTaskS_is l0 hsm) (Evn.bind (a := valid (conv l0)) ?_ (Evn.bind (toTaskS_is l0 hsm) (Evn.bind (a := valid (conv l0)) (Evn.const ?_) ?_)))
    · unfold spec_ValidGraph.f
      exact Evn.bind (validGraph_is _ c1 c2) (Evn.const rfl)
    · unfold impl_ValidGraph.f
      rw [if_pos]
      unfold held
      rw [List.all_eq_true]
      exact fun t ht => decide_eq_true (c3 t ht)
    · simp only [bne_self_eq_false, Bool.false_eq_true, if_false]
      refine Evn.bind (toTaskS_is l0 hsm) (Evn.bind (eqTaskS_same _ c1 c2) (Evn.const rfl))
end Go.Proofs.YtegogaokcafpjaaDoor.Pure
