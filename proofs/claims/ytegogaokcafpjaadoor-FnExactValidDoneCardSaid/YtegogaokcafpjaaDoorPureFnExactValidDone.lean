/- The pure statement of FnExactValidDone: the program's answer is the reference's, for all graphs and all lists. -/
import Derived.Test.YtegogaokcafpjaaDoorPureDone
import Derived.Test.YtegogaokcafpjaaDoorPureMark
import Derived.Test.YtegogaokcafpjaaDoorQx28
namespace Go.Proofs.YtegogaokcafpjaaDoor.Pure
open Go.RowKit Go.Proofs.YtegogaokcafpjaaDoor.Q Go.Proofs.YtegogaokcafpjaaDoor.H Go.Proofs.YtegogaokcafpjaaDoorW.PrintWords

theorem FnExactValidDone (l0 : List S46) (l1 : List Int) (h : Held l0 ∧ ∀ t, t ∈ l0 → Held t.f1) (h1 : l1.length ≤ 9223372036854775807) : ∃ k, laws_FnExactValidDone.f k l0 l1 = some true := by
  obtain ⟨r, hr, hs⟩ := szTaskS_is l0 h.1 h.2
  refine Evn.at_ (f := fun k => laws_FnExactValidDone.f k l0 l1) ?_
  unfold laws_FnExactValidDone.f
  by_cases hl : (l1.length : Int) > 1048576
  · simp only [if_pos hl]
    exact Evn.const rfl
  simp only [if_neg hl]
  have hl1 : l1.length ≤ 1048576 := by omega
  refine Evn.bind hr ?_
  by_cases hr0 : r < 0
  · simp only [if_pos hr0]
    exact Evn.const rfl
  · simp only [if_neg hr0]
    have hsm := hs (by omega)
    obtain ⟨c1, c2, c3⟩ := conv_held hsm
    have hc := conv_all hsm
    refine Evn.bind (toTaskS_is l0 hsm) (Evn.bind (toIntS_is l1 hl1) (Evn.bind (a := doneOk (conv l0) l1) ?_ (Evn.bind (toTaskS_is l0 hsm) (Evn.bind (toIntS_is l1 hl1) (Evn.bind (Evn.const (implDone_is hc hl1)) ?_)))))
    · unfold spec_ValidDone.f
      exact Evn.bind (specDone_is _ _ c1 c2 h1) (Evn.const rfl)
    · simp only [bne_self_eq_false, Bool.false_eq_true, if_false]
      refine Evn.bind (toTaskS_is l0 hsm) (Evn.bind (eqTaskS_same _ c1 c2) ?_)
      simp only [if_true]
      refine Evn.bind (toIntS_is l1 hl1) (Evn.bind (eqIntS_same _ h1) (Evn.const rfl))
end Go.Proofs.YtegogaokcafpjaaDoor.Pure
