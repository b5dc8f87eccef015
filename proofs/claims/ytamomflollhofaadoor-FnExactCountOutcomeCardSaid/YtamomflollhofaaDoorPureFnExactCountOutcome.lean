/- The pure statement of FnExactCountOutcome: the program's answer is the reference's, for all graphs and all lists. -/
import Derived.Test.YtamomflollhofaaDoorPureCountV
import Derived.Test.YtamomflollhofaaDoorPureMark
import Derived.Test.YtamomflollhofaaDoorQx45
namespace Go.Proofs.YtamomflollhofaaDoor.Pure
open Go.RowKit Go.Proofs.YtamomflollhofaaDoor.Q Go.Proofs.YtamomflollhofaaDoor.H Go.Proofs.YtamomflollhofaaDoorW.PrintWords

theorem FnExactCountOutcome (l0 : List S69) (l1 : List Int) (a2 a3 : Int) (h : Held l0 ∧ ∀ t, t ∈ l0 → Held t.f1) (h1 : l1.length ≤ 9223372036854775807) (_ : (Lit.int .i64 a2).wf = true) (_ : (Lit.int .i64 a3).wf = true) : ∃ k, laws_FnExactCountOutcome.f k l0 l1 a2 a3 = some true := by
  obtain ⟨r, hr, hs⟩ := szTaskS_is l0 h.1 h.2
  refine Evn.at_ (f := fun k => laws_FnExactCountOutcome.f k l0 l1 a2 a3) ?_
  unfold laws_FnExactCountOutcome.f
  by_cases hl : (l1.length : Int) > 1048576
  · simp only [if_pos hl]
    exact Evn.const rfl
  simp only [if_neg hl]
  have hl1 : l1.length ≤ 1048576 := by omega
  refine Evn.bind hr ?_
  by_cases hr0 : r < 0
  · simp only [if_pos hr0]
    exact Evn.const rfl
  · simp only [if_neg hr0]
    have hsm := hs (by omega)
    obtain ⟨c1, c2, c3⟩ := conv_held hsm
    have hc := conv_all hsm
    refine Evn.bind (toTaskS_is l0 hsm) (Evn.bind (toIntS_is l1 hl1) (Evn.bind (a := countAns (conv l0) l1 a2 a3) (specCount_is _ _ _ _ c1 c2 h1) (Evn.bind (toTaskS_is l0 hsm) (Evn.bind (toIntS_is l1 hl1) (Evn.bind (Evn.const (implCount_is hc hl1 a2 a3)) ?_)))))
    simp only [if_true]
    refine Evn.bind (toTaskS_is l0 hsm) (Evn.bind (eqTaskS_same _ c1 c2) ?_)
    simp only [if_true]
    refine Evn.bind (toIntS_is l1 hl1) (Evn.bind (eqIntS_same _ h1) (Evn.const rfl))
end Go.Proofs.YtamomflollhofaaDoor.Pure
