/- The pure statement of FnExactOutcomes: the program's answer is the reference's, for all graphs, lists and numbers, and its own. -/
import Derived.Test.YtamomflollhofaaDoorPureOutsV
import Derived.Test.YtamomflollhofaaDoorPureMark
import Derived.Test.YtamomflollhofaaDoorQx44
namespace Go.Proofs.YtamomflollhofaaDoor.Pure
open Go.RowKit Go.Proofs.YtamomflollhofaaDoor.Q Go.Proofs.YtamomflollhofaaDoor.H Go.Proofs.YtamomflollhofaaDoorW.PrintWords

theorem FnExactOutcomes (l0 : List S69) (l1 : List Int) (a2 : Int) (h : Held l0 ∧ ∀ t, t ∈ l0 → Held t.f1) (h1 : l1.length ≤ 9223372036854775807) (_ : (Lit.int .i64 a2).wf = true) : ∃ k, laws_FnExactOutcomes.f k l0 l1 a2 = some true := by
  obtain ⟨r, hr, hs⟩ := szTaskS_is l0 h.1 h.2
  refine Evn.at_ (f := fun k => laws_FnExactOutcomes.f k l0 l1 a2) ?_
  unfold laws_FnExactOutcomes.f
  by_cases hl : (l1.length : Int) > 1048576
  · simp only [if_pos hl]
    exact Evn.const rfl
  simp only [if_neg hl]
  have hl1 : l1.length ≤ 1048576 := by omega
  refine Evn.bind hr ?_
  by_cases hr0 : r < 0
  · simp only [if_pos hr0]
    exact Evn.const rfl
  · simp only [if_neg hr0]
    have hsm := hs (by omega)
    obtain ⟨c1, c2, c3⟩ := conv_held hsm
    have hc := conv_all hsm
    obtain ⟨m, hm, hm0, hm1⟩ := markTask_is hsm
    have hv2 : (outcomesAns (conv l0) l1 a2).length ≤ 1048576 := outcomes_small _ _ _
    have hv : Held (outcomesAns (conv l0) l1 a2) := by unfold Held; omega
    obtain ⟨y, hy⟩ := marked_is l1 hl1 m hm0 hm1
    obtain ⟨W, hW⟩ : ∃ W, outcomesAns (conv l0) l1 a2 = W := ⟨_, rfl⟩
    have hsp := specOutcomes_is (conv l0) l1 a2 c1 c2 h1
    have him := implOut_is hc hl1 a2
    rw [hW] at hv hv2 hsp him
    refine Evn.bind (toTaskS_is l0 hsm) (Evn.bind (toIntS_is l1 hl1) (Evn.bind hsp (Evn.bind (toTaskS_is l0 hsm) (Evn.bind (toIntS_is l1 hl1) (Evn.bind (Evn.const him) (Evn.bind (eqIntS_same _ hv) ?_))))))
    simp only [if_true]
    refine Evn.bind (toTaskS_is l0 hsm) (Evn.bind (eqTaskS_same _ c1 c2) ?_)
    simp only [if_true]
    refine Evn.bind (toIntS_is l1 hl1) (Evn.bind (eqIntS_same _ h1) ?_)
    simp only [if_true]
    refine Evn.bind (Evn.const hm) (Evn.bind hy ?_)
    simp only [if_neg (show ¬ m + (l1.length : Int) < 0 by omega)]
    refine Evn.bind (eqIntS_same _ hv) (Evn.step (g := fun k => (laws_markIntS.f k W 1).bind fun z => (laws_heldIntS.f k z.2 1).bind fun q => if q < 0 then some false else if q = z.1 then (laws_toTaskS.f k l0).bind fun g => (laws_toIntS.f k l1).bind fun d => (impl_Outcomes.f g d a2).bind fun a => (laws_eqIntS.f k a W).bind fun b => if b = true then (laws_heldIntS.f k z.2 1).bind fun q2 => if q2 < 0 then some false else if q2 = z.1 then some true else some false else some false else some false) ?_ fun k => ?_)
    · refine Evn.bind (mark_is _ hv2) (Evn.bind (held_is _ hv2) ?_)
      simp only [if_neg (show ¬ 1 + (W.length : Int) < 0 by omega), if_true]
      refine Evn.bind (toTaskS_is l0 hsm) (Evn.bind (toIntS_is l1 hl1) (Evn.bind (Evn.const him) (Evn.bind (eqIntS_same _ hv) ?_)))
      simp only [if_true]
      refine Evn.bind (held_is _ hv2) ?_
      simp only [if_neg (show ¬ 1 + (W.length : Int) < 0 by omega), if_true]
      exact Evn.const rfl
    · simp only [laws_FnExactOutcomes.j0]
      rfl
end Go.Proofs.YtamomflollhofaaDoor.Pure
