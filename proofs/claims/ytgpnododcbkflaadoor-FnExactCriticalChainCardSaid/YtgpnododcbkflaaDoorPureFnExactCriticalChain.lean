/- The pure statement of FnExactCriticalChain: the program's answer is the reference's, for all graphs, and its own. -/
import Derived.Test.YtgpnododcbkflaaDoorPureMark
import Derived.Test.YtgpnododcbkflaaDoorPureChainV
import Derived.Test.YtgpnododcbkflaaDoorQx39
namespace Go.Proofs.YtgpnododcbkflaaDoor.Pure
open Go.RowKit Go.Proofs.YtgpnododcbkflaaDoor.Q Go.Proofs.YtgpnododcbkflaaDoor.H Go.Proofs.YtgpnododcbkflaaDoorW.PrintWords

theorem FnExactCriticalChain (l0 : List S59) (h : Held l0 ∧ ∀ t, t ∈ l0 → Held t.f1) : ∃ k, laws_FnExactCriticalChain.f k l0 = some true := by
  obtain ⟨r, hr, hs⟩ := szTaskS_is l0 h.1 h.2
  refine Evn.at_ (f := fun k => laws_FnExactCriticalChain.f k l0) ?_
  unfold laws_FnExactCriticalChain.f
  refine Evn.bind hr ?_
  by_cases hr0 : r < 0
  · simp only [if_pos hr0]
    exact Evn.const rfl
  · simp only [if_neg hr0]
    have hsm := hs (by omega)
    obtain ⟨c1, c2, c3⟩ := conv_held hsm
    have hc := conv_all hsm
    obtain ⟨m, hm, hm0, _⟩ := markTask_is hsm
    have hv : Held (chainOf (conv l0)) := chainOf_held _
    have hv2 : (chainOf (conv l0)).length ≤ 1048576 := chainOf_small _
    refine Evn.bind (toTaskS_is l0 hsm) (Evn.bind (specChain_is (conv l0) c1 c2) (Evn.bind (toTaskS_is l0 hsm) (Evn.bind (Evn.const (implChain_is hc)) (Evn.bind (eqIntS_same _ hv) ?_))))
    simp only [if_true]
    refine Evn.bind (toTaskS_is l0 hsm) (Evn.bind (eqTaskS_same _ c1 c2) ?_)
    simp only [if_true]
    refine Evn.bind (Evn.const hm) ?_
    simp only [if_neg (show ¬ m < 0 by omega)]
    refine Evn.bind (eqIntS_same _ hv) (Evn.step (g := fun k => (laws_markIntS.f k (chainOf (conv l0)) 1).bind fun z => (laws_heldIntS.f k z.2 1).bind fun q => if q < 0 then some false else if q = z.1 then (laws_toTaskS.f k l0).bind fun g => (impl_CriticalChain.f g).bind fun a => (laws_eqIntS.f k a (chainOf (conv l0))).bind fun b => if b = true then (laws_heldIntS.f k z.2 1).bind fun q2 => if q2 < 0 then some false else if q2 = z.1 then some true else some false else some false else some false) ?_ fun k => ?_)
    · refine Evn.bind (mark_is _ hv2) (Evn.bind (held_is _ hv2) ?_)
      simp only [if_neg (show ¬ 1 + ((chainOf (conv l0)).length : Int) < 0 by omega), if_true]
      refine Evn.bind (toTaskS_is l0 hsm) (Evn.bind (Evn.const (implChain_is hc)) (Evn.bind (eqIntS_same _ hv) ?_))
      simp only [if_true]
      refine Evn.bind (held_is _ hv2) ?_
      simp only [if_neg (show ¬ 1 + ((chainOf (conv l0)).length : Int) < 0 by omega), if_true]
      exact Evn.const rfl
    · simp only [laws_FnExactCriticalChain.j0]
      rfl
end Go.Proofs.YtgpnododcbkflaaDoor.Pure
