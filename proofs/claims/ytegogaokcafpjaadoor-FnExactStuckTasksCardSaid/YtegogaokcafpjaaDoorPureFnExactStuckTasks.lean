/- The pure statement of FnExactStuckTasks: the program's answer is the reference's, for all graphs, and its own. -/
import Derived.Test.YtegogaokcafpjaaDoorPureMark
import Derived.Test.YtegogaokcafpjaaDoorPureStuckVal
import Derived.Test.YtegogaokcafpjaaDoorQx23
namespace Go.Proofs.YtegogaokcafpjaaDoor.Pure
open Go.RowKit Go.Proofs.YtegogaokcafpjaaDoor.Q Go.Proofs.YtegogaokcafpjaaDoor.H Go.Proofs.YtegogaokcafpjaaDoorW.PrintWords

theorem FnExactStuckTasks (l0 : List S46) (h : Held l0 ∧ ∀ t, t ∈ l0 → Held t.f1) : ∃ k, laws_FnExactStuckTasks.f k l0 = some true := by
  obtain ⟨r, hr, hs⟩ := szTaskS_is l0 h.1 h.2
  refine Evn.at_ (f := fun k => laws_FnExactStuckTasks.f k l0) ?_
  unfold laws_FnExactStuckTasks.f
  refine Evn.bind hr ?_
  by_cases hr0 : r < 0
  · simp only [if_pos hr0]
    exact Evn.const rfl
  · simp only [if_neg hr0]
    have hsm := hs (by omega)
    obtain ⟨c1, c2, c3⟩ := conv_held hsm
    have hc := conv_all hsm
    obtain ⟨m, hm, hm0⟩ := markTask_is hsm
    have hv : Held (H.stuck (conv l0)) := stuck_held _
    have hv2 : (H.stuck (conv l0)).length ≤ 1048576 := stuck_small _
    refine Evn.bind (toTaskS_is l0 hsm) (Evn.bind (specStuck_is (conv l0) c1 c2) (Evn.bind (toTaskS_is l0 hsm) (Evn.bind (Evn.const (implStuck_is hc)) (Evn.bind (eqIntS_same _ hv) ?_))))
    simp only [if_true]
    refine Evn.bind (toTaskS_is l0 hsm) (Evn.bind (eqTaskS_same _ c1 c2) ?_)
    simp only [if_true]
    refine Evn.bind (Evn.const hm) ?_
    simp only [if_neg (show ¬ m < 0 by omega)]
    refine Evn.bind (eqIntS_same _ hv) (Evn.step (g := fun k => (laws_markIntS.f k (H.stuck (conv l0)) 1).bind fun z => (laws_heldIntS.f k z.2 1).bind fun q => if q < 0 then some false else if q = z.1 then (laws_toTaskS.f k l0).bind fun g => (impl_StuckTasks.f g).bind fun a => (laws_eqIntS.f k a (H.stuck (conv l0))).bind fun b => if b = true then (laws_heldIntS.f k z.2 1).bind fun q2 => if q2 < 0 then some false else if q2 = z.1 then some true else some false else some false else some false) ?_ fun k => ?_)
    · refine Evn.bind (mark_is _ hv2) (Evn.bind (held_is _ hv2) ?_)
      simp only [if_neg (show ¬ 1 + ((H.stuck (conv l0)).length : Int) < 0 by omega), if_true]
      refine Evn.bind (toTaskS_is l0 hsm) (Evn.bind (Evn.const (implStuck_is hc)) (Evn.bind (eqIntS_same _ hv) ?_))
      simp only [if_true]
      refine Evn.bind (held_is _ hv2) ?_
      simp only [if_neg (show ¬ 1 + ((H.stuck (conv l0)).length : Int) < 0 by omega), if_true]
      exact Evn.const rfl
    · simp only [laws_FnExactStuckTasks.j0]
      rfl
end Go.Proofs.YtegogaokcafpjaaDoor.Pure
