/- The pure statement of FnStuckTasks: a valid graph has no stuck tasks. -/
import Derived.Test.YtegogaokcafpjaaDoorPureStuck
import Derived.Test.YtegogaokcafpjaaDoorQx27
namespace Go.Proofs.YtegogaokcafpjaaDoor.Pure
open Go.RowKit Go.Proofs.YtegogaokcafpjaaDoor.Q Go.Proofs.YtegogaokcafpjaaDoor.H Go.Proofs.YtegogaokcafpjaaDoorW.PrintWords

theorem FnStuckTasks : laws_FnStuckTasks.Pure := by
  intro l0 _ _ hw
  refine Evn.at_ (f := fun k => laws_FnStuckTasks.f k l0) ?_
  unfold laws_FnStuckTasks.f
  by_cases hl : (l0.length : Int) > 1048576
  · simp only [if_pos hl]
    exact Evn.const rfl
  simp only [if_neg hl]
  obtain ⟨g, hg, hf⟩ := drawStuck_y l0 hw
  obtain ⟨h1, h2, h3⟩ := few_held hf (by omega) (by omega)
  refine Evn.bind hg (Evn.bind (Evn.const (implStuck_is h1)) (Evn.bind (specStuck_is g h2 h3) (Evn.bind (equalInts_same _ (stuck_held g)) ?_)))
  simp only [if_true]
  by_cases hs : ((H.stuck g).length : Int) = 0
  · simp only [if_pos hs]
    exact Evn.const rfl
  · simp only [if_neg hs]
    refine Evn.bind (Evn.const (implValid_is h1)) (Evn.const ?_)
    have : valid g = false := by
      refine Bool.eq_false_iff.2 (fun hv => hs ?_)
      rw [stuck_valid hv]
      rfl
    rw [this]
    rfl
end Go.Proofs.YtegogaokcafpjaaDoor.Pure
