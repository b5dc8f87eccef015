/- The pure statement of FnSlackTimesZero: some tasks have no slack. -/
import Derived.Test.YtgpnododcbkflaaDoorPureIsIn
import Derived.Test.YtgpnododcbkflaaDoorPC
import Derived.Test.YtgpnododcbkflaaDoorPureSlackV
import Derived.Test.YtgpnododcbkflaaDoorQx30
import Derived.Test.YtgpnododcbkflaaDoorQx36
namespace Go.Proofs.YtgpnododcbkflaaDoor.Pure
open Go.RowKit Go.Proofs.YtgpnododcbkflaaDoor.Q Go.Proofs.YtgpnododcbkflaaDoor.H Go.Proofs.YtgpnododcbkflaaDoorW.PrintWords Go.Proofs.YtgpnododcbkflaaDoorW.PrintMore
set_option linter.unusedVariables false

theorem draw_y (l0 : List Int) (hw : ∀ x ∈ l0, (Lit.int .u8 x).wf = true) : ∃ g, Evn (fun k => spec_DrawSlackTimes.f k l0) g ∧ Few 16 10 g := by
  obtain ⟨b, e, hb⟩ := reader_y l0 hw
  unfold spec_DrawSlackTimes.f
  rw [e]
  simp only [Option.bind_some]
  obtain ⟨g, q, hg, _, _, hf⟩ := anyGraph_y hb (p := 0) (Int.le_refl _) (by omega)
  exact ⟨g, Evn.bind hg (Evn.const rfl), hf⟩
theorem FnSlackTimesZero : laws_FnSlackTimesZero.Pure := by
  intro l0 _ _ hw
  refine Evn.at_ (f := fun k => laws_FnSlackTimesZero.f k l0) ?_
  unfold laws_FnSlackTimesZero.f
  by_cases hl : (l0.length : Int) > 1048576
  · simp only [if_pos hl]
    exact Evn.const rfl
  simp only [if_neg hl]
  obtain ⟨g, hg, hfw⟩ := draw_y l0 hw
  obtain ⟨h1, h2, h3⟩ := few_held hfw (by omega) (by omega)
  refine Evn.bind hg (Evn.bind (Evn.const (implSlack_is h1)) (Evn.bind (specSlackTimes_is g h2 h3) (Evn.bind (equalInts_same _ (slackTimes_held g)) ?_)))
  simp only [if_true]
  have hend : Evn (fun k => laws_FnSlackTimesZero.j0 k g (slackTimes g) true) true := by
    refine Evn.step (g := fun k => (spec_SlackTimes.f k g).bind fun a => (laws_equalInts.f k (slackTimes g) a).bind fun b => some b) (Evn.bind (specSlackTimes_is g h2 h3) (Evn.bind (equalInts_same _ (slackTimes_held g)) (Evn.const rfl))) fun k => ?_
    simp only [laws_FnSlackTimesZero.j0]
    rw [if_pos trivial]
  by_cases hfl : ((slackTimes g).length : Int) = 0
  · rw [show (((slackTimes g).length : Int) == 0) = true by simpa using hfl]
    exact hend
  · rw [show (((slackTimes g).length : Int) == 0) = false by simpa using hfl]
    have hv : valid g = true := Classical.byContradiction fun hv => hfl (by rw [slackTimes_no hv]; rfl)
    have hl2 := slackTimes_len hv
    obtain ⟨i, hi, e⟩ := some_top (valid_dag hv) (tails_of hv) (top_of hv) (by omega)
    have h0 := top_head (valid_dag hv) (heads_of hv) (tails_of hv) (top_of hv) hi e
    have hs := slack_at hv i hi
    have hm : (0 : Int) ∈ slackTimes g := by
      have e2 : atI (slackTimes g) i = (slackTimes g)[i]'(by omega) := by
        unfold atI
        rw [List.getD_eq_getElem?_getD, List.getElem?_eq_getElem (by omega)]
        rfl
      have : (slackTimes g)[i]'(by omega) = 0 := by rw [← e2]; omega
      rw [← this]
      exact List.getElem_mem _
    refine Evn.step (g := fun k => (laws_isIn.f k (slackTimes g) 0).bind fun b => if b = true then some (((slackTimes g).length : Int) == (g.length : Int)) else some false) ?_ fun k => ?_
    · refine Evn.bind (lawIn_is _ (slackTimes_held g) 0) ?_
      rw [decide_eq_true hm]
      simp only [if_true]
      refine Evn.const ?_
      rw [hl2]
      simp
    · simp only [laws_FnSlackTimesZero.j0]
      rw [if_neg (by simp)]
end Go.Proofs.YtgpnododcbkflaaDoor.Pure
