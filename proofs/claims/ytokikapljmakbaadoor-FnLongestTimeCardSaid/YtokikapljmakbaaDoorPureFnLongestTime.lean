/- The pure statement of FnLongestTime: the longest time is a chain. -/
import Derived.Test.YtokikapljmakbaaDoorPC
import Derived.Test.YtokikapljmakbaaDoorPureLongV
import Derived.Test.YtokikapljmakbaaDoorPureAll
import Derived.Test.YtokikapljmakbaaDoorQx32
import Derived.Test.YtokikapljmakbaaDoorQx40
namespace Go.Proofs.YtokikapljmakbaaDoor.Pure
open Go.RowKit Go.Proofs.YtokikapljmakbaaDoor.Q Go.Proofs.YtokikapljmakbaaDoor.H Go.Proofs.YtokikapljmakbaaDoorW.PrintWords Go.Proofs.YtokikapljmakbaaDoorW.PrintMore
set_option linter.unusedVariables false

theorem draw_y (l0 : List Int) (hw : ∀ x ∈ l0, (Lit.int .u8 x).wf = true) : ∃ g, Evn (fun k => spec_DrawLongestTime.f k l0) g ∧ Few 16 10 g := by
  obtain ⟨b, e, hb⟩ := reader_y l0 hw
  unfold spec_DrawLongestTime.f
  rw [e]
  simp only [Option.bind_some]
  obtain ⟨g, q, hg, _, _, hf⟩ := anyGraph_y hb (p := 0) (Int.le_refl _) (by omega)
  exact ⟨g, Evn.bind hg (Evn.const rfl), hf⟩
theorem FnLongestTime : laws_FnLongestTime.Pure := by
  intro l0 _ _ hw
  refine Evn.at_ (f := fun k => laws_FnLongestTime.f k l0) ?_
  unfold laws_FnLongestTime.f
  by_cases hl : (l0.length : Int) > 1048576
  · simp only [if_pos hl]
    exact Evn.const rfl
  simp only [if_neg hl]
  obtain ⟨g, hg, hfw⟩ := draw_y l0 hw
  obtain ⟨h1, h2, h3⟩ := few_held hfw (by omega) (by omega)
  refine Evn.bind hg (Evn.bind (Evn.const (implLong_is h1)) (Evn.bind (specLongestTime_is g h2 h3) ?_))
  simp only [if_true]
  have hend : Evn (fun k => laws_FnLongestTime.j0 k g (longestTime g) true) true := by
    refine Evn.step (g := fun k => (spec_LongestTime.f k g).bind fun a => some (longestTime g == a)) (Evn.bind (specLongestTime_is g h2 h3) (Evn.const (by simp))) fun k => ?_
    simp only [laws_FnLongestTime.j0]
    rw [if_pos trivial]
  by_cases hfl : longestTime g < 0
  · rw [decide_eq_true hfl]
    exact hend
  · rw [decide_eq_false hfl]
    have hv : valid g = true := Classical.byContradiction fun hv => hfl (by rw [longestTime_no hv]; omega)
    have h8 := fine_len (valid_fine hv)
    refine Evn.step (g := fun k => laws_FnLongestTime.l0 k g (longestTime g) ((0 : Nat) : Int)) ?_ fun k => ?_
    · refine goes_all g.length (fun k i => laws_FnLongestTime.l0 k g (longestTime g) i) true 0 ?_ ?_ g.length 0 (Nat.le_refl _) (by omega)
      · refine Evn.step (g := fun k => (laws_allTime.f k g).bind fun t => some (decide (longestTime g ≤ t))) (Evn.bind (allTime_is hv) (Evn.const ?_)) fun k => ?_
        · rw [decide_eq_true (long_all hv)]
        · simp only [laws_FnLongestTime.l0]
          rw [if_neg (by omega)]
      · intro i _ hi hN
        have h1 := (tails_of hv).own i hi
        have h2 := (top_of hv).ge i hi
        have e0 : (rd_T29 g ((i : Nat) : Int)).f0 = tmOf g i := rfl
        refine Evn.step hN fun k => ?_
        simp only [laws_FnLongestTime.l0]
        rw [if_pos (by omega), if_pos (by omega), e0, if_neg (by omega), wrap_up i (by omega)]
    · simp only [laws_FnLongestTime.j0]
      rw [if_neg (by simp)]
      rfl
end Go.Proofs.YtokikapljmakbaaDoor.Pure
