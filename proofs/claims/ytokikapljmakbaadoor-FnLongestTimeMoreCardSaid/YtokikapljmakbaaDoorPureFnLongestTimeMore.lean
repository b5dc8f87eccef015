/- The pure statement of FnLongestTimeMore: longer tasks make longer chains. -/
import Derived.Test.YtokikapljmakbaaDoorPureLonger
import Derived.Test.YtokikapljmakbaaDoorPureLongV
import Derived.Test.YtokikapljmakbaaDoorQx32
import Derived.Test.YtokikapljmakbaaDoorQx42
namespace Go.Proofs.YtokikapljmakbaaDoor.Pure
open Go.RowKit Go.Proofs.YtokikapljmakbaaDoor.Q Go.Proofs.YtokikapljmakbaaDoor.H Go.Proofs.YtokikapljmakbaaDoorW.PrintWords Go.Proofs.YtokikapljmakbaaDoorW.PrintMore
set_option linter.unusedVariables false

theorem draw_y (l0 : List Int) (hw : ∀ x ∈ l0, (Lit.int .u8 x).wf = true) : ∃ g, Evn (fun k => spec_DrawLongestTime.f k l0) g ∧ Few 16 10 g := by
  obtain ⟨b, e, hb⟩ := reader_y l0 hw
  unfold spec_DrawLongestTime.f
  rw [e]
  simp only [Option.bind_some]
  obtain ⟨g, q, hg, _, _, hf⟩ := anyGraph_y hb (p := 0) (Int.le_refl _) (by omega)
  exact ⟨g, Evn.bind hg (Evn.const rfl), hf⟩
theorem FnLongestTimeMore : laws_FnLongestTimeMore.Pure := by
  intro l0 _ _ hw
  refine Evn.at_ (f := fun k => laws_FnLongestTimeMore.f k l0) ?_
  unfold laws_FnLongestTimeMore.f
  by_cases hl : (l0.length : Int) > 1048576
  · simp only [if_pos hl]
    exact Evn.const rfl
  simp only [if_neg hl]
  obtain ⟨g, hg, hfw⟩ := draw_y l0 hw
  obtain ⟨h1, h2, h3⟩ := few_held hfw (by omega) (by omega)
  refine Evn.bind hg (Evn.bind (Evn.const (implLong_is h1)) (Evn.bind (specLongestTime_is g h2 h3) ?_))
  simp only [if_true]
  have hend : Evn (fun k => laws_FnLongestTimeMore.j0 k g (longestTime g) true) true := by
    refine Evn.step (g := fun k => (spec_LongestTime.f k g).bind fun a => some (longestTime g == a)) (Evn.bind (specLongestTime_is g h2 h3) (Evn.const (by simp))) fun k => ?_
    simp only [laws_FnLongestTimeMore.j0]
    rw [if_pos trivial]
  by_cases hfl : longestTime g < 0
  · rw [decide_eq_true hfl]
    exact hend
  · rw [decide_eq_false hfl]
    have hv : valid g = true := Classical.byContradiction fun hv => hfl (by rw [longestTime_no hv]; omega)
    have hf := valid_fine hv
    have h8 := fine_len hf
    refine Evn.step (g := fun k => laws_FnLongestTimeMore.l0 k g (longestTime g) ((0 : Nat) : Int)) ?_ fun k => ?_
    · refine goes_all g.length (fun k i => laws_FnLongestTimeMore.l0 k g (longestTime g) i) true 0 ?_ ?_ g.length 0 (Nat.le_refl _) (by omega)
      · refine Evn.step (Evn.const rfl) fun k => ?_
        simp only [laws_FnLongestTimeMore.l0]
        rw [if_neg (by omega)]
      · intro i _ hi hN
        have ht := time_ok hf i hi
        have hL := (top_small hv).2.1
        have e0 : (rd_T29 g ((i : Nat) : Int)).f0 = tmOf g i := rfl
        have he : ([] ++ g).set (i : Int).toNat (⟨wrap64 ((rd_T29 ([] ++ g) i).f0 + 1), (rd_T29 ([] ++ g) i).f1, (rd_T29 ([] ++ g) i).f2, (rd_T29 ([] ++ g) i).f3⟩ : S29) = later g i (tmOf g i + 1) := by
          rw [List.nil_append, Int.toNat_natCast, e0, w1k _ (by omega) (by omega)]
          rfl
        have hh := (few_held (later_few hfw i hi (tmOf g i + 1)) (by omega) (by omega)).1
        refine Evn.step hN fun k => ?_
        simp only [laws_FnLongestTimeMore.l0]
        rw [if_pos (by omega), Option.bind_some, if_pos (by simp; omega), Option.bind_some, if_pos (by omega), if_pos (by simp; omega), Option.bind_some, he, implLong_is hh, Option.bind_some, implValid_is hh, Option.bind_some, wrap_up i (by omega)]
        by_cases hv' : valid (later g i (tmOf g i + 1)) = true
        · rw [if_pos hv']
          have ha := heads_is (valid_dag hv) (order_eight hv)
          have hl := longer_g hv i hi 1 (by omega) hv' ha
          have hle := fits (valid_dag hv) ha (tails_of hv) (top_of hv) i hi
          rw [w1k (longestTime g + 1) (by omega) (by omega)]
          by_cases c : longestTime (later g i (tmOf g i + 1)) = longestTime g
          · rw [if_pos c]
          · rw [if_neg c, if_pos (by omega)]
        · rw [if_neg hv']
    · simp only [laws_FnLongestTimeMore.j0]
      rw [if_neg (by simp)]
      rfl
end Go.Proofs.YtokikapljmakbaaDoor.Pure
