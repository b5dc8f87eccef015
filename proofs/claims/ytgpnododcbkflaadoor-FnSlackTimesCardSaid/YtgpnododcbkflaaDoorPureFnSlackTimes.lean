/- The pure statement of FnSlackTimes: slack is time that is left. -/
import Derived.Test.YtgpnododcbkflaaDoorPureLonger
import Derived.Test.YtgpnododcbkflaaDoorPureSlackV
import Derived.Test.YtgpnododcbkflaaDoorPureLongI
import Derived.Test.YtgpnododcbkflaaDoorQx27
import Derived.Test.YtgpnododcbkflaaDoorQx42
namespace Go.Proofs.YtgpnododcbkflaaDoor.Pure
open Go.RowKit Go.Proofs.YtgpnododcbkflaaDoor.Q Go.Proofs.YtgpnododcbkflaaDoor.H Go.Proofs.YtgpnododcbkflaaDoorW.PrintWords Go.Proofs.YtgpnododcbkflaaDoorW.PrintMore
set_option linter.unusedVariables false

theorem draw_y (l0 : List Int) (hw : ∀ x ∈ l0, (Lit.int .u8 x).wf = true) : ∃ g, Evn (fun k => spec_DrawSlackTimes.f k l0) g ∧ Few 16 10 g := by
  obtain ⟨b, e, hb⟩ := reader_y l0 hw
  unfold spec_DrawSlackTimes.f
  rw [e]
  simp only [Option.bind_some]
  obtain ⟨g, q, hg, _, _, hf⟩ := anyGraph_y hb (p := 0) (Int.le_refl _) (by omega)
  exact ⟨g, Evn.bind hg (Evn.const rfl), hf⟩
theorem l0_is {g : List S30} (hv : valid g = true) (hfw : Few 16 10 g) : ∀ (d i : Nat), i + d = g.length → Evn (fun k => laws_FnSlackTimes.l0 k g (slackTimes g) (longestTime g) (i : Int)) true
  | 0, i, hi => by
    refine Evn.step (Evn.const rfl) fun k => ?_
    simp only [laws_FnSlackTimes.l0]
    rw [if_neg (by omega)]
  | d + 1, i, hid => by
    have hi : i < g.length := by omega
    have hf := valid_fine hv
    have h8 := fine_len hf
    have hN := l0_is hv hfw d (i + 1) (by omega)
    have ht := time_ok hf i hi
    have hL := (top_small hv).2.1
    have hL0 := (top_small hv).1
    have ls := slackTimes_len hv
    have es := slack_at hv i hi
    have hle := fits (valid_dag hv) (heads_of hv) (tails_of hv) (top_of hv) i hi
    have b0 := (top_bound hv).2 i hi
    have t0 := (tails_of hv).own i hi
    obtain ⟨s, e⟩ : ∃ s, atI (slackTimes g) i = s := ⟨_, rfl⟩
    rw [e] at es
    have e0 : (rd_T30 g ((i : Nat) : Int)).f0 = tmOf g i := rfl
    have he : ([] ++ g).set (i : Int).toNat (⟨wrap64 ((rd_T30 ([] ++ g) i).f0 + s), (rd_T30 ([] ++ g) i).f1, (rd_T30 ([] ++ g) i).f2, (rd_T30 ([] ++ g) i).f3⟩ : S30) = later g i (tmOf g i + s) := by
      rw [List.nil_append, Int.toNat_natCast, e0, w1k (tmOf g i + s) (by omega) (by omega)]
      rfl
    have hh := (few_held (later_few hfw i hi (tmOf g i + s)) (by omega) (by omega)).1
    refine Evn.step hN fun k => ?_
    simp only [laws_FnSlackTimes.l0]
    rw [if_pos (by omega), Option.bind_some, if_pos (by simp; omega), Option.bind_some, if_pos (by omega), if_pos (by simp; omega), if_pos (by omega), rd_atI _ i (by omega), e, Option.bind_some, if_neg (by omega), he, implValid_is hh, Option.bind_some, implLong_is hh, Option.bind_some, wrap_up i (by omega)]
    by_cases hv' : valid (later g i (tmOf g i + s)) = true
    · rw [if_pos hv']
      have hl := longer_g hv i hi s (by omega) hv' (heads_of hv)
      rw [if_pos (by omega)]
    · rw [if_neg hv']
theorem FnSlackTimes : laws_FnSlackTimes.Pure := by
  intro l0 _ _ hw
  refine Evn.at_ (f := fun k => laws_FnSlackTimes.f k l0) ?_
  unfold laws_FnSlackTimes.f
  by_cases hl : (l0.length : Int) > 1048576
  · simp only [if_pos hl]
    exact Evn.const rfl
  simp only [if_neg hl]
  obtain ⟨g, hg, hfw⟩ := draw_y l0 hw
  obtain ⟨h1, h2, h3⟩ := few_held hfw (by omega) (by omega)
  refine Evn.bind hg (Evn.bind (Evn.const (implSlack_is h1)) (Evn.bind (specSlackTimes_is g h2 h3) (Evn.bind (equalInts_same _ (slackTimes_held g)) ?_)))
  simp only [if_true]
  have hend : Evn (fun k => laws_FnSlackTimes.j0 k g (slackTimes g) true) true := by
    refine Evn.step (g := fun k => (spec_SlackTimes.f k g).bind fun a => (laws_equalInts.f k (slackTimes g) a).bind fun b => some b) (Evn.bind (specSlackTimes_is g h2 h3) (Evn.bind (equalInts_same _ (slackTimes_held g)) (Evn.const rfl))) fun k => ?_
    simp only [laws_FnSlackTimes.j0]
    rw [if_pos trivial]
  by_cases hfl : ((slackTimes g).length : Int) = (g.length : Int)
  · rw [show (((slackTimes g).length : Int) != (g.length : Int)) = false by simpa using hfl]
    have hv : valid g = true := Classical.byContradiction fun hv => by
      rw [slackTimes_no hv] at hfl
      have hg0 : g = [] := List.eq_nil_of_length_eq_zero (by simp at hfl; omega)
      subst hg0
      exact hv (by decide)
    refine Evn.step (g := fun k => (impl_LongestTime.f g).bind fun L => laws_FnSlackTimes.l0 k g (slackTimes g) L ((0 : Nat) : Int)) (Evn.bind (Evn.const (implLong_is h1)) ?_) fun k => ?_
    · exact l0_is hv hfw g.length 0 (by omega)
    · simp only [laws_FnSlackTimes.j0]
      rw [if_neg (by simp)]
      rfl
  · rw [show (((slackTimes g).length : Int) != (g.length : Int)) = true by simpa using hfl]
    exact hend
end Go.Proofs.YtgpnododcbkflaaDoor.Pure
