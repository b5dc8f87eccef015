/- The pure statement of FnTailTimesHeads: heads and tails fit into the longest time. -/
import Derived.Test.YtgpnododcbkflaaDoorPC
import Derived.Test.YtgpnododcbkflaaDoorPureHeadV
import Derived.Test.YtgpnododcbkflaaDoorPureTailTV
import Derived.Test.YtgpnododcbkflaaDoorPureLongI
import Derived.Test.YtgpnododcbkflaaDoorQx29
import Derived.Test.YtgpnododcbkflaaDoorQx35
namespace Go.Proofs.YtgpnododcbkflaaDoor.Pure
open Go.RowKit Go.Proofs.YtgpnododcbkflaaDoor.Q Go.Proofs.YtgpnododcbkflaaDoor.H Go.Proofs.YtgpnododcbkflaaDoorW.PrintWords Go.Proofs.YtgpnododcbkflaaDoorW.PrintMore
set_option linter.unusedVariables false

theorem draw_y (l0 : List Int) (hw : ∀ x ∈ l0, (Lit.int .u8 x).wf = true) : ∃ g, Evn (fun k => spec_DrawTailTimes.f k l0) g ∧ Few 16 10 g := by
  obtain ⟨b, e, hb⟩ := reader_y l0 hw
  unfold spec_DrawTailTimes.f
  rw [e]
  simp only [Option.bind_some]
  obtain ⟨g, q, hg, _, _, hf⟩ := anyGraph_y hb (p := 0) (Int.le_refl _) (by omega)
  exact ⟨g, Evn.bind hg (Evn.const rfl), hf⟩
theorem l0_is {g : List S30} (hv : valid g = true) : ∀ (d i : Nat) (b : Bool), i + d = g.length → (b = true ∨ ∃ m, i ≤ m ∧ m < g.length ∧ atI (headTimes g) m + atI (tailTimes g) m = longestTime g) → Evn (fun k => laws_FnTailTimesHeads.l0 k g (tailTimes g) (headTimes g) (longestTime g) b (i : Int)) true
  | 0, i, b, h, hb => by
    have hbt : b = true := by
      rcases hb with hb | ⟨m, h1, h2, _⟩
      · exact hb
      · omega
    subst hbt
    refine Evn.step (g := fun k => laws_FnTailTimesHeads.j2 k g (tailTimes g) (headTimes g) (longestTime g) true (i : Int) false) (Evn.step (Evn.const rfl) fun k => ?_) fun k => ?_
    · simp only [laws_FnTailTimesHeads.j2]
      rw [if_neg (by simp), if_pos trivial]
    · simp only [laws_FnTailTimesHeads.l0]
      rw [if_neg (by omega)]
  | d + 1, i, b, h, hb => by
    have hi : i < g.length := by omega
    have h8 := fine_len (valid_fine hv)
    have lh := headTimes_lenv hv
    have lt := tailTimes_len hv
    have hle := fits (valid_dag hv) (heads_of hv) (tails_of hv) (top_of hv) i hi
    have h1 := (top_bound hv).1 i hi
    have h0 := (top_bound hv).2 i hi
    have t1 := (top_small hv).2.2 i hi
    have t0 := (tails_of hv).own i hi
    have tt := (time_ok (valid_fine hv) i hi).1
    have ew : wrap64 (atI (headTimes g) i + atI (tailTimes g) i) = atI (headTimes g) i + atI (tailTimes g) i := w1k _ (by omega) (by omega)
    refine Evn.step (g := fun k => laws_FnTailTimesHeads.j2 k g (tailTimes g) (headTimes g) (longestTime g) b (i : Int) true) (Evn.step (l0_is hv d (i + 1) (b || (atI (headTimes g) i + atI (tailTimes g) i == longestTime g)) (by omega) ?_) fun k => ?_) fun k => ?_
    · rcases hb with hb | ⟨m, h1, h2, h3⟩
      · left
        rw [hb]
        rfl
      · by_cases e : m = i
        · left
          rw [← e, h3]
          simp
        · exact .inr ⟨m, by omega, h2, h3⟩
    · simp only [laws_FnTailTimesHeads.j2]
      rw [if_pos trivial, rd_atI _ i (by omega), rd_atI _ i (by omega), ew, wrap_up i (by omega)]
      simp only [if_pos (show (0 : Int) ≤ (i : Int) by omega), if_pos (show (i : Int) < ((headTimes g).length : Int) by omega), if_pos (show (i : Int) < ((tailTimes g).length : Int) by omega), if_neg (show ¬ (atI (headTimes g) i + atI (tailTimes g) i > longestTime g) by omega)]
      cases b
      · simp
      · simp
    · simp only [laws_FnTailTimesHeads.l0]
      rw [if_pos (by omega), decide_eq_true (by omega)]
theorem FnTailTimesHeads : laws_FnTailTimesHeads.Pure := by
  intro l0 _ _ hw
  refine Evn.at_ (f := fun k => laws_FnTailTimesHeads.f k l0) ?_
  unfold laws_FnTailTimesHeads.f
  by_cases hl : (l0.length : Int) > 1048576
  · simp only [if_pos hl]
    exact Evn.const rfl
  simp only [if_neg hl]
  obtain ⟨g, hg, hfw⟩ := draw_y l0 hw
  obtain ⟨h1, h2, h3⟩ := few_held hfw (by omega) (by omega)
  refine Evn.bind hg (Evn.bind (Evn.const (implTail_is h1)) (Evn.bind (specTailTimes_is g h2 h3) (Evn.bind (equalInts_same _ (tailTimes_held g)) ?_)))
  simp only [if_true]
  have hend : Evn (fun k => laws_FnTailTimesHeads.j0 k g (tailTimes g) true) true := by
    refine Evn.step (g := fun k => (spec_TailTimes.f k g).bind fun a => (laws_equalInts.f k (tailTimes g) a).bind fun b => some b) (Evn.bind (specTailTimes_is g h2 h3) (Evn.bind (equalInts_same _ (tailTimes_held g)) (Evn.const rfl))) fun k => ?_
    simp only [laws_FnTailTimesHeads.j0]
    rw [if_pos trivial]
  by_cases hfl : ((tailTimes g).length : Int) = (g.length : Int)
  · rw [show (((tailTimes g).length : Int) != (g.length : Int)) = false by simpa using hfl]
    have hv : valid g = true := Classical.byContradiction fun hv => by
      rw [tailTimes_no hv] at hfl
      have hg0 : g = [] := List.eq_nil_of_length_eq_zero (by simp at hfl; omega)
      subst hg0
      exact hv (by decide)
    refine Evn.step (g := fun k => (impl_HeadTimes.f g).bind fun h => (impl_LongestTime.f g).bind fun L => laws_FnTailTimesHeads.l0 k g (tailTimes g) h L ((g.length : Int) == 0) ((0 : Nat) : Int)) ?_ fun k => ?_
    · refine Evn.bind (Evn.const (implHead_is h1)) (Evn.bind (Evn.const (implLong_is h1)) ?_)
      refine l0_is hv g.length 0 _ (by omega) ?_
      by_cases hz : g.length = 0
      · left
        simpa using hz
      · right
        obtain ⟨i, hi, e⟩ := some_top (valid_dag hv) (tails_of hv) (top_of hv) (by omega)
        exact ⟨i, Nat.zero_le _, hi, by rw [top_head (valid_dag hv) (heads_of hv) (tails_of hv) (top_of hv) hi e, e]; omega⟩
    · simp only [laws_FnTailTimesHeads.j0]
      rw [if_neg (by simp)]
      rfl
  · rw [show (((tailTimes g).length : Int) != (g.length : Int)) = true by simpa using hfl]
    exact hend
end Go.Proofs.YtgpnododcbkflaaDoor.Pure
