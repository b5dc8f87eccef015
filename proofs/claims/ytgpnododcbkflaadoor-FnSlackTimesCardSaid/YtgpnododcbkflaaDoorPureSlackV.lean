/- Slack in the program's words and in the reference's; plain Lean. -/
import Derived.Test.YtgpnododcbkflaaDoorPureSlackI
import Derived.Test.YtgpnododcbkflaaDoorPureHeadS
import Derived.Test.YtgpnododcbkflaaDoorQx19
namespace Go.Proofs.YtgpnododcbkflaaDoor.H
open Go.RowKit Go.Proofs.YtgpnododcbkflaaDoorW.PrintWords Go.Proofs.YtgpnododcbkflaaDoorW.PrintLast Go.Proofs.YtgpnododcbkflaaDoorW.PrintMore Go.Proofs.YtgpnododcbkflaaDoor.Q
set_option linter.unusedVariables false

theorem specSlack_l0 {g : List S30} (hv : valid g = true) : ∀ (d j : Nat) (x : List Int), j + d = g.length → x.length = j → Evn (fun k => spec_SlackTimes.l0 k g x (headTimes g) (tailTimes g) (j : Int)) (x ++ (List.range' j d).map (slOf (longestTime g) (headTimes g) (tailTimes g)))
  | 0, j, x, h, hx => by
    refine Evn.step (Evn.const rfl) fun k => ?_
    simp only [spec_SlackTimes.l0]
    rw [if_neg (by omega)]
    simp
  | d + 1, j, x, h, hx => by
    have h8 := fine_len (valid_fine hv)
    have lh := headTimes_lenv hv
    have lt := tailTimes_len hv
    have hN := specSlack_l0 hv d (j + 1) (x ++ [slOf (longestTime g) (headTimes g) (tailTimes g) j]) (by omega) (by rw [List.length_append, hx]; rfl)
    rw [List.range'_succ, List.map_cons]
    rw [List.append_assoc] at hN
    refine Evn.step (g := fun k => (spec_longest.f k g).bind fun L => spec_SlackTimes.l0 k g (x ++ [wrap64 ((wrap64 (L - atI (headTimes g) j)) - atI (tailTimes g) j)]) (headTimes g) (tailTimes g) ((j + 1 : Nat) : Int)) (Evn.bind (specLongest_is hv) hN) fun k => ?_
    simp only [spec_SlackTimes.l0]
    rw [if_pos (by omega), wrap_up j (by omega), rd_atI _ j (by omega), rd_atI _ j (by omega)]
    simp only [if_pos (show (0 : Int) ≤ (j : Int) by omega), if_pos (show (j : Int) < ((headTimes g).length : Int) by omega), if_pos (show (j : Int) < ((tailTimes g).length : Int) by omega), if_pos (show x.length < 17592186044416 by omega)]
theorem specSlackTimes_is (g : List S30) (hg : Held g) (ht : ∀ t, t ∈ g → Held t.f1) : Evn (fun k => spec_SlackTimes.f k g) (slackTimes g) := by
  unfold spec_SlackTimes.f
  refine Evn.bind (validGraph_is g hg ht) ?_
  by_cases hv : valid g = true
  · simp only [hv, if_true]
    refine Evn.bind (specHeads_is hv) (Evn.bind (specTails_is hv) ?_)
    have e : slackTimes g = [] ++ (List.range' 0 g.length).map (slOf (longestTime g) (headTimes g) (tailTimes g)) := by
      unfold slackTimes
      rw [if_pos hv, slackBy_is, List.range_eq_range']
      rfl
    rw [e]
    exact specSlack_l0 hv g.length 0 [] (by omega) rfl
  · simp only [hv]
    rw [slackTimes_no hv]
    exact Evn.const rfl
end Go.Proofs.YtgpnododcbkflaaDoor.H
