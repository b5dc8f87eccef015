/- Slack as the program answers it; plain Lean. -/
import Derived.Test.YtgpnododcbkflaaDoorPureTailV
import Derived.Test.YtgpnododcbkflaaDoorPureHeadI
import Derived.Test.YtgpnododcbkflaaDoorHSlack
namespace Go.Proofs.YtgpnododcbkflaaDoor.H
open Go.RowKit Go.Proofs.YtgpnododcbkflaaDoorW.PrintWords Go.Proofs.YtgpnododcbkflaaDoorW.PrintLast Go.Proofs.YtgpnododcbkflaaDoorW.PrintMore Go.Proofs.YtgpnododcbkflaaDoor.Q
set_option linter.unusedVariables false

theorem sls_at (L : Int) (h t : List Int) (o : List Int) : ∀ (j : Nat), j ≤ o.length → ∀ i, i < o.length → atI ((List.range j).foldl (slAt L h t) o) i = if i < j then slOf L h t i else atI o i
  | 0, _, i, hi => by
    rw [if_neg (by omega)]
    rfl
  | j + 1, hj, i, hi => by
    rw [List.range_succ, List.foldl_append]
    have hl := sls_len L h t (List.range j) o
    show atI (((List.range j).foldl (slAt L h t) o).set j (slOf L h t j)) i = _
    by_cases e : i = j
    · subst e
      rw [atI_set_same _ _ _ (by omega), if_pos (by omega)]
    · rw [atI_set_other _ _ _ _ (fun h => e h.symm), sls_at L h t o j (by omega) i hi]
      by_cases c : i < j
      · rw [if_pos c, if_pos (by omega)]
      · rw [if_neg c, if_neg (by omega)]
theorem slackBy_is (L : Int) (h t : List Int) (n : Nat) : slackBy L h t n = (List.range n).map (slOf L h t) := by
  have hl : (slackBy L h t n).length = n := by unfold slackBy; rw [sls_len, List.length_replicate]
  refine List.ext_getElem (by rw [hl, List.length_map, List.length_range]) fun i h1 h2 => ?_
  have := sls_at L h t (List.replicate n 0) n (by rw [List.length_replicate]; exact Nat.le_refl _) i (by rw [List.length_replicate]; omega)
  rw [if_pos (by omega)] at this
  have e : (slackBy L h t n)[i] = atI (slackBy L h t n) i := by
    unfold atI
    rw [List.getD_eq_getElem?_getD, List.getElem?_eq_getElem h1]
    rfl
  rw [e, List.getElem_map, List.getElem_range]
  exact this
theorem slackTimes_len {g : List S30} (hv : valid g = true) : (slackTimes g).length = g.length := by
  unfold slackTimes
  rw [if_pos hv, slackBy_is, List.length_map, List.length_range]
theorem slackTimes_no {g : List S30} (hv : ¬ valid g = true) : slackTimes g = [] := if_neg hv
theorem slack_at {g : List S30} (hv : valid g = true) (i : Nat) (hi : i < g.length) : atI (slackTimes g) i = longestTime g - atI (headTimes g) i - atI (tailTimes g) i := by
  have e : slackTimes g = (List.range g.length).map (slOf (longestTime g) (headTimes g) (tailTimes g)) := by
    unfold slackTimes
    rw [if_pos hv, slackBy_is]
  rw [e]
  unfold atI
  rw [List.getD_eq_getElem?_getD, List.getElem?_map, List.getElem?_range hi]
  show slOf _ _ _ i = _
  unfold slOf
  obtain ⟨l0, l1, lt⟩ := top_small hv
  obtain ⟨b1, b0⟩ := top_bound hv
  have h1 := b1 i hi
  have h0 := b0 i hi
  have t1 := lt i hi
  have t0 := (tails_of hv).own i hi
  have tt := (time_ok (valid_fine hv) i hi).1
  rw [w1k (longestTime g - atI (headTimes g) i) (by omega) (by omega), w1k _ (by omega) (by omega)]
  rfl
theorem slackTimes_small (g : List S30) : (slackTimes g).length ≤ 1048576 := by
  by_cases hv : valid g = true
  · rw [slackTimes_len hv]
    have := fine_len (valid_fine hv)
    omega
  · rw [slackTimes_no hv]
    simp
theorem slackTimes_held (g : List S30) : Held (slackTimes g) := by
  have := slackTimes_small g
  unfold Held
  omega
theorem implSlack_is {g : List S30} (h : held g = true) : impl_SlackTimes.f g = some (slackTimes g) := if_pos h
end Go.Proofs.YtgpnododcbkflaaDoor.H
