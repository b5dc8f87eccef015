/- Slack in the program's words and in the reference's; plain Lean. -/
import Derived.Test.YtgpnododcbkflaaDoorPureTailV
import Derived.Test.YtgpnododcbkflaaDoorPureHeadV
import Derived.Test.YtgpnododcbkflaaDoorHSlack
import Derived.Test.YtgpnododcbkflaaDoorQx23
namespace Go.Proofs.YtgpnododcbkflaaDoor.H
open Go.RowKit Go.Proofs.YtgpnododcbkflaaDoorW.PrintWords Go.Proofs.YtgpnododcbkflaaDoorW.PrintLast Go.Proofs.YtgpnododcbkflaaDoorW.PrintMore Go.Proofs.YtgpnododcbkflaaDoor.Q
set_option linter.unusedVariables false

theorem sls_at (L : Int) (h t : List Int) (o : List Int) : ∀ (j : Nat), j ≤ o.length → ∀ i, i < o.length → atI ((List.range j).foldl (slAt L h t) o) i = if i < j then slOf L h t i else atI o i
  | 0, _, i, hi => by
    rw [if_neg (by omega)]
    rfl
  | j + 1, hj, i, hi => by
    rw [List.range_succ, List.foldl_append]
    have hl := sls_len L h t (List.range j) o
    show atI (((List.range j).foldl (slAt L h t) o).set j (slOf L h t j)) i = _
    by_cases e : i = j
    · subst e
      rw [atI_set_same _ _ _ (by omega), if_pos (by omega)]
    · rw [atI_set_other _ _ _ _ (fun h => e h.symm), sls_at L h t o j (by omega) i hi]
      by_cases c : i < j
      · rw [if_pos c, if_pos (by omega)]
      · rw [if_neg c, if_neg (by omega)]
theorem slackBy_is (L : Int) (h t : List Int) (n : Nat) : slackBy L h t n = (List.range n).map (slOf L h t) := by
  have hl : (slackBy L h t n).length = n := by unfold slackBy; rw [sls_len, List.length_replicate]
  refine List.ext_getElem (by rw [hl, List.length_map, List.length_range]) fun i h1 h2 => ?_
  have := sls_at L h t (List.replicate n 0) n (by rw [List.length_replicate]; exact Nat.le_refl _) i (by rw [List.length_replicate]; omega)
  rw [if_pos (by omega)] at this
  have e : (slackBy L h t n)[i] = atI (slackBy L h t n) i := by
    unfold atI
    rw [List.getD_eq_getElem?_getD, List.getElem?_eq_getElem h1]
    rfl
  rw [e, List.getElem_map, List.getElem_range]
  exact this
theorem slackTimes_len {g : List S30} (hv : valid g = true) : (slackTimes g).length = g.length := by
  unfold slackTimes
  rw [if_pos hv, slackBy_is, List.length_map, List.length_range]
theorem slackTimes_no {g : List S30} (hv : ¬ valid g = true) : slackTimes g = [] := if_neg hv
theorem slack_at {g : List S30} (hv : valid g = true) (i : Nat) (hi : i < g.length) : atI (slackTimes g) i = longestTime g - atI (headTimes g) i - atI (tailTimes g) i := by
  have e : slackTimes g = (List.range g.length).map (slOf (longestTime g) (headTimes g) (tailTimes g)) := by
    unfold slackTimes
    rw [if_pos hv, slackBy_is]
  rw [e]
  unfold atI
  rw [List.getD_eq_getElem?_getD, List.getElem?_map, List.getElem?_range hi]
  show slOf _ _ _ i = _
  unfold slOf
  obtain ⟨l0, l1, lt⟩ := top_small hv
  obtain ⟨b1, b0⟩ := top_bound hv
  have h1 := b1 i hi
  have h0 := b0 i hi
  have t1 := lt i hi
  have t0 := (tails_of hv).own i hi
  have tt := (time_ok (valid_fine hv) i hi).1
  rw [w1k (longestTime g - atI (headTimes g) i) (by omega) (by omega), w1k _ (by omega) (by omega)]
  rfl
theorem slackTimes_small (g : List S30) : (slackTimes g).length ≤ 1048576 := by
  by_cases hv : valid g = true
  · rw [slackTimes_len hv]
    have := fine_len (valid_fine hv)
    omega
  · rw [slackTimes_no hv]
    simp
theorem slackTimes_held (g : List S30) : Held (slackTimes g) := by
  have := slackTimes_small g
  unfold Held
  omega
theorem specSlack_l0 {g : List S30} (hv : valid g = true) : ∀ (d j : Nat) (x : List Int), j + d = g.length → x.length = j → Evn (fun k => spec_SlackTimes.l0 k g x (headTimes g) (tailTimes g) (j : Int)) (x ++ (List.range' j d).map (slOf (longestTime g) (headTimes g) (tailTimes g)))
  | 0, j, x, h, hx => by
    refine Evn.step (Evn.const rfl) fun k => ?_
    simp only [spec_SlackTimes.l0]
    rw [if_neg (by omega)]
    simp
  | d + 1, j, x, h, hx => by
    have h8 := fine_len (valid_fine hv)
    have lh := headTimes_lenv hv
    have lt := tailTimes_len hv
    have hN := specSlack_l0 hv d (j + 1) (x ++ [slOf (longestTime g) (headTimes g) (tailTimes g) j]) (by omega) (by rw [List.length_append, hx]; rfl)
    rw [List.range'_succ, List.map_cons]
    rw [List.append_assoc] at hN
    refine Evn.step (g := fun k => (spec_longest.f k g).bind fun L => spec_SlackTimes.l0 k g (x ++ [wrap64 ((wrap64 (L - atI (headTimes g) j)) - atI (tailTimes g) j)]) (headTimes g) (tailTimes g) ((j + 1 : Nat) : Int)) (Evn.bind (specLongest_is hv) hN) fun k => ?_
    simp only [spec_SlackTimes.l0]
    rw [if_pos (by omega), wrap_up j (by omega), rd_atI _ j (by omega), rd_atI _ j (by omega)]
    simp only [if_pos (show (0 : Int) ≤ (j : Int) by omega), if_pos (show (j : Int) < ((headTimes g).length : Int) by omega), if_pos (show (j : Int) < ((tailTimes g).length : Int) by omega), if_pos (show x.length < 17592186044416 by omega)]
theorem specSlackTimes_is (g : List S30) (hg : Held g) (ht : ∀ t, t ∈ g → Held t.f1) : Evn (fun k => spec_SlackTimes.f k g) (slackTimes g) := by
  unfold spec_SlackTimes.f
  refine Evn.bind (validGraph_is g hg ht) ?_
  by_cases hv : valid g = true
  · simp only [hv, if_true]
    refine Evn.bind (specHeads_is hv) (Evn.bind (specTails_is hv) ?_)
    have e : slackTimes g = [] ++ (List.range' 0 g.length).map (slOf (longestTime g) (headTimes g) (tailTimes g)) := by
      unfold slackTimes
      rw [if_pos hv, slackBy_is, List.range_eq_range']
      rfl
    rw [e]
    exact specSlack_l0 hv g.length 0 [] (by omega) rfl
  · simp only [hv]
    rw [slackTimes_no hv]
    exact Evn.const rfl
theorem implSlack_is {g : List S30} (h : held g = true) : impl_SlackTimes.f g = some (slackTimes g) := if_pos h
end Go.Proofs.YtgpnododcbkflaaDoor.H
