/- A graph one of whose tasks takes longer; plain Lean. -/
import Derived.Test.YtgpnododcbkflaaDoorPureTailV
import Derived.Test.YtgpnododcbkflaaDoorPC
namespace Go.Proofs.YtgpnododcbkflaaDoor.H
open Go.RowKit Go.Proofs.YtgpnododcbkflaaDoorW.PrintWords Go.Proofs.YtgpnododcbkflaaDoorW.PrintLast Go.Proofs.YtgpnododcbkflaaDoorW.PrintMore Go.Proofs.YtgpnododcbkflaaDoor.Q
set_option linter.unusedVariables false

def later (g : List S30) (i : Nat) (x : Int) : List S30 := g.set i ⟨x, (rd_T30 g i).f1, (rd_T30 g i).f2, (rd_T30 g i).f3⟩
theorem later_len (g : List S30) (i : Nat) (x : Int) : (later g i x).length = g.length := List.length_set ..
theorem later_needs (g : List S30) (i : Nat) (hi : i < g.length) (x : Int) : needs (later g i x) = needs g := by
  unfold needs later
  refine List.ext_getElem (by simp) fun j h1 h2 => ?_
  rw [List.getElem_map, List.getElem_map, List.getElem_set]
  by_cases e : i = j
  · subst e
    rw [if_pos rfl, rd_task g i hi]
  · rw [if_neg e]
theorem later_nb (g : List S30) (i : Nat) (hi : i < g.length) (x : Int) : nbOf (later g i x) = nbOf g := by
  funext j
  unfold nbOf
  rw [later_needs g i hi x]
theorem later_tm (g : List S30) (i : Nat) (hi : i < g.length) (x : Int) (j : Nat) (hj : j < g.length) : tmOf (later g i x) j = if j = i then x else tmOf g j := by
  unfold tmOf
  rw [rd_task _ j (by rw [later_len]; exact hj)]
  unfold later
  rw [List.getElem_set]
  by_cases e : i = j
  · subst e
    rw [if_pos rfl, if_pos rfl]
  · rw [if_neg e, if_neg (fun h => e h.symm), rd_task g j hj]
theorem later_few {n m : Nat} {g : List S30} (h : Few n m g) (i : Nat) (hi : i < g.length) (x : Int) : Few n m (later g i x) := h.set i (by
  show (rd_T30 g i).f1.length ≤ m
  rw [rd_task g i hi]
  exact h.2 _ (List.getElem_mem hi))
theorem longer_g {g : List S30} (hv : valid g = true) (i : Nat) (hi : i < g.length) (x : Int) (hx : 0 ≤ x) (hv' : valid (later g i (tmOf g i + x)) = true) {h : Nat → Int} (a : IsHeads g.length (nbOf g) (tmOf g) h) :
    longestTime (later g i (tmOf g i + x)) = max (longestTime g) (h i + atI (tailTimes g) i + x) := by
  have d' := valid_dag hv'
  have b' := tails_of hv'
  have c' := top_of hv'
  have a' := heads_is d' (order_eight hv')
  rw [later_len] at d' b' c' a'
  rw [later_nb g i hi] at d' b' a'
  refine longer (valid_dag hv) hi hx ?_ ?_ a (tails_of hv) (top_of hv) d' a' b' c'
  · rw [later_tm g i hi _ i hi, if_pos rfl]
  · intro j hj hji
    rw [later_tm g i hi _ j hj, if_neg hji]
end Go.Proofs.YtgpnododcbkflaaDoor.H
