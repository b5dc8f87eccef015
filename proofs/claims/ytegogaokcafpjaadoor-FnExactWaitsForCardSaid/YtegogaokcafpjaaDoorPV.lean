/- The order of a valid graph, as the program and the reference answer it; plain Lean. -/
import Derived.Test.YtegogaokcafpjaaDoorPA
import Derived.Test.YtegogaokcafpjaaDoorQx14
namespace Go.Proofs.YtegogaokcafpjaaDoor.H
open Go.RowKit Go.Proofs.YtegogaokcafpjaaDoorW.PrintWords Go.Proofs.YtegogaokcafpjaaDoor.Q

theorem valid_fine {g : List S33} (h : valid g = true) : fine g = true := by
  unfold valid at h
  rw [Bool.and_eq_true] at h
  exact h.1
theorem specTop_is (g : List S33) (hg : Held g) (ht : ∀ t, t ∈ g → Held t.f1) : Evn (fun k => spec_TopOrder.f k g) (topOrder g) := by
  unfold spec_TopOrder.f topOrder
  refine Evn.bind (validGraph_is g hg ht) ?_
  by_cases hv : valid g = true
  · simp only [hv, if_true]
    exact Evn.bind (topOrder_is g (valid_fine hv)) (Evn.const rfl)
  · simp only [hv]
    exact Evn.const rfl
theorem topOrder_held (g : List S33) : Held (topOrder g) := by
  unfold topOrder Held
  by_cases hv : valid g = true
  · rw [if_pos hv, ints_len]
    have h8 := fine_len (valid_fine hv)
    have := order_len (needs g)
    rw [needs_len] at this
    omega
  · rw [if_neg hv]
    simp
theorem implTop_is {g : List S33} (h : held g = true) : impl_TopOrder.f g = some (topOrder g) := if_pos h
theorem implValid_is {g : List S33} (h : held g = true) : impl_ValidGraph.f g = some (valid g) := if_pos h
/-- A valid graph's order holds all tasks. -/
theorem valid_all {g : List S33} (h : valid g = true) : (order (needs g)).1.length = g.length := by
  rw [valid_len g (valid_fine h)] at h
  exact of_decide_eq_true h
theorem topOrder_small (g : List S33) : (topOrder g).length ≤ 1048576 := by
  unfold topOrder
  by_cases hv : valid g = true
  · rw [if_pos hv, ints_len]
    have h8 := fine_len (valid_fine hv)
    have := order_len (needs g)
    rw [needs_len] at this
    omega
  · rw [if_neg hv]
    simp
end Go.Proofs.YtegogaokcafpjaaDoor.H
