/- AllNeeds in the program's words and in the reference's; plain Lean. -/
import Derived.Test.YtamomflollhofaaDoorPureNeedsS
import Derived.Test.YtamomflollhofaaDoorPureNeedsI
import Derived.Test.YtamomflollhofaaDoorQx21
namespace Go.Proofs.YtamomflollhofaaDoor.H
open Go.RowKit Go.Proofs.YtamomflollhofaaDoorW.PrintWords Go.Proofs.YtamomflollhofaaDoor.Q
set_option linter.unusedVariables false

theorem rel1_no {g : List S32} {a : Int} (h : ¬ (valid g = true ∧ 0 ≤ a ∧ a ≤ (g.length : Int) - 1)) : rel1 g a = [] := if_neg h
theorem specAllNeeds_is (g : List S32) (a : Int) (hg : Held g) (ht : ∀ t, t ∈ g → Held t.f1) : Evn (fun k => spec_AllNeeds.f k g a) (rel1 g a) := by
  unfold spec_AllNeeds.f
  refine Evn.bind (validGraph_is g hg ht) ?_
  by_cases hv : valid g = true
  · have h8 := fine_len (valid_fine hv)
    simp only [hv, if_true]
    rw [w64 ((g.length : Int) - 1) (by omega) (by omega), inRange_is]
    refine Evn.bind (Evn.const rfl) ?_
    by_cases ha : 0 ≤ a ∧ a ≤ (g.length : Int) - 1
    · simp only [decide_eq_true ha, if_true]
      obtain ⟨i, rfl⟩ : ∃ i : Nat, a = (i : Int) := ⟨a.toNat, by omega⟩
      exact Evn.bind (specNeeds_is hv i (by omega)) (Evn.const rfl)
    · simp only [decide_eq_false ha, Bool.false_eq_true, if_false]
      rw [rel1_no (fun h => ha h.2)]
      exact Evn.const rfl
  · simp only [hv]
    rw [rel1_no (fun h => hv h.1)]
    exact Evn.const rfl
end Go.Proofs.YtamomflollhofaaDoor.H
