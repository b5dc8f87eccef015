/- The program's IsFlaky is the reference's, for all arguments. -/
import Derived.Laws.BitsLemmas
import Derived.Test.YtidicbddlpeiiaaPureBoolS
import Derived.Test.YtidicbddlpeiiaaHTryTask
import Derived.Test.YtidicbddlpeiiaaQx14
namespace Go.Proofs.Ytidicbddlpeiiaa.Pure
open Go.Proofs.Ytidicbddlpeiiaa.H Go.RowKit Go.Proofs.YtidicbddlpeiiaaW.PrintWords Go.Proofs.YtidicbddlpeiiaaW.PrintLast Go.Proofs.YtidicbddlpeiiaaW.PrintMore Go.Proofs.Ytidicbddlpeiiaa.Q
set_option linter.unusedSimpArgs false
set_option linter.unusedVariables false

/-- What is asked of the law's function. -/
def PureFnExactIsFlaky : Prop := ∀ (l0 : List Bool) (a1 : Int), ∃ k, laws_FnExactIsFlaky.f k l0 a1 = some true
set_option maxRecDepth 100000 in
theorem same_valid : ∀ l ∈ allB 6, ∀ t ∈ ([0, 1, 2, 3, 4, 5] : List Int), (spec_IsFlaky.f 30 l t = impl_IsFlaky.f l t ∧ (impl_IsFlaky.f l t).isSome = true) := by decide +kernel
theorem valid_is (l : List Bool) (t : Int) : spec_validOutcome.f l t = some (decide (1 ≤ l.length ∧ l.length ≤ 6 ∧ 0 ≤ t ∧ t ≤ 5)) := by
  unfold spec_validOutcome.f spec_inRange.f
  by_cases h1 : (1 : Int) ≤ (l.length : Int)
  · rw [if_pos h1]
    by_cases h2 : (l.length : Int) ≤ 6
    · simp only [Option.bind_some, decide_eq_true h2, if_true]
      by_cases h3 : 0 ≤ t
      · rw [if_pos h3]
        simp only [Option.bind_some]
        congr 1
        rw [decide_eq_decide]
        omega
      · rw [if_neg h3]
        simp only [Option.bind_some]
        congr 1
        symm
        rw [decide_eq_false_iff_not]
        omega
    · simp only [Option.bind_some, decide_eq_false h2]
      rw [if_neg (by simp)]
      congr 1
      symm
      rw [decide_eq_false_iff_not]
      omega
  · rw [if_neg h1]
    simp only [Option.bind_some]
    rw [if_neg (by simp)]
    congr 1
    symm
    rw [decide_eq_false_iff_not]
    omega
theorem same_all (l : List Bool) (t : Int) (k : Nat) (hk : 30 ≤ k) : ∃ r, spec_IsFlaky.f k l t = some r ∧ impl_IsFlaky.f l t = some r := by
  by_cases h : 1 ≤ l.length ∧ l.length ≤ 6 ∧ 0 ≤ t ∧ t ≤ 5
  · obtain ⟨h1, h2⟩ := same_valid l (allB_mem 6 l h.2.1) t (mem_range_tries t h.2.2.1 h.2.2.2)
    obtain ⟨r, hr⟩ := Option.isSome_iff_exists.1 h2
    exact ⟨r, at_rounds (spec_IsFlaky.mono l t) hk (h1.trans hr), hr⟩
  · refine ⟨false, ?_, ?_⟩
    · unfold spec_IsFlaky.f
      rw [valid_is l t, decide_eq_false h]
      rfl
    · unfold impl_IsFlaky.f impl_TryTask.f
      rw [if_neg h]
      rfl
theorem FnExactIsFlaky : PureFnExactIsFlaky := by
  intro l t
  by_cases hc : (l.length : Int) > 1048576
  · exact ⟨0, by unfold laws_FnExactIsFlaky.f; rw [if_pos hc]⟩
  have hl : l.length ≤ 1048576 := by omega
  refine ⟨l.length + 50, ?_⟩
  obtain ⟨r, h1, h2⟩ := same_all l t (l.length + 50) (by omega)
  unfold laws_FnExactIsFlaky.f
  rw [if_neg hc, toBoolS_all l hl _ (by omega)]
  simp only [Option.bind_some]
  rw [h1]
  simp only [Option.bind_some]
  rw [h2]
  simp only [Option.bind_some]
  rw [if_neg (by simp), eqBoolS_all l hl _ (by omega)]
  rfl

end Go.Proofs.Ytidicbddlpeiiaa.Pure
