/- The program's TryTime is the reference's, for all arguments. -/
import Derived.Laws.BitsLemmas
import Derived.Test.YtidicbddlpeiiaaPureBoolS
import Derived.Test.YtidicbddlpeiiaaHTryTime
import Derived.Test.YtidicbddlpeiiaaQx24
namespace Go.Proofs.Ytidicbddlpeiiaa.Pure
open Go.Proofs.Ytidicbddlpeiiaa.H Go.RowKit Go.Proofs.YtidicbddlpeiiaaW.PrintWords Go.Proofs.YtidicbddlpeiiaaW.PrintLast Go.Proofs.YtidicbddlpeiiaaW.PrintMore Go.Proofs.Ytidicbddlpeiiaa.Q
set_option linter.unusedSimpArgs false
set_option linter.unusedVariables false

/-- What is asked of the law's function. -/
def PureFnExactTryTime : Prop := ∀ (l0 : List Bool) (a1 a2 : Int), ∃ k, laws_FnExactTryTime.f k l0 a1 a2 = some true
set_option maxRecDepth 100000 in
theorem same_valid : ∀ l ∈ allB 6, ∀ t ∈ ([0, 1, 2, 3, 4, 5] : List Int), ∀ m ∈ ([1, 2, 3, 4, 5, 6, 7, 8, 9, 10, 11, 12, 13, 14, 15, 16, 17, 18, 19, 20] : List Int), spec_TryTime.f 40 l t m = impl_TryTime.f l t m := by decide +kernel
theorem valid_is (l : List Bool) (t : Int) : spec_validOutcome.f l t = some (decide (1 ≤ l.length ∧ l.length ≤ 6 ∧ 0 ≤ t ∧ t ≤ 5)) := by
  unfold spec_validOutcome.f spec_inRange.f
  by_cases h1 : (1 : Int) ≤ (l.length : Int)
  · rw [if_pos h1]
    by_cases h2 : (l.length : Int) ≤ 6
    · simp only [Option.bind_some, decide_eq_true h2, if_true]
      by_cases h3 : 0 ≤ t
      · rw [if_pos h3]
        simp only [Option.bind_some]
        congr 1
        rw [decide_eq_decide]
        omega
      · rw [if_neg h3]
        simp only [Option.bind_some]
        congr 1
        symm
        rw [decide_eq_false_iff_not]
        omega
    · simp only [Option.bind_some, decide_eq_false h2]
      rw [if_neg (by simp)]
      congr 1
      symm
      rw [decide_eq_false_iff_not]
      omega
  · rw [if_neg h1]
    simp only [Option.bind_some]
    rw [if_neg (by simp)]
    congr 1
    symm
    rw [decide_eq_false_iff_not]
    omega
theorem same_all (l : List Bool) (t m : Int) (k : Nat) (hk : 40 ≤ k) : spec_TryTime.f k l t m = impl_TryTime.f l t m := by
  have e : impl_TryTime.f l t m = some ((impl_TryTime.f l t m).getD 0) := by unfold impl_TryTime.f; rfl
  rw [e]
  refine at_rounds (spec_TryTime.mono l t m) hk ?_
  rw [← e]
  by_cases h : 1 ≤ l.length ∧ l.length ≤ 6 ∧ 0 ≤ t ∧ t ≤ 5
  · by_cases hm : 1 ≤ m ∧ m ≤ 20
    · exact same_valid l (allB_mem 6 l h.2.1) t (mem_range_tries t h.2.2.1 h.2.2.2) m (by simp only [List.mem_cons, List.not_mem_nil, or_false]; omega)
    · have e2 : impl_TryTime.f l t m = some (-1) := by
        unfold impl_TryTime.f
        rw [if_neg (fun x => hm x.2)]
      have e3 : spec_inRange.f m 1 20 = some false := by
        unfold spec_inRange.f
        by_cases h1 : 1 ≤ m
        · rw [if_pos h1, decide_eq_false (by omega)]
        · rw [if_neg h1]
      rw [e2]
      unfold spec_TryTime.f
      rw [valid_is l t, decide_eq_true h, e3]
      rfl
  · have e2 : impl_TryTime.f l t m = some (-1) := by
      unfold impl_TryTime.f
      rw [if_neg (fun x => h x.1)]
    rw [e2]
    unfold spec_TryTime.f
    rw [valid_is l t, decide_eq_false h]
    rfl
theorem FnExactTryTime : PureFnExactTryTime := by
  intro l t m
  by_cases hc : (l.length : Int) > 1048576
  · exact ⟨0, by unfold laws_FnExactTryTime.f; rw [if_pos hc]⟩
  have hl : l.length ≤ 1048576 := by omega
  refine ⟨l.length + 50, ?_⟩
  unfold laws_FnExactTryTime.f
  rw [if_neg hc, toBoolS_all l hl _ (by omega)]
  simp only [Option.bind_some]
  rw [same_all l t m _ (by omega)]
  obtain ⟨r, hr⟩ : ∃ r, impl_TryTime.f l t m = some r := ⟨_, rfl⟩
  rw [hr]
  simp only [Option.bind_some, if_true]
  rw [eqBoolS_all l hl _ (by omega)]
  rfl

end Go.Proofs.Ytidicbddlpeiiaa.Pure
