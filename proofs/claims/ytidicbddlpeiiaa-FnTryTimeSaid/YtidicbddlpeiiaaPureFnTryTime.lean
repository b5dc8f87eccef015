/- TryTime is the time for each run and the delays between: the law returns true for every code; no condition. -/
import Derived.Laws.BitsLemmas
import Derived.Test.YtidicbddlpeiiaaPureBools
import Derived.Test.YtidicbddlpeiiaaHTryTime
import Derived.Test.YtidicbddlpeiiaaQx27
namespace Go.Proofs.Ytidicbddlpeiiaa.Pure
open Go.Proofs.Ytidicbddlpeiiaa.H Go.RowKit Go.Proofs.YtidicbddlpeiiaaW.PrintWords Go.Proofs.YtidicbddlpeiiaaW.PrintLast Go.Proofs.YtidicbddlpeiiaaW.PrintMore Go.Proofs.Ytidicbddlpeiiaa.Q
set_option linter.unusedSimpArgs false
set_option linter.unusedVariables false

theorem DrawTryTime_all (code : List Int) (h : ∀ x ∈ code, (Lit.int .u8 x).wf = true) :
    ∃ y t m, (∀ k, 12 ≤ k → spec_DrawTryTime.f k code = some (y, t, m)) ∧ y.length ≤ 7 ∧ t ∈ ([2, 1, 3, 0, 5, 6, (-1)] : List Int) ∧ m ∈ ([1, 5, 20, 0, 21, 7] : List Int) := by
  obtain ⟨b, hb0, hbl, hb⟩ := newReader_all code h
  obtain ⟨y, t, hd, ly, ht⟩ := DrawTryTask_all code h
  obtain ⟨m, hm, mm⟩ := one_all b hb hbl 0 (by omega) (by omega) ([1, 5, 20, 0, 21, 7] : List Int) (by decide)
  refine ⟨y, t, m, fun k hk => ?_, ly, ht, mm⟩
  unfold spec_DrawTryTime.f
  obtain ⟨k, rfl⟩ : ∃ m, k = m + 1 := ⟨k - 1, by omega⟩
  rw [hb0]
  simp only [Option.bind_some]
  rw [hd (k + 1) (by omega)]
  simp only [Option.bind_some]
  rw [hm]
  simp only [Option.bind_some]
set_option maxRecDepth 100000 in
theorem FnTryTime : laws_FnTryTime.Pure := by
  intro code _ _ hw
  by_cases hc : (code.length : Int) > 1048576
  · exact ⟨0, by unfold laws_FnTryTime.f; rw [if_pos hc]⟩
  obtain ⟨l, t, m, hd, hl, ht, hm⟩ := DrawTryTime_all code hw
  have hl2 := allB_mem 7 l hl
  clear hl
  refine ⟨40, ?_⟩
  unfold laws_FnTryTime.f
  rw [if_neg hc, hd 40 (by omega)]
  simp only [Option.bind_some]
  clear hd hc hw
  revert m
  revert t
  revert l
  decide +kernel

end Go.Proofs.Ytidicbddlpeiiaa.Pure
