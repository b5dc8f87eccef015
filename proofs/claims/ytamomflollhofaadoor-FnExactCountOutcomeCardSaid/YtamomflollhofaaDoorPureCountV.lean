/- CountOutcome as the reference answers it; plain Lean. -/
import Derived.Test.YtamomflollhofaaDoorPureOutV
import Derived.Test.YtamomflollhofaaDoorQx28
namespace Go.Proofs.YtamomflollhofaaDoor.H
open Go.RowKit Go.Proofs.YtamomflollhofaaDoorW.PrintWords Go.Proofs.YtamomflollhofaaDoor.Q
set_option linter.unusedVariables false

theorem specCount_l0 (kind : Int) (l : List Int) (hl : l.length ≤ 8) : ∀ (d j : Nat) (x : Int), j + d = l.length → 0 ≤ x → x ≤ (j : Int) → Evn (fun k => spec_CountOutcome.l0 k kind x l (j : Int)) (countIn kind (l.drop j) x)
  | 0, j, x, h, _, _ => by
    rw [List.drop_of_length_le (by omega)]
    refine Evn.step (Evn.const rfl) fun k => ?_
    simp only [spec_CountOutcome.l0]
    rw [if_neg (by omega)]
    rfl
  | d + 1, j, x, h, h0, h1 => by
    have hj : j < l.length := by omega
    rw [List.drop_eq_getElem_cons hj]
    obtain ⟨b, hb⟩ : ∃ b, (l[j] == kind) = b := ⟨_, rfl⟩
    have e : countIn kind (l[j] :: l.drop (j + 1)) x = countIn kind (l.drop (j + 1)) (if b = true then wrap64 (x + 1) else x) := by
      unfold countIn
      rw [List.foldl_cons, hb]
    have hw : wrap64 (x + 1) = x + 1 := w64 _ (by omega) (by omega)
    rw [e]
    refine Evn.step (specCount_l0 kind l hl d (j + 1) (if b = true then wrap64 (x + 1) else x) (by omega) (by split <;> omega) (by split <;> omega)) fun k => ?_
    simp only [spec_CountOutcome.l0]
    rw [if_pos (by omega), if_pos (by omega), rd_get l j hj, hb, wrap_up j (by omega)]
    cases b
    · have h2 : wrap64 (x + 0) = x := by rw [w64 _ (by omega) (by omega)]; omega
      simp only [spec_toInt.f, Bool.false_eq_true, if_false, Option.bind_some, h2]
    · simp only [spec_toInt.f, if_true, Option.bind_some]
theorem specCount_is (g : List S32) (fs : List Int) (a c : Int) (hg : Held g) (ht : ∀ t, t ∈ g → Held t.f1) (hfs : Held fs) : Evn (fun k => spec_CountOutcome.f k g fs a c) (countAns g fs a c) := by
  unfold spec_CountOutcome.f countAns
  refine Evn.bind (validFails_is g fs hg ht hfs) ?_
  have hno : Evn (fun k => spec_CountOutcome.j0 k g fs a c 0 true) (-1) := by
    refine Evn.step (Evn.const rfl) fun k => ?_
    simp only [spec_CountOutcome.j0]
    rw [if_pos trivial]
  by_cases hv : failOk g fs = true
  · obtain ⟨h1, h2⟩ := failOk_eq hv
    have h8 := fine_len (valid_fine h1)
    simp only [hv, if_true, true_and]
    rw [inRange_is]
    refine Evn.bind (Evn.const rfl) ?_
    by_cases ha : 1 ≤ a ∧ a ≤ 8
    · simp only [decide_eq_true ha, if_true]
      rw [inRange_is]
      refine Evn.bind (Evn.const rfl) ?_
      by_cases hc : 0 ≤ c ∧ c ≤ 3
      · rw [if_pos ⟨ha, hc⟩, decide_eq_true hc]
        refine Evn.step (g := fun k => (spec_outcome.f k g fs a).bind fun o => spec_CountOutcome.l0 k c 0 o ((0 : Nat) : Int)) (Evn.bind (specOut_is h1 fs hfs h2 a) ?_) fun k => ?_
        · exact specCount_l0 c (outcomesOf g fs a) (by rw [outcomesOf_len]; omega) (outcomesOf g fs a).length 0 0 (by omega) (Int.le_refl _) (by omega)
        · simp only [spec_CountOutcome.j0]
          rw [if_neg (by simp)]
          rfl
      · rw [if_neg (fun h => hc h.2), decide_eq_false hc]
        exact hno
    · simp only [decide_eq_false ha, Bool.false_eq_true, if_false]
      rw [if_neg (fun h => ha h.1)]
      exact hno
  · simp only [hv]
    rw [if_neg (by simp)]
    exact hno
end Go.Proofs.YtamomflollhofaaDoor.H
