/- The pure statement of FnTailTimesLast: last tasks have their own times as tails. -/
import Derived.Test.YtgpnododcbkflaaDoorPC
import Derived.Test.YtgpnododcbkflaaDoorPureTailTV
import Derived.Test.YtgpnododcbkflaaDoorPureUsersI
import Derived.Test.YtgpnododcbkflaaDoorQx29
import Derived.Test.YtgpnododcbkflaaDoorQx42
namespace Go.Proofs.YtgpnododcbkflaaDoor.Pure
open Go.RowKit Go.Proofs.YtgpnododcbkflaaDoor.Q Go.Proofs.YtgpnododcbkflaaDoor.H Go.Proofs.YtgpnododcbkflaaDoorW.PrintWords Go.Proofs.YtgpnododcbkflaaDoorW.PrintMore
set_option linter.unusedVariables false

theorem draw_y (l0 : List Int) (hw : ∀ x ∈ l0, (Lit.int .u8 x).wf = true) : ∃ g, Evn (fun k => spec_DrawTailTimes.f k l0) g ∧ Few 16 10 g := by
  obtain ⟨b, e, hb⟩ := reader_y l0 hw
  unfold spec_DrawTailTimes.f
  rw [e]
  simp only [Option.bind_some]
  obtain ⟨g, q, hg, _, _, hf⟩ := anyGraph_y hb (p := 0) (Int.le_refl _) (by omega)
  exact ⟨g, Evn.bind hg (Evn.const rfl), hf⟩
theorem users_none {g : List S30} (hv : valid g = true) (i : Nat) (hi : i < g.length) : (((rel2 g (i : Int)).length : Int) == 0) = (atI (tailTimes g) i == tmOf g i) := by
  have hf := valid_fine hv
  have d := valid_dag hv
  have ht := tails_of hv
  have key : rel2 g (i : Int) = [] ↔ ∀ j, j < g.length → ¬ i ∈ nbOf g j := by
    constructor
    · intro e j hj hij
      have : ((j : Nat) : Int) ∈ rel2 g (i : Int) := (rel2_mem hv i hi j).2 ⟨hj, .one ((nb_mem hf j hj i).1 hij)⟩
      rw [e] at this
      cases this
    · intro h
      refine List.eq_nil_iff_forall_not_mem.2 fun x hx => ?_
      obtain ⟨y, rfl⟩ := rel2_nat hx
      obtain ⟨hy, hr⟩ := (rel2_mem hv i hi y).1 hx
      have last : ∀ {a b : Nat}, Go.Proofs.YtgpnododcbkflaaDoor.H.Reach g a b → a < g.length → b = i → False := fun {a b} hr => by
        induction hr with
        | one h1 =>
          intro ha e
          subst e
          exact h _ ha ((nb_mem hf _ ha _).2 h1)
        | more h1 _ ih =>
          intro ha e
          have := needs_range hf _ ha _ h1
          exact ih (by omega) e
      exact last hr hy rfl
  have t0 := (time_ok hf i hi).1
  rw [Bool.eq_iff_iff, beq_iff_eq, beq_iff_eq]
  constructor
  · intro h
    have h0 : rel2 g (i : Int) = [] := List.eq_nil_of_length_eq_zero (by omega)
    rcases ht.att i hi with e | ⟨j, hj, hij, _⟩
    · exact e
    · exact absurd hij (key.1 h0 j hj)
  · intro e
    rw [key.2 (fun j hj hij => by
      have h1 := ht.ge i hi j hj hij
      have h2 := ht.own j hj
      have h3 := (time_ok hf j hj).1
      omega)]
    rfl
theorem FnTailTimesLast : laws_FnTailTimesLast.Pure := by
  intro l0 _ _ hw
  refine Evn.at_ (f := fun k => laws_FnTailTimesLast.f k l0) ?_
  unfold laws_FnTailTimesLast.f
  by_cases hl : (l0.length : Int) > 1048576
  · simp only [if_pos hl]
    exact Evn.const rfl
  simp only [if_neg hl]
  obtain ⟨g, hg, hfw⟩ := draw_y l0 hw
  obtain ⟨h1, h2, h3⟩ := few_held hfw (by omega) (by omega)
  refine Evn.bind hg (Evn.bind (Evn.const (implTail_is h1)) (Evn.bind (specTailTimes_is g h2 h3) (Evn.bind (equalInts_same _ (tailTimes_held g)) ?_)))
  simp only [if_true]
  have hend : Evn (fun k => laws_FnTailTimesLast.j0 k g (tailTimes g) true) true := by
    refine Evn.step (g := fun k => (spec_TailTimes.f k g).bind fun a => (laws_equalInts.f k (tailTimes g) a).bind fun b => some b) (Evn.bind (specTailTimes_is g h2 h3) (Evn.bind (equalInts_same _ (tailTimes_held g)) (Evn.const rfl))) fun k => ?_
    simp only [laws_FnTailTimesLast.j0]
    rw [if_pos trivial]
  by_cases hfl : ((tailTimes g).length : Int) = (g.length : Int)
  · rw [show (((tailTimes g).length : Int) != (g.length : Int)) = false by simpa using hfl]
    have hlen : g.length ≤ 16 := hfw.1
    refine Evn.step (g := fun k => laws_FnTailTimesLast.l0 k g (tailTimes g) ((0 : Nat) : Int)) ?_ fun k => ?_
    · refine goes_all g.length (fun k i => laws_FnTailTimesLast.l0 k g (tailTimes g) i) true 0 ?_ ?_ g.length 0 (Nat.le_refl _) (by omega)
      · refine Evn.step (Evn.const rfl) fun k => ?_
        simp only [laws_FnTailTimesLast.l0]
        rw [if_neg (by omega)]
      · intro i _ hi hN
        have hv : valid g = true := Classical.byContradiction fun hv => by
          rw [tailTimes_no hv] at hfl
          simp at hfl
          omega
        refine Evn.step hN fun k => ?_
        simp only [laws_FnTailTimesLast.l0]
        rw [if_pos (by omega), implUsers_is h1, Option.bind_some, if_pos (by omega), if_pos (by omega), users_none hv i hi, rd_atI _ i (by omega), wrap_up i (by omega)]
        have e0 : (rd_T30 g ((i : Nat) : Int)).f0 = tmOf g i := rfl
        rw [e0]
        simp
    · simp only [laws_FnTailTimesLast.j0]
      rw [if_neg (by simp)]
      rfl
  · rw [show (((tailTimes g).length : Int) != (g.length : Int)) = true by simpa using hfl]
    exact hend
end Go.Proofs.YtgpnododcbkflaaDoor.Pure
