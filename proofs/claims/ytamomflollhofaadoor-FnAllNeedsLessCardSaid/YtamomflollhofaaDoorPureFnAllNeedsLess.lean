/- The pure statement of FnAllNeedsLess: needs have fewer needs. -/
import Derived.Test.YtamomflollhofaaDoorPC
import Derived.Test.YtamomflollhofaaDoorPureIsIn
import Derived.Test.YtamomflollhofaaDoorPureNeedsV
import Derived.Test.YtamomflollhofaaDoorPureRelMore
import Derived.Test.YtamomflollhofaaDoorQx30
import Derived.Test.YtamomflollhofaaDoorQx38
namespace Go.Proofs.YtamomflollhofaaDoor.Pure
open Go.RowKit Go.Proofs.YtamomflollhofaaDoor.Q Go.Proofs.YtamomflollhofaaDoor.H Go.Proofs.YtamomflollhofaaDoorW.PrintWords Go.Proofs.YtamomflollhofaaDoorW.PrintMore
set_option linter.unusedVariables false

theorem draw_y (l0 : List Int) (hw : ∀ x ∈ l0, (Lit.int .u8 x).wf = true) : ∃ g a, Evn (fun k => spec_DrawAllNeeds.f k l0) (g, a) ∧ Few 16 10 g := by
  obtain ⟨b, e, hb⟩ := reader_y l0 hw
  unfold spec_DrawAllNeeds.f
  rw [e]
  simp only [Option.bind_some]
  obtain ⟨g, q, hg, q0, q1, hf⟩ := anyGraph_y hb (p := 0) (Int.le_refl _) (by omega)
  have hs : ∃ a s, Evn (fun k => spec_someAt.f k b q g) (a, s) := by
    unfold spec_someAt.f
    obtain ⟨x, q2, hx, a0, a1, _⟩ := pick_y hb (p := q) (by omega) (by omega) 10
    by_cases hz : x = 0
    · obtain ⟨y, q3, hy, _⟩ := one_y hb (p := q2) (by omega) (by omega) [(-1), (g.length : Int), 0] (by simp)
      refine ⟨y, q3, Evn.bind hx ?_⟩
      simp only [hz, if_true]
      exact Evn.bind hy (Evn.const rfl)
    · obtain ⟨y, q3, hy, _⟩ := pick_y hb (p := q2) (by omega) (by omega) (mx 1 (g.length : Int))
      refine ⟨y, q3, Evn.bind hx ?_⟩
      simp only [hz, if_false]
      exact Evn.bind hy (Evn.const rfl)
  obtain ⟨a, s, ha⟩ := hs
  exact ⟨g, a, Evn.bind hg (Evn.bind ha (Evn.const rfl)), hf⟩
theorem FnAllNeedsLess : laws_FnAllNeedsLess.Pure := by
  intro l0 _ _ hw
  refine Evn.at_ (f := fun k => laws_FnAllNeedsLess.f k l0) ?_
  unfold laws_FnAllNeedsLess.f
  by_cases hl : (l0.length : Int) > 1048576
  · simp only [if_pos hl]
    exact Evn.const rfl
  simp only [if_neg hl]
  obtain ⟨g, a, hg, hfw⟩ := draw_y l0 hw
  obtain ⟨h1, h2, h3⟩ := few_held hfw (by omega) (by omega)
  refine Evn.bind hg (Evn.bind (Evn.const (implNeeds_is h1)) (Evn.bind (specAllNeeds_is g a h2 h3) (Evn.bind (equalInts_same _ (rel1_held g a)) ?_)))
  simp only [if_true]
  have he := rel1_eight g a
  refine goes_all (rel1 g a).length (fun k j => laws_FnAllNeedsLess.l0 k g (rel1 g a) j) true 0 ?_ ?_ (rel1 g a).length 0 (Nat.le_refl _) (by omega)
  · refine Evn.step (Evn.const rfl) fun k => ?_
    simp only [laws_FnAllNeedsLess.l0]
    rw [if_neg (by omega)]
  · intro j _ hj hN
    obtain ⟨i, y, rfl, hi, hv, ey, hy, hr⟩ := rel1_elem hj
    have hless := rel1_less hv i y hi hy hr
    have hp8 := rel1_eight g (y : Int)
    have hl1 : Evn (fun k => laws_FnAllNeedsLess.l1 k g (rel1 g (i : Int)) (j : Int) (rel1 g (y : Int)) ((0 : Nat) : Int)) true := by
      refine goes_all (rel1 g (y : Int)).length (fun k m => laws_FnAllNeedsLess.l1 k g (rel1 g (i : Int)) (j : Int) (rel1 g (y : Int)) m) true 0 ?_ ?_ (rel1 g (y : Int)).length 0 (Nat.le_refl _) (by omega)
      · refine Evn.step hN fun k => ?_
        simp only [laws_FnAllNeedsLess.l1]
        rw [if_neg (by omega), wrap_up j (by omega)]
      · intro m _ hm hM
        obtain ⟨y2, z, e2, _, _, ez, hz, hr2⟩ := rel1_elem hm
        obtain rfl : y = y2 := by omega
        refine Evn.step (g := fun k => (laws_isIn.f k (rel1 g (i : Int)) (z : Int)).bind fun b => if b = true then laws_FnAllNeedsLess.l1 k g (rel1 g (i : Int)) (j : Int) (rel1 g (y : Int)) ((m + 1 : Nat) : Int) else some false) (Evn.bind (lawIn_is _ (rel1_held g _) _) ?_) fun k => ?_
        · rw [decide_eq_true ((rel1_mem hv i hi z).2 ⟨hz, hr.trans hr2⟩)]
          simp only [if_true]
          exact hM
        · simp only [laws_FnAllNeedsLess.l1]
          rw [if_pos (by omega), if_pos (by omega), ez, wrap_up m (by omega)]
    refine Evn.step (g := fun k => (impl_AllNeeds.f g (y : Int)).bind fun l => if ((l.length : Int) ≥ ((rel1 g (i : Int)).length : Int)) then laws_FnAllNeedsLess.j1 k g (rel1 g (i : Int)) (j : Int) l true else (laws_isIn.f k l (y : Int)).bind fun b => laws_FnAllNeedsLess.j1 k g (rel1 g (i : Int)) (j : Int) l b) ?_ fun k => ?_
    · refine Evn.bind (Evn.const (implNeeds_is h1)) ?_
      simp only [if_neg (show ¬ (((rel1 g (y : Int)).length : Int) ≥ ((rel1 g (i : Int)).length : Int)) by omega)]
      refine Evn.bind (lawIn_is _ (rel1_held g _) _) ?_
      rw [decide_eq_false (fun h => reach_irrefl hv y hy ((rel1_mem hv y hy y).1 h).2)]
      refine Evn.step hl1 fun k => ?_
      simp only [laws_FnAllNeedsLess.j1]
      rw [if_neg (by simp)]
      rfl
    · simp only [laws_FnAllNeedsLess.l0]
      rw [if_pos (by omega), if_pos (by omega), ey]
end Go.Proofs.YtamomflollhofaaDoor.Pure
