/- The pure statement of FnAllUsers: users need. -/
import Derived.Test.YtamomflollhofaaDoorPC
import Derived.Test.YtamomflollhofaaDoorPureIsIn
import Derived.Test.YtamomflollhofaaDoorPureUsersV
import Derived.Test.YtamomflollhofaaDoorPureNeedsI
import Derived.Test.YtamomflollhofaaDoorPureRelMore
import Derived.Test.YtamomflollhofaaDoorQx31
import Derived.Test.YtamomflollhofaaDoorQx41
namespace Go.Proofs.YtamomflollhofaaDoor.Pure
open Go.RowKit Go.Proofs.YtamomflollhofaaDoor.Q Go.Proofs.YtamomflollhofaaDoor.H Go.Proofs.YtamomflollhofaaDoorW.PrintWords Go.Proofs.YtamomflollhofaaDoorW.PrintMore
set_option linter.unusedVariables false

theorem draw_n (l0 : List Int) (hw : ∀ x ∈ l0, (Lit.int .u8 x).wf = true) : ∃ g a, Evn (fun k => spec_DrawAllNeeds.f k l0) (g, a) ∧ Few 16 10 g := by
  obtain ⟨b, e, hb⟩ := reader_y l0 hw
  unfold spec_DrawAllNeeds.f
  rw [e]
  simp only [Option.bind_some]
  obtain ⟨g, q, hg, q0, q1, hf⟩ := anyGraph_y hb (p := 0) (Int.le_refl _) (by omega)
  have hs : ∃ a s, Evn (fun k => spec_someAt.f k b q g) (a, s) := by
    unfold spec_someAt.f
    obtain ⟨x, q2, hx, a0, a1, _⟩ := pick_y hb (p := q) (by omega) (by omega) 10
    by_cases hz : x = 0
    · obtain ⟨y, q3, hy, _⟩ := one_y hb (p := q2) (by omega) (by omega) [(-1), (g.length : Int), 0] (by simp)
      refine ⟨y, q3, Evn.bind hx ?_⟩
      simp only [hz, if_true]
      exact Evn.bind hy (Evn.const rfl)
    · obtain ⟨y, q3, hy, _⟩ := pick_y hb (p := q2) (by omega) (by omega) (mx 1 (g.length : Int))
      refine ⟨y, q3, Evn.bind hx ?_⟩
      simp only [hz, if_false]
      exact Evn.bind hy (Evn.const rfl)
  obtain ⟨a, s, ha⟩ := hs
  exact ⟨g, a, Evn.bind hg (Evn.bind ha (Evn.const rfl)), hf⟩
theorem draw_y (l0 : List Int) (hw : ∀ x ∈ l0, (Lit.int .u8 x).wf = true) : ∃ g a, Evn (fun k => spec_DrawAllUsers.f k l0) (g, a) ∧ Few 16 10 g := by
  obtain ⟨g, a, h, hf⟩ := draw_n l0 hw
  unfold spec_DrawAllUsers.f
  exact ⟨g, a, Evn.bind h (Evn.const rfl), hf⟩
theorem FnAllUsers : laws_FnAllUsers.Pure := by
  intro l0 _ _ hw
  refine Evn.at_ (f := fun k => laws_FnAllUsers.f k l0) ?_
  unfold laws_FnAllUsers.f
  by_cases hl : (l0.length : Int) > 1048576
  · simp only [if_pos hl]
    exact Evn.const rfl
  simp only [if_neg hl]
  obtain ⟨g, a, hg, hfw⟩ := draw_y l0 hw
  obtain ⟨h1, h2, h3⟩ := few_held hfw (by omega) (by omega)
  refine Evn.bind hg (Evn.bind (Evn.const (implUsers_is h1)) (Evn.bind (specAllUsers_is g a h2 h3) (Evn.bind (equalInts_same _ (rel2_held g a)) ?_)))
  simp only [if_true]
  have hend : Evn (fun k => laws_FnAllUsers.j0 k g a (rel2 g a) true) true := by
    refine Evn.step (g := fun k => (spec_AllUsers.f k g a).bind fun r => (laws_equalInts.f k (rel2 g a) r).bind fun b => some b) (Evn.bind (specAllUsers_is g a h2 h3) (Evn.bind (equalInts_same _ (rel2_held g a)) (Evn.const rfl))) fun k => ?_
    simp only [laws_FnAllUsers.j0]
    rw [if_pos trivial]
  refine Evn.bind (Evn.const (implValid_is h1)) ?_
  by_cases hv0 : ¬ valid g = true
  · simp only [if_neg hv0]
    exact hend
  have hv : valid g = true := Classical.not_not.1 hv0
  simp only [if_pos hv]
  by_cases ha0 : a < 0
  · simp only [if_pos ha0]
    exact hend
  simp only [if_neg ha0]
  by_cases ha1 : a ≥ (g.length : Int)
  · simp only [decide_eq_true ha1]
    exact hend
  simp only [decide_eq_false ha1]
  clear hend
  have hf := valid_fine hv
  have h8 := fine_len hf
  obtain ⟨i, rfl⟩ : ∃ i : Nat, a = (i : Int) := ⟨a.toNat, by omega⟩
  have hi : i < g.length := by omega
  refine Evn.step (g := fun k => laws_FnAllUsers.l0 k g (i : Int) (rel2 g (i : Int)) ((0 : Nat) : Int)) ?_ fun k => ?_
  · refine goes_all g.length (fun k j => laws_FnAllUsers.l0 k g (i : Int) (rel2 g (i : Int)) j) true 0 ?_ ?_ g.length 0 (Nat.le_refl _) (by omega)
    · refine Evn.step (g := fun k => (laws_isIn.f k (rel2 g (i : Int)) (i : Int)).bind fun b => some (!b)) (Evn.bind (lawIn_is _ (rel2_held g _) _) (Evn.const ?_)) fun k => ?_
      · rw [decide_eq_false (fun h => reach_irrefl hv i hi ((rel2_mem hv i hi i).1 h).2)]
        rfl
      · simp only [laws_FnAllUsers.l0]
        rw [if_neg (by omega)]
    · intro j _ hj hN
      refine Evn.step (g := fun k => (laws_isIn.f k (rel2 g (i : Int)) (j : Int)).bind fun b => (impl_AllNeeds.f g (j : Int)).bind fun l => (laws_isIn.f k l (i : Int)).bind fun c => if (b != c) = true then some false else laws_FnAllUsers.l0 k g (i : Int) (rel2 g (i : Int)) ((j + 1 : Nat) : Int)) ?_ fun k => ?_
      · refine Evn.bind (lawIn_is _ (rel2_held g _) _) (Evn.bind (Evn.const (implNeeds_is h1)) (Evn.bind (lawIn_is _ (rel1_held g _) _) ?_))
        have e : decide ((j : Int) ∈ rel2 g (i : Int)) = decide ((i : Int) ∈ rel1 g (j : Int)) := by
          refine decide_eq_decide.2 ?_
          rw [rel2_mem hv i hi j, rel1_mem hv j hj i]
          exact ⟨fun h => ⟨hi, h.2⟩, fun h => ⟨hj, h.2⟩⟩
        rw [e]
        simp only [bne_self_eq_false, Bool.false_eq_true, if_false]
        exact hN
      · simp only [laws_FnAllUsers.l0]
        rw [if_pos (by omega), wrap_up j (by omega)]
  · simp only [laws_FnAllUsers.j0]
    rw [if_neg (by simp)]
    rfl
end Go.Proofs.YtamomflollhofaaDoor.Pure
