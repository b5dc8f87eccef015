/- The pure statement of FnAllUsersCount: needs and users are as many. -/
import Derived.Test.YtamomflollhofaaDoorPC
import Derived.Test.YtamomflollhofaaDoorPureUsersV
import Derived.Test.YtamomflollhofaaDoorPureNeedsI
import Derived.Test.YtamomflollhofaaDoorPureCount2
import Derived.Test.YtamomflollhofaaDoorQx31
import Derived.Test.YtamomflollhofaaDoorQx40
namespace Go.Proofs.YtamomflollhofaaDoor.Pure
open Go.RowKit Go.Proofs.YtamomflollhofaaDoor.Q Go.Proofs.YtamomflollhofaaDoor.H Go.Proofs.YtamomflollhofaaDoorW.PrintWords Go.Proofs.YtamomflollhofaaDoorW.PrintMore
set_option linter.unusedVariables false

theorem draw_n (l0 : List Int) (hw : ∀ x ∈ l0, (Lit.int .u8 x).wf = true) : ∃ g a, Evn (fun k => spec_DrawAllNeeds.f k l0) (g, a) ∧ Few 16 10 g := by
  obtain ⟨b, e, hb⟩ := reader_y l0 hw
  unfold spec_DrawAllNeeds.f
  rw [e]
  simp only [Option.bind_some]
  obtain ⟨g, q, hg, q0, q1, hf⟩ := anyGraph_y hb (p := 0) (Int.le_refl _) (by omega)
  have hs : ∃ a s, Evn (fun k => spec_someAt.f k b q g) (a, s) := by
    unfold spec_someAt.f
    obtain ⟨x, q2, hx, a0, a1, _⟩ := pick_y hb (p := q) (by omega) (by omega) 10
    by_cases hz : x = 0
    · obtain ⟨y, q3, hy, _⟩ := one_y hb (p := q2) (by omega) (by omega) [(-1), (g.length : Int), 0] (by simp)
      refine ⟨y, q3, Evn.bind hx ?_⟩
      simp only [hz, if_true]
      exact Evn.bind hy (Evn.const rfl)
    · obtain ⟨y, q3, hy, _⟩ := pick_y hb (p := q2) (by omega) (by omega) (mx 1 (g.length : Int))
      refine ⟨y, q3, Evn.bind hx ?_⟩
      simp only [hz, if_false]
      exact Evn.bind hy (Evn.const rfl)
  obtain ⟨a, s, ha⟩ := hs
  exact ⟨g, a, Evn.bind hg (Evn.bind ha (Evn.const rfl)), hf⟩
theorem draw_y (l0 : List Int) (hw : ∀ x ∈ l0, (Lit.int .u8 x).wf = true) : ∃ g a, Evn (fun k => spec_DrawAllUsers.f k l0) (g, a) ∧ Few 16 10 g := by
  obtain ⟨g, a, h, hf⟩ := draw_n l0 hw
  unfold spec_DrawAllUsers.f
  exact ⟨g, a, Evn.bind h (Evn.const rfl), hf⟩
theorem l0_is {g : List S32} (hv : valid g = true) (h1 : held g = true) : ∀ (d i : Nat) (x : Int), i + d = g.length → -8 * (i : Int) ≤ x → x ≤ 8 * (i : Int) →
    Evn (fun k => laws_FnAllUsersCount.l0 k g x (i : Int)) (x + (((List.range' i d).map fun (j : Nat) => (rel1 g (j : Int)).length).sum : Nat) - (((List.range' i d).map fun (j : Nat) => (rel2 g (j : Int)).length).sum : Nat) == 0)
  | 0, i, x, h, _, _ => by
    refine Evn.step (Evn.const rfl) fun k => ?_
    simp only [laws_FnAllUsersCount.l0]
    rw [if_neg (by omega)]
    simp
  | d + 1, i, x, h, x0, x1 => by
    have h8 := fine_len (valid_fine hv)
    have r1 := rel1_eight g (i : Int)
    have r2 := rel2_eight g (i : Int)
    have hN := l0_is hv h1 d (i + 1) (x + ((rel1 g (i : Int)).length : Int) - ((rel2 g (i : Int)).length : Int)) (by omega) (by omega) (by omega)
    rw [List.range'_succ, List.map_cons, List.map_cons, List.sum_cons, List.sum_cons]
    refine Evn.step (g := fun k => (impl_AllNeeds.f g (i : Int)).bind fun a => (impl_AllUsers.f g (i : Int)).bind fun b => laws_FnAllUsersCount.l0 k g (wrap64 ((wrap64 (x + (a.length : Int))) - (b.length : Int))) ((i + 1 : Nat) : Int)) ?_ fun k => ?_
    · refine Evn.bind (Evn.const (implNeeds_is h1)) (Evn.bind (Evn.const (implUsers_is h1)) ?_)
      rw [w1k (x + ((rel1 g (i : Int)).length : Int)) (by omega) (by omega), w1k _ (by omega) (by omega)]
      refine hN.cast ?_
      congr 1
      omega
    · simp only [laws_FnAllUsersCount.l0]
      rw [if_pos (by omega), wrap_up i (by omega)]
theorem FnAllUsersCount : laws_FnAllUsersCount.Pure := by
  intro l0 _ _ hw
  refine Evn.at_ (f := fun k => laws_FnAllUsersCount.f k l0) ?_
  unfold laws_FnAllUsersCount.f
  by_cases hl : (l0.length : Int) > 1048576
  · simp only [if_pos hl]
    exact Evn.const rfl
  simp only [if_neg hl]
  obtain ⟨g, a, hg, hfw⟩ := draw_y l0 hw
  obtain ⟨h1, h2, h3⟩ := few_held hfw (by omega) (by omega)
  refine Evn.bind hg (Evn.bind (Evn.const (implUsers_is h1)) (Evn.bind (specAllUsers_is g a h2 h3) (Evn.bind (equalInts_same _ (rel2_held g a)) ?_)))
  simp only [if_true]
  have hend : Evn (fun k => laws_FnAllUsersCount.j0 k g a (rel2 g a) true) true := by
    refine Evn.step (g := fun k => (spec_AllUsers.f k g a).bind fun r => (laws_equalInts.f k (rel2 g a) r).bind fun b => some b) (Evn.bind (specAllUsers_is g a h2 h3) (Evn.bind (equalInts_same _ (rel2_held g a)) (Evn.const rfl))) fun k => ?_
    simp only [laws_FnAllUsersCount.j0]
    rw [if_pos trivial]
  refine Evn.bind (Evn.const (implValid_is h1)) ?_
  by_cases hv0 : ¬ valid g = true
  · rw [show (!valid g) = true by simpa using hv0]
    exact hend
  have hv : valid g = true := Classical.not_not.1 hv0
  rw [show (!valid g) = false by rw [hv]; rfl]
  refine Evn.step (g := fun k => laws_FnAllUsersCount.l0 k g 0 ((0 : Nat) : Int)) ((l0_is hv h1 g.length 0 0 (by omega) (by omega) (by omega)).cast ?_) fun k => ?_
  · rw [rel_counts hv]
    simp
  · simp only [laws_FnAllUsersCount.j0]
    rw [if_neg (by simp)]
    rfl
end Go.Proofs.YtamomflollhofaaDoor.Pure
