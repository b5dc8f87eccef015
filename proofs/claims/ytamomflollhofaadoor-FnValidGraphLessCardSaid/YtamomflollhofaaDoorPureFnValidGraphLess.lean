/- The pure statement of FnValidGraphLess: graphs without their last task can be valid. -/
import Derived.Test.YtamomflollhofaaDoorPC
import Derived.Test.YtamomflollhofaaDoorPureStep
import Derived.Test.YtamomflollhofaaDoorPureUsersI
import Derived.Test.YtamomflollhofaaDoorQx32
import Derived.Test.YtamomflollhofaaDoorQx34
namespace Go.Proofs.YtamomflollhofaaDoor.Pure
open Go.RowKit Go.Proofs.YtamomflollhofaaDoor.Q Go.Proofs.YtamomflollhofaaDoor.H Go.Proofs.YtamomflollhofaaDoorW.PrintWords Go.Proofs.YtamomflollhofaaDoorW.PrintMore
set_option linter.unusedVariables false

theorem draw_y (l0 : List Int) (hw : ∀ x ∈ l0, (Lit.int .u8 x).wf = true) : ∃ g, Evn (fun k => spec_DrawValidGraph.f k l0) g ∧ Few 16 10 g := by
  obtain ⟨b, e, hb⟩ := reader_y l0 hw
  unfold spec_DrawValidGraph.f
  rw [e]
  simp only [Option.bind_some]
  obtain ⟨g, q, hg, _, _, hf⟩ := anyGraph_y hb (p := 0) (Int.le_refl _) (by omega)
  exact ⟨g, Evn.bind hg (Evn.const rfl), hf⟩
theorem specValid_is (g : List S32) (hg : Held g) (ht : ∀ t, t ∈ g → Held t.f1) : Evn (fun k => spec_ValidGraph.f k g) (valid g) := by
  unfold spec_ValidGraph.f
  exact Evn.bind (validGraph_is g hg ht) (Evn.const rfl)
theorem take_few {n m : Nat} {g : List S32} (h : Few n m g) (j : Nat) : Few n m (g.take j) := ⟨Nat.le_trans (by rw [List.length_take]; omega) h.1, fun t ht => h.2 t (List.mem_of_mem_take ht)⟩
theorem FnValidGraphLess : laws_FnValidGraphLess.Pure := by
  intro l0 _ _ hw
  refine Evn.at_ (f := fun k => laws_FnValidGraphLess.f k l0) ?_
  unfold laws_FnValidGraphLess.f
  by_cases hl : (l0.length : Int) > 1048576
  · simp only [if_pos hl]
    exact Evn.const rfl
  simp only [if_neg hl]
  obtain ⟨g, hg, hfw⟩ := draw_y l0 hw
  obtain ⟨h1, h2, h3⟩ := few_held hfw (by omega) (by omega)
  refine Evn.bind hg (Evn.bind (Evn.const (implValid_is h1)) (Evn.bind (specValid_is g h2 h3) ?_))
  simp only [bne_self_eq_false, Bool.false_eq_true, if_false]
  have hend : Evn (fun k => laws_FnValidGraphLess.j0 k g (valid g) true) true := by
    refine Evn.step (g := fun k => (spec_ValidGraph.f k g).bind fun a => some (valid g == a)) (Evn.bind (specValid_is g h2 h3) (Evn.const (by simp))) fun k => ?_
    simp only [laws_FnValidGraphLess.j0]
    rw [if_pos trivial]
  by_cases hv : ¬ valid g = true
  · simp only [if_neg hv]
    exact hend
  have hv := Classical.not_not.1 hv
  simp only [if_pos hv]
  by_cases hz : (g.length : Int) = 0
  · rw [show ((g.length : Int) == 0) = true by simpa using hz]
    exact hend
  rw [show ((g.length : Int) == 0) = false by simpa using hz]
  have h8 := fine_len (valid_fine hv)
  obtain ⟨m, hm⟩ : ∃ m, m + 1 = g.length := ⟨g.length - 1, by omega⟩
  have ew : wrap64 ((g.length : Int) - 1) = (m : Int) := by rw [w64 _ (by omega) (by omega)]; omega
  have hh := (few_held (take_few hfw m) (by omega) (by omega)).1
  have hiff := less_is hv m hm
  refine Evn.step (g := fun k => (impl_AllUsers.f g (m : Int)).bind fun u => (impl_ValidGraph.f (g.take m)).bind fun b => some ((decide ((u.length : Int) > 0)) == (!b))) (Evn.bind (Evn.const (implUsers_is h1)) (Evn.bind (Evn.const (implValid_is hh)) (Evn.const ?_))) fun k => ?_
  · by_cases hc : valid (g.take m) = true
    · rw [hc, hiff.1 hc]
      rfl
    · have hne : 0 < (rel2 g (m : Int)).length := Nat.pos_of_ne_zero fun h0 => hc (hiff.2 (List.eq_nil_of_length_eq_zero h0))
      rw [Bool.eq_false_iff.2 hc, decide_eq_true (by omega)]
      rfl
  · simp only [laws_FnValidGraphLess.j0]
    rw [if_neg (by simp), ew]
    simp only [if_pos (show (0 : Int) ≤ (m : Int) by omega), if_pos (show (m : Int) ≤ (g.length : Int) by omega), Int.toNat_natCast]
end Go.Proofs.YtamomflollhofaaDoor.Pure
