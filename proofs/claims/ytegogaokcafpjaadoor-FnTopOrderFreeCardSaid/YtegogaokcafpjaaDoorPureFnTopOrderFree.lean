/- The pure statement of FnTopOrderFree: tasks without needs keep their order. -/
import Derived.Test.YtegogaokcafpjaaDoorPureTopLaw
import Derived.Test.YtegogaokcafpjaaDoorPureFree
import Derived.Test.YtegogaokcafpjaaDoorQx16
namespace Go.Proofs.YtegogaokcafpjaaDoor.Pure
open Go.RowKit Go.Proofs.YtegogaokcafpjaaDoor.Q Go.Proofs.YtegogaokcafpjaaDoor.H Go.Proofs.YtegogaokcafpjaaDoorW.PrintWords

theorem free_l0 (g : List S33) (h8 : g.length ≤ 8) {r : Bool} (hr : Evn (fun k => (impl_TopOrder.f (g.map bare)).bind fun t => laws_FnTopOrderFree.l1 k g t 0) r) : ∀ (d i : Nat), i + d = g.length → Evn (fun k => laws_FnTopOrderFree.l0 k g ((g.take i).map bare) (i : Int)) r
  | 0, i, h => by
    rw [List.take_of_length_le (by omega)]
    refine Evn.step hr fun k => ?_
    simp only [laws_FnTopOrderFree.l0]
    rw [if_neg (by omega)]
  | d + 1, i, h => by
    have hi : i < g.length := by omega
    have e : (g.take i).map bare ++ [⟨(rd_T33 g i).f0, ([] : List Int), (rd_T33 g i).f2, (rd_T33 g i).f3⟩] = (g.take (i + 1)).map bare := by
      rw [List.take_succ_eq_append_getElem hi, List.map_append, rd_task g i hi]
      rfl
    refine Evn.step (free_l0 g h8 hr d (i + 1) (by omega)) fun k => ?_
    simp only [laws_FnTopOrderFree.l0]
    rw [if_pos (by omega), if_pos (by omega), if_pos (by rw [List.length_map, List.length_take]; omega), e, wrap_up i (by omega)]
theorem FnTopOrderFree : laws_FnTopOrderFree.Pure := by
  intro l0 _ _ hw
  refine Evn.at_ (f := fun k => laws_FnTopOrderFree.f k l0) ?_
  unfold laws_FnTopOrderFree.f
  by_cases hl : (l0.length : Int) > 1048576
  · simp only [if_pos hl]
    exact Evn.const rfl
  simp only [if_neg hl]
  obtain ⟨g, hg, hf⟩ := drawTop_y l0 hw
  obtain ⟨h1, h2, h3⟩ := few_held hf (by omega) (by omega)
  refine Evn.bind hg (Evn.bind (Evn.const (implTop_is h1)) (Evn.bind (specTop_is g h2 h3) (Evn.bind (equalInts_same _ (topOrder_held g)) ?_)))
  simp only [if_true]
  refine Evn.bind (Evn.const (implValid_is h1)) ?_
  cases hv : valid g with
  | false =>
    refine Evn.step (g := fun k => (spec_TopOrder.f k g).bind fun a => (laws_equalInts.f k (topOrder g) a).bind fun b => some b) ?_ fun k => ?_
    · exact Evn.bind (specTop_is g h2 h3) (Evn.bind (equalInts_same _ (topOrder_held g)) (Evn.const rfl))
    · simp only [laws_FnTopOrderFree.j0]
      rfl
  | true =>
    have hfine := valid_fine hv
    have h8 := fine_len hfine
    have eo : topOrder (g.map bare) = ints (List.range g.length) := by
      unfold topOrder
      rw [if_pos (bare_valid hfine), bare_order hfine]
    refine Evn.step (g := fun k => laws_FnTopOrderFree.l0 k g [] 0) ?_ fun k => ?_
    · refine free_l0 g h8 (Evn.bind (Evn.const (implTop_is (few_held hf.bare (by omega) (by omega)).1)) ?_) g.length 0 (by omega)
      rw [eo]
      refine goes_all g.length (fun k i => laws_FnTopOrderFree.l1 k g (ints (List.range g.length)) i) true 0 ?_ ?_ g.length 0 (Nat.le_refl _) (by omega)
      · refine Evn.step (Evn.const rfl) fun k => ?_
        simp only [laws_FnTopOrderFree.l1]
        rw [if_neg (by rw [ints_len, List.length_range]; omega), ints_len, List.length_range]
        simp
      · intro i _ hi hN
        refine Evn.step hN fun k => ?_
        have er : rd (ints (List.range g.length)) (i : Int) = (i : Int) := by
          rw [rd_ints _ i (by rw [List.length_range]; exact hi), List.getElem_range]
        simp only [laws_FnTopOrderFree.l1]
        rw [if_pos (by rw [ints_len, List.length_range]; omega), if_pos (by omega), er, if_pos rfl, wrap_up i (by omega)]
    · simp only [laws_FnTopOrderFree.j0]
      rw [if_neg (by simp)]
end Go.Proofs.YtegogaokcafpjaaDoor.Pure
