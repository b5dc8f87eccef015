/- The pure statement of FnValidGraph: a graph without needs is valid, one whose task needs itself is not. -/
import Derived.Test.YtegogaokcafpjaaDoorPureFree
import Derived.Test.YtegogaokcafpjaaDoorQx11
import Derived.Test.YtegogaokcafpjaaDoorQx12
namespace Go.Proofs.YtegogaokcafpjaaDoor.Pure
open Go.RowKit Go.Proofs.YtegogaokcafpjaaDoor.Q Go.Proofs.YtegogaokcafpjaaDoor.H Go.Proofs.YtegogaokcafpjaaDoorW.PrintWords

theorem drawValid_y (l0 : List Int) (hw : ∀ x ∈ l0, (Lit.int .u8 x).wf = true) : ∃ g, Evn (fun k => spec_DrawValidGraph.f k l0) g ∧ Few 16 10 g := by
  obtain ⟨b, e, hb⟩ := reader_y l0 hw
  unfold spec_DrawValidGraph.f
  rw [e]
  simp only [Option.bind_some]
  obtain ⟨g, q, hg, _, _, hf⟩ := anyGraph_y hb (p := 0) (Int.le_refl _) (by omega)
  exact ⟨g, Evn.bind hg (Evn.const rfl), hf⟩
theorem specValid_is (g : List S33) (hg : Held g) (ht : ∀ t, t ∈ g → Held t.f1) : Evn (fun k => spec_ValidGraph.f k g) (valid g) := by
  unfold spec_ValidGraph.f
  exact Evn.bind (validGraph_is g hg ht) (Evn.const rfl)
theorem valid_l0 (g : List S33) (h8 : g.length ≤ 8) (h0 : 0 < g.length) (hfine : fine g = true) : ∀ (d i : Nat), i + d = g.length → Evn (fun k => laws_FnValidGraph.l0 k g ((g.take i).map bare) (i : Int)) true
  | 0, i, h => by
    rw [List.take_of_length_le (by omega)]
    have hlen : (g.map bare).length = g.length := List.length_map ..
    have hb : Few 8 8 (g.map bare) := ⟨by omega, fun t ht => by
      obtain ⟨x, _, rfl⟩ := List.mem_map.1 ht
      exact Nat.zero_le _⟩
    have hs : Few 8 8 ((g.map bare).set (0 : Int).toNat (⟨(rd_T33 (g.map bare) 0).f0, [0], (rd_T33 (g.map bare) 0).f2, (rd_T33 (g.map bare) 0).f3⟩ : S33)) := hb.set _ (by simp)
    refine Evn.step (g := fun _ => some true) (Evn.const rfl) fun k => ?_
    simp only [laws_FnValidGraph.l0]
    rw [if_neg (by omega), Option.bind_some, if_pos (by rw [hlen]; simp; omega), Option.bind_some, List.nil_append, if_pos (by omega), implValid_is (few_held hb (by omega) (by omega)).1, Option.bind_some, if_pos (bare_valid hfine), implValid_is (few_held hs (by omega) (by omega)).1, Option.bind_some]
    rw [self_invalid 0 (by rw [List.length_set]; omega) (by
      rw [rd_task _ 0 (by rw [List.length_set]; omega), show (0 : Int).toNat = 0 from rfl, List.getElem_set_self]
      simp)]
    rfl
  | d + 1, i, h => by
    have hi : i < g.length := by omega
    have e : (g.take i).map bare ++ [⟨(rd_T33 g i).f0, ([] : List Int), (rd_T33 g i).f2, (rd_T33 g i).f3⟩] = (g.take (i + 1)).map bare := by
      rw [List.take_succ_eq_append_getElem hi, List.map_append, rd_task g i hi]
      rfl
    refine Evn.step (valid_l0 g h8 h0 hfine d (i + 1) (by omega)) fun k => ?_
    simp only [laws_FnValidGraph.l0]
    rw [if_pos (by omega), if_pos (by omega), if_pos (by rw [List.length_map, List.length_take]; omega), e, wrap_up i (by omega)]
theorem FnValidGraph : laws_FnValidGraph.Pure := by
  intro l0 _ _ hw
  refine Evn.at_ (f := fun k => laws_FnValidGraph.f k l0) ?_
  unfold laws_FnValidGraph.f
  by_cases hl : (l0.length : Int) > 1048576
  · simp only [if_pos hl]
    exact Evn.const rfl
  simp only [if_neg hl]
  obtain ⟨g, hg, hf⟩ := drawValid_y l0 hw
  obtain ⟨h1, h2, h3⟩ := few_held hf (by omega) (by omega)
  refine Evn.bind hg (Evn.bind (Evn.const (implValid_is h1)) (Evn.bind (specValid_is g h2 h3) ?_))
  simp only [bne_self_eq_false, Bool.false_eq_true, if_false]
  have hend : Evn (fun k => laws_FnValidGraph.j0 k g (valid g) true) true := by
    refine Evn.step (g := fun k => (spec_ValidGraph.f k g).bind fun t => some (valid g == t)) ?_ fun k => ?_
    · refine Evn.bind (specValid_is g h2 h3) (Evn.const ?_)
      simp
    · simp only [laws_FnValidGraph.j0]
      rw [if_pos trivial]
  by_cases hv : valid g = true
  · simp only [if_pos hv]
    by_cases hz : g.length = 0
    · rw [show ((g.length : Int) == 0) = true by simp [hz]]
      exact hend
    · rw [show ((g.length : Int) == 0) = false by simpa using hz]
      refine Evn.step (g := fun k => laws_FnValidGraph.l0 k g [] 0) ?_ fun k => ?_
      · exact valid_l0 g (fine_len (valid_fine hv)) (by omega) (valid_fine hv) g.length 0 (by omega)
      · simp only [laws_FnValidGraph.j0]
        rw [if_neg (by simp)]
  · simp only [if_neg hv]
    exact hend
end Go.Proofs.YtegogaokcafpjaaDoor.Pure
