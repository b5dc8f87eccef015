/- The pure statement of FnTopOrderBegin: an order begins with the first task without needs. -/
import Derived.Test.YtegogaokcafpjaaDoorPureTopLaw
import Derived.Test.YtegogaokcafpjaaDoorQx17
namespace Go.Proofs.YtegogaokcafpjaaDoor.Pure
open Go.RowKit Go.Proofs.YtegogaokcafpjaaDoor.Q Go.Proofs.YtegogaokcafpjaaDoor.H Go.Proofs.YtegogaokcafpjaaDoorW.PrintWords

theorem ready_nil (g : List S33) (i : Nat) : ready g [] i = decide ((rd_T33 g i).f1 = []) := by
  unfold ready
  rw [Bool.eq_iff_iff]
  cases (rd_T33 g (i : Int)).f1 with
  | nil => simp
  | cons x t => simp [ints]
theorem FnTopOrderBegin : laws_FnTopOrderBegin.Pure := by
  intro l0 _ _ hw
  refine Evn.at_ (f := fun k => laws_FnTopOrderBegin.f k l0) ?_
  unfold laws_FnTopOrderBegin.f
  by_cases hl : (l0.length : Int) > 1048576
  · simp only [if_pos hl]
    exact Evn.const rfl
  simp only [if_neg hl]
  obtain ⟨g, hg, hf⟩ := drawTop_y l0 hw
  obtain ⟨h1, h2, h3⟩ := few_held hf (by omega) (by omega)
  refine Evn.bind hg (Evn.bind (Evn.const (implTop_is h1)) (Evn.bind (specTop_is g h2 h3) (Evn.bind (equalInts_same _ (topOrder_held g)) ?_)))
  simp only [if_true]
  by_cases hz : (topOrder g).length = 0
  · rw [show (((topOrder g).length : Int) == 0) = true by simp [hz]]
    refine Evn.step (g := fun k => (spec_TopOrder.f k g).bind fun a => (laws_equalInts.f k (topOrder g) a).bind fun b => some b) ?_ fun k => ?_
    · exact Evn.bind (specTop_is g h2 h3) (Evn.bind (equalInts_same _ (topOrder_held g)) (Evn.const rfl))
    · simp only [laws_FnTopOrderBegin.j0]
      rfl
  · rw [show (((topOrder g).length : Int) == 0) = false by simpa using hz]
    have hv : valid g = true := by
      refine Classical.byContradiction (fun hc => hz ?_)
      unfold topOrder
      rw [if_neg hc]
      rfl
    have hfine := valid_fine hv
    have h8 := fine_len hfine
    have ho := order_facts hfine
    have hlen := valid_all hv
    have e : topOrder g = ints (order (needs g)).1 := if_pos hv
    rw [e] at hz ⊢
    rw [ints_len] at hz
    obtain ⟨l, hl⟩ : ∃ l, (order (needs g)).1 = l := ⟨_, rfl⟩
    rw [hl] at ho hlen hz ⊢
    have h0 : 0 < l.length := by omega
    have hr0 : rd (ints l) (0 : Int) = (l[0] : Int) := rd_ints l 0 h0
    have hlt := ho.lt _ (List.getElem_mem h0)
    have hnext := ho.next 0 h0
    rw [List.take_zero, ready_nil, decide_eq_true_eq] at hnext
    refine Evn.step (g := fun k => laws_FnTopOrderBegin.l0 k g (ints l) 0) ?_ fun k => ?_
    · have hend : ∀ i : Nat, Evn (fun k => laws_FnTopOrderBegin.j2 k g (ints l) (i : Int) false) true := fun i => by
        refine Evn.step (Evn.const rfl) fun k => ?_
        simp only [laws_FnTopOrderBegin.j2]
        rw [if_neg (by simp), if_pos (by rw [ints_len]; omega), hr0, if_pos (by omega), if_pos (by omega), if_pos (by omega), hnext]
        rfl
      refine goes_all g.length (fun k i => laws_FnTopOrderBegin.l0 k g (ints l) i) true 0 ?_ ?_ g.length 0 (Nat.le_refl _) (by omega)
      · refine Evn.step (hend g.length) fun k => ?_
        simp only [laws_FnTopOrderBegin.l0]
        rw [if_neg (by omega)]
      · intro i _ hi hN
        by_cases hc : i < l[0]
        · refine Evn.step (g := fun k => laws_FnTopOrderBegin.j2 k g (ints l) (i : Int) true) ?_ fun k => ?_
          · refine Evn.step hN fun k => ?_
            have hle := ho.least 0 h0 i hc
            rw [List.take_zero, ready_nil, decide_eq_false_iff_not] at hle
            simp only [laws_FnTopOrderBegin.j2]
            rw [if_pos trivial, if_pos (by omega), if_pos (by omega), if_neg (fun h => hle (List.eq_nil_of_length_eq_zero (by omega))), wrap_up i (by omega)]
          · simp only [laws_FnTopOrderBegin.l0]
            rw [if_pos (by omega), if_pos (by rw [ints_len]; omega), hr0, decide_eq_true (by omega)]
        · refine Evn.step (hend i) fun k => ?_
          simp only [laws_FnTopOrderBegin.l0]
          rw [if_pos (by omega), if_pos (by rw [ints_len]; omega), hr0, decide_eq_false (by omega)]
    · simp only [laws_FnTopOrderBegin.j0]
      rw [if_neg (by simp)]
end Go.Proofs.YtegogaokcafpjaaDoor.Pure
