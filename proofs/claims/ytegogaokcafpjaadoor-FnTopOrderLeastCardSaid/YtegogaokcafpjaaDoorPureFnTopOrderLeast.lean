/- The pure statement of FnTopOrderLeast: where a lesser task comes behind a greater one, it needs it. -/
import Derived.Test.YtegogaokcafpjaaDoorPureTopLaw
import Derived.Test.YtegogaokcafpjaaDoorQx20
namespace Go.Proofs.YtegogaokcafpjaaDoor.Pure
open Go.RowKit Go.Proofs.YtegogaokcafpjaaDoor.Q Go.Proofs.YtegogaokcafpjaaDoor.H Go.Proofs.YtegogaokcafpjaaDoorW.PrintWords

theorem least_need {g : List S33} {l : List Nat} (ho : Ordered g l) (j : Nat) (h1 : 1 ≤ j) (hj : j < l.length) (hlt : l[j] < l[j - 1]) : (l[j - 1] : Int) ∈ (rd_T33 g l[j]).f1 := by
  have hle := ho.least (j - 1) (by omega) l[j] hlt
  have hni := ho.notin j hj
  have hb := ho.behind j hj
  have ht : l.take j = l.take (j - 1) ++ [l[j - 1]] := by
    obtain ⟨m, rfl⟩ : ∃ m, j = m + 1 := ⟨j - 1, by omega⟩
    exact List.take_succ_eq_append_getElem (by omega)
  rw [ht] at hni hb
  unfold ready at hle
  rw [decide_eq_false (fun h => hni (List.mem_append_left _ h)), Bool.not_false, Bool.true_and] at hle
  obtain ⟨x, hx, hnx⟩ : ∃ x, x ∈ (rd_T33 g l[j]).f1 ∧ ¬ x ∈ ints (l.take (j - 1)) := by
    refine Classical.byContradiction (fun hc => ?_)
    rw [List.all_eq_true.2 (fun x hx => decide_eq_true (Classical.byContradiction (fun hn => hc ⟨x, hx, hn⟩)))] at hle
    cases hle
  have := hb x hx
  rw [ints_snoc] at this
  rcases List.mem_append.1 this with h | h
  · exact absurd h hnx
  · rw [List.mem_singleton] at h
    rw [← h]
    exact hx
theorem FnTopOrderLeast : laws_FnTopOrderLeast.Pure := by
  intro l0 _ _ hw
  refine Evn.at_ (f := fun k => laws_FnTopOrderLeast.f k l0) ?_
  unfold laws_FnTopOrderLeast.f
  by_cases hl : (l0.length : Int) > 1048576
  · simp only [if_pos hl]
    exact Evn.const rfl
  simp only [if_neg hl]
  obtain ⟨g, hg, hf⟩ := drawTop_y l0 hw
  obtain ⟨h1, h2, h3⟩ := few_held hf (by omega) (by omega)
  refine Evn.bind hg (Evn.bind (Evn.const (implTop_is h1)) (Evn.bind (specTop_is g h2 h3) (Evn.bind (equalInts_same _ (topOrder_held g)) ?_)))
  simp only [if_true]
  by_cases hz : (topOrder g).length ≤ 1
  · refine Evn.step (Evn.const rfl) fun k => ?_
    simp only [laws_FnTopOrderLeast.l0]
    rw [if_neg (by omega)]
  · have hv : valid g = true := by
      refine Classical.byContradiction (fun hc => hz ?_)
      unfold topOrder
      rw [if_neg hc]
      simp
    have hfine := valid_fine hv
    have h8 := fine_len hfine
    have ho := order_facts hfine
    have hlen := valid_all hv
    have e : topOrder g = ints (order (needs g)).1 := if_pos hv
    rw [e] at hz ⊢
    rw [ints_len] at hz
    obtain ⟨l, hl⟩ : ∃ l, (order (needs g)).1 = l := ⟨_, rfl⟩
    rw [hl] at ho hlen hz ⊢
    refine goes_all l.length (fun k i => laws_FnTopOrderLeast.l0 k g (ints l) i) true 1 ?_ ?_ (l.length - 1) 1 (Nat.le_refl _) (by omega)
    · refine Evn.step (Evn.const rfl) fun k => ?_
      simp only [laws_FnTopOrderLeast.l0]
      rw [if_neg (by rw [ints_len]; omega)]
    · intro j h1 hj hN
      have ew : wrap64 ((j : Int) - 1) = ((j - 1 : Nat) : Int) := by
        rw [H.w64 _ (by omega) (by omega)]
        omega
      have hlt := ho.lt _ (List.getElem_mem hj)
      have hr1 := rd_ints l j hj
      have hr2 := rd_ints l (j - 1) (by omega)
      have hstep : ∀ k, laws_FnTopOrderLeast.l0 (k + 1) g (ints l) (j : Int) = if (l[j] : Int) < (l[j - 1] : Int) then (laws_isIn.f k (rd_T33 g l[j]).f1 (l[j - 1] : Int)).bind fun b => if b = true then laws_FnTopOrderLeast.l0 k g (ints l) ((j + 1 : Nat) : Int) else some false else laws_FnTopOrderLeast.l0 k g (ints l) ((j + 1 : Nat) : Int) := fun k => by
        simp only [laws_FnTopOrderLeast.l0]
        rw [if_pos (by rw [ints_len]; omega), if_pos (by omega), ew, if_pos (by omega), if_pos (by rw [ints_len]; omega), hr1, hr2, wrap_up j (by omega)]
        by_cases hcc : (l[j] : Int) < (l[j - 1] : Int)
        · rw [if_pos hcc, if_pos hcc, if_pos (by omega), if_pos (by omega)]
        · rw [if_neg hcc, if_neg hcc]
      by_cases hc : l[j] < l[j - 1]
      · refine Evn.step (g := fun k => (laws_isIn.f k (rd_T33 g l[j]).f1 (l[j - 1] : Int)).bind fun b => if b = true then laws_FnTopOrderLeast.l0 k g (ints l) ((j + 1 : Nat) : Int) else some false) ?_ fun k => by rw [hstep, if_pos (by omega)]
        refine Evn.bind (lawIn_is _ (by have := hf.rd (l[j] : Int) (by omega) (by omega); unfold Held; omega) _) ?_
        rw [decide_eq_true (least_need ho j h1 hj hc)]
        exact hN
      · exact Evn.step hN fun k => by rw [hstep, if_neg (by omega)]
end Go.Proofs.YtegogaokcafpjaaDoor.Pure
