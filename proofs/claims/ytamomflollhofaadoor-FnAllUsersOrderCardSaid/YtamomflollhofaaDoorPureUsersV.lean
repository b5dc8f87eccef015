/- AllUsers in the program's words and in the reference's; plain Lean. -/
import Derived.Test.YtamomflollhofaaDoorPureNeedsS
import Derived.Test.YtamomflollhofaaDoorPureUsersI
import Derived.Test.YtamomflollhofaaDoorQx22
namespace Go.Proofs.YtamomflollhofaaDoor.H
open Go.RowKit Go.Proofs.YtamomflollhofaaDoorW.PrintWords Go.Proofs.YtamomflollhofaaDoor.Q
set_option linter.unusedVariables false

theorem rel2_no {g : List S32} {a : Int} (h : ¬ (valid g = true ∧ 0 ≤ a ∧ a ≤ (g.length : Int) - 1)) : rel2 g a = [] := if_neg h
theorem specUsers_l0 {g : List S32} (hv : valid g = true) (a : Nat) (ha : a < g.length) : ∀ (d j : Nat) (x : List Nat), j + d = g.length → x.length ≤ j → Evn (fun k => spec_AllUsers.l0 k g (a : Int) (ints x) (j : Int)) (ints (x ++ (List.range' j d).filter fun (i : Nat) => decide ((a : Int) ∈ rel1 g (i : Int))))
  | 0, j, x, h, _ => by
    refine Evn.step (Evn.const rfl) fun k => ?_
    simp only [spec_AllUsers.l0]
    rw [if_neg (by omega)]
    simp
  | d + 1, j, x, h, hx => by
    have h8 := fine_len (valid_fine hv)
    rw [List.range'_succ, List.filter_cons]
    refine Evn.step (g := fun k => (spec_allNeeds.f k g (j : Int)).bind fun l => (spec_isIn.f k l (a : Int)).bind fun b => if b = true then spec_AllUsers.l0 k g (a : Int) (ints (x ++ [j])) ((j + 1 : Nat) : Int) else spec_AllUsers.l0 k g (a : Int) (ints x) ((j + 1 : Nat) : Int)) ?_ fun k => ?_
    · refine Evn.bind (specNeeds_is hv j (by omega)) (Evn.bind (isIn_is _ (rel1_held g _) _) ?_)
      by_cases hm : (a : Int) ∈ rel1 g (j : Int)
      · rw [decide_eq_true hm]
        simp only [if_true]
        have := specUsers_l0 hv a ha d (j + 1) (x ++ [j]) (by omega) (by rw [List.length_append]; simp; omega)
        rw [List.append_assoc] at this
        exact this
      · rw [decide_eq_false hm]
        simp only [Bool.false_eq_true, if_false]
        exact specUsers_l0 hv a ha d (j + 1) x (by omega) (by omega)
    · simp only [spec_AllUsers.l0]
      rw [if_pos (by omega), wrap_up j (by omega), ints_snoc]
      simp only [if_pos (show (ints x).length < 17592186044416 by rw [ints_len]; omega)]
theorem specAllUsers_is (g : List S32) (a : Int) (hg : Held g) (ht : ∀ t, t ∈ g → Held t.f1) : Evn (fun k => spec_AllUsers.f k g a) (rel2 g a) := by
  unfold spec_AllUsers.f
  refine Evn.bind (Evn.const rfl) (Evn.bind (validGraph_is g hg ht) ?_)
  by_cases hv : valid g = true
  · have hf := valid_fine hv
    have h8 := fine_len hf
    simp only [hv, if_true]
    rw [w64 ((g.length : Int) - 1) (by omega) (by omega), inRange_is]
    refine Evn.bind (Evn.const rfl) ?_
    by_cases ha : 0 ≤ a ∧ a ≤ (g.length : Int) - 1
    · rw [decide_eq_true ha]
      obtain ⟨i, rfl⟩ : ∃ i : Nat, a = (i : Int) := ⟨a.toNat, by omega⟩
      have hi : i < g.length := by omega
      refine Evn.step (g := fun k => spec_AllUsers.l0 k g (i : Int) (ints []) ((0 : Nat) : Int)) ((specUsers_l0 hv i hi g.length 0 [] (by omega) (Nat.le_refl _)).cast ?_) fun k => ?_
      · rw [rel2_is hv i hi, below_list h8 ((known_sets hf).2.at i) (fun (j : Nat) => decide ((i : Int) ∈ rel1 g (j : Int)))]
        · rfl
        · intro j hj
          rw [Bool.eq_iff_iff, (known_is hv i j hi hj).2, decide_eq_true_eq, rel1_mem hv j hj i]
          exact ⟨fun h => ⟨hi, h⟩, fun h => h.2⟩
      · simp only [spec_AllUsers.j0]
        rw [if_neg (by simp)]
        rfl
    · rw [decide_eq_false ha, rel2_no (fun h => ha h.2)]
      refine Evn.step (Evn.const rfl) fun k => ?_
      simp only [spec_AllUsers.j0]
      rw [if_pos (by simp)]
  · simp only [hv]
    rw [rel2_no (fun h => hv h.1)]
    refine Evn.step (Evn.const rfl) fun k => ?_
    simp only [spec_AllUsers.j0]
    simp
end Go.Proofs.YtamomflollhofaaDoor.H
