/- The stuck tasks: those that are in no order, in the program's words and in the reference's; plain Lean. -/
import Derived.Test.YtamomflollhofaaDoorPA
import Derived.Test.YtamomflollhofaaDoorHStuck
import Derived.Test.YtamomflollhofaaDoorQx26
namespace Go.Proofs.YtamomflollhofaaDoor.H
open Go.RowKit Go.Proofs.YtamomflollhofaaDoorW.PrintWords Go.Proofs.YtamomflollhofaaDoor.Q

theorem implStuck_is {g : List S32} (h : held g = true) : impl_StuckTasks.f g = some (stuck g) := if_pos h
theorem stuck_list {g : List S32} (hf : fine g = true) : stuck g = ints ((List.range g.length).filter fun i => !decide (i ∈ (order (needs g)).1)) := by
  have h8 := fine_len hf
  unfold stuck
  rw [if_pos hf, elems_notIn g.length h8 _ _ (order_same (needs g) (by rw [needs_len]; exact h8)).1]
theorem stuck_held (g : List S32) : Held (stuck g) := by
  unfold Held
  by_cases hf : fine g = true
  · rw [stuck_list hf, ints_len]
    have h8 := fine_len hf
    have := List.length_filter_le (fun i => !decide (i ∈ (order (needs g)).1)) (List.range g.length)
    rw [List.length_range] at this
    omega
  · unfold stuck
    rw [if_neg hf]
    simp
theorem stuck_valid {g : List S32} (hv : valid g = true) : stuck g = [] := by
  have hf := valid_fine hv
  have ho := order_facts hf
  have hl := valid_all hv
  rw [stuck_list hf, List.filter_eq_nil_iff.2]
  · rfl
  · intro i hi
    have := full_all ho.nodup ho.lt (by omega) i (List.mem_range.1 hi)
    simp [this]
theorem specStuck_l0 (g : List S32) (hg : g.length ≤ 8) (l : List Nat) (hl : l.length ≤ 8) : ∀ (d i : Nat) (x : List Nat), i + d = g.length → x.length ≤ i → Evn (fun k => spec_StuckTasks.l0 k g (ints x) (ints l) (i : Int)) (ints (x ++ ((List.range' i d).filter fun i => !decide (i ∈ l))))
  | 0, i, x, h, _ => by
    refine Evn.step (Evn.const rfl) fun k => ?_
    simp only [spec_StuckTasks.l0]
    rw [if_neg (by omega)]
    simp
  | d + 1, i, x, h, hx => by
    refine Evn.step (g := fun k => (spec_isIn.f k (ints l) (i : Int)).bind fun b => if b = true then spec_StuckTasks.l0 k g (ints x) (ints l) ((i + 1 : Nat) : Int) else spec_StuckTasks.l0 k g (ints (x ++ [i])) (ints l) ((i + 1 : Nat) : Int)) ?_ fun k => ?_
    · refine Evn.bind (isIn_is (ints l) (by unfold Held; rw [ints_len]; omega) (i : Int)) ?_
      rw [List.range'_succ, List.filter_cons]
      by_cases hm : i ∈ l
      · rw [show decide ((i : Int) ∈ ints l) = true from decide_eq_true ((mem_ints l i).2 hm)]
        simp only [if_true, hm, decide_true, Bool.not_true, Bool.false_eq_true, if_false]
        exact specStuck_l0 g hg l hl d (i + 1) x (by omega) (by omega)
      · rw [show decide ((i : Int) ∈ ints l) = false from decide_eq_false (fun h => hm ((mem_ints l i).1 h))]
        simp only [hm, decide_false, Bool.not_false, if_true, Bool.false_eq_true, if_false]
        have := specStuck_l0 g hg l hl d (i + 1) (x ++ [i]) (by omega) (by rw [List.length_append]; simp; omega)
        rw [List.append_assoc] at this
        exact this
    · simp only [spec_StuckTasks.l0]
      rw [if_pos (by omega), ints_snoc]
      simp only [if_pos (show (ints x).length < 17592186044416 by rw [ints_len]; omega), wrap_up i (by omega)]
theorem specStuck_is (g : List S32) (hg : Held g) (ht : ∀ t, t ∈ g → Held t.f1) : Evn (fun k => spec_StuckTasks.f k g) (stuck g) := by
  unfold spec_StuckTasks.f
  refine Evn.bind (tasksFine_is g hg ht) ?_
  by_cases hf : fine g = true
  · simp only [hf, if_true]
    have h8 := fine_len hf
    refine Evn.bind (topOrder_is g hf) ?_
    have ho := order_len (needs g)
    rw [needs_len] at ho
    have := specStuck_l0 g h8 (order (needs g)).1 (by omega) g.length 0 [] (by omega) (Nat.le_refl _)
    rw [stuck_list hf, List.range_eq_range']
    exact this
  · simp only [hf]
    unfold stuck
    rw [if_neg hf]
    exact Evn.const rfl
theorem stuck_small (g : List S32) : (stuck g).length ≤ 1048576 := by
  by_cases hf : fine g = true
  · rw [stuck_list hf, ints_len]
    have h8 := fine_len hf
    have := List.length_filter_le (fun i => !decide (i ∈ (order (needs g)).1)) (List.range g.length)
    rw [List.length_range] at this
    omega
  · unfold stuck
    rw [if_neg hf]
    simp
end Go.Proofs.YtamomflollhofaaDoor.H
