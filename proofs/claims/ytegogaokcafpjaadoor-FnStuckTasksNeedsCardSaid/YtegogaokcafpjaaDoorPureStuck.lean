/- The stuck tasks: those that are in no order, in the program's words and in the reference's; plain Lean. -/
import Derived.Test.YtegogaokcafpjaaDoorPC
import Derived.Test.YtegogaokcafpjaaDoorQx24
import Derived.Test.YtegogaokcafpjaaDoorQx25
namespace Go.Proofs.YtegogaokcafpjaaDoor.H
open Go.RowKit Go.Proofs.YtegogaokcafpjaaDoorW.PrintWords Go.Proofs.YtegogaokcafpjaaDoor.Q

theorem implStuck_is {g : List S33} (h : held g = true) : impl_StuckTasks.f g = some (stuck g) := if_pos h
theorem stuck_list {g : List S33} (hf : fine g = true) : stuck g = ints ((List.range g.length).filter fun i => !decide (i ∈ (order (needs g)).1)) := by
  have h8 := fine_len hf
  unfold stuck
  rw [if_pos hf, elems_notIn g.length h8 _ _ (order_same (needs g) (by rw [needs_len]; exact h8)).1]
theorem stuck_held (g : List S33) : Held (stuck g) := by
  unfold Held
  by_cases hf : fine g = true
  · rw [stuck_list hf, ints_len]
    have h8 := fine_len hf
    have := List.length_filter_le (fun i => !decide (i ∈ (order (needs g)).1)) (List.range g.length)
    rw [List.length_range] at this
    omega
  · unfold stuck
    rw [if_neg hf]
    simp
theorem stuck_valid {g : List S33} (hv : valid g = true) : stuck g = [] := by
  have hf := valid_fine hv
  have ho := order_facts hf
  have hl := valid_all hv
  rw [stuck_list hf, List.filter_eq_nil_iff.2]
  · rfl
  · intro i hi
    have := full_all ho.nodup ho.lt (by omega) i (List.mem_range.1 hi)
    simp [this]
theorem specStuck_l0 (g : List S33) (hg : g.length ≤ 8) (l : List Nat) (hl : l.length ≤ 8) : ∀ (d i : Nat) (x : List Nat), i + d = g.length → x.length ≤ i → Evn (fun k => spec_StuckTasks.l0 k g (ints x) (ints l) (i : Int)) (ints (x ++ ((List.range' i d).filter fun i => !decide (i ∈ l))))
  | 0, i, x, h, _ => by
    refine Evn.step (Evn.const rfl) fun k => ?_
    simp only [spec_StuckTasks.l0]
    rw [if_neg (by omega)]
    simp
  | d + 1, i, x, h, hx => by
    refine Evn.step (g := fun k => (spec_isIn.f k (ints l) (i : Int)).bind fun b => if b = true then spec_StuckTasks.l0 k g (ints x) (ints l) ((i + 1 : Nat) : Int) else spec_StuckTasks.l0 k g (ints (x ++ [i])) (ints l) ((i + 1 : Nat) : Int)) ?_ fun k => ?_
    · refine Evn.bind (isIn_is (ints l) (by unfold Held; rw [ints_len]; omega) (i : Int)) ?_
      rw [List.range'_succ, List.filter_cons]
      by_cases hm : i ∈ l
      · rw [show decide ((i : Int) ∈ ints l) = true from decide_eq_true ((mem_ints l i).2 hm)]
        simp only [if_true, hm, decide_true, Bool.not_true, Bool.false_eq_true, if_false]
        exact specStuck_l0 g hg l hl d (i + 1) x (by omega) (by omega)
      · rw [show decide ((i : Int) ∈ ints l) = false from decide_eq_false (fun h => hm ((mem_ints l i).1 h))]
        simp only [hm, decide_false, Bool.not_false, if_true, Bool.false_eq_true, if_false]
        have := specStuck_l0 g hg l hl d (i + 1) (x ++ [i]) (by omega) (by rw [List.length_append]; simp; omega)
        rw [List.append_assoc] at this
        exact this
    · simp only [spec_StuckTasks.l0]
      rw [if_pos (by omega), ints_snoc]
      simp only [if_pos (show (ints x).length < 17592186044416 by rw [ints_len]; omega), wrap_up i (by omega)]
theorem specStuck_is (g : List S33) (hg : Held g) (ht : ∀ t, t ∈ g → Held t.f1) : Evn (fun k => spec_StuckTasks.f k g) (stuck g) := by
  unfold spec_StuckTasks.f
  refine Evn.bind (tasksFine_is g hg ht) ?_
  by_cases hf : fine g = true
  · simp only [hf, if_true]
    have h8 := fine_len hf
    refine Evn.bind (topOrder_is g hf) ?_
    have ho := order_len (needs g)
    rw [needs_len] at ho
    have := specStuck_l0 g h8 (order (needs g)).1 (by omega) g.length 0 [] (by omega) (Nat.le_refl _)
    rw [stuck_list hf, List.range_eq_range']
    exact this
  · simp only [hf]
    unfold stuck
    rw [if_neg hf]
    exact Evn.const rfl
theorem drawStuck_y (l0 : List Int) (hw : ∀ x ∈ l0, (Lit.int .u8 x).wf = true) : ∃ g, Evn (fun k => spec_DrawStuckTasks.f k l0) g ∧ Few 16 10 g := by
  obtain ⟨b, e, hb⟩ := reader_y l0 hw
  unfold spec_DrawStuckTasks.f
  rw [e]
  simp only [Option.bind_some]
  obtain ⟨g, q, hg, q0, q1, hf⟩ := anyGraph_y hb (p := 0) (Int.le_refl _) (by omega)
  have hj : ∀ (c : Bool) (p : Int), 0 ≤ p → p ≤ 100000 → (c = true → 0 < g.length) → ∃ r, Evn (fun k => spec_DrawStuckTasks.j0 k g c b p) r ∧ Few 16 10 r := by
    intro c p p0 p1 hc
    cases c with
    | false =>
      refine ⟨g, Evn.step (Evn.const rfl) fun k => ?_, hf⟩
      simp only [spec_DrawStuckTasks.j0]
      rw [if_neg (by simp)]
    | true =>
      have hlen := hc rfl
      obtain ⟨i, q2, hi, a0, a1, i0, i1⟩ := pick_y hb p0 (by omega) (g.length : Int)
      have i2 := i1 (by omega)
      obtain ⟨y, q3, hy, _, _, _, _⟩ := pick_y hb (p := q2) (by omega) (by omega) (g.length : Int)
      have hstep : ∀ k, spec_DrawStuckTasks.j0 (k + 1) g true b p = (spec_reader_pick.f k b p (g.length : Int)).bind fun z => if 0 ≤ z.1 then (if z.1 < (g.length : Int) then (if ((rd_T33 g z.1).f1.length : Int) = 0 then (spec_reader_pick.f k b z.2 (g.length : Int)).bind fun u => some (g.set (z.1 : Int).toNat (⟨(rd_T33 g z.1).f0, [u.1], (rd_T33 g z.1).f2, (rd_T33 g z.1).f3⟩ : S33)) else some g) else none) else none := fun k => by
        simp only [spec_DrawStuckTasks.j0]
        rw [if_pos trivial]
      by_cases hz : ((rd_T33 g i).f1.length : Int) = 0
      · refine ⟨g.set (i : Int).toNat ⟨(rd_T33 g i).f0, [y], (rd_T33 g i).f2, (rd_T33 g i).f3⟩, Evn.step (Evn.bind hi ?_) hstep, hf.set _ (by simp)⟩
        dsimp only
        simp only [if_pos i0, if_pos i2, if_pos hz]
        exact Evn.bind hy (Evn.const rfl)
      · refine ⟨g, Evn.step (Evn.bind hi ?_) hstep, hf⟩
        dsimp only
        simp only [if_pos i0, if_pos i2, if_neg hz]
        exact Evn.const rfl
  by_cases hz : (g.length : Int) > 0
  · obtain ⟨x, q3, hx, c0, c1, _, _⟩ := pick_y hb (p := q) (by omega) (by omega) 3
    obtain ⟨r, hr, hfr⟩ := hj (decide (x > 0)) q3 (by omega) (by omega) (fun _ => by omega)
    refine ⟨r, Evn.bind hg ?_, hfr⟩
    dsimp only
    simp only [if_pos hz]
    exact Evn.bind hx hr
  · obtain ⟨r, hr, hfr⟩ := hj false q (by omega) (by omega) (fun h => by cases h)
    refine ⟨r, Evn.bind hg ?_, hfr⟩
    dsimp only
    simp only [if_neg hz]
    exact hr
end Go.Proofs.YtegogaokcafpjaaDoor.H
