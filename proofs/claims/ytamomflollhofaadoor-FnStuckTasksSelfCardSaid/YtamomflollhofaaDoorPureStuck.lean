/- The graphs that are drawn for StuckTasks; plain Lean. -/
import Derived.Test.YtamomflollhofaaDoorPC
import Derived.Test.YtamomflollhofaaDoorPureStuckVal
import Derived.Test.YtamomflollhofaaDoorQx33
namespace Go.Proofs.YtamomflollhofaaDoor.H
open Go.RowKit Go.Proofs.YtamomflollhofaaDoorW.PrintWords Go.Proofs.YtamomflollhofaaDoor.Q

theorem drawStuck_y (l0 : List Int) (hw : ∀ x ∈ l0, (Lit.int .u8 x).wf = true) : ∃ g, Evn (fun k => spec_DrawStuckTasks.f k l0) g ∧ Few 16 10 g := by
  obtain ⟨b, e, hb⟩ := reader_y l0 hw
  unfold spec_DrawStuckTasks.f
  rw [e]
  simp only [Option.bind_some]
  obtain ⟨g, q, hg, q0, q1, hf⟩ := anyGraph_y hb (p := 0) (Int.le_refl _) (by omega)
  have hj : ∀ (c : Bool) (p : Int), 0 ≤ p → p ≤ 100000 → (c = true → 0 < g.length) → ∃ r, Evn (fun k => spec_DrawStuckTasks.j0 k g c b p) r ∧ Few 16 10 r := by
    intro c p p0 p1 hc
    cases c with
    | false =>
      refine ⟨g, Evn.step (Evn.const rfl) fun k => ?_, hf⟩
      simp only [spec_DrawStuckTasks.j0]
      rw [if_neg (by simp)]
    | true =>
      have hlen := hc rfl
      obtain ⟨i, q2, hi, a0, a1, i0, i1⟩ := pick_y hb p0 (by omega) (g.length : Int)
      have i2 := i1 (by omega)
      obtain ⟨y, q3, hy, _, _, _, _⟩ := pick_y hb (p := q2) (by omega) (by omega) (g.length : Int)
      have hstep : ∀ k, spec_DrawStuckTasks.j0 (k + 1) g true b p = (spec_reader_pick.f k b p (g.length : Int)).bind fun z => if 0 ≤ z.1 then (if z.1 < (g.length : Int) then (if ((rd_T32 g z.1).f1.length : Int) = 0 then (spec_reader_pick.f k b z.2 (g.length : Int)).bind fun u => some (g.set (z.1 : Int).toNat (⟨(rd_T32 g z.1).f0, [u.1], (rd_T32 g z.1).f2, (rd_T32 g z.1).f3⟩ : S32)) else some g) else none) else none := fun k => by
        simp only [spec_DrawStuckTasks.j0]
        rw [if_pos trivial]
      by_cases hz : ((rd_T32 g i).f1.length : Int) = 0
      · refine ⟨g.set (i : Int).toNat ⟨(rd_T32 g i).f0, [y], (rd_T32 g i).f2, (rd_T32 g i).f3⟩, Evn.step (Evn.bind hi ?_) hstep, hf.set _ (by simp)⟩
        dsimp only
        simp only [if_pos i0, if_pos i2, if_pos hz]
        exact Evn.bind hy (Evn.const rfl)
      · refine ⟨g, Evn.step (Evn.bind hi ?_) hstep, hf⟩
        dsimp only
        simp only [if_pos i0, if_pos i2, if_neg hz]
        exact Evn.const rfl
  by_cases hz : (g.length : Int) > 0
  · obtain ⟨x, q3, hx, c0, c1, _, _⟩ := pick_y hb (p := q) (by omega) (by omega) 3
    obtain ⟨r, hr, hfr⟩ := hj (decide (x > 0)) q3 (by omega) (by omega) (fun _ => by omega)
    refine ⟨r, Evn.bind hg ?_, hfr⟩
    dsimp only
    simp only [if_pos hz]
    exact Evn.bind hx hr
  · obtain ⟨r, hr, hfr⟩ := hj false q (by omega) (by omega) (fun h => by cases h)
    refine ⟨r, Evn.bind hg ?_, hfr⟩
    dsimp only
    simp only [if_neg hz]
    exact hr
end Go.Proofs.YtamomflollhofaaDoor.H
