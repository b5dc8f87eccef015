/- The pure statement of FnPoolTimeSum: pools share the work. -/
import Derived.Test.YtokikapljmakbaaDoorPC
import Derived.Test.YtokikapljmakbaaDoorPurePoolV
import Derived.Test.YtokikapljmakbaaDoorQx31
import Derived.Test.YtokikapljmakbaaDoorQx39
namespace Go.Proofs.YtokikapljmakbaaDoor.Pure
open Go.RowKit Go.Proofs.YtokikapljmakbaaDoor.Q Go.Proofs.YtokikapljmakbaaDoor.H Go.Proofs.YtokikapljmakbaaDoorW.PrintWords Go.Proofs.YtokikapljmakbaaDoorW.PrintMore
set_option linter.unusedVariables false

theorem draw_y (l0 : List Int) (hw : ∀ x ∈ l0, (Lit.int .u8 x).wf = true) : ∃ g a r, Evn (fun k => spec_DrawPoolTime.f k l0) (g, a, r) ∧ Few 16 10 g := by
  obtain ⟨b, e, hb⟩ := reader_y l0 hw
  unfold spec_DrawPoolTime.f
  rw [e]
  simp only [Option.bind_some]
  obtain ⟨g, q, hg, q0, q1, hf⟩ := anyGraph_y hb (p := 0) (Int.le_refl _) (by omega)
  obtain ⟨y, q2, hy, y0, y1, _⟩ := one_y hb (p := q) (by omega) (by omega) [0, 1, 2, 3, (-1), 0] (by simp)
  obtain ⟨z, q3, hz, _⟩ := one_y hb (p := q2) (by omega) (by omega) [4, 5, 8, 3, 9] (by simp)
  exact ⟨g, y, z, Evn.bind hg (Evn.bind hy (Evn.bind hz (Evn.const rfl))), hf⟩
theorem pool_conds {g : List S29} {a r : Int} (h : ¬ poolTime g a r < 0) : valid g = true ∧ (0 ≤ a ∧ a ≤ 2) ∧ (4 ≤ r ∧ r ≤ 8) := Classical.byContradiction fun hc => h (by rw [poolTime_no hc]; omega)
def allSum (g : List S29) : Nat → Int
  | 0 => 0
  | i + 1 => allSum g i + wk g i
theorem all_three {g : List S29} (hf : fine g = true) : ∀ i, i ≤ g.length → allSum g i = poolSum g 0 i + poolSum g 1 i + poolSum g 2 i
  | 0, _ => rfl
  | i + 1, h => by
    have h1 := all_three hf i (by omega)
    have h2 := (wk_ok hf i (by omega)).2
    rw [allSum, poolSum, poolSum, poolSum, h1]
    obtain ⟨v, ev⟩ : ∃ v, (rd_T29 g (i : Int)).f2 = v := ⟨_, rfl⟩
    rw [ev] at h2
    rw [ev]
    rcases (by omega : v = 0 ∨ v = 1 ∨ v = 2) with rfl | rfl | rfl
    · rw [if_pos rfl, if_neg (by omega), if_neg (by omega)]
      omega
    · rw [if_neg (by omega), if_pos rfl, if_neg (by omega)]
      omega
    · rw [if_neg (by omega), if_neg (by omega), if_pos rfl]
      omega
theorem one_pool {s r q : Int} (r0 : 4 ≤ r ∧ r ≤ 8) (s0 : 0 ≤ s) (s1 : s ≤ 640) (hq : q = (s + r - 1) / r) : q * r ≥ s ∧ q * r < s + r := by
  rcases (by omega : r = 4 ∨ r = 5 ∨ r = 6 ∨ r = 7 ∨ r = 8) with rfl | rfl | rfl | rfl | rfl <;> omega
theorem l1_is {g : List S29} (hh : held g = true) (hv : valid g = true) (r : Int) (hr : 4 ≤ r ∧ r ≤ 8) : Evn (fun k => laws_FnPoolTimeSum.l1 k g r (allSum g g.length) 0 0) true := by
  have hf := valid_fine hv
  have h8 := fine_len hf
  obtain ⟨a0, a1⟩ := poolSum_ok hf 0 g.length (Nat.le_refl _)
  obtain ⟨b0, b1⟩ := poolSum_ok hf 1 g.length (Nat.le_refl _)
  obtain ⟨d0, d1⟩ := poolSum_ok hf 2 g.length (Nat.le_refl _)
  have ht := all_three hf g.length (Nat.le_refl _)
  obtain ⟨p1, p2⟩ := one_pool hr a0 (by omega) (poolTime_yes hv (show (0 : Int) ≤ 0 ∧ (0 : Int) ≤ 2 by omega) hr)
  obtain ⟨q1, q2⟩ := one_pool hr b0 (by omega) (poolTime_yes hv (show (0 : Int) ≤ 1 ∧ (1 : Int) ≤ 2 by omega) hr)
  obtain ⟨u1, u2⟩ := one_pool hr d0 (by omega) (poolTime_yes hv (show (0 : Int) ≤ 2 ∧ (2 : Int) ≤ 2 by omega) hr)
  have hstep : ∀ (j x : Int) (k : Nat), j < 3 → laws_FnPoolTimeSum.l1 (k + 1) g r (allSum g g.length) x j = (impl_PoolTime.f k g j r).bind fun t => laws_FnPoolTimeSum.l1 k g r (allSum g g.length) (wrap64 (x + wrap64 (t * r))) (wrap64 (j + 1)) := fun j x k hj => by
    simp only [laws_FnPoolTimeSum.l1]
    rw [if_pos hj]
  obtain ⟨x, ex⟩ : ∃ x, poolTime g 0 r * r = x := ⟨_, rfl⟩
  obtain ⟨y, ey⟩ : ∃ y, poolTime g 1 r * r = y := ⟨_, rfl⟩
  obtain ⟨z, ez⟩ : ∃ z, poolTime g 2 r * r = z := ⟨_, rfl⟩
  rw [ex] at p1 p2
  rw [ey] at q1 q2
  rw [ez] at u1 u2
  refine Evn.step (Evn.bind (implPool_is 0 r hh) ?_) fun k => hstep 0 0 k (by omega)
  rw [ex, w1k x (by omega) (by omega), w1k (0 + x) (by omega) (by omega), w1k (0 + 1) (by omega) (by omega)]
  refine Evn.step (Evn.bind (implPool_is 1 r hh) ?_) fun k => hstep 1 (0 + x) k (by omega)
  rw [ey, w1k y (by omega) (by omega), w1k (0 + x + y) (by omega) (by omega), w1k (1 + 1) (by omega) (by omega)]
  refine Evn.step (Evn.bind (implPool_is 2 r hh) ?_) fun k => hstep 2 (0 + x + y) k (by omega)
  rw [ez, w1k z (by omega) (by omega), w1k (0 + x + y + z) (by omega) (by omega), w1k (2 + 1) (by omega) (by omega)]
  refine Evn.step (Evn.const rfl) fun k => ?_
  simp only [laws_FnPoolTimeSum.l1]
  rw [if_neg (by omega), if_pos (by omega), w1k (3 * r) (by omega) (by omega), w1k (allSum g g.length + 3 * r) (by omega) (by omega), decide_eq_true (by omega)]
theorem l0_is {g : List S29} (hh : held g = true) (hv : valid g = true) (r : Int) (hr : 4 ≤ r ∧ r ≤ 8) : ∀ (d i : Nat), i + d = g.length → Evn (fun k => laws_FnPoolTimeSum.l0 k g r (allSum g i) 0 (i : Int)) true
  | 0, i, h => by
    have hi : i = g.length := by omega
    subst hi
    refine Evn.step (l1_is hh hv r hr) fun k => ?_
    simp only [laws_FnPoolTimeSum.l0]
    rw [if_neg (by omega)]
  | d + 1, i, h => by
    have hf := valid_fine hv
    have h8 := fine_len hf
    have hi : i < g.length := by omega
    have s0 := poolSum_ok hf 0 i (by omega)
    have s1 := poolSum_ok hf 1 i (by omega)
    have s2 := poolSum_ok hf 2 i (by omega)
    have ht := all_three hf i (by omega)
    have hw := (wk_ok hf i hi).1
    have hN := l0_is hh hv r hr d (i + 1) (by omega)
    rw [allSum] at hN
    refine Evn.step hN fun k => ?_
    simp only [laws_FnPoolTimeSum.l0]
    rw [if_pos (by omega), if_pos (by omega), wk_wrap hf i hi, wrap_up i (by omega), w1k _ (by omega) (by omega)]
theorem FnPoolTimeSum : laws_FnPoolTimeSum.Pure := by
  intro l0 _ _ hw
  refine Evn.at_ (f := fun k => laws_FnPoolTimeSum.f k l0) ?_
  unfold laws_FnPoolTimeSum.f
  by_cases hl : (l0.length : Int) > 1048576
  · simp only [if_pos hl]
    exact Evn.const rfl
  simp only [if_neg hl]
  obtain ⟨g, a, r, hg, hfw⟩ := draw_y l0 hw
  obtain ⟨h1, h2, h3⟩ := few_held hfw (by omega) (by omega)
  refine Evn.bind hg (Evn.bind (implPool_is a r h1) (Evn.bind (specPool_is g a r h2 h3) ?_))
  simp only [if_true]
  by_cases hz : poolTime g a r < 0
  · rw [decide_eq_true hz]
    refine Evn.step (g := fun k => (spec_PoolTime.f k g a r).bind fun t => some (poolTime g a r == t)) (Evn.bind (specPool_is g a r h2 h3) (Evn.const (by simp))) fun k => ?_
    simp only [laws_FnPoolTimeSum.j0]
    rw [if_pos trivial]
  rw [decide_eq_false hz]
  obtain ⟨hv, ha, hr⟩ := pool_conds hz
  have hf := valid_fine hv
  have h8 := fine_len hf
  refine Evn.step (l0_is h1 hv r hr g.length 0 (by omega)) fun k => ?_
  simp only [laws_FnPoolTimeSum.j0]
  rw [if_neg (by simp)]
  rfl
end Go.Proofs.YtokikapljmakbaaDoor.Pure
