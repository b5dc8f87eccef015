/- The pure statement of FnPoolTime: larger pools need less time. -/
import Derived.Test.YtokikapljmakbaaDoorPC
import Derived.Test.YtokikapljmakbaaDoorPurePoolV
import Derived.Test.YtokikapljmakbaaDoorQx31
import Derived.Test.YtokikapljmakbaaDoorQx38
namespace Go.Proofs.YtokikapljmakbaaDoor.Pure
open Go.RowKit Go.Proofs.YtokikapljmakbaaDoor.Q Go.Proofs.YtokikapljmakbaaDoor.H Go.Proofs.YtokikapljmakbaaDoorW.PrintWords Go.Proofs.YtokikapljmakbaaDoorW.PrintMore
set_option linter.unusedVariables false

theorem draw_y (l0 : List Int) (hw : ∀ x ∈ l0, (Lit.int .u8 x).wf = true) : ∃ g a r, Evn (fun k => spec_DrawPoolTime.f k l0) (g, a, r) ∧ Few 16 10 g := by
  obtain ⟨b, e, hb⟩ := reader_y l0 hw
  unfold spec_DrawPoolTime.f
  rw [e]
  simp only [Option.bind_some]
  obtain ⟨g, q, hg, q0, q1, hf⟩ := anyGraph_y hb (p := 0) (Int.le_refl _) (by omega)
  obtain ⟨y, q2, hy, y0, y1, _⟩ := one_y hb (p := q) (by omega) (by omega) [0, 1, 2, 3, (-1), 0] (by simp)
  obtain ⟨z, q3, hz, _⟩ := one_y hb (p := q2) (by omega) (by omega) [4, 5, 8, 3, 9] (by simp)
  exact ⟨g, y, z, Evn.bind hg (Evn.bind hy (Evn.bind hz (Evn.const rfl))), hf⟩
theorem pool_conds {g : List S29} {a r : Int} (h : ¬ poolTime g a r < 0) : valid g = true ∧ (0 ≤ a ∧ a ≤ 2) ∧ (4 ≤ r ∧ r ≤ 8) := Classical.byContradiction fun hc => h (by rw [poolTime_no hc]; omega)
theorem l0_is {g : List S29} (hh : held g = true) (hv : valid g = true) (a r : Int) (ha : 0 ≤ a ∧ a ≤ 2) (hr : 4 ≤ r ∧ r ≤ 8) : ∀ (d i : Nat), i + d = g.length → Evn (fun k => laws_FnPoolTime.l0 k g a r (poolTime g a r) (poolSum g a i) (i : Int)) true
  | 0, i, h => by
    have hi : i = g.length := by omega
    subst hi
    have hf := valid_fine hv
    have h8 := fine_len hf
    obtain ⟨s0, s1⟩ := poolSum_ok hf a g.length (Nat.le_refl _)
    have e1 := poolTime_yes hv ha hr
    have ew : wrap64 (r + 1) = r + 1 := w1k _ (by omega) (by omega)
    refine Evn.step (g := fun k => (impl_PoolTime.f k g a (r + 1)).bind fun t => if wrap64 (poolTime g a r * r) ≥ poolSum g a g.length then (if wrap64 (poolTime g a r * r) < wrap64 (poolSum g a g.length + r) then (if r = 8 then some true else (if t ≤ poolTime g a r then some (decide (t ≥ 0)) else some false)) else some false) else some false) ?_ fun k => ?_
    · refine Evn.bind (implPool_is a (r + 1) hh) ?_
      rw [e1]
      obtain ⟨s, es⟩ : ∃ s, poolSum g a g.length = s := ⟨_, rfl⟩
      rw [es] at s0 s1 ⊢
      have s2 : s ≤ 640 := by omega
      rw [w1k (s + r) (by omega) (by omega)]
      have goal : ∀ q, q = (s + r - 1) / r → (r = 8 → (s + 7) / 8 = q) → (wrap64 (q * r) = q * r) ∧ q * r ≥ s ∧ q * r < s + r ∧ (r ≠ 8 → (s + (r + 1) - 1) / (r + 1) ≤ q ∧ (s + (r + 1) - 1) / (r + 1) ≥ 0) := by
        intro q hq _
        have : wrap64 (q * r) = q * r := by
          rcases (by omega : r = 4 ∨ r = 5 ∨ r = 6 ∨ r = 7 ∨ r = 8) with rfl | rfl | rfl | rfl | rfl <;> exact w1k _ (by omega) (by omega)
        refine ⟨this, ?_⟩
        rcases (by omega : r = 4 ∨ r = 5 ∨ r = 6 ∨ r = 7 ∨ r = 8) with rfl | rfl | rfl | rfl | rfl <;> refine ⟨by omega, by omega, fun _ => ?_⟩ <;> omega
      obtain ⟨g0, g1, g2, g3⟩ := goal ((s + r - 1) / r) rfl (fun h => by subst h; omega)
      rw [g0, if_pos g1, if_pos g2]
      by_cases hr8 : r = 8
      · rw [if_pos hr8]
        exact Evn.const rfl
      · obtain ⟨g4, g5⟩ := g3 hr8
        have e2 := poolTime_yes hv ha (show 4 ≤ r + 1 ∧ r + 1 ≤ 8 by omega)
        rw [es] at e2
        rw [if_neg hr8, e2, if_pos g4, decide_eq_true g5]
        exact Evn.const rfl
    · simp only [laws_FnPoolTime.l0]
      rw [if_neg (by omega), ew]
  | d + 1, i, h => by
    have hf := valid_fine hv
    have h8 := fine_len hf
    have hi : i < g.length := by omega
    obtain ⟨s0, s1⟩ := poolSum_ok hf a i (by omega)
    have hw := (wk_ok hf i hi).1
    have hN := l0_is hh hv a r ha hr d (i + 1) (by omega)
    rw [poolSum] at hN
    refine Evn.step hN fun k => ?_
    simp only [laws_FnPoolTime.l0]
    rw [if_pos (by omega), if_pos (by omega), wk_wrap hf i hi, wrap_up i (by omega)]
    by_cases c : (rd_T29 g (i : Int)).f2 = a
    · rw [if_pos c, if_pos c, w1k _ (by omega) (by omega)]
    · rw [if_neg c, if_neg c]
theorem FnPoolTime : laws_FnPoolTime.Pure := by
  intro l0 _ _ hw
  refine Evn.at_ (f := fun k => laws_FnPoolTime.f k l0) ?_
  unfold laws_FnPoolTime.f
  by_cases hl : (l0.length : Int) > 1048576
  · simp only [if_pos hl]
    exact Evn.const rfl
  simp only [if_neg hl]
  obtain ⟨g, a, r, hg, hfw⟩ := draw_y l0 hw
  obtain ⟨h1, h2, h3⟩ := few_held hfw (by omega) (by omega)
  refine Evn.bind hg (Evn.bind (implPool_is a r h1) (Evn.bind (specPool_is g a r h2 h3) ?_))
  simp only [if_true]
  by_cases hz : poolTime g a r < 0
  · rw [decide_eq_true hz]
    refine Evn.step (g := fun k => (spec_PoolTime.f k g a r).bind fun t => some (poolTime g a r == t)) (Evn.bind (specPool_is g a r h2 h3) (Evn.const (by simp))) fun k => ?_
    simp only [laws_FnPoolTime.j0]
    rw [if_pos trivial]
  rw [decide_eq_false hz]
  obtain ⟨hv, ha, hr⟩ := pool_conds hz
  have hf := valid_fine hv
  have h8 := fine_len hf
  refine Evn.step (l0_is h1 hv a r ha hr g.length 0 (by omega)) fun k => ?_
  simp only [laws_FnPoolTime.j0]
  rw [if_neg (by simp)]
  rfl
end Go.Proofs.YtokikapljmakbaaDoor.Pure
