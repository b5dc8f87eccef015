/- PoolTime in the program's words and in the reference's; plain Lean. -/
import Derived.Test.YtokikapljmakbaaDoorPureTimes
import Derived.Test.YtokikapljmakbaaDoorQx18
import Derived.Test.YtokikapljmakbaaDoorQx21
namespace Go.Proofs.YtokikapljmakbaaDoor.H
open Go.RowKit Go.Proofs.YtokikapljmakbaaDoorW.PrintWords Go.Proofs.YtokikapljmakbaaDoorW.PrintLast Go.Proofs.YtokikapljmakbaaDoorW.PrintMore Go.Proofs.YtokikapljmakbaaDoor.Q
set_option linter.unusedVariables false

/-- The work of task i. -/
def wk (g : List S29) (i : Nat) : Int := (rd_T29 g (i : Int)).f0 * (rd_T29 g (i : Int)).f3
def poolSum (g : List S29) (a : Int) : Nat → Int
  | 0 => 0
  | i + 1 => if (rd_T29 g (i : Int)).f2 = a then poolSum g a i + wk g i else poolSum g a i
def poolTime (g : List S29) (a r : Int) : Int := if valid g = true ∧ (0 ≤ a ∧ a ≤ 2) ∧ (4 ≤ r ∧ r ≤ 8) then (poolSum g a g.length + r - 1) / r else -1
theorem wk_ok {g : List S29} (hf : fine g = true) (i : Nat) (hi : i < g.length) : (1 ≤ wk g i ∧ wk g i ≤ 80) ∧ 0 ≤ (rd_T29 g (i : Int)).f2 ∧ (rd_T29 g (i : Int)).f2 ≤ 2 := by
  have h := task_ok hf i hi
  unfold okTask at h
  simp only [Bool.and_eq_true, decide_eq_true_eq] at h
  obtain ⟨_, ⟨h1, h2⟩, ⟨h3, h4⟩, h5, h6⟩ := h
  refine ⟨?_, h3, h4⟩
  unfold wk
  obtain ⟨t, et⟩ : ∃ t, (rd_T29 g (i : Int)).f0 = t := ⟨_, rfl⟩
  obtain ⟨s, es⟩ : ∃ s, (rd_T29 g (i : Int)).f3 = s := ⟨_, rfl⟩
  rw [et] at h1 h2
  rw [es] at h5 h6
  rw [et, es]
  rcases (by omega : s = 1 ∨ s = 2 ∨ s = 3 ∨ s = 4) with rfl | rfl | rfl | rfl <;> omega
theorem poolSum_ok {g : List S29} (hf : fine g = true) (a : Int) : ∀ i, i ≤ g.length → 0 ≤ poolSum g a i ∧ poolSum g a i ≤ 80 * (i : Int)
  | 0, _ => ⟨Int.le_refl _, by show (0 : Int) ≤ _; omega⟩
  | i + 1, h => by
    have h1 := poolSum_ok hf a i (by omega)
    have h2 := (wk_ok hf i (by omega)).1
    rw [poolSum]
    split <;> omega
theorem up_is (s r : Int) (h0 : 0 ≤ s) (h1 : s ≤ 10000) (r0 : 1 ≤ r) (r1 : r ≤ 8) : wrap64 (Int.tdiv (wrap64 (wrap64 (s + r) - 1)) r) = (s + r - 1) / r := by
  rw [w1k (s + r) (by omega) (by omega), w1k (s + r - 1) (by omega) (by omega), Int.tdiv_eq_ediv_of_nonneg (by omega)]
  have a : 0 ≤ (s + r - 1) / r := Int.ediv_nonneg (by omega) (by omega)
  have b : (s + r - 1) / r ≤ s + r - 1 := Int.ediv_le_self _ (by omega)
  exact w1k _ (by omega) (by omega)
theorem wk_wrap {g : List S29} (hf : fine g = true) (i : Nat) (hi : i < g.length) : wrap64 ((rd_T29 g (i : Int)).f0 * (rd_T29 g (i : Int)).f3) = wk g i := by
  have h := (wk_ok hf i hi).1
  exact w1k (wk g i) (by omega) (by omega)
theorem specPool_l0 {g : List S29} (hf : fine g = true) (a r : Int) (r0 : 4 ≤ r) (r1 : r ≤ 8) : ∀ (d i : Nat), i + d = g.length → Evn (fun k => spec_PoolTime.l0 k g a r (poolSum g a i) (i : Int)) ((poolSum g a g.length + r - 1) / r)
  | 0, i, h => by
    have hi : i = g.length := by omega
    subst hi
    have h8 := fine_len hf
    obtain ⟨s0, s1⟩ := poolSum_ok hf a g.length (Nat.le_refl _)
    refine Evn.step (Evn.const rfl) fun k => ?_
    simp only [spec_PoolTime.l0]
    rw [if_neg (by omega), if_neg (by omega), up_is _ r s0 (by omega) (by omega) r1]
  | d + 1, i, h => by
    have h8 := fine_len hf
    have hi : i < g.length := by omega
    obtain ⟨s0, s1⟩ := poolSum_ok hf a i (by omega)
    have hw := (wk_ok hf i hi).1
    have hN := specPool_l0 hf a r r0 r1 d (i + 1) (by omega)
    rw [poolSum] at hN
    refine Evn.step hN fun k => ?_
    simp only [spec_PoolTime.l0]
    rw [if_pos (by omega), if_pos (by omega), wk_wrap hf i hi, wrap_up i (by omega)]
    by_cases c : (rd_T29 g (i : Int)).f2 = a
    · rw [if_pos c, if_pos c, w1k _ (by omega) (by omega)]
    · rw [if_neg c, if_neg c]
theorem implPool_l0 {g : List S29} (hf : fine g = true) (a r : Int) (r0 : 4 ≤ r) (r1 : r ≤ 8) : ∀ (d i : Nat), i + d = g.length → Evn (fun k => impl_PoolTime.l0 k a r (poolSum g a i) g (g.length : Int) (i : Int)) ((poolSum g a g.length + r - 1) / r)
  | 0, i, h => by
    have hi : i = g.length := by omega
    subst hi
    have h8 := fine_len hf
    obtain ⟨s0, s1⟩ := poolSum_ok hf a g.length (Nat.le_refl _)
    refine Evn.step (Evn.const rfl) fun k => ?_
    simp only [impl_PoolTime.l0, impl_up.f]
    rw [if_neg (by omega), if_neg (by omega), up_is _ r s0 (by omega) (by omega) r1]
    rfl
  | d + 1, i, h => by
    have h8 := fine_len hf
    have hi : i < g.length := by omega
    obtain ⟨s0, s1⟩ := poolSum_ok hf a i (by omega)
    have hw := (wk_ok hf i hi).1
    have hN := implPool_l0 hf a r r0 r1 d (i + 1) (by omega)
    rw [poolSum] at hN
    refine Evn.step hN fun k => ?_
    simp only [impl_PoolTime.l0]
    rw [if_pos (by omega), if_pos (by omega), if_pos (by omega), wk_wrap hf i hi, wrap_up i (by omega)]
    by_cases c : (rd_T29 g (i : Int)).f2 = a
    · rw [if_pos c, if_pos c, w1k _ (by omega) (by omega)]
    · rw [if_neg c, if_neg c]
theorem poolTime_no {g : List S29} {a r : Int} (h : ¬ (valid g = true ∧ (0 ≤ a ∧ a ≤ 2) ∧ (4 ≤ r ∧ r ≤ 8))) : poolTime g a r = -1 := if_neg h
theorem poolTime_yes {g : List S29} {a r : Int} (hv : valid g = true) (ha : 0 ≤ a ∧ a ≤ 2) (hr : 4 ≤ r ∧ r ≤ 8) : poolTime g a r = (poolSum g a g.length + r - 1) / r := if_pos ⟨hv, ha, hr⟩
theorem specPool_is (g : List S29) (a r : Int) (hg : Held g) (ht : ∀ t, t ∈ g → Held t.f1) : Evn (fun k => spec_PoolTime.f k g a r) (poolTime g a r) := by
  have hno : ∀ s, Evn (fun k => spec_PoolTime.j0 k g a r s true) (-1) := fun s => Evn.step (Evn.const rfl) fun k => by
    simp only [spec_PoolTime.j0]
    rw [if_pos trivial]
  unfold spec_PoolTime.f
  refine Evn.bind (validGraph_is g hg ht) ?_
  by_cases hv : valid g = true
  · simp only [hv, if_true]
    rw [inRange_is]
    refine Evn.bind (Evn.const rfl) ?_
    by_cases ha : 0 ≤ a ∧ a ≤ 2
    · simp only [decide_eq_true ha, if_true]
      rw [inRange_is]
      refine Evn.bind (Evn.const rfl) ?_
      by_cases hr : 4 ≤ r ∧ r ≤ 8
      · rw [decide_eq_true hr, poolTime_yes hv ha hr]
        refine Evn.step (specPool_l0 (valid_fine hv) a r hr.1 hr.2 g.length 0 (by omega)) fun k => ?_
        simp only [spec_PoolTime.j0]
        rw [if_neg (by simp)]
        rfl
      · rw [decide_eq_false hr, poolTime_no (fun h => hr h.2.2)]
        exact hno 0
    · simp only [decide_eq_false ha, Bool.false_eq_true, if_false]
      rw [poolTime_no (fun h => ha h.2.1)]
      exact hno 0
  · simp only [hv]
    rw [poolTime_no (fun h => hv h.1)]
    exact hno 0
theorem implPool_is {g : List S29} (a r : Int) (hh : held g = true) : Evn (fun k => impl_PoolTime.f k g a r) (poolTime g a r) := by
  have hno : Evn (fun k => impl_PoolTime.j0 k g a r true) (-1) := Evn.step (Evn.const rfl) fun k => by
    simp only [impl_PoolTime.j0]
    rw [if_pos trivial]
  unfold impl_PoolTime.f
  refine Evn.bind (Evn.const (implValid_is hh)) ?_
  by_cases hv : valid g = true
  · simp only [hv, if_true]
    rw [within_is]
    refine Evn.bind (Evn.const rfl) ?_
    by_cases ha : 0 ≤ a ∧ a ≤ 2
    · simp only [decide_eq_true ha, if_true]
      rw [within_is]
      refine Evn.bind (Evn.const rfl) ?_
      by_cases hr : 4 ≤ r ∧ r ≤ 8
      · rw [decide_eq_true hr, poolTime_yes hv ha hr]
        refine Evn.step (implPool_l0 (valid_fine hv) a r hr.1 hr.2 g.length 0 (by omega)) fun k => ?_
        simp only [impl_PoolTime.j0]
        rw [if_neg (by simp)]
        rfl
      · rw [decide_eq_false hr, poolTime_no (fun h => hr h.2.2)]
        exact hno
    · simp only [decide_eq_false ha, Bool.false_eq_true, if_false]
      rw [poolTime_no (fun h => ha h.2.1)]
      exact hno
  · simp only [hv]
    rw [poolTime_no (fun h => hv h.1)]
    exact hno
end Go.Proofs.YtokikapljmakbaaDoor.H
