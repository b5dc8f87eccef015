/- The pure statement of FnAllNeedsTime: needs take time before. -/
import Derived.Test.YtamomflollhofaaDoorPC
import Derived.Test.YtamomflollhofaaDoorPureNeedsV
import Derived.Test.YtamomflollhofaaDoorPureNeedsI
import Derived.Test.YtamomflollhofaaDoorPureNeedsSum
import Derived.Test.YtamomflollhofaaDoorQx30
import Derived.Test.YtamomflollhofaaDoorQx43
namespace Go.Proofs.YtamomflollhofaaDoor.Pure
open Go.RowKit Go.Proofs.YtamomflollhofaaDoor.Q Go.Proofs.YtamomflollhofaaDoor.H Go.Proofs.YtamomflollhofaaDoorW.PrintWords Go.Proofs.YtamomflollhofaaDoorW.PrintMore
set_option linter.unusedVariables false

theorem draw_y (l0 : List Int) (hw : ∀ x ∈ l0, (Lit.int .u8 x).wf = true) : ∃ g a, Evn (fun k => spec_DrawAllNeeds.f k l0) (g, a) ∧ Few 16 10 g := by
  obtain ⟨b, e, hb⟩ := reader_y l0 hw
  unfold spec_DrawAllNeeds.f
  rw [e]
  simp only [Option.bind_some]
  obtain ⟨g, q, hg, q0, q1, hf⟩ := anyGraph_y hb (p := 0) (Int.le_refl _) (by omega)
  have hs : ∃ a s, Evn (fun k => spec_someAt.f k b q g) (a, s) := by
    unfold spec_someAt.f
    obtain ⟨x, q2, hx, a0, a1, _⟩ := pick_y hb (p := q) (by omega) (by omega) 10
    by_cases hz : x = 0
    · obtain ⟨y, q3, hy, _⟩ := one_y hb (p := q2) (by omega) (by omega) [(-1), (g.length : Int), 0] (by simp)
      refine ⟨y, q3, Evn.bind hx ?_⟩
      simp only [hz, if_true]
      exact Evn.bind hy (Evn.const rfl)
    · obtain ⟨y, q3, hy, _⟩ := pick_y hb (p := q2) (by omega) (by omega) (mx 1 (g.length : Int))
      refine ⟨y, q3, Evn.bind hx ?_⟩
      simp only [hz, if_false]
      exact Evn.bind hy (Evn.const rfl)
  obtain ⟨a, s, ha⟩ := hs
  exact ⟨g, a, Evn.bind hg (Evn.bind ha (Evn.const rfl)), hf⟩
theorem l0_is {g : List S32} (hv : valid g = true) (h1 : held g = true) (i : Nat) (hi : i < g.length) : ∀ (d j : Nat) (x : Int), j + d = (allOf g i).length → x + (((allOf g i).drop j).map (tmOf g)).sum = ((allOf g i).map (tmOf g)).sum → 0 ≤ x → x ≤ 20 * (j : Int) →
    Evn (fun k => laws_FnAllNeedsTime.l0 k g (i : Int) (ints (allOf g i)) x (j : Int)) true
  | 0, j, x, h, hx, _, _ => by
    have lh := headTimes_lenv hv
    rw [List.drop_of_length_le (by omega)] at hx
    have hx2 : x = ((allOf g i).map (tmOf g)).sum := by simpa using hx
    have hp := head_pos hv i hi
    have hs := head_all hv i hi
    rw [← hx2] at hp hs
    have hd : decide (atI (headTimes g) i > 0) = decide (x > 0) := decide_eq_decide.2 hp
    refine Evn.step (g := fun k => (impl_HeadTimes.f g).bind fun t => if (t.length : Int) = (g.length : Int) then (if 0 ≤ (i : Int) then (if (i : Int) < (t.length : Int) then (if rd t (i : Int) ≤ x then some ((decide (rd t (i : Int) > 0)) == (decide (x > 0))) else some false) else none) else none) else some false) ?_ fun k => ?_
    · refine Evn.bind (Evn.const (implHead_is h1)) ?_
      rw [if_pos (by omega), if_pos (by omega), if_pos (by omega), rd_atI _ i (by omega), if_pos hs, hd]
      exact Evn.const (by simp)
    · simp only [laws_FnAllNeedsTime.l0]
      rw [if_neg (by rw [ints_len]; omega)]
  | d + 1, j, x, h, hx, x0, x1 => by
    have h8 := fine_len (valid_fine hv)
    have l8 : (allOf g i).length ≤ 8 := elems_len _
    have hj : j < (allOf g i).length := by omega
    have hm := List.getElem_mem hj
    have hy := ((allOf_mem hv i hi _).1 hm).1
    have hy2 := all_time hv i hi _ hm
    rw [List.drop_eq_getElem_cons hj, List.map_cons, List.sum_cons] at hx
    obtain ⟨y, e⟩ : ∃ y, (allOf g i)[j] = y := ⟨_, rfl⟩
    rw [e] at hx hy hy2
    have hN := l0_is hv h1 i hi d (j + 1) (x + tmOf g y) (by omega) (by omega) (by omega) (by omega)
    refine Evn.step hN fun k => ?_
    have et : (rd_T32 g (y : Int)).f0 = tmOf g y := rfl
    simp only [laws_FnAllNeedsTime.l0]
    rw [rd_ints _ j hj, e, if_pos (by rw [ints_len]; omega), if_pos (by omega), if_neg (by omega), if_neg (by omega), if_pos (by omega), if_pos (by omega), et, w1k (x + tmOf g y) (by omega) (by omega), wrap_up j (by omega)]
theorem FnAllNeedsTime : laws_FnAllNeedsTime.Pure := by
  intro l0 _ _ hw
  refine Evn.at_ (f := fun k => laws_FnAllNeedsTime.f k l0) ?_
  unfold laws_FnAllNeedsTime.f
  by_cases hl : (l0.length : Int) > 1048576
  · simp only [if_pos hl]
    exact Evn.const rfl
  simp only [if_neg hl]
  obtain ⟨g, a, hg, hfw⟩ := draw_y l0 hw
  obtain ⟨h1, h2, h3⟩ := few_held hfw (by omega) (by omega)
  refine Evn.bind hg (Evn.bind (Evn.const (implNeeds_is h1)) (Evn.bind (specAllNeeds_is g a h2 h3) (Evn.bind (equalInts_same _ (rel1_held g a)) ?_)))
  simp only [if_true]
  have hend : Evn (fun k => laws_FnAllNeedsTime.j0 k g a (rel1 g a) true) true := by
    refine Evn.step (g := fun k => (spec_AllNeeds.f k g a).bind fun r => (laws_equalInts.f k (rel1 g a) r).bind fun b => some b) (Evn.bind (specAllNeeds_is g a h2 h3) (Evn.bind (equalInts_same _ (rel1_held g a)) (Evn.const rfl))) fun k => ?_
    simp only [laws_FnAllNeedsTime.j0]
    rw [if_pos trivial]
  refine Evn.bind (Evn.const (implValid_is h1)) ?_
  by_cases hv0 : ¬ valid g = true
  · simp only [if_neg hv0]
    exact hend
  have hv : valid g = true := Classical.not_not.1 hv0
  simp only [if_pos hv]
  by_cases ha0 : a < 0
  · simp only [if_pos ha0]
    exact hend
  simp only [if_neg ha0]
  by_cases ha1 : a ≥ (g.length : Int)
  · simp only [decide_eq_true ha1]
    exact hend
  simp only [decide_eq_false ha1]
  clear hend
  have hf := valid_fine hv
  have h8 := fine_len hf
  obtain ⟨i, rfl⟩ : ∃ i : Nat, a = (i : Int) := ⟨a.toNat, by omega⟩
  have hi : i < g.length := by omega
  refine Evn.step (g := fun k => laws_FnAllNeedsTime.l0 k g (i : Int) (rel1 g (i : Int)) 0 ((0 : Nat) : Int)) ?_ fun k => ?_
  · rw [rel1_is hv i hi]
    exact l0_is hv h1 i hi (allOf g i).length 0 0 (by omega) (by simp) (Int.le_refl _) (by omega)
  · simp only [laws_FnAllNeedsTime.j0]
    rw [if_neg (by simp)]
    rfl
end Go.Proofs.YtamomflollhofaaDoor.Pure
