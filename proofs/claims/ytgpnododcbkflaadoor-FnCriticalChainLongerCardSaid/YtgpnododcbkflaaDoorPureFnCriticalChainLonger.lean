/- The pure statement of FnCriticalChainLonger: critical tasks make everything longer. -/
import Derived.Test.YtgpnododcbkflaaDoorPureLonger
import Derived.Test.YtgpnododcbkflaaDoorPureChainL
import Derived.Test.YtgpnododcbkflaaDoorPureLongI
import Derived.Test.YtgpnododcbkflaaDoorQx28
import Derived.Test.YtgpnododcbkflaaDoorQx40
namespace Go.Proofs.YtgpnododcbkflaaDoor.Pure
open Go.RowKit Go.Proofs.YtgpnododcbkflaaDoor.Q Go.Proofs.YtgpnododcbkflaaDoor.H Go.Proofs.YtgpnododcbkflaaDoorW.PrintWords Go.Proofs.YtgpnododcbkflaaDoorW.PrintMore
set_option linter.unusedVariables false

theorem draw_y (l0 : List Int) (hw : ∀ x ∈ l0, (Lit.int .u8 x).wf = true) : ∃ g, Evn (fun k => spec_DrawCriticalChain.f k l0) g ∧ Few 16 10 g := by
  obtain ⟨b, e, hb⟩ := reader_y l0 hw
  unfold spec_DrawCriticalChain.f
  rw [e]
  simp only [Option.bind_some]
  obtain ⟨g, q, hg, _, _, hf⟩ := anyGraph_y hb (p := 0) (Int.le_refl _) (by omega)
  exact ⟨g, Evn.bind hg (Evn.const rfl), hf⟩
theorem l0_is {g : List S30} (hv : valid g = true) (hfw : Few 16 10 g) (c : List Nat) (hc : c.length ≤ 1000) (h : ∀ i, i ∈ c → i < g.length ∧ atI (headTimes g) i + atI (tailTimes g) i = longestTime g) : ∀ (d j : Nat), j + d = c.length → Evn (fun k => laws_FnCriticalChainLonger.l0 k g (ints c) (longestTime g) (j : Int)) true
  | 0, j, hj => by
    refine Evn.step (Evn.const rfl) fun k => ?_
    simp only [laws_FnCriticalChainLonger.l0]
    rw [if_neg (by rw [ints_len]; omega)]
  | d + 1, j, hj => by
    have hf := valid_fine hv
    have h8 := fine_len hf
    have hjl : j < c.length := by omega
    obtain ⟨i, e⟩ : ∃ y, c[j] = y := ⟨_, rfl⟩
    obtain ⟨hi, hcr⟩ := h i (by rw [← e]; exact List.getElem_mem hjl)
    have er := rd_ints c j hjl
    rw [e] at er
    have hN := l0_is hv hfw c hc h d (j + 1) (by omega)
    have ht := time_ok hf i hi
    have hL := (top_small hv).2.1
    have hL0 := (top_small hv).1
    have e0 : (rd_T30 g ((i : Nat) : Int)).f0 = tmOf g i := rfl
    have he : ([] ++ g).set (i : Int).toNat (⟨wrap64 ((rd_T30 ([] ++ g) i).f0 + 1), (rd_T30 ([] ++ g) i).f1, (rd_T30 ([] ++ g) i).f2, (rd_T30 ([] ++ g) i).f3⟩ : S30) = later g i (tmOf g i + 1) := by
      rw [List.nil_append, Int.toNat_natCast, e0, w1k _ (by omega) (by omega)]
      rfl
    have hh := (few_held (later_few hfw i hi (tmOf g i + 1)) (by omega) (by omega)).1
    have cl : (j : Int) < ((ints c).length : Int) := by rw [ints_len]; omega
    refine Evn.step (Evn.step hN fun k => ?_) (f := fun k => laws_FnCriticalChainLonger.l0 k g (ints c) (longestTime g) (j : Int)) (g := fun k => laws_FnCriticalChainLonger.j2 k g (ints c) (longestTime g) (j : Int) false) fun k => ?_
    · simp only [laws_FnCriticalChainLonger.j2]
      rw [if_neg Bool.false_ne_true, Option.bind_some, if_pos (by simp; omega), Option.bind_some, if_pos (by omega), if_pos cl, er, if_pos (by omega), if_pos (by simp; omega), Option.bind_some, he, implValid_is hh, Option.bind_some, implLong_is hh, Option.bind_some, wrap_up j (by omega)]
      by_cases hv' : valid (later g i (tmOf g i + 1)) = true
      · rw [if_pos hv']
        have hl := longer_g hv i hi 1 (by omega) hv' (heads_of hv)
        rw [w1k (longestTime g + 1) (by omega) (by omega), if_pos (by omega)]
      · rw [if_neg hv']
    · simp only [laws_FnCriticalChainLonger.l0]
      rw [if_pos cl, if_pos (by omega), er, if_neg (by omega), decide_eq_false (by omega)]
theorem FnCriticalChainLonger : laws_FnCriticalChainLonger.Pure := by
  intro l0 _ _ hw
  refine Evn.at_ (f := fun k => laws_FnCriticalChainLonger.f k l0) ?_
  unfold laws_FnCriticalChainLonger.f
  by_cases hl : (l0.length : Int) > 1048576
  · simp only [if_pos hl]
    exact Evn.const rfl
  simp only [if_neg hl]
  obtain ⟨g, hg, hfw⟩ := draw_y l0 hw
  obtain ⟨h1, h2, h3⟩ := few_held hfw (by omega) (by omega)
  refine Evn.bind hg (Evn.bind (Evn.const (implChain_is h1)) (Evn.bind (specChain_is g h2 h3) (Evn.bind (equalInts_same _ (chainOf_held g)) ?_)))
  simp only [if_true]
  have hend : Evn (fun k => laws_FnCriticalChainLonger.j0 k g (chainOf g) true) true := by
    refine Evn.step (g := fun k => (spec_CriticalChain.f k g).bind fun a => (laws_equalInts.f k (chainOf g) a).bind fun b => some b) (Evn.bind (specChain_is g h2 h3) (Evn.bind (equalInts_same _ (chainOf_held g)) (Evn.const rfl))) fun k => ?_
    simp only [laws_FnCriticalChainLonger.j0]
    rw [if_pos trivial]
  by_cases hz : ((chainOf g).length : Int) = 0
  · rw [show (((chainOf g).length : Int) == 0) = true by simpa using hz]
    exact hend
  rw [show (((chainOf g).length : Int) == 0) = false by simpa using hz]
  have hv : valid g = true := Classical.byContradiction fun hv => hz (by rw [chainOf_no hv]; rfl)
  have hgl : 0 < g.length := Nat.pos_of_ne_zero fun h0 => hz (by
    have : g = [] := List.eq_nil_of_length_eq_zero h0
    subst this
    decide)
  obtain ⟨a, c, ec, ha, hh, ht, hc⟩ := chainOf_is hv hgl
  refine Evn.step (g := fun k => (impl_LongestTime.f g).bind fun L => laws_FnCriticalChainLonger.l0 k g (chainOf g) L ((0 : Nat) : Int)) (Evn.bind (Evn.const (implLong_is h1)) ?_) fun k => ?_
  · rw [ec]
    exact l0_is hv hfw c hc.few hc.all c.length 0 (by omega)
  · simp only [laws_FnCriticalChainLonger.j0]
    rw [if_neg (by simp)]
    rfl
end Go.Proofs.YtgpnododcbkflaaDoor.Pure
