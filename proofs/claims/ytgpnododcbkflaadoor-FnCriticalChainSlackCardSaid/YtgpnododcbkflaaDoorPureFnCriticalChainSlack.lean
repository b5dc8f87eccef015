/- The pure statement of FnCriticalChainSlack: critical tasks cannot wait. -/
import Derived.Test.YtgpnododcbkflaaDoorPC
import Derived.Test.YtgpnododcbkflaaDoorPureChainL
import Derived.Test.YtgpnododcbkflaaDoorPureSlackI
import Derived.Test.YtgpnododcbkflaaDoorQx28
import Derived.Test.YtgpnododcbkflaaDoorQx32
namespace Go.Proofs.YtgpnododcbkflaaDoor.Pure
open Go.RowKit Go.Proofs.YtgpnododcbkflaaDoor.Q Go.Proofs.YtgpnododcbkflaaDoor.H Go.Proofs.YtgpnododcbkflaaDoorW.PrintWords Go.Proofs.YtgpnododcbkflaaDoorW.PrintMore
set_option linter.unusedVariables false

theorem draw_y (l0 : List Int) (hw : ∀ x ∈ l0, (Lit.int .u8 x).wf = true) : ∃ g, Evn (fun k => spec_DrawCriticalChain.f k l0) g ∧ Few 16 10 g := by
  obtain ⟨b, e, hb⟩ := reader_y l0 hw
  unfold spec_DrawCriticalChain.f
  rw [e]
  simp only [Option.bind_some]
  obtain ⟨g, q, hg, _, _, hf⟩ := anyGraph_y hb (p := 0) (Int.le_refl _) (by omega)
  exact ⟨g, Evn.bind hg (Evn.const rfl), hf⟩
theorem l0_is {g : List S30} (hv : valid g = true) (c : List Nat) (hc : c.length ≤ 1000) (h : ∀ i, i ∈ c → i < g.length ∧ atI (slackTimes g) i = 0) : ∀ (d j : Nat), j + d = c.length → Evn (fun k => laws_FnCriticalChainSlack.l0 k (ints c) (slackTimes g) (j : Int)) true
  | 0, j, hj => by
    refine Evn.step (Evn.const rfl) fun k => ?_
    simp only [laws_FnCriticalChainSlack.l0]
    rw [if_neg (by rw [ints_len]; omega)]
  | d + 1, j, hj => by
    have hjl : j < c.length := by omega
    have ls := slackTimes_len hv
    obtain ⟨y, e⟩ : ∃ y, c[j] = y := ⟨_, rfl⟩
    obtain ⟨h1, h2⟩ := h y (by rw [← e]; exact List.getElem_mem hjl)
    refine Evn.step (l0_is hv c hc h d (j + 1) (by omega)) fun k => ?_
    simp only [laws_FnCriticalChainSlack.l0]
    rw [rd_ints _ j hjl, e, if_pos (by rw [ints_len]; omega), if_pos (by omega), if_neg (by omega), if_neg (by omega), if_pos (by omega), if_pos (by omega), rd_atI _ y (by omega), if_pos h2, wrap_up j (by omega)]
theorem FnCriticalChainSlack : laws_FnCriticalChainSlack.Pure := by
  intro l0 _ _ hw
  refine Evn.at_ (f := fun k => laws_FnCriticalChainSlack.f k l0) ?_
  unfold laws_FnCriticalChainSlack.f
  by_cases hl : (l0.length : Int) > 1048576
  · simp only [if_pos hl]
    exact Evn.const rfl
  simp only [if_neg hl]
  obtain ⟨g, hg, hfw⟩ := draw_y l0 hw
  obtain ⟨h1, h2, h3⟩ := few_held hfw (by omega) (by omega)
  refine Evn.bind hg (Evn.bind (Evn.const (implChain_is h1)) (Evn.bind (specChain_is g h2 h3) (Evn.bind (equalInts_same _ (chainOf_held g)) ?_)))
  simp only [if_true]
  have hend : Evn (fun k => laws_FnCriticalChainSlack.j0 k g (chainOf g) true) true := by
    refine Evn.step (g := fun k => (spec_CriticalChain.f k g).bind fun a => (laws_equalInts.f k (chainOf g) a).bind fun b => some b) (Evn.bind (specChain_is g h2 h3) (Evn.bind (equalInts_same _ (chainOf_held g)) (Evn.const rfl))) fun k => ?_
    simp only [laws_FnCriticalChainSlack.j0]
    rw [if_pos trivial]
  by_cases hz : ((chainOf g).length : Int) = 0
  · rw [show (((chainOf g).length : Int) == 0) = true by simpa using hz]
    exact hend
  rw [show (((chainOf g).length : Int) == 0) = false by simpa using hz]
  have hv : valid g = true := Classical.byContradiction fun hv => hz (by rw [chainOf_no hv]; rfl)
  have hgl : 0 < g.length := Nat.pos_of_ne_zero fun h0 => hz (by
    have : g = [] := List.eq_nil_of_length_eq_zero h0
    subst this
    decide)
  obtain ⟨a, c, ec, ha, hh, ht, hc⟩ := chainOf_is hv hgl
  refine Evn.step (g := fun k => (impl_SlackTimes.f g).bind fun s => laws_FnCriticalChainSlack.l0 k (chainOf g) s ((0 : Nat) : Int)) (Evn.bind (Evn.const (implSlack_is h1)) ?_) fun k => ?_
  · rw [ec]
    refine l0_is hv c hc.few (fun i hi => ?_) c.length 0 (by omega)
    obtain ⟨hi2, e⟩ := hc.all i hi
    exact ⟨hi2, by rw [slack_at hv i hi2]; omega⟩
  · simp only [laws_FnCriticalChainSlack.j0]
    rw [if_neg (by simp)]
    rfl
end Go.Proofs.YtgpnododcbkflaaDoor.Pure
