/- The pure statement of FnCriticalChain: critical chains are longest. -/
import Derived.Test.YtgpnododcbkflaaDoorPC
import Derived.Test.YtgpnododcbkflaaDoorPureChainL
import Derived.Test.YtgpnododcbkflaaDoorPureLongI
import Derived.Test.YtgpnododcbkflaaDoorPureIsIn
import Derived.Test.YtgpnododcbkflaaDoorQx28
import Derived.Test.YtgpnododcbkflaaDoorQx41
namespace Go.Proofs.YtgpnododcbkflaaDoor.Pure
open Go.RowKit Go.Proofs.YtgpnododcbkflaaDoor.Q Go.Proofs.YtgpnododcbkflaaDoor.H Go.Proofs.YtgpnododcbkflaaDoorW.PrintWords Go.Proofs.YtgpnododcbkflaaDoorW.PrintMore
set_option linter.unusedVariables false

theorem draw_y (l0 : List Int) (hw : ∀ x ∈ l0, (Lit.int .u8 x).wf = true) : ∃ g, Evn (fun k => spec_DrawCriticalChain.f k l0) g ∧ Few 16 10 g := by
  obtain ⟨b, e, hb⟩ := reader_y l0 hw
  unfold spec_DrawCriticalChain.f
  rw [e]
  simp only [Option.bind_some]
  obtain ⟨g, q, hg, _, _, hf⟩ := anyGraph_y hb (p := 0) (Int.le_refl _) (by omega)
  exact ⟨g, Evn.bind hg (Evn.const rfl), hf⟩
theorem l0_is {g : List S30} (hv : valid g = true) (h1 : held g = true) (a : Nat) (ha : a < g.length) (hh : atI (headTimes g) a = 0) (r : List Nat) (hr : Linked (nbOf g) a r) (hc : (a :: r).length ≤ 1000) (hs : ((a :: r).map (tmOf g)).sum = longestTime g) (h : ∀ i, i ∈ a :: r → i < g.length) : ∀ (d j : Nat) (x : Int), j + d = (a :: r).length → x + (((a :: r).drop j).map (tmOf g)).sum = longestTime g → 0 ≤ x → x ≤ 20 * (j : Int) →
    Evn (fun k => laws_FnCriticalChain.l0 k g (ints (a :: r)) x (j : Int)) true
  | 0, j, x, hj, hx, _, _ => by
    rw [List.drop_of_length_le (by omega)] at hx
    have hx2 : x = longestTime g := by simpa using hx
    have hn := (head_none (valid_dag hv) (heads_of hv) ha).1 hh
    have e0 : rd (ints (a :: r)) 0 = (a : Int) := rfl
    refine Evn.step (g := fun k => (impl_LongestTime.f g).bind fun L => if x = L then (if 0 < ((ints (a :: r)).length : Int) then (if 0 ≤ (a : Int) then (if (a : Int) < (g.length : Int) then some ((((rd_T30 g (a : Int)).f1).length : Int) == 0) else none) else none) else none) else some false) ?_ fun k => ?_
    · refine Evn.bind (Evn.const (implLong_is h1)) ?_
      rw [if_pos hx2, if_pos (by rw [ints_len, List.length_cons]; omega), if_pos (by omega), if_pos (by omega), f1_is (valid_fine hv) a ha, hn]
      exact Evn.const rfl
    · simp only [laws_FnCriticalChain.l0]
      rw [if_neg (by rw [ints_len]; omega), e0]
  | d + 1, j, x, hj, hx, x0, x1 => by
    have h8 := fine_len (valid_fine hv)
    have hjl : j < (a :: r).length := by omega
    rw [List.drop_eq_getElem_cons hjl, List.map_cons, List.sum_cons] at hx
    obtain ⟨y, e⟩ : ∃ y, (a :: r)[j] = y := ⟨_, rfl⟩
    have hy := h y (by rw [← e]; exact List.getElem_mem hjl)
    have hy2 := time_ok (valid_fine hv) y hy
    rw [e] at hx
    have hN := l0_is hv h1 a ha hh r hr hc hs h d (j + 1) (x + tmOf g y) (by omega) (by omega) (by omega) (by omega)
    have et : (rd_T30 g (y : Int)).f0 = tmOf g y := rfl
    have ew : wrap64 (x + tmOf g y) = x + tmOf g y := w1k _ (by omega) (by omega)
    have c0 : (j : Int) < ((ints (a :: r)).length : Int) := by rw [ints_len]; omega
    have c1 : (0 : Int) ≤ (j : Int) := by omega
    have c2 : ¬ (y : Int) < 0 := by omega
    have c3 : ¬ (y : Int) ≥ (g.length : Int) := by omega
    have c5 : (0 : Int) ≤ (y : Int) := by omega
    have c6 : (y : Int) < (g.length : Int) := by omega
    by_cases hz : j = 0
    · subst hz
      refine Evn.step hN fun k => ?_
      simp only [laws_FnCriticalChain.l0]
      rw [rd_ints _ 0 hjl, e]
      simp only [if_pos c0, if_pos c1, if_neg c2, if_neg c3, if_neg (show ¬ ((0 : Nat) : Int) > 0 by omega), if_pos c5, if_pos c6, et, ew, wrap_up 0 (by omega)]
    · obtain ⟨m, rfl⟩ : ∃ m, j = m + 1 := ⟨j - 1, by omega⟩
      have hm : m < r.length := by rw [List.length_cons] at hjl; omega
      have hl := linked_at r a hr m hm
      have ey : r[m] = y := e
      rw [ey] at hl
      have em : wrap64 (((m + 1 : Nat) : Int) - 1) = (m : Int) := by rw [w64 _ (by omega) (by omega)]; omega
      have hml : m < (a :: r).length := by omega
      refine Evn.step (g := fun k => (laws_isIn.f k (ints (nbOf g y)) (((a :: r)[m] : Nat) : Int)).bind fun b => if b = true then laws_FnCriticalChain.l0 k g (ints (a :: r)) (x + tmOf g y) ((m + 1 + 1 : Nat) : Int) else some false) ?_ fun k => ?_
      · refine Evn.bind (lawIn_is _ (by unfold Held; rw [ints_len]; have := nb_len g y; omega) _) ?_
        rw [decide_eq_true ((mem_ints _ _).2 hl)]
        simp only [if_true]
        exact hN
      · simp only [laws_FnCriticalChain.l0]
        rw [rd_ints _ (m + 1) hjl, e, em, rd_ints _ m hml, f1_is (valid_fine hv) y hy]
        simp only [if_pos c0, if_pos c1, if_neg c2, if_neg c3, if_pos (show ((m + 1 : Nat) : Int) > 0 by omega), if_pos c5, if_pos c6, if_pos (show (0 : Int) ≤ (m : Int) by omega), if_pos (show (m : Int) < ((ints (a :: r)).length : Int) by rw [ints_len]; omega), et, ew, wrap_up (m + 1) (by omega)]
theorem FnCriticalChain : laws_FnCriticalChain.Pure := by
  intro l0 _ _ hw
  refine Evn.at_ (f := fun k => laws_FnCriticalChain.f k l0) ?_
  unfold laws_FnCriticalChain.f
  by_cases hl : (l0.length : Int) > 1048576
  · simp only [if_pos hl]
    exact Evn.const rfl
  simp only [if_neg hl]
  obtain ⟨g, hg, hfw⟩ := draw_y l0 hw
  obtain ⟨h1, h2, h3⟩ := few_held hfw (by omega) (by omega)
  refine Evn.bind hg (Evn.bind (Evn.const (implChain_is h1)) (Evn.bind (specChain_is g h2 h3) (Evn.bind (equalInts_same _ (chainOf_held g)) ?_)))
  simp only [if_true]
  have hend : Evn (fun k => laws_FnCriticalChain.j0 k g (chainOf g) true) true := by
    refine Evn.step (g := fun k => (spec_CriticalChain.f k g).bind fun a => (laws_equalInts.f k (chainOf g) a).bind fun b => some b) (Evn.bind (specChain_is g h2 h3) (Evn.bind (equalInts_same _ (chainOf_held g)) (Evn.const rfl))) fun k => ?_
    simp only [laws_FnCriticalChain.j0]
    rw [if_pos trivial]
  by_cases hz : ((chainOf g).length : Int) = 0
  · rw [show (((chainOf g).length : Int) == 0) = true by simpa using hz]
    exact hend
  rw [show (((chainOf g).length : Int) == 0) = false by simpa using hz]
  have hv : valid g = true := Classical.byContradiction fun hv => hz (by rw [chainOf_no hv]; rfl)
  have hgl : 0 < g.length := Nat.pos_of_ne_zero fun h0 => hz (by
    have : g = [] := List.eq_nil_of_length_eq_zero h0
    subst this
    decide)
  obtain ⟨a, c, ec, ha, hh, ht, hc⟩ := chainOf_is hv hgl
  obtain ⟨⟨r, er, hr⟩, hs, hall, hfew⟩ := hc
  subst er
  rw [ec]
  refine Evn.step (g := fun k => laws_FnCriticalChain.l0 k g (ints (a :: r)) 0 ((0 : Nat) : Int)) (l0_is hv h1 a ha hh r hr hfew (hs.trans ht) (fun i hi => (hall i hi).1) (a :: r).length 0 0 (by omega) ?_ (Int.le_refl _) (by omega)) fun k => ?_
  · rw [List.drop_zero, hs, ht]
    omega
  · simp only [laws_FnCriticalChain.j0]
    rw [if_neg (by simp)]
    rfl
end Go.Proofs.YtgpnododcbkflaaDoor.Pure
