/- The pure statement of FnHeadTimes: tasks wait for their needs. -/
import Derived.Test.YtgpnododcbkflaaDoorPC
import Derived.Test.YtgpnododcbkflaaDoorPureHeadV
import Derived.Test.YtgpnododcbkflaaDoorQx31
import Derived.Test.YtgpnododcbkflaaDoorQx33
namespace Go.Proofs.YtgpnododcbkflaaDoor.Pure
open Go.RowKit Go.Proofs.YtgpnododcbkflaaDoor.Q Go.Proofs.YtgpnododcbkflaaDoor.H Go.Proofs.YtgpnododcbkflaaDoorW.PrintWords Go.Proofs.YtgpnododcbkflaaDoorW.PrintMore
set_option linter.unusedVariables false

theorem draw_y (l0 : List Int) (hw : ∀ x ∈ l0, (Lit.int .u8 x).wf = true) : ∃ g, Evn (fun k => spec_DrawHeadTimes.f k l0) g ∧ Few 16 10 g := by
  obtain ⟨b, e, hb⟩ := reader_y l0 hw
  unfold spec_DrawHeadTimes.f
  rw [e]
  simp only [Option.bind_some]
  obtain ⟨g, q, hg, _, _, hf⟩ := anyGraph_y hb (p := 0) (Int.le_refl _) (by omega)
  exact ⟨g, Evn.bind hg (Evn.const rfl), hf⟩
theorem l1_is {g : List S30} (hv : valid g = true) (i : Nat) (hi : i < g.length) (hN : Evn (fun k => laws_FnHeadTimes.l0 k g (headTimes g) ((i + 1 : Nat) : Int)) true) : ∀ (d j : Nat) (b : Bool), j + d = (nbOf g i).length → (b = true ∨ ∃ m, ∃ hm : m < (nbOf g i).length, j ≤ m ∧ atI (headTimes g) i = atI (headTimes g) (nbOf g i)[m] + tmOf g (nbOf g i)[m]) →
    Evn (fun k => laws_FnHeadTimes.l1 k g (headTimes g) (i : Int) b (j : Int)) true
  | 0, j, b, h, hb => by
    have hf := valid_fine hv
    have h8 := fine_len hf
    have hbt : b = true := by
      rcases hb with hb | ⟨m, hm, h1, _⟩
      · exact hb
      · omega
    subst hbt
    refine Evn.step hN fun k => ?_
    simp only [laws_FnHeadTimes.l1]
    rw [if_pos (by omega), if_pos (by omega), f1_is hf i hi, if_neg (by rw [ints_len]; omega), if_pos trivial, wrap_up i (by omega)]
  | d + 1, j, b, h, hb => by
    have hf := valid_fine hv
    have h8 := fine_len hf
    have hh := heads_of hv
    have hlen := headTimes_lenv hv
    have hj : j < (nbOf g i).length := by omega
    have hn8 := nb_len g i
    have hk := nb_lt hf i hi _ (List.getElem_mem hj)
    have ek : rd (ints (nbOf g i)) (j : Int) = (((nbOf g i)[j] : Nat) : Int) := rd_ints _ j hj
    have hge := hh.ge i hi _ (List.getElem_mem hj)
    have hs := (top_bound hv).1
    have b1 := hs _ hk
    have ht := time_ok hf _ hk
    obtain ⟨x, hx⟩ : ∃ x, (nbOf g i)[j] = x := ⟨_, rfl⟩
    rw [hx] at ek hge b1 ht hk
    have ew : wrap64 (atI (headTimes g) x + tmOf g x) = atI (headTimes g) x + tmOf g x := w1k _ (by have := hh.pos x hk; omega) (by omega)
    refine Evn.step (l1_is hv i hi hN d (j + 1) (b || (atI (headTimes g) x + tmOf g x == atI (headTimes g) i)) (by omega) ?_) fun k => ?_
    · rcases hb with hb | ⟨m, hm, h1, h2⟩
      · left
        rw [hb]
        rfl
      · by_cases e : m = j
        · left
          subst e
          rw [hx] at h2
          rw [h2]
          simp
        · exact .inr ⟨m, hm, by omega, h2⟩
    · simp only [laws_FnHeadTimes.l1]
      rw [if_pos (show (0 : Int) ≤ (i : Int) by omega), if_pos (show (i : Int) < (g.length : Int) by omega), f1_is hf i hi, if_pos (by rw [ints_len]; omega), if_pos (by omega), ek]
      have hi2 : ((i : Nat) : Int) < ((headTimes g).length : Int) := by omega
      have hk2 : ((x : Nat) : Int) < ((headTimes g).length : Int) := by omega
      have hk0 : (0 : Int) ≤ ((x : Nat) : Int) := by omega
      have hk3 : ((x : Nat) : Int) < (g.length : Int) := by omega
      rw [rd_atI _ i (by omega), rd_atI _ x (by omega), wrap_up j (by omega)]
      have e0 : (rd_T30 g ((x : Nat) : Int)).f0 = tmOf g x := rfl
      rw [e0, ew]
      simp only [if_pos hi2, if_pos hk2, if_pos hk0, if_pos hk3, if_neg (show ¬ (atI (headTimes g) x + tmOf g x > atI (headTimes g) i) by omega)]
      cases b
      · simp
      · simp
theorem FnHeadTimes : laws_FnHeadTimes.Pure := by
  intro l0 _ _ hw
  refine Evn.at_ (f := fun k => laws_FnHeadTimes.f k l0) ?_
  unfold laws_FnHeadTimes.f
  by_cases hl : (l0.length : Int) > 1048576
  · simp only [if_pos hl]
    exact Evn.const rfl
  simp only [if_neg hl]
  obtain ⟨g, hg, hfw⟩ := draw_y l0 hw
  obtain ⟨h1, h2, h3⟩ := few_held hfw (by omega) (by omega)
  refine Evn.bind hg (Evn.bind (Evn.const (implHead_is h1)) (Evn.bind (specHeadTimes_is g h2 h3) (Evn.bind (equalInts_same _ (headTimes_held g)) ?_)))
  simp only [if_true]
  have hend : Evn (fun k => laws_FnHeadTimes.j0 k g (headTimes g) true) true := by
    refine Evn.step (g := fun k => (spec_HeadTimes.f k g).bind fun a => (laws_equalInts.f k (headTimes g) a).bind fun b => some b) (Evn.bind (specHeadTimes_is g h2 h3) (Evn.bind (equalInts_same _ (headTimes_held g)) (Evn.const rfl))) fun k => ?_
    simp only [laws_FnHeadTimes.j0]
    rw [if_pos trivial]
  by_cases hfl : ((headTimes g).length : Int) = (g.length : Int)
  · rw [show (((headTimes g).length : Int) != (g.length : Int)) = false by simpa using hfl]
    refine Evn.step (g := fun k => laws_FnHeadTimes.l0 k g (headTimes g) ((0 : Nat) : Int)) ?_ fun k => ?_
    · have hlen : g.length ≤ 16 := hfw.1
      refine goes_all g.length (fun k i => laws_FnHeadTimes.l0 k g (headTimes g) i) true 0 ?_ ?_ g.length 0 (Nat.le_refl _) (by omega)
      · refine Evn.step (Evn.const rfl) fun k => ?_
        simp only [laws_FnHeadTimes.l0]
        rw [if_neg (by omega)]
      · intro i _ hi hN
        have hv : valid g = true := Classical.byContradiction fun hv => by
          rw [headTimes_no hv] at hfl
          simp at hfl
          omega
        have hf := valid_fine hv
        have hh := heads_of hv
        have d := valid_dag hv
        have hl1 := l1_is hv i hi hN (nbOf g i).length 0
        by_cases hz : (((rd_T30 g (i : Int)).f1).length : Int) = 0
        · have hz2 : nbOf g i = [] := by
            rw [f1_is hf i hi, ints_len] at hz
            exact List.eq_nil_of_length_eq_zero (by omega)
          have h0 := (head_none d hh hi).2 hz2
          refine Evn.step (g := fun k => laws_FnHeadTimes.j2 k g (headTimes g) (i : Int) true) (Evn.step (hl1 true (by omega) (.inl rfl)) fun k => rfl) fun k => ?_
          simp only [laws_FnHeadTimes.l0]
          rw [if_pos (by omega), if_pos (by omega), if_pos hz, if_pos (by omega), rd_atI _ i (by omega), h0]
          rfl
        · refine Evn.step (g := fun k => laws_FnHeadTimes.j2 k g (headTimes g) (i : Int) false) (Evn.step (hl1 false (by omega) (.inr ?_)) fun k => rfl) fun k => ?_
          · have hne : nbOf g i ≠ [] := fun e => by
              rw [f1_is hf i hi, ints_len, e] at hz
              simp at hz
            rcases hh.att i hi with h0 | ⟨k, hk, h0⟩
            · exact absurd ((head_none d hh hi).1 h0) hne
            · obtain ⟨m, hm, e⟩ := List.getElem_of_mem hk
              exact ⟨m, hm, Nat.zero_le _, by rw [e]; exact h0⟩
          · simp only [laws_FnHeadTimes.l0]
            rw [if_pos (by omega), if_pos (by omega), if_neg hz]
    · simp only [laws_FnHeadTimes.j0]
      rw [if_neg (by simp)]
      rfl
  · rw [show (((headTimes g).length : Int) != (g.length : Int)) = true by simpa using hfl]
    exact hend
end Go.Proofs.YtgpnododcbkflaaDoor.Pure
