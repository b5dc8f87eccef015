/- The pure statement of FnTailTimes: tails are longer before. -/
import Derived.Test.YtokikapljmakbaaDoorPC
import Derived.Test.YtokikapljmakbaaDoorPureTailTV
import Derived.Test.YtokikapljmakbaaDoorQx33
import Derived.Test.YtokikapljmakbaaDoorQx44
namespace Go.Proofs.YtokikapljmakbaaDoor.Pure
open Go.RowKit Go.Proofs.YtokikapljmakbaaDoor.Q Go.Proofs.YtokikapljmakbaaDoor.H Go.Proofs.YtokikapljmakbaaDoorW.PrintWords Go.Proofs.YtokikapljmakbaaDoorW.PrintMore
set_option linter.unusedVariables false

theorem draw_y (l0 : List Int) (hw : ∀ x ∈ l0, (Lit.int .u8 x).wf = true) : ∃ g, Evn (fun k => spec_DrawTailTimes.f k l0) g ∧ Few 16 10 g := by
  obtain ⟨b, e, hb⟩ := reader_y l0 hw
  unfold spec_DrawTailTimes.f
  rw [e]
  simp only [Option.bind_some]
  obtain ⟨g, q, hg, _, _, hf⟩ := anyGraph_y hb (p := 0) (Int.le_refl _) (by omega)
  exact ⟨g, Evn.bind hg (Evn.const rfl), hf⟩
theorem l1_is {g : List S29} (hv : valid g = true) (i : Nat) (hi : i < g.length) (hN : Evn (fun k => laws_FnTailTimes.l0 k g (tailTimes g) ((i + 1 : Nat) : Int)) true) : ∀ (d j : Nat), j + d = (nbOf g i).length → Evn (fun k => laws_FnTailTimes.l1 k g (tailTimes g) (i : Int) (j : Int)) true
  | 0, j, h => by
    have hf := valid_fine hv
    have h8 := fine_len hf
    refine Evn.step hN fun k => ?_
    simp only [laws_FnTailTimes.l1]
    rw [if_pos (by omega), if_pos (by omega), f1_is hf i hi, if_neg (by rw [ints_len]; omega), wrap_up i (by omega)]
  | d + 1, j, h => by
    have hf := valid_fine hv
    have h8 := fine_len hf
    have hlen := tailTimes_len hv
    have hj : j < (nbOf g i).length := by omega
    have hn8 := nb_len g i
    have hk := nb_lt hf i hi _ (List.getElem_mem hj)
    have ek : rd (ints (nbOf g i)) (j : Int) = (((nbOf g i)[j] : Nat) : Int) := rd_ints _ j hj
    have hge := (tails_of hv).ge _ hk i hi (List.getElem_mem hj)
    have ts := (top_small hv).2.2
    have t1 := ts _ hi
    have ht := time_ok hf _ hk
    have hti := time_ok hf _ hi
    have ho := (tails_of hv).own i hi
    obtain ⟨x, hx⟩ : ∃ x, (nbOf g i)[j] = x := ⟨_, rfl⟩
    rw [hx] at ek hge ht hk
    have ew : wrap64 (tmOf g x + atI (tailTimes g) i) = tmOf g x + atI (tailTimes g) i := w1k _ (by omega) (by omega)
    refine Evn.step (l1_is hv i hi hN d (j + 1) (by omega)) fun k => ?_
    simp only [laws_FnTailTimes.l1]
    rw [if_pos (show (0 : Int) ≤ (i : Int) by omega), if_pos (show (i : Int) < (g.length : Int) by omega), f1_is hf i hi, if_pos (by rw [ints_len]; omega), if_pos (by omega), ek]
    rw [rd_atI _ i (by omega), rd_atI _ x (by omega), wrap_up j (by omega)]
    have e0 : (rd_T29 g ((x : Nat) : Int)).f0 = tmOf g x := rfl
    rw [e0, ew, if_pos (by omega), if_pos (by omega), if_pos (by omega), if_pos (by omega), if_neg (by omega)]
theorem FnTailTimes : laws_FnTailTimes.Pure := by
  intro l0 _ _ hw
  refine Evn.at_ (f := fun k => laws_FnTailTimes.f k l0) ?_
  unfold laws_FnTailTimes.f
  by_cases hl : (l0.length : Int) > 1048576
  · simp only [if_pos hl]
    exact Evn.const rfl
  simp only [if_neg hl]
  obtain ⟨g, hg, hfw⟩ := draw_y l0 hw
  obtain ⟨h1, h2, h3⟩ := few_held hfw (by omega) (by omega)
  refine Evn.bind hg (Evn.bind (Evn.const (implTail_is h1)) (Evn.bind (specTailTimes_is g h2 h3) (Evn.bind (equalInts_same _ (tailTimes_held g)) ?_)))
  simp only [if_true]
  have hend : Evn (fun k => laws_FnTailTimes.j0 k g (tailTimes g) true) true := by
    refine Evn.step (g := fun k => (spec_TailTimes.f k g).bind fun a => (laws_equalInts.f k (tailTimes g) a).bind fun b => some b) (Evn.bind (specTailTimes_is g h2 h3) (Evn.bind (equalInts_same _ (tailTimes_held g)) (Evn.const rfl))) fun k => ?_
    simp only [laws_FnTailTimes.j0]
    rw [if_pos trivial]
  by_cases hfl : ((tailTimes g).length : Int) = (g.length : Int)
  · rw [show (((tailTimes g).length : Int) != (g.length : Int)) = false by simpa using hfl]
    have hlen : g.length ≤ 16 := hfw.1
    refine Evn.step (g := fun k => laws_FnTailTimes.l0 k g (tailTimes g) ((0 : Nat) : Int)) ?_ fun k => ?_
    · refine goes_all g.length (fun k i => laws_FnTailTimes.l0 k g (tailTimes g) i) true 0 ?_ ?_ g.length 0 (Nat.le_refl _) (by omega)
      · refine Evn.step (Evn.const rfl) fun k => ?_
        simp only [laws_FnTailTimes.l0]
        rw [if_neg (by omega)]
      · intro i _ hi hN
        have hv : valid g = true := Classical.byContradiction fun hv => by
          rw [tailTimes_no hv] at hfl
          simp at hfl
          omega
        have ho := (tails_of hv).own i hi
        have e0 : (rd_T29 g ((i : Nat) : Int)).f0 = tmOf g i := rfl
        refine Evn.step (l1_is hv i hi hN (nbOf g i).length 0 (by omega)) fun k => ?_
        simp only [laws_FnTailTimes.l0]
        rw [if_pos (by omega), if_pos (by omega), if_pos (by omega), rd_atI _ i (by omega), e0, if_neg (by omega)]
        rfl
    · simp only [laws_FnTailTimes.j0]
      rw [if_neg (by simp)]
      rfl
  · rw [show (((tailTimes g).length : Int) != (g.length : Int)) = true by simpa using hfl]
    exact hend
end Go.Proofs.YtokikapljmakbaaDoor.Pure
