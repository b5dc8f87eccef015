/- The pure statement of FnLeastTimeFree: a graph without needs has no larger least time. -/
import Derived.Test.YtokikapljmakbaaDoorPureFree
import Derived.Test.YtokikapljmakbaaDoorPureLeastM
import Derived.Test.YtokikapljmakbaaDoorQx32
import Derived.Test.YtokikapljmakbaaDoorQx44
namespace Go.Proofs.YtokikapljmakbaaDoor.Pure
open Go.RowKit Go.Proofs.YtokikapljmakbaaDoor.Q Go.Proofs.YtokikapljmakbaaDoor.H Go.Proofs.YtokikapljmakbaaDoorW.PrintWords Go.Proofs.YtokikapljmakbaaDoorW.PrintMore
set_option linter.unusedVariables false

theorem room_y {b : List Int} (hb : Rdr b) {p : Int} (h0 : 0 ≤ p) (h1 : p ≤ 1000000) : Yld (fun k => spec_someRoom.f k b p) p 6 (fun _ => True) := by
  unfold spec_someRoom.f
  refine Yld.bind (one_y hb h0 (by omega) [4, 5, 8, 4] (by simp)) (c2 := 5) (fun x q q0 q1 _ => ?_) (by omega)
  refine Yld.bind (one_y hb (by omega) (by omega) [4, 6, 8] (by simp)) (c2 := 4) (fun y q2 _ _ _ => ?_) (by omega)
  refine Yld.bind (one_y hb (by omega) (by omega) [4, 4, 7] (by simp)) (c2 := 3) (fun z q3 _ _ _ => ?_) (by omega)
  obtain ⟨r, q4, hr, a0, a1, _⟩ := spoil_y hb (p := q3) (by omega) (by omega) [x, y, z] (by simp) 9
  exact ⟨r, q4, Evn.bind hr (Evn.const rfl), a0, a1, trivial⟩
theorem draw_y (l0 : List Int) (hw : ∀ x ∈ l0, (Lit.int .u8 x).wf = true) : ∃ g room w, Evn (fun k => spec_DrawLeastTime.f k l0) (g, room, w) ∧ Few 16 10 g := by
  obtain ⟨b, e, hb⟩ := reader_y l0 hw
  unfold spec_DrawLeastTime.f spec_DrawPlanStarts.f spec_someWorkers.f
  rw [e]
  simp only [Option.bind_some]
  obtain ⟨g, q, hg, q0, q1, hf⟩ := anyGraph_y hb (p := 0) (Int.le_refl _) (by omega)
  obtain ⟨y, q2, hy, y0, y1, _⟩ := room_y hb (p := q) (by omega) (by omega)
  obtain ⟨z, q3, hz, _⟩ := one_y hb (p := q2) (by omega) (by omega) [1, 2, 3, 4, 2, 0, 5] (by simp)
  exact ⟨g, y, z, Evn.bind (Evn.bind hg (Evn.bind hy (Evn.bind (Evn.bind hz (Evn.const rfl)) (Evn.const rfl)))) (Evn.const rfl), hf⟩
theorem bare_at (g : List S29) (i : Nat) (hi : i < g.length) : rd_T29 (g.map bare) (i : Int) = bare (rd_T29 g (i : Int)) := by
  rw [rd_task _ i (by rw [List.length_map]; exact hi), rd_task _ i hi, List.getElem_map]
theorem bare_tm (g : List S29) (i : Nat) (hi : i < g.length) : tmOf (g.map bare) i = tmOf g i := by
  unfold tmOf
  rw [bare_at g i hi]
  rfl
theorem bare_sum (g : List S29) : ∀ i, i ≤ g.length → sumT (g.map bare) i = sumT g i
  | 0, _ => rfl
  | i + 1, h => by rw [sumT, sumT, bare_sum g i (by omega), bare_tm g i (by omega)]
theorem bare_pool (g : List S29) (a : Int) : ∀ i, i ≤ g.length → poolSum (g.map bare) a i = poolSum g a i
  | 0, _ => rfl
  | i + 1, h => by
    rw [poolSum, poolSum, bare_pool g a i (by omega)]
    unfold wk
    rw [bare_at g i (by omega)]
    rfl
theorem bare_poolTime {g : List S29} (hv : valid g = true) (a r : Int) : poolTime (g.map bare) a r = poolTime g a r := by
  have hb := bare_valid (valid_fine hv)
  unfold poolTime
  rw [hv, hb, List.length_map, bare_pool g a _ (Nat.le_refl _)]
theorem bare_up {g : List S29} (hv : valid g = true) (room : List Int) (b : Int) : ∀ n, leastUp (g.map bare) room b n = leastUp g room b n
  | 0 => rfl
  | n + 1 => by rw [leastUp, leastUp, bare_up hv room b n, bare_poolTime hv]
theorem leastUp_mono (g : List S29) (room : List Int) {b c : Int} (h : b ≤ c) : ∀ n, leastUp g room b n ≤ leastUp g room c n
  | 0 => h
  | n + 1 => mx_le (Int.le_trans (leastUp_mono g room h n) (mx_l _ _)) (mx_r _ _)
theorem bare_nb {g : List S29} (hf : fine g = true) (i : Nat) (hi : i < g.length) (k : Nat) : ¬ k ∈ nbOf (g.map bare) i := by
  rw [nb_mem (bare_fine hf) i (by rw [List.length_map]; exact hi), bare_needs g i hi]
  exact List.not_mem_nil
theorem bare_long {g : List S29} (hv : valid g = true) : longestTime (g.map bare) ≤ longestTime g := by
  have hb := bare_valid (valid_fine hv)
  have hT := top_of hb
  have hI := tails_of hb
  have hT0 := top_of hv
  have hI0 := tails_of hv
  rcases hT.att with e | ⟨i, hi, e⟩
  · rw [e]
    exact hT0.pos
  · rw [List.length_map] at hi
    rcases hI.att i (by rw [List.length_map]; exact hi) with e2 | ⟨j, hj, hij, _⟩
    · have h1 := hI0.own i hi
      have h2 := hT0.ge i hi
      rw [bare_tm g i hi] at e2
      omega
    · rw [List.length_map] at hj
      exact absurd hij (bare_nb (valid_fine hv) j hj i)
theorem bare_place {g : List S29} {room : List Int} {w : Int} (h : placeOk g room w = true) : placeOk (g.map bare) room w = true := by
  have hb := bare_valid (valid_fine (place_parts h).1)
  unfold placeOk at h ⊢
  rw [Bool.and_eq_true, Bool.and_eq_true] at h
  rw [hb, h.1.2, h.2]
  rfl
theorem free_l0 {g : List S29} {room : List Int} {w n : Int} (h8 : g.length ≤ 8) {r : Bool} (hr : Evn (fun k => (impl_LeastTime.f (g.map bare) room w).bind fun t => if t ≥ 0 then some (decide (t ≤ n)) else some false) r) : ∀ (d i : Nat), i + d = g.length → Evn (fun k => laws_FnLeastTimeFree.l0 k g room w n ((g.take i).map bare) (i : Int)) r
  | 0, i, h => by
    obtain rfl : i = g.length := by omega
    refine Evn.step hr fun k => ?_
    simp only [laws_FnLeastTimeFree.l0]
    rw [if_neg (by omega), List.take_length]
  | d + 1, i, h => by
    have hi : i < g.length := by omega
    have e : (g.take i).map bare ++ [⟨(rd_T29 g i).f0, ([] : List Int), (rd_T29 g i).f2, (rd_T29 g i).f3⟩] = (g.take (i + 1)).map bare := by
      rw [List.take_succ_eq_append_getElem hi, List.map_append, rd_task g i hi]
      rfl
    refine Evn.step (free_l0 h8 hr d (i + 1) (by omega)) fun k => ?_
    simp only [laws_FnLeastTimeFree.l0]
    rw [if_pos (by omega), if_pos (by omega), if_pos (by rw [List.length_map, List.length_take]; omega), e, wrap_up i (by omega)]
theorem FnLeastTimeFree : laws_FnLeastTimeFree.Pure := by
  intro l0 _ _ hw
  refine Evn.at_ (f := fun k => laws_FnLeastTimeFree.f k l0) ?_
  unfold laws_FnLeastTimeFree.f
  by_cases hl : (l0.length : Int) > 1048576
  · simp only [if_pos hl]
    exact Evn.const rfl
  simp only [if_neg hl]
  obtain ⟨g, room, w, hg, hfw⟩ := draw_y l0 hw
  obtain ⟨h1, h2, h3⟩ := few_held hfw (by omega) (by omega)
  refine Evn.bind hg (Evn.bind (Evn.const (implLeast_is room w h1)) (Evn.bind (specLeastTime_is g room w h2 h3) ?_))
  simp only [if_true]
  by_cases hz : leastTime g room w < 0
  · rw [decide_eq_true hz]
    refine Evn.step (g := fun k => (spec_LeastTime.f k g room w).bind fun t => some (leastTime g room w == t)) (Evn.bind (specLeastTime_is g room w h2 h3) (Evn.const (by simp))) fun k => ?_
    simp only [laws_FnLeastTimeFree.j0]
    rw [if_pos trivial]
  rw [decide_eq_false hz]
  have hp := least_neg hz
  have hv := (place_parts hp).1
  have h8 := fine_len (valid_fine hv)
  have hpb := bare_place hp
  have hb := least_of hpb
  have hle : leastTime (g.map bare) room w ≤ leastTime g room w := by
    rw [leastTime_yes hpb, leastTime_yes hp, bare_up hv, List.length_map, bare_sum g _ (Nat.le_refl _)]
    exact leastUp_mono g room (mx_le (Int.le_trans (bare_long hv) (mx_l _ _)) (mx_r _ _)) _
  have hh := (few_held (Few.bare hfw) (by omega) (by omega)).1
  refine Evn.step (g := fun k => laws_FnLeastTimeFree.l0 k g room w (leastTime g room w) ((g.take 0).map bare) ((0 : Nat) : Int)) (free_l0 h8 ?_ g.length 0 (by omega)) fun k => ?_
  · refine Evn.bind (Evn.const (implLeast_is room w hh)) ?_
    simp only [if_pos (show leastTime (g.map bare) room w ≥ 0 from hb.pos), decide_eq_true hle]
    exact Evn.const rfl
  · simp only [laws_FnLeastTimeFree.j0]
    rw [if_neg (by simp)]
    rfl
end Go.Proofs.YtokikapljmakbaaDoor.Pure
