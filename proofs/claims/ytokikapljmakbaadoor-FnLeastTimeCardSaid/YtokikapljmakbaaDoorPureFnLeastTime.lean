/- The pure statement of FnLeastTime: all of a plan's tasks need the least time at least. -/
import Derived.Test.YtokikapljmakbaaDoorPC
import Derived.Test.YtokikapljmakbaaDoorPureLeastM
import Derived.Test.YtokikapljmakbaaDoorQx32
import Derived.Test.YtokikapljmakbaaDoorQx43
namespace Go.Proofs.YtokikapljmakbaaDoor.Pure
open Go.RowKit Go.Proofs.YtokikapljmakbaaDoor.Q Go.Proofs.YtokikapljmakbaaDoor.H Go.Proofs.YtokikapljmakbaaDoorW.PrintWords Go.Proofs.YtokikapljmakbaaDoorW.PrintMore
set_option linter.unusedVariables false

theorem room_y {b : List Int} (hb : Rdr b) {p : Int} (h0 : 0 ≤ p) (h1 : p ≤ 1000000) : Yld (fun k => spec_someRoom.f k b p) p 6 (fun _ => True) := by
  unfold spec_someRoom.f
  refine Yld.bind (one_y hb h0 (by omega) [4, 5, 8, 4] (by simp)) (c2 := 5) (fun x q q0 q1 _ => ?_) (by omega)
  refine Yld.bind (one_y hb (by omega) (by omega) [4, 6, 8] (by simp)) (c2 := 4) (fun y q2 _ _ _ => ?_) (by omega)
  refine Yld.bind (one_y hb (by omega) (by omega) [4, 4, 7] (by simp)) (c2 := 3) (fun z q3 _ _ _ => ?_) (by omega)
  obtain ⟨r, q4, hr, a0, a1, _⟩ := spoil_y hb (p := q3) (by omega) (by omega) [x, y, z] (by simp) 9
  exact ⟨r, q4, Evn.bind hr (Evn.const rfl), a0, a1, trivial⟩
theorem draw_y (l0 : List Int) (hw : ∀ x ∈ l0, (Lit.int .u8 x).wf = true) : ∃ g room w, Evn (fun k => spec_DrawLeastTime.f k l0) (g, room, w) ∧ Few 16 10 g := by
  obtain ⟨b, e, hb⟩ := reader_y l0 hw
  unfold spec_DrawLeastTime.f spec_DrawPlanStarts.f spec_someWorkers.f
  rw [e]
  simp only [Option.bind_some]
  obtain ⟨g, q, hg, q0, q1, hf⟩ := anyGraph_y hb (p := 0) (Int.le_refl _) (by omega)
  obtain ⟨y, q2, hy, y0, y1, _⟩ := room_y hb (p := q) (by omega) (by omega)
  obtain ⟨z, q3, hz, _⟩ := one_y hb (p := q2) (by omega) (by omega) [1, 2, 3, 4, 2, 0, 5] (by simp)
  exact ⟨g, y, z, Evn.bind (Evn.bind hg (Evn.bind hy (Evn.bind (Evn.bind hz (Evn.const rfl)) (Evn.const rfl)))) (Evn.const rfl), hf⟩
theorem l0_is {g : List S29} {room : List Int} {wk n : Int} (hh : held g = true) (hp : placeOk g room wk = true) (hn : Least g room wk n) : ∀ (d j : Nat), j + d = 3 → Evn (fun k => laws_FnLeastTime.l0 k g room wk n (j : Int)) true
  | 0, j, h => by
    obtain ⟨hv, ⟨hl, _⟩, w0, w1⟩ := place_parts hp
    have hf := valid_fine hv
    have h8 := fine_len hf
    obtain ⟨s0, s1⟩ := sumT_ok hf g.length (Nat.le_refl _)
    have o := least_of (place_one hp)
    have ou := up_times (sumT g g.length) 1 s0 (by omega) (by omega)
    have hu := up_times (sumT g g.length) wk s0 w0 w1
    have hall := allOf_sum g
    have hnw : sumT g g.length ≤ n * wk ∧ n * wk ≤ 4000 := by
      have := hn.up
      have := hn.small
      rcases (by omega : wk = 1 ∨ wk = 2 ∨ wk = 3 ∨ wk = 4) with rfl | rfl | rfl | rfl <;> omega
    have e1 : wrap64 (n * wk) = n * wk := w1k _ (by omega) (by omega)
    have hL := hn.long
    have hO := o.up
    refine Evn.step (g := fun k => (impl_LongestTime.f g).bind fun t => if n ≥ t then (laws_allTime.f k g).bind fun a => if wrap64 (n * wk) ≥ a then (impl_LeastTime.f g room 1).bind fun q => (laws_allTime.f k g).bind fun c => some (decide (q ≥ c)) else some false else some false) ?_ fun k => ?_
    · refine Evn.bind (Evn.const (show impl_LongestTime.f g = some (longestTime g) from if_pos hh)) ?_
      simp only [if_pos (show n ≥ longestTime g from hL)]
      refine Evn.bind (allTime_is hv) ?_
      simp only [if_pos (show wrap64 (n * wk) ≥ allOf g by omega)]
      refine Evn.bind (Evn.const (implLeast_is room 1 hh)) (Evn.bind (allTime_is hv) (Evn.const ?_))
      rw [decide_eq_true (show leastTime g room 1 ≥ allOf g by omega)]
    · simp only [laws_FnLeastTime.l0]
      rw [if_neg (by omega)]
  | d + 1, j, h => by
    obtain ⟨hv, ⟨hl, _⟩, w0, w1⟩ := place_parts hp
    have hpl := hn.pool j (by omega)
    refine Evn.step (g := fun k => (impl_PoolTime.f k g (j : Int) (atI room j)).bind fun t => if t > n then some false else laws_FnLeastTime.l0 k g room wk n ((j + 1 : Nat) : Int)) (Evn.bind (implPool_is _ _ hh) ?_) fun k => ?_
    · simp only [if_neg (show ¬ poolTime g (j : Int) (atI room j) > n by omega)]
      exact l0_is hh hp hn d (j + 1) (by omega)
    · simp only [laws_FnLeastTime.l0]
      rw [if_pos (by omega), if_pos (by omega), wrap_up j (by omega), rd_atI room j (by omega)]
theorem FnLeastTime : laws_FnLeastTime.Pure := by
  intro l0 _ _ hw
  refine Evn.at_ (f := fun k => laws_FnLeastTime.f k l0) ?_
  unfold laws_FnLeastTime.f
  by_cases hl : (l0.length : Int) > 1048576
  · simp only [if_pos hl]
    exact Evn.const rfl
  simp only [if_neg hl]
  obtain ⟨g, room, w, hg, hfw⟩ := draw_y l0 hw
  obtain ⟨h1, h2, h3⟩ := few_held hfw (by omega) (by omega)
  refine Evn.bind hg (Evn.bind (Evn.const (implLeast_is room w h1)) (Evn.bind (specLeastTime_is g room w h2 h3) ?_))
  simp only [if_true]
  by_cases hz : leastTime g room w < 0
  · rw [decide_eq_true hz]
    refine Evn.step (g := fun k => (spec_LeastTime.f k g room w).bind fun t => some (leastTime g room w == t)) (Evn.bind (specLeastTime_is g room w h2 h3) (Evn.const (by simp))) fun k => ?_
    simp only [laws_FnLeastTime.j0]
    rw [if_pos trivial]
  rw [decide_eq_false hz]
  have hp := least_neg hz
  refine Evn.step (l0_is h1 hp (least_of hp) 3 0 (by omega)) fun k => ?_
  simp only [laws_FnLeastTime.j0]
  rw [if_neg (by simp)]
  rfl
end Go.Proofs.YtokikapljmakbaaDoor.Pure
