/- LeastTime in the reference's words; plain Lean. -/
import Derived.Test.YtokikapljmakbaaDoorHLeast
import Derived.Test.YtokikapljmakbaaDoorPureTailV
import Derived.Test.YtokikapljmakbaaDoorQx23
namespace Go.Proofs.YtokikapljmakbaaDoor.H
open Go.RowKit Go.Proofs.YtokikapljmakbaaDoorW.PrintWords Go.Proofs.YtokikapljmakbaaDoorW.PrintLast Go.Proofs.YtokikapljmakbaaDoorW.PrintMore Go.Proofs.YtokikapljmakbaaDoor.Q
set_option linter.unusedVariables false

theorem specAllIn_l0 (l : List Int) (hl : l.length = 3) : ∀ (d j : Nat), j + d = 3 → Evn (fun k => spec_allIn.l0 k l 4 8 (j : Int)) ((l.drop j).all fun x => decide (4 ≤ x ∧ x ≤ 8))
  | 0, j, hj => by
    refine Evn.step (Evn.const rfl) fun k => ?_
    simp only [spec_allIn.l0]
    rw [if_neg (by omega), List.drop_of_length_le (by omega)]
    rfl
  | d + 1, j, hj => by
    have hjl : j < l.length := by omega
    have hN := specAllIn_l0 l hl d (j + 1) (by omega)
    rw [List.drop_eq_getElem_cons hjl, List.all_cons]
    by_cases c : 4 ≤ l[j] ∧ l[j] ≤ 8
    · rw [decide_eq_true c, Bool.true_and]
      refine Evn.step hN fun k => ?_
      simp only [spec_allIn.l0]
      rw [if_pos (by omega), if_pos (by omega), inRange_is, Option.bind_some, wrap_up j (by omega), rd_get l j hjl, decide_eq_true c, if_pos rfl]
    · rw [decide_eq_false c, Bool.false_and]
      refine Evn.step (Evn.const rfl) fun k => ?_
      simp only [spec_allIn.l0]
      rw [if_pos (by omega), if_pos (by omega), inRange_is, Option.bind_some, rd_get l j hjl, decide_eq_false c, if_neg Bool.false_ne_true]
theorem specRoom_is (l : List Int) : Evn (fun k => spec_validRoom.f k l) (roomOk l) := by
  unfold spec_validRoom.f roomOk
  by_cases h : l.length = 3
  · simp only [if_pos (show (l.length : Int) = 3 from by omega)]
    rw [decide_eq_true h, Bool.true_and]
    exact Evn.bind (specAllIn_l0 l h 3 0 (by omega)) (Evn.const rfl)
  · simp only [if_neg (show ¬ (l.length : Int) = 3 from by omega)]
    rw [decide_eq_false h, Bool.false_and]
    exact Evn.const rfl
theorem specLeast_l1 {g : List S29} (hg : Held g) (ht : ∀ t, t ∈ g → Held t.f1) (room : List Int) (hl : room.length = 3) (b : Int) : ∀ (d j : Nat), j + d = 3 → Evn (fun k => spec_LeastTime.l1 k g room (leastUp g room b j) (j : Int)) (leastUp g room b 3)
  | 0, j, hj => by
    obtain rfl : j = 3 := by omega
    refine Evn.step (Evn.const rfl) fun k => ?_
    simp only [spec_LeastTime.l1]
    rw [if_neg (by omega)]
  | d + 1, j, hj => by
    have hN := specLeast_l1 hg ht room hl b d (j + 1) (by omega)
    refine Evn.step (g := fun k => (spec_PoolTime.f k g (j : Int) (atI room j)).bind fun t => spec_LeastTime.l1 k g room (mx (leastUp g room b j) t) ((j + 1 : Nat) : Int)) (Evn.bind (specPool_is g _ _ hg ht) hN) fun k => ?_
    simp only [spec_LeastTime.l1]
    rw [if_pos (by omega), if_pos (by omega), if_pos (by omega), wrap_up j (by omega), rd_atI room j (by omega)]
theorem specLeast_l0 {g : List S29} (hv : valid g = true) (hg : Held g) (ht : ∀ t, t ∈ g → Held t.f1) (room : List Int) (hl : room.length = 3) (wk : Int) (hw : 1 ≤ wk ∧ wk ≤ 4) : ∀ (d i : Nat), i + d = g.length → Evn (fun k => spec_LeastTime.l0 k g room wk (sumT g i) (i : Int)) (leastUp g room (mx (longestTime g) (upOf (sumT g g.length) wk)) 3)
  | 0, i, h => by
    have hf := valid_fine hv
    have h8 := fine_len hf
    obtain rfl : i = g.length := by omega
    obtain ⟨s0, s1⟩ := sumT_ok hf g.length (Nat.le_refl _)
    have hu := up_is (sumT g g.length) wk s0 (by omega) hw.1 (by omega)
    refine Evn.step (g := fun k => (spec_longest.f k g).bind fun t => spec_LeastTime.l1 k g room (mx t (upOf (sumT g g.length) wk)) ((0 : Nat) : Int)) (Evn.bind (specLongest_is hv) (specLeast_l1 hg ht room hl _ 3 0 (by omega))) fun k => ?_
    simp only [spec_LeastTime.l0, if_neg (show ¬ wk = 0 from by omega), hu]
    rw [if_neg (by omega)]
    rfl
  | d + 1, i, h => by
    have hf := valid_fine hv
    have h8 := fine_len hf
    obtain ⟨s0, s1⟩ := sumT_ok hf i (by omega)
    have h2 := time_ok hf i (by omega)
    have e0 : (rd_T29 g ((i : Nat) : Int)).f0 = tmOf g i := rfl
    have hN := specLeast_l0 hv hg ht room hl wk hw d (i + 1) (by omega)
    rw [sumT] at hN
    refine Evn.step hN fun k => ?_
    simp only [spec_LeastTime.l0]
    rw [if_pos (by omega), if_pos (by omega), e0, w1k _ (by omega) (by omega), wrap_up i (by omega)]
theorem leastTime_no {g : List S29} {room : List Int} {wk : Int} (h : ¬ placeOk g room wk = true) : leastTime g room wk = -1 := if_neg h
theorem leastTime_yes {g : List S29} {room : List Int} {wk : Int} (h : placeOk g room wk = true) : leastTime g room wk = leastUp g room (mx (longestTime g) (upOf (sumT g g.length) wk)) room.length := if_pos h
theorem place_parts {g : List S29} {room : List Int} {wk : Int} (h : placeOk g room wk = true) : valid g = true ∧ (room.length = 3 ∧ ∀ j, j < 3 → 4 ≤ atI room j ∧ atI room j ≤ 8) ∧ 1 ≤ wk ∧ wk ≤ 4 := by
  unfold placeOk roomOk at h
  simp only [Bool.and_eq_true, decide_eq_true_eq, List.all_eq_true] at h
  obtain ⟨⟨hv, hl, ha⟩, hw⟩ := h
  refine ⟨hv, ⟨hl, fun j hj => ?_⟩, hw⟩
  have hjl : j < room.length := by omega
  have := ha room[j] (List.getElem_mem hjl)
  unfold atI
  rw [List.getD_eq_getElem?_getD, List.getElem?_eq_getElem hjl]
  exact this
theorem specLeastTime_is (g : List S29) (room : List Int) (wk : Int) (hg : Held g) (ht : ∀ t, t ∈ g → Held t.f1) : Evn (fun k => spec_LeastTime.f k g room wk) (leastTime g room wk) := by
  have hno : Evn (fun k => spec_LeastTime.j0 k g room wk true) (-1) := Evn.step (Evn.const rfl) fun k => by
    simp only [spec_LeastTime.j0]
    rw [if_pos trivial]
  unfold spec_LeastTime.f
  refine Evn.bind (validGraph_is g hg ht) ?_
  by_cases hv : valid g = true
  · simp only [hv, if_true]
    refine Evn.bind (specRoom_is room) ?_
    by_cases hr : roomOk room = true
    · simp only [hr, if_true]
      rw [inRange_is]
      refine Evn.bind (Evn.const rfl) ?_
      by_cases hw : 1 ≤ wk ∧ wk ≤ 4
      · have hp : placeOk g room wk = true := by unfold placeOk; rw [hv, hr, decide_eq_true hw]; rfl
        have hl := (place_parts hp).2.1.1
        rw [decide_eq_true hw, leastTime_yes hp, hl]
        refine Evn.step (specLeast_l0 hv hg ht room hl wk hw g.length 0 (by omega)) fun k => ?_
        simp only [spec_LeastTime.j0]
        rw [if_neg (by simp)]
        rfl
      · rw [decide_eq_false hw, leastTime_no (fun h => hw (place_parts h).2.2)]
        exact hno
    · simp only [hr]
      rw [leastTime_no (fun h => hr (by unfold placeOk at h; simp only [Bool.and_eq_true] at h; exact h.1.2))]
      exact hno
  · simp only [hv]
    rw [leastTime_no (fun h => hv (place_parts h).1)]
    exact hno
theorem implLeast_is {g : List S29} (room : List Int) (wk : Int) (hh : held g = true) : impl_LeastTime.f g room wk = some (leastTime g room wk) := if_pos hh
end Go.Proofs.YtokikapljmakbaaDoor.H
