-- Written by a program of this session (wip/tools/myprint.py), by way of the kit's print, out of the translation of the seat. Lean checks it.
import Derived.Test.YtgpnododcbkflaaDoorQx0
import Derived.Test.YtgpnododcbkflaaDoorQx15
import Derived.Test.YtgpnododcbkflaaDoorQx19
import Derived.Test.YtgpnododcbkflaaDoorQx27
import Derived.Test.YtgpnododcbkflaaDoorHLong
import Derived.Test.YtgpnododcbkflaaDoorHSlack
import Derived.Test.YtgpnododcbkflaaDoorHM
namespace Go.Proofs.YtgpnododcbkflaaDoor.Q
open Go.Proofs.YtgpnododcbkflaaDoor.H Go.RowKit Go.Proofs.YtgpnododcbkflaaDoorW.PrintWords Go.Proofs.YtgpnododcbkflaaDoorW.PrintLast Go.Proofs.YtgpnododcbkflaaDoorW.PrintMore
attribute [local go_sem] max2_int min2_int max_two min_two max_three min_three max_four min_four   -- for this text's walks alone
set_option linter.unusedVariables false
set_option linter.unusedSimpArgs false

/-! ### laws_FnSlackTimes: function 9 -/
mutual
def laws_FnSlackTimes.j0 : Nat → List (S30) → List Int → Bool → Option (Bool)
  | 0, _, _, _ => none
  | k + 1, x3, x4, x26 => if x26 = true then ((spec_SlackTimes.f k x3).bind fun t719 => ((laws_equalInts.f k x4 t719).bind fun t722 => (some t722))) else ((impl_LongestTime.f x3).bind fun t723 => (laws_FnSlackTimes.l0 k x3 x4 t723 0))
def laws_FnSlackTimes.l0 : Nat → List (S30) → List Int → Int → Int → Option (Bool)
  | 0, _, _, _, _ => none
  | k + 1, x3, x4, x5, x6 => if x6 < (x3.length : Int) then ((some (([] : List (S30)) : List (S30))).bind fun y724 => (if y724.length + x3.length < 2932031007402 then ((some (y724 ++ x3 : List (S30))).bind fun y727 => (if 0 ≤ x6 then (if x6 < (y727.length : Int) then (if x6 < (x4.length : Int) then ((some (y727.set (x6 : Int).toNat (⟨wrap64 (((rd_T30 y727 x6).f0) + (rd x4 x6)), (rd_T30 y727 x6).f1, (rd_T30 y727 x6).f2, (rd_T30 y727 x6).f3⟩ : S30) : List (S30))).bind fun y732 => (if (rd x4 x6) < 0 then (some false) else ((impl_ValidGraph.f y732).bind fun t734 => (if t734 = true then ((impl_LongestTime.f y732).bind fun t735 => (if t735 = x5 then (laws_FnSlackTimes.l0 k x3 x4 x5 (wrap64 (x6 + 1))) else (some false))) else (laws_FnSlackTimes.l0 k x3 x4 x5 (wrap64 (x6 + 1))))))) else (none)) else (none)) else (none))) else (none))) else (some true)
end
def laws_FnSlackTimes.f (k : Nat) (l0 : List Int) : Option (Bool) := if (l0.length : Int) > 1048576 then (some true) else ((spec_DrawSlackTimes.f k l0).bind fun t709 => ((impl_SlackTimes.f t709).bind fun t712 => ((spec_SlackTimes.f k t709).bind fun t715 => ((laws_equalInts.f k t712 t715).bind fun t718 => (if t718 = true then (laws_FnSlackTimes.j0 k t709 t712 ((t712.length : Int) != (t709.length : Int))) else (laws_FnSlackTimes.j0 k t709 t712 true))))))
theorem laws_FnSlackTimes.mono_l : ∀ k, (∀ y0 y1 y2, LeO (laws_FnSlackTimes.j0 k y0 y1 y2) (laws_FnSlackTimes.j0 (k + 1) y0 y1 y2)) ∧ (∀ y0 y1 y2 y3, LeO (laws_FnSlackTimes.l0 k y0 y1 y2 y3) (laws_FnSlackTimes.l0 (k + 1) y0 y1 y2 y3))
  | 0 => ⟨fun _ _ _ r h => by simp [laws_FnSlackTimes.j0] at h, fun _ _ _ _ r h => by simp [laws_FnSlackTimes.l0] at h⟩
  | k + 1 => by
    obtain ⟨ih0, ih1⟩ := laws_FnSlackTimes.mono_l k
    refine ⟨?_, ?_⟩
    · intro y0 y1 y2
      unfold laws_FnSlackTimes.j0
      repeat' first
      | (with_reducible exact ih0 _ _ _)
      | (with_reducible exact ih1 _ _ _ _)
      | (with_reducible exact laws_equalInts.mono _ _ _)
      | (with_reducible exact spec_DrawSlackTimes.mono _ _)
      | (with_reducible exact spec_SlackTimes.mono _ _)
      | (with_reducible exact LeO.refl _)
      | (with_reducible exact LeO.none _)
      | (with_reducible refine LeO.ite ?_ ?_)
      | (with_reducible refine LeO.bind ?_ (fun _ => ?_))
      | exact ih0 _ _ _
      | exact ih1 _ _ _ _
      | exact laws_equalInts.mono _ _ _
      | exact spec_DrawSlackTimes.mono _ _
      | exact spec_SlackTimes.mono _ _
      | exact LeO.none _
      | refine LeO.ite ?_ ?_
      | refine LeO.bind ?_ (fun _ => ?_)
    · intro y0 y1 y2 y3
      unfold laws_FnSlackTimes.l0
      repeat' first
      | (with_reducible exact ih0 _ _ _)
      | (with_reducible exact ih1 _ _ _ _)
      | (with_reducible exact laws_equalInts.mono _ _ _)
      | (with_reducible exact spec_DrawSlackTimes.mono _ _)
      | (with_reducible exact spec_SlackTimes.mono _ _)
      | (with_reducible exact LeO.refl _)
      | (with_reducible exact LeO.none _)
      | (with_reducible refine LeO.ite ?_ ?_)
      | (with_reducible refine LeO.bind ?_ (fun _ => ?_))
      | exact ih0 _ _ _
      | exact ih1 _ _ _ _
      | exact laws_equalInts.mono _ _ _
      | exact spec_DrawSlackTimes.mono _ _
      | exact spec_SlackTimes.mono _ _
      | exact LeO.none _
      | refine LeO.ite ?_ ?_
      | refine LeO.bind ?_ (fun _ => ?_)
theorem laws_FnSlackTimes.mono : ∀ a0 k, LeO (laws_FnSlackTimes.f k a0) (laws_FnSlackTimes.f (k + 1) a0) := by
  intro a0 k
  obtain ⟨ih0, ih1⟩ := laws_FnSlackTimes.mono_l k
  unfold laws_FnSlackTimes.f
  repeat' first
      | (with_reducible exact ih0 _ _ _)
      | (with_reducible exact ih1 _ _ _ _)
      | (with_reducible exact laws_equalInts.mono _ _ _)
      | (with_reducible exact spec_DrawSlackTimes.mono _ _)
      | (with_reducible exact spec_SlackTimes.mono _ _)
      | (with_reducible exact LeO.refl _)
      | (with_reducible exact LeO.none _)
      | (with_reducible refine LeO.ite ?_ ?_)
      | (with_reducible refine LeO.bind ?_ (fun _ => ?_))
      | exact ih0 _ _ _
      | exact ih1 _ _ _ _
      | exact laws_equalInts.mono _ _ _
      | exact spec_DrawSlackTimes.mono _ _
      | exact spec_SlackTimes.mono _ _
      | exact LeO.none _
      | refine LeO.ite ?_ ?_
      | refine LeO.bind ?_ (fun _ => ?_)
def laws_FnSlackTimes.T12 : Bool × List (List Nat × List Nat) := (true, [([], []), ([], []), ([], []), ([], []), ([2, 3], [2, 3]), ([4], [4]), ([5], [5]), ([], []), ([], []), ([7, 8], [7, 8]), ([9], [9]), ([6, 10], [6, 10]), ([0, 1, 0, 1, 2, 3, 4, 5, 6, 7, 8, 9, 10, 11], [0, 1]), ([12, 0, 1, 2, 3, 4, 5, 6, 7, 8, 9, 10, 11], [12]), ([13, 11, 0, 1, 2, 3, 4, 5, 6, 7, 8, 9, 10, 11], [11, 13])])
def laws_FnSlackTimes.B12 : List Nat := [0, 0, 0, 0, 12, 28, 60, 0, 0, 384, 896, 2044, 4095, 8191, 16383]
theorem laws_FnSlackTimes.tab12 : rtab .any (opsOf Tryd.f9 12) = laws_FnSlackTimes.T12 := by kernel_rfl
theorem laws_FnSlackTimes.bits12 : waitsOk laws_FnSlackTimes.T12.2 laws_FnSlackTimes.B12 = true := by kernel_rfl
set_option maxHeartbeats 8000000 in
set_option maxRecDepth 100000 in
theorem laws_FnSlackTimes.calls (k : Nat) (A0 : Option Addr) (c0 : Nat) (l0 : List Int) (r : Bool) (w : World) (hT : Go.Proofs.YtgpnododcbkflaaDoor.H.Tab w) (hr0 : Kd.C (Kd.int .u8) w A0 l0.length l0) (hc0 : l0.length ≤ c0) (h : laws_FnSlackTimes.f k l0 = some r) :
    Calls Tryd.prog 9 #[.slice A0 l0.length c0] w fun e w' => e = .returned (.bool r) ∧ Below w.heap.size w w' := by
  have HT := Aside0.mk hT
  clear hT
  have HR0 := Aside0.mk hr0
  have HC0 := Aside0.mk hc0
  clear hr0 hc0
  have HB := Aside0.mk (Below.refl w.heap.size w)
  have H : (if (l0.length : Int) > 1048576 then (some true) else ((spec_DrawSlackTimes.f k l0).bind fun t709 => ((impl_SlackTimes.f t709).bind fun t712 => ((spec_SlackTimes.f k t709).bind fun t715 => ((laws_equalInts.f k t712 t715).bind fun t718 => (if t718 = true then (laws_FnSlackTimes.j0 k t709 t712 ((t712.length : Int) != (t709.length : Int))) else (laws_FnSlackTimes.j0 k t709 t712 true))))))) = some r := h
  clear h
  by_cases c2 : (l0.length : Int) > 1048576
  · rw [if_pos c2] at H
    have c2b0 : decide (1048576 < (l0.length : Int)) = true := decide_eq_true c2
    have c2b1 : decide (1048576 < l0.length) = true := decide_eq_true (by omega)
    clear c2
    obtain rfl := Option.some.inj H
    go_enter Tryd.func9, Tryd.ntmps9
    go_wp2
    go_ret
    exact ⟨by first | rfl | (simp [errW_none, errW_some] <;> rfl) | (simp [*, errW_none, errW_some] <;> rfl), by repeat (first | (with_reducible first | exact HB.out | apply below_alloc | apply pw_below_drewN | apply below_drew1) | exact HB.out)⟩
  · rw [if_neg c2] at H
    have c2b0 : decide (1048576 < (l0.length : Int)) = false := decide_eq_false c2
    have c2b1 : decide (1048576 < l0.length) = false := decide_eq_false (by omega)
    clear c2
    replace H := Option.bind_eq_some_iff.mp H
    obtain ⟨t709, A30, H⟩ := H
    replace H : ((impl_SlackTimes.f t709).bind fun t712 => ((spec_SlackTimes.f k t709).bind fun t715 => ((laws_equalInts.f k t712 t715).bind fun t718 => (if t718 = true then (laws_FnSlackTimes.j0 k t709 t712 ((t712.length : Int) != (t709.length : Int))) else (laws_FnSlackTimes.j0 k t709 t712 true))))) = some r := H
    have A3 := Aside0.mk A30
    clear A30
    replace H := Option.bind_eq_some_iff.mp H
    obtain ⟨t712, A40, H⟩ := H
    replace H : ((spec_SlackTimes.f k t709).bind fun t715 => ((laws_equalInts.f k t712 t715).bind fun t718 => (if t718 = true then (laws_FnSlackTimes.j0 k t709 t712 ((t712.length : Int) != (t709.length : Int))) else (laws_FnSlackTimes.j0 k t709 t712 true)))) = some r := H
    have A4 := Aside0.mk A40
    clear A40
    have HC5 := Aside0.mk H
    clear H
    go_enter Tryd.func9, Tryd.ntmps9
    go_upto_region 5 with (first | ((with_reducible refine gate_callee (f := 35) rfl ?_); refine goesL_ (some 12) rfl rfl Tryd.func35 (by kernel_rfl) rfl #[.slice A0 l0.length c0] rfl (by (try simp only [List.map_toArray, List.map_cons, List.map_nil]); first | done | rfl | (simp only [List.length_drop, List.length_take]; rfl)) ?_; (with_reducible refine (spec_DrawSlackTimes.calls k _ _ l0 t709 _ ?side1 ?side2 A3.out).mono ?_); (case side1 => repeat (first | exact HR0.out | (with_reducible refine Kd.C_alloc ?_ _) | (with_reducible refine Kd.C_drewN ?_ _) | (with_reducible refine Kd.C_drew ?_))); (case side2 => exact HC0.out); rintro e w6 ⟨v710, rfl, ho0, hb⟩; refine ⟨_, rfl, ?_⟩; have n0_ := Aside0.mk (Kd.N_lower (Kd.N_mono (ok' := fun k_ => True) ho0 (fun k_ hk_ => trivial)) (below_size (by repeat (first | (with_reducible first | exact HB.out | apply below_alloc | apply pw_below_drewN | apply below_drew1) | exact HB.out)))); have n1_ := Aside0.mk (below_step (by repeat (first | (with_reducible first | exact HB.out | apply below_alloc | apply pw_below_drewN | apply below_drew1) | exact HB.out)) hb); clear HB; have HO711 := n0_; have HB := n1_; clear n0_ n1_; (try clear hb); (try clear hb2); (try clear hk); (try clear hi); (try clear ho0); obtain ⟨Ao7, co7, eo7⟩ := Kd.N_slice HO711.out; subst eo7) | ((with_reducible refine gate_callee (f := 19) rfl ?_); refine goesL_ (some 14) rfl rfl Tryd.func19 (by kernel_rfl) rfl #[.slice Ao7 t709.length co7] rfl (by (try simp only [List.map_toArray, List.map_cons, List.map_nil]); first | done | rfl | (simp only [List.length_drop, List.length_take]; rfl)) ?_; (with_reducible refine (impl_SlackTimes.calls _ _ t709 t712 _ ?side1 ?side2 ?sideT A4.out).mono ?_); (case sideT => exact (HT.out.below (by repeat (first | (with_reducible first | exact HB.out | apply below_alloc | apply pw_below_drewN | apply below_drew1) | exact HB.out)))); (case side1 => repeat (first | exact (Kd.N_reads' HO711.out).2.2 | (with_reducible refine Kd.C_alloc ?_ _) | (with_reducible refine Kd.C_drewN ?_ _) | (with_reducible refine Kd.C_drew ?_))); (case side2 => exact (Kd.N_reads' HO711.out).2.1); rintro e w8 ⟨v713, rfl, ho0, hb⟩; refine ⟨_, rfl, ?_⟩; have n0_ := Aside0.mk (Kd.N_elder' (by (with_reducible repeat (first | apply Kd.N_alloc | apply Kd.N_drewN | apply Kd.N_drew)); exact HO711.out) (Kd.R_base ho0) hb); have n1_ := Aside0.mk (Kd.R_lower ho0 (below_size (by repeat (first | (with_reducible first | exact HB.out | apply below_alloc | apply pw_below_drewN | apply below_drew1) | exact HB.out)))); have n2_ := Aside0.mk (below_step (by repeat (first | (with_reducible first | exact HB.out | apply below_alloc | apply pw_below_drewN | apply below_drew1) | exact HB.out)) hb); clear HO711; clear HB; have HO711 := n0_; have HO714 := n1_; have HB := n2_; clear n0_ n1_ n2_; (try clear hb); (try clear hb2); (try clear hk); (try clear hi); (try clear ho0)))
    (try simp only [Act.put, List.setIfInBounds_toArray, List.set_cons_zero, List.set_cons_succ])
    go_cut [26] (fun v26 wc => ∃ (kq : Nat) (x26_4 : Bool), v26 = .bool x26_4 ∧ Aside0 (laws_FnSlackTimes.j0 kq t709 t712 x26_4 = some r) ∧ Aside0 (kq ≤ k) ∧ Aside0 (Kd.N k30 30 wc w.heap.size (fun k_ => some k_ ≠ (v713 : Value).ownBlock) (.slice Ao7 t709.length co7) t709) ∧ Aside0 (Kd.R (Kd.int .i64) 3 wc w.heap.size (fun _ => True) v713 t712) ∧ Aside0 (Below w.heap.size w wc))
    case first =>
      have H := HC5.out
      clear HC5
      replace H := Option.bind_eq_some_iff.mp H
      obtain ⟨t715, A90, H⟩ := H
      replace H : ((laws_equalInts.f k t712 t715).bind fun t718 => (if t718 = true then (laws_FnSlackTimes.j0 k t709 t712 ((t712.length : Int) != (t709.length : Int))) else (laws_FnSlackTimes.j0 k t709 t712 true))) = some r := H
      have A9 := Aside0.mk A90
      clear A90
      replace H := Option.bind_eq_some_iff.mp H
      obtain ⟨t718, A100, H⟩ := H
      replace H : (if t718 = true then (laws_FnSlackTimes.j0 k t709 t712 ((t712.length : Int) != (t709.length : Int))) else (laws_FnSlackTimes.j0 k t709 t712 true)) = some r := H
      have A10 := Aside0.mk A100
      clear A100
      by_cases c11 : t718 = true
      · subst c11
        have H1 : (laws_FnSlackTimes.j0 k t709 t712 ((t712.length : Int) != (t709.length : Int))) = some r := by rw [if_pos rfl] at H; exact H
        clear H
        have H := H1
        clear H1
        have H' := Aside0.mk H
        clear H
        go_wp2_with (first | ((with_reducible refine gate_callee (f := 36) rfl ?_); refine goesL_ (some 17) rfl rfl Tryd.func36 (by kernel_rfl) rfl #[.slice Ao7 t709.length co7] rfl (by (try simp only [List.map_toArray, List.map_cons, List.map_nil]); first | done | rfl | (simp only [List.length_drop, List.length_take]; rfl)) ?_; (with_reducible refine (spec_SlackTimes.calls k _ _ t709 t715 _ ?side1 ?side2 A9.out).mono ?_); (case side1 => repeat (first | exact (Kd.N_reads' HO711.out).2.2 | (with_reducible refine Kd.C_alloc ?_ _) | (with_reducible refine Kd.C_drewN ?_ _) | (with_reducible refine Kd.C_drew ?_))); (case side2 => exact (Kd.N_reads' HO711.out).2.1); rintro e w12 ⟨v716, rfl, ho0, hb⟩; refine ⟨_, rfl, ?_⟩; have n0_ := Aside0.mk (Kd.N_elder' (by (with_reducible repeat (first | apply Kd.N_alloc | apply Kd.N_drewN | apply Kd.N_drew)); exact HO711.out) (Kd.R_base ho0) hb); have n1_ := Aside0.mk (Kd.R_elder' (by (with_reducible repeat (first | apply Kd.R_alloc | apply Kd.R_drewN | apply Kd.R_drew)); exact HO714.out) (Kd.R_base ho0) hb); have n2_ := Aside0.mk (Kd.R_lower (Kd.R_new' ho0 (Kd.R_lt (by (with_reducible repeat (first | apply Kd.R_alloc | apply Kd.R_drewN | apply Kd.R_drew)); exact HO714.out))) (below_size (by repeat (first | (with_reducible first | exact HB.out | apply below_alloc | apply pw_below_drewN | apply below_drew1) | exact HB.out)))); have n3_ := Aside0.mk (below_step (by repeat (first | (with_reducible first | exact HB.out | apply below_alloc | apply pw_below_drewN | apply below_drew1) | exact HB.out)) hb); clear HO711; clear HO714; clear HB; have HO711 := n0_; have HO714 := n1_; have HO717 := n2_; have HB := n3_; clear n0_ n1_ n2_ n3_; (try clear hb); (try clear hb2); (try clear hk); (try clear hi); (try clear ho0); obtain ⟨Ao13, co13, eo13⟩ := Kd.R_slice HO714.out; subst eo13; obtain ⟨Ao14, co14, eo14⟩ := Kd.R_slice HO717.out; subst eo14) | ((with_reducible refine gate_callee (f := 17) rfl ?_); refine goesL_ (some 18) rfl rfl Tryd.func17 (by kernel_rfl) rfl #[.slice Ao13 t712.length co13, .slice Ao14 t715.length co14] rfl (by (try simp only [List.map_toArray, List.map_cons, List.map_nil]); first | done | rfl | (simp only [List.length_drop, List.length_take]; rfl)) ?_; (with_reducible refine (laws_equalInts.calls k _ _ t712 _ _ t715 true _ ?side1 ?side2 ?side3 ?side4 A10.out).mono ?_); (case side1 => repeat (first | exact (Kd.R_reads' HO714.out).2.2 | (with_reducible refine Kd.C_alloc ?_ _) | (with_reducible refine Kd.C_drewN ?_ _) | (with_reducible refine Kd.C_drew ?_))); (case side2 => exact (Kd.R_reads' HO714.out).2.1); (case side3 => repeat (first | exact (Kd.R_reads' HO717.out).2.2 | (with_reducible refine Kd.C_alloc ?_ _) | (with_reducible refine Kd.C_drewN ?_ _) | (with_reducible refine Kd.C_drew ?_))); (case side4 => exact (Kd.R_reads' HO717.out).2.1); rintro e w' ⟨rfl, ⟨nd, rfl⟩⟩; refine ⟨_, rfl, ?_⟩))
        go_meet
        case rel => exact ⟨_, (((t712.length : Int) != (t709.length : Int))), (by first | rfl | (simp; done) | (simp [*]; done)), H', ⟨by first | omega | exact Nat.le_refl _⟩, ⟨by (with_reducible repeat (first | apply Kd.N_alloc | apply Kd.N_drewN | apply Kd.N_drew)); exact Kd.N_mono HO711.out (fun _ hk => hk.1.2)⟩, ⟨by (with_reducible repeat (first | apply Kd.R_alloc | apply Kd.R_drewN | apply Kd.R_drew)); exact Kd.R_mono HO714.out (fun _ hk => trivial)⟩, ⟨by repeat (first | (with_reducible first | exact HB.out | apply below_alloc | apply pw_below_drewN | apply below_drew1) | exact HB.out)⟩⟩
      · replace c11 := Bool.eq_false_iff.mpr c11
        subst c11
        have H1 : (laws_FnSlackTimes.j0 k t709 t712 true) = some r := by rw [if_neg (show ¬ (false = true) by decide)] at H; exact H
        clear H
        have H := H1
        clear H1
        have H' := Aside0.mk H
        clear H
        go_wp2_with (first | ((with_reducible refine gate_callee (f := 36) rfl ?_); refine goesL_ (some 17) rfl rfl Tryd.func36 (by kernel_rfl) rfl #[.slice Ao7 t709.length co7] rfl (by (try simp only [List.map_toArray, List.map_cons, List.map_nil]); first | done | rfl | (simp only [List.length_drop, List.length_take]; rfl)) ?_; (with_reducible refine (spec_SlackTimes.calls k _ _ t709 t715 _ ?side1 ?side2 A9.out).mono ?_); (case side1 => repeat (first | exact (Kd.N_reads' HO711.out).2.2 | (with_reducible refine Kd.C_alloc ?_ _) | (with_reducible refine Kd.C_drewN ?_ _) | (with_reducible refine Kd.C_drew ?_))); (case side2 => exact (Kd.N_reads' HO711.out).2.1); rintro e w15 ⟨v716, rfl, ho0, hb⟩; refine ⟨_, rfl, ?_⟩; have n0_ := Aside0.mk (Kd.N_elder' (by (with_reducible repeat (first | apply Kd.N_alloc | apply Kd.N_drewN | apply Kd.N_drew)); exact HO711.out) (Kd.R_base ho0) hb); have n1_ := Aside0.mk (Kd.R_elder' (by (with_reducible repeat (first | apply Kd.R_alloc | apply Kd.R_drewN | apply Kd.R_drew)); exact HO714.out) (Kd.R_base ho0) hb); have n2_ := Aside0.mk (Kd.R_lower (Kd.R_new' ho0 (Kd.R_lt (by (with_reducible repeat (first | apply Kd.R_alloc | apply Kd.R_drewN | apply Kd.R_drew)); exact HO714.out))) (below_size (by repeat (first | (with_reducible first | exact HB.out | apply below_alloc | apply pw_below_drewN | apply below_drew1) | exact HB.out)))); have n3_ := Aside0.mk (below_step (by repeat (first | (with_reducible first | exact HB.out | apply below_alloc | apply pw_below_drewN | apply below_drew1) | exact HB.out)) hb); clear HO711; clear HO714; clear HB; have HO711 := n0_; have HO714 := n1_; have HO717 := n2_; have HB := n3_; clear n0_ n1_ n2_ n3_; (try clear hb); (try clear hb2); (try clear hk); (try clear hi); (try clear ho0); obtain ⟨Ao16, co16, eo16⟩ := Kd.R_slice HO714.out; subst eo16; obtain ⟨Ao17, co17, eo17⟩ := Kd.R_slice HO717.out; subst eo17) | ((with_reducible refine gate_callee (f := 17) rfl ?_); refine goesL_ (some 18) rfl rfl Tryd.func17 (by kernel_rfl) rfl #[.slice Ao16 t712.length co16, .slice Ao17 t715.length co17] rfl (by (try simp only [List.map_toArray, List.map_cons, List.map_nil]); first | done | rfl | (simp only [List.length_drop, List.length_take]; rfl)) ?_; (with_reducible refine (laws_equalInts.calls k _ _ t712 _ _ t715 false _ ?side1 ?side2 ?side3 ?side4 A10.out).mono ?_); (case side1 => repeat (first | exact (Kd.R_reads' HO714.out).2.2 | (with_reducible refine Kd.C_alloc ?_ _) | (with_reducible refine Kd.C_drewN ?_ _) | (with_reducible refine Kd.C_drew ?_))); (case side2 => exact (Kd.R_reads' HO714.out).2.1); (case side3 => repeat (first | exact (Kd.R_reads' HO717.out).2.2 | (with_reducible refine Kd.C_alloc ?_ _) | (with_reducible refine Kd.C_drewN ?_ _) | (with_reducible refine Kd.C_drew ?_))); (case side4 => exact (Kd.R_reads' HO717.out).2.1); rintro e w' ⟨rfl, ⟨nd, rfl⟩⟩; refine ⟨_, rfl, ?_⟩))
        go_meet
        case rel => exact ⟨_, (true), (by first | rfl | (simp; done) | (simp [*]; done)), H', ⟨by first | omega | exact Nat.le_refl _⟩, ⟨by (with_reducible repeat (first | apply Kd.N_alloc | apply Kd.N_drewN | apply Kd.N_drew)); exact Kd.N_mono HO711.out (fun _ hk => hk.1.2)⟩, ⟨by (with_reducible repeat (first | apply Kd.R_alloc | apply Kd.R_drewN | apply Kd.R_drew)); exact Kd.R_mono HO714.out (fun _ hk => trivial)⟩, ⟨by repeat (first | (with_reducible first | exact HB.out | apply below_alloc | apply pw_below_drewN | apply below_drew1) | exact HB.out)⟩⟩
    case rest =>
      clear HC5
      try clear c1
      try clear c2
      try clear c2b0
      try clear c2b1
      try clear p2
      try clear c3
      try clear c9
      try clear c11
      try clear c17
      obtain ⟨kq, x26_4, rfl, HA, HJ4, HO_3, HO_4, HB⟩ := hcut
      cases kq with
      | zero => exact absurd HA.out (by simp [laws_FnSlackTimes.j0])
      | succ kj4 =>
        have H := HA.out
        clear HA
        simp only [laws_FnSlackTimes.j0] at H
        by_cases c18 : x26_4 = true
        · subst c18
          have H1 : ((spec_SlackTimes.f kj4 t709).bind fun t719 => ((laws_equalInts.f kj4 t712 t719).bind fun t722 => (some t722))) = some r := by rw [if_pos rfl] at H; exact H
          clear H
          have H := H1
          clear H1
          replace H := Option.bind_eq_some_iff.mp H
          obtain ⟨t719, A190, H⟩ := H
          replace H : ((laws_equalInts.f kj4 t712 t719).bind fun t722 => (some t722)) = some r := H
          have A19 := Aside0.mk A190
          clear A190
          replace H := Option.bind_eq_some_iff.mp H
          obtain ⟨t722, A200, H⟩ := H
          replace H : (some t722) = some r := H
          have A20 := Aside0.mk A200
          clear A200
          obtain rfl := Option.some.inj H
          go_wp2_with (first | ((with_reducible refine gate_callee (f := 36) rfl ?_); refine goesL_ (some 29) rfl rfl Tryd.func36 (by kernel_rfl) rfl #[.slice Ao7 t709.length co7] rfl (by (try simp only [List.map_toArray, List.map_cons, List.map_nil]); first | done | rfl | (simp only [List.length_drop, List.length_take]; rfl)) ?_; (with_reducible refine (spec_SlackTimes.calls kj4 _ _ t709 t719 _ ?side1 ?side2 A19.out).mono ?_); (case side1 => repeat (first | exact (Kd.N_reads' HO_3.out).2.2 | (with_reducible refine Kd.C_alloc ?_ _) | (with_reducible refine Kd.C_drewN ?_ _) | (with_reducible refine Kd.C_drew ?_))); (case side2 => exact (Kd.N_reads' HO_3.out).2.1); rintro e w21 ⟨v720, rfl, ho0, hb⟩; refine ⟨_, rfl, ?_⟩; have n0_ := Aside0.mk (Kd.N_elder' (by (with_reducible repeat (first | apply Kd.N_alloc | apply Kd.N_drewN | apply Kd.N_drew)); exact HO_3.out) (Kd.R_base ho0) hb); have n1_ := Aside0.mk (Kd.R_elder' (by (with_reducible repeat (first | apply Kd.R_alloc | apply Kd.R_drewN | apply Kd.R_drew)); exact HO_4.out) (Kd.R_base ho0) hb); have n2_ := Aside0.mk (Kd.R_lower (Kd.R_new' ho0 (Kd.R_lt (by (with_reducible repeat (first | apply Kd.R_alloc | apply Kd.R_drewN | apply Kd.R_drew)); exact HO_4.out))) (below_size (by repeat (first | (with_reducible first | exact HB.out | apply below_alloc | apply pw_below_drewN | apply below_drew1) | exact HB.out)))); have n3_ := Aside0.mk (below_step (by repeat (first | (with_reducible first | exact HB.out | apply below_alloc | apply pw_below_drewN | apply below_drew1) | exact HB.out)) hb); clear HO_3; clear HO_4; clear HB; have HO_3 := n0_; have HO_4 := n1_; have HO721 := n2_; have HB := n3_; clear n0_ n1_ n2_ n3_; (try clear hb); (try clear hb2); (try clear hk); (try clear hi); (try clear ho0); obtain ⟨Ao22, co22, eo22⟩ := Kd.R_slice HO_4.out; subst eo22; obtain ⟨Ao23, co23, eo23⟩ := Kd.R_slice HO721.out; subst eo23) | ((with_reducible refine gate_callee (f := 17) rfl ?_); refine goesL_ (some 30) rfl rfl Tryd.func17 (by kernel_rfl) rfl #[.slice Ao22 t712.length co22, .slice Ao23 t719.length co23] rfl (by (try simp only [List.map_toArray, List.map_cons, List.map_nil]); first | done | rfl | (simp only [List.length_drop, List.length_take]; rfl)) ?_; (with_reducible refine (laws_equalInts.calls kj4 _ _ t712 _ _ t719 t722 _ ?side1 ?side2 ?side3 ?side4 A20.out).mono ?_); (case side1 => repeat (first | exact (Kd.R_reads' HO_4.out).2.2 | (with_reducible refine Kd.C_alloc ?_ _) | (with_reducible refine Kd.C_drewN ?_ _) | (with_reducible refine Kd.C_drew ?_))); (case side2 => exact (Kd.R_reads' HO_4.out).2.1); (case side3 => repeat (first | exact (Kd.R_reads' HO721.out).2.2 | (with_reducible refine Kd.C_alloc ?_ _) | (with_reducible refine Kd.C_drewN ?_ _) | (with_reducible refine Kd.C_drew ?_))); (case side4 => exact (Kd.R_reads' HO721.out).2.1); rintro e w' ⟨rfl, ⟨nd, rfl⟩⟩; refine ⟨_, rfl, ?_⟩))
          go_ret
          exact ⟨by first | rfl | (simp [errW_none, errW_some] <;> rfl) | (simp [*, errW_none, errW_some] <;> rfl), by repeat (first | (with_reducible first | exact HB.out | apply below_alloc | apply pw_below_drewN | apply below_drew1) | exact HB.out)⟩
        · replace c18 := Bool.eq_false_iff.mpr c18
          subst c18
          have H1 : ((impl_LongestTime.f t709).bind fun t723 => (laws_FnSlackTimes.l0 kj4 t709 t712 t723 0)) = some r := by rw [if_neg (show ¬ (false = true) by decide)] at H; exact H
          clear H
          have H := H1
          clear H1
          replace H := Option.bind_eq_some_iff.mp H
          obtain ⟨t723, A240, H⟩ := H
          replace H : (laws_FnSlackTimes.l0 kj4 t709 t712 t723 0) = some r := H
          have A24 := Aside0.mk A240
          clear A240
          have H' := Aside0.mk H
          clear H
          go_wp2_with (first | ((with_reducible refine gate_callee (f := 33) rfl ?_); refine goesL_ (some 32) rfl rfl Tryd.func33 (by kernel_rfl) rfl #[.slice Ao7 t709.length co7] rfl (by (try simp only [List.map_toArray, List.map_cons, List.map_nil]); first | done | rfl | (simp only [List.length_drop, List.length_take]; rfl)) ?_; (with_reducible refine (impl_LongestTime.calls _ _ t709 t723 _ ?side1 ?side2 ?sideT A24.out).mono ?_); (case sideT => exact (HT.out.below (by repeat (first | (with_reducible first | exact HB.out | apply below_alloc | apply pw_below_drewN | apply below_drew1) | exact HB.out)))); (case side1 => repeat (first | exact (Kd.N_reads' HO_3.out).2.2 | (with_reducible refine Kd.C_alloc ?_ _) | (with_reducible refine Kd.C_drewN ?_ _) | (with_reducible refine Kd.C_drew ?_))); (case side2 => exact (Kd.N_reads' HO_3.out).2.1); rintro e w25 ⟨rfl, hb⟩; refine ⟨_, rfl, ?_⟩; have n0_ := Aside0.mk (Kd.N_below (by (with_reducible repeat (first | apply Kd.N_alloc | apply Kd.N_drewN | apply Kd.N_drew)); exact HO_3.out) hb); have n1_ := Aside0.mk (Kd.R_below (by (with_reducible repeat (first | apply Kd.R_alloc | apply Kd.R_drewN | apply Kd.R_drew)); exact HO_4.out) hb); have n2_ := Aside0.mk (below_step (by repeat (first | (with_reducible first | exact HB.out | apply below_alloc | apply pw_below_drewN | apply below_drew1) | exact HB.out)) hb); clear HO_3; clear HO_4; clear HB; have HO_3 := n0_; have HO_4 := n1_; have HB := n2_; clear n0_ n1_ n2_; (try clear hb); (try clear hb2); (try clear hk); (try clear hi)))
          go_loopg [6] kj4 (fun kq v6 w' => ∃ (x3_2 : List (S30)) (x6_2 : Int), v6 = .int .i64 x6_2 ∧ Aside0 (laws_FnSlackTimes.l0 kq x3_2 t712 t723 x6_2 = some r) ∧ Aside0 (kq ≤ kj4) ∧ Aside0 (Kd.N k30 30 w' w.heap.size (fun k_ => some k_ ≠ (v713 : Value).ownBlock) (.slice Ao7 t709.length co7) x3_2) ∧ Aside0 (Kd.R (Kd.int .i64) 3 w' w.heap.size (fun _ => True) v713 t712) ∧ Aside0 (Below w.heap.size w w'))
          case atStart => exact ⟨(t709), (0), (by first | rfl | (simp; done) | (simp [*]; done)), H', ⟨Nat.le_refl _⟩, ⟨by (with_reducible repeat (first | apply Kd.N_alloc | apply Kd.N_drewN | apply Kd.N_drew)); exact HO_3.out⟩, ⟨by (with_reducible repeat (first | apply Kd.R_alloc | apply Kd.R_drewN | apply Kd.R_drew)); exact HO_4.out⟩, ⟨by repeat (first | (with_reducible first | exact HB.out | apply below_alloc | apply pw_below_drewN | apply below_drew1) | exact HB.out)⟩⟩
          case round =>
            clear H'
            try clear c1
            try clear c2
            try clear c2b0
            try clear c2b1
            try clear p2
            try clear c3
            try clear c9
            try clear c11
            try clear c17
            try clear c18
            try clear c19
            try clear p2
            obtain ⟨x3_2, x6_2, rfl, HA, HK2, HO_3, HO_4, HB⟩ := hrel
            have hl3_2 := (Kd.N_reads' HO_3.out).1
            rw [hl3_2] at HO_3
            (try simp only [hl3_2])
            (try simp only [hl3_2] at HO_4)
            cases gk with
            | zero => exact absurd HA.out (by simp [laws_FnSlackTimes.l0])
            | succ k2 =>
              have H := HA.out
              clear HA
              simp only [laws_FnSlackTimes.l0] at H
              by_cases c26 : x6_2 < (x3_2.length : Int)
              · rw [if_pos c26] at H
                have c26b0 : decide (x6_2 < (x3_2.length : Int)) = true := decide_eq_true c26
                clear c26
                obtain ⟨y724, hy724⟩ : ∃ y_ : List (S30), y_ = (([] : List (S30))) := ⟨_, rfl⟩
                replace H : (if y724.length + x3_2.length < 2932031007402 then ((some (y724 ++ x3_2 : List (S30))).bind fun y727 => (if 0 ≤ x6_2 then (if x6_2 < (y727.length : Int) then (if x6_2 < (t712.length : Int) then ((some (y727.set (x6_2 : Int).toNat (⟨wrap64 (((rd_T30 y727 x6_2).f0) + (rd t712 x6_2)), (rd_T30 y727 x6_2).f1, (rd_T30 y727 x6_2).f2, (rd_T30 y727 x6_2).f3⟩ : S30) : List (S30))).bind fun y732 => (if (rd t712 x6_2) < 0 then (some false) else ((impl_ValidGraph.f y732).bind fun t734 => (if t734 = true then ((impl_LongestTime.f y732).bind fun t735 => (if t735 = t723 then (laws_FnSlackTimes.l0 k2 x3_2 t712 t723 (wrap64 (x6_2 + 1))) else (some false))) else (laws_FnSlackTimes.l0 k2 x3_2 t712 t723 (wrap64 (x6_2 + 1))))))) else (none)) else (none)) else (none))) else (none)) = some r := by first | (rw [hy724]; with_reducible exact H) | (have H2_ := (Option.bind_some _ _).symm.trans H; rw [hy724]; with_reducible exact H2_) | (have H2_ := (Option.bind_some _ _).symm.trans H; with_reducible exact H2_) | with_reducible exact H | (rw [hy724]; exact H) | exact H
                have Ny724 := Aside0.mk hy724
                clear hy724
                by_cases c27 : y724.length + x3_2.length < 2932031007402
                · rw [if_pos c27] at H
                  have LMc27 := Aside0.mk c27
                  clear c27
                  obtain ⟨y727, hy727⟩ : ∃ y_ : List (S30), y_ = (y724 ++ x3_2) := ⟨_, rfl⟩
                  replace H : (if 0 ≤ x6_2 then (if x6_2 < (y727.length : Int) then (if x6_2 < (t712.length : Int) then ((some (y727.set (x6_2 : Int).toNat (⟨wrap64 (((rd_T30 y727 x6_2).f0) + (rd t712 x6_2)), (rd_T30 y727 x6_2).f1, (rd_T30 y727 x6_2).f2, (rd_T30 y727 x6_2).f3⟩ : S30) : List (S30))).bind fun y732 => (if (rd t712 x6_2) < 0 then (some false) else ((impl_ValidGraph.f y732).bind fun t734 => (if t734 = true then ((impl_LongestTime.f y732).bind fun t735 => (if t735 = t723 then (laws_FnSlackTimes.l0 k2 x3_2 t712 t723 (wrap64 (x6_2 + 1))) else (some false))) else (laws_FnSlackTimes.l0 k2 x3_2 t712 t723 (wrap64 (x6_2 + 1))))))) else (none)) else (none)) else (none)) = some r := by first | (rw [hy727]; with_reducible exact H) | (have H2_ := (Option.bind_some _ _).symm.trans H; rw [hy727]; with_reducible exact H2_) | (have H2_ := (Option.bind_some _ _).symm.trans H; with_reducible exact H2_) | with_reducible exact H | (rw [hy727]; exact H) | exact H
                  have Ny727 := Aside0.mk hy727
                  clear hy727
                  by_cases c28 : 0 ≤ x6_2
                  · rw [if_pos c28] at H
                    have c28b0 : decide (0 ≤ x6_2) = true := decide_eq_true c28
                    clear c28
                    by_cases c29 : x6_2 < (y727.length : Int)
                    · rw [if_pos c29] at H
                      have c29b0 : decide (x6_2 < (y727.length : Int)) = true := decide_eq_true c29
                      clear c29
                      by_cases c30 : x6_2 < (t712.length : Int)
                      · rw [if_pos c30] at H
                        have c30b0 : decide (x6_2 < (t712.length : Int)) = true := decide_eq_true c30
                        clear c30
                        obtain ⟨y732, hy732⟩ : ∃ y_ : List (S30), y_ = (y727.set (x6_2 : Int).toNat (⟨wrap64 (((rd_T30 y727 x6_2).f0) + (rd t712 x6_2)), (rd_T30 y727 x6_2).f1, (rd_T30 y727 x6_2).f2, (rd_T30 y727 x6_2).f3⟩ : S30)) := ⟨_, rfl⟩
                        replace H : (if (rd t712 x6_2) < 0 then (some false) else ((impl_ValidGraph.f y732).bind fun t734 => (if t734 = true then ((impl_LongestTime.f y732).bind fun t735 => (if t735 = t723 then (laws_FnSlackTimes.l0 k2 x3_2 t712 t723 (wrap64 (x6_2 + 1))) else (some false))) else (laws_FnSlackTimes.l0 k2 x3_2 t712 t723 (wrap64 (x6_2 + 1)))))) = some r := by first | (rw [hy732]; with_reducible exact H) | (have H2_ := (Option.bind_some _ _).symm.trans H; rw [hy732]; with_reducible exact H2_) | (have H2_ := (Option.bind_some _ _).symm.trans H; with_reducible exact H2_) | with_reducible exact H | (rw [hy732]; exact H) | exact H
                        have Ny732 := Aside0.mk hy732
                        clear hy732
                        by_cases c32 : (rd t712 x6_2) < 0
                        · rw [if_pos c32] at H
                          have c32b0 : decide ((rd t712 x6_2) < 0) = true := decide_eq_true c32
                          clear c32
                          obtain rfl := Option.some.inj H
                          try go_wp2_with (first | ((with_reducible refine gate_dst (N := 39) rfl ?_); (try (refine gate_guard (by rfl) ?_; dsimp only)); refine Kd.N_lit k30 _ 30 ?hg (N' := 39) ?hd (xs := ([] : List (S30))) (inner := []) (ok := (fun k_ => some k_ ≠ (.slice Ao7 x3_2.length co7 : Value).ownBlock ∧ some k_ ≠ (v713 : Value).ownBlock)) (okp := (fun k_ => some k_ ≠ (.slice Ao7 x3_2.length co7 : Value).ownBlock ∧ some k_ ≠ (v713 : Value).ownBlock)) ?hr ?hp (fun _ hk => hk) ((show ∀ k_, wr.heap.size ≤ k_ → (fun k_ => some k_ ≠ (.slice Ao7 x3_2.length co7 : Value).ownBlock ∧ some k_ ≠ (v713 : Value).ownBlock) k_ from fun k_ hk => ⟨Kd.fresh' (Kd.N_lt (by (with_reducible repeat (first | apply Kd.N_alloc | apply Kd.N_drewN | apply Kd.N_drew)); exact HO_3.out)) k_ hk, Kd.fresh' (Kd.R_lt (by (with_reducible repeat (first | apply Kd.R_alloc | apply Kd.R_drewN | apply Kd.R_drew)); exact HO_4.out)) k_ hk⟩) _ (Nat.le_refl _)) (Below.refl _ _) (Nat.le_refl _) (by simp) ?_; (case hd => rfl); (case hg => rfl); (case hr => first | (go_simp; done) | (go_simp; rfl)); (case hp => exact (Reps.none _ _)); intro v725 w33 ho34 hb hg_ hnew_; clear hg_ hnew_; (first | rw [← Ny724.out] at ho34 | (simp only [Int.reduceToNat] at ho34; rw [← Ny724.out] at ho34)); have n0_ := Aside0.mk (Kd.N_elder' (by (with_reducible repeat (first | apply Kd.N_alloc | apply Kd.N_drewN | apply Kd.N_drew)); exact HO_3.out) (Kd.N_base ho34) hb); have n1_ := Aside0.mk (Kd.R_below (by (with_reducible repeat (first | apply Kd.R_alloc | apply Kd.R_drewN | apply Kd.R_drew)); exact HO_4.out) hb); have n2_ := Aside0.mk (Kd.N_lower ho34 (below_size (by repeat (first | (with_reducible first | exact HB.out | apply below_alloc | apply pw_below_drewN | apply below_drew1) | exact HB.out)))); have n3_ := Aside0.mk (below_step (by repeat (first | (with_reducible first | exact HB.out | apply below_alloc | apply pw_below_drewN | apply below_drew1) | exact HB.out)) hb); clear HO_3; clear HO_4; clear HB; have HO_3 := n0_; have HO_4 := n1_; have HO726 := n2_; have HB := n3_; clear n0_ n1_ n2_ n3_; clear hb ho34) | ((with_reducible refine gate_builtin (b := .append) (xs := #[.tmp 39, .tmp 40]) rfl ?_); (try (refine gate_guard (by rfl) ?_; dsimp only)); at_builtin; refine Kd.N_append_rows k30 (w0 := w) w.heap.size rfl (.tmp 39) (.tmp 40) 23 30 (.agg #[(.int .i64 0), (.slice none 0 0), (.int .i64 0), (.int .i64 0)]) 48 rfl Tryd.underlying23 info30 rfl (by decide) (by omega) v725 y724 x3_2 _ _ _ (fun k_ => some k_ ≠ (v713 : Value).ownBlock) (fun k_ => ((fun k_ => some k_ ≠ (v713 : Value).ownBlock)) k_ ∧ some k_ ≠ (v725 : Value).ownBlock) rfl rfl ?aO ?aR (fun _ hk => hk) ?aF ?aB ?aS ?aL ?_; (case aR => exact (by skip; exact Kd.N_F (Kd.N_mono (ok' := (fun k_ => ((fun k_ => some k_ ≠ (v713 : Value).ownBlock)) k_ ∧ some k_ ≠ (v725 : Value).ownBlock)) (HO_3.out) (fun k_ hk => ⟨hk.1, hk.2⟩)))); (case aB => exact (by repeat (first | (with_reducible first | exact HB.out | apply below_alloc | apply pw_below_drewN | apply below_drew1) | exact HB.out))); (case aF => exact (fun k_ hk => Kd.fresh' (Kd.R_lt (by (with_reducible repeat (first | apply Kd.R_alloc | apply Kd.R_drewN | apply Kd.R_drew)); exact HO_4.out)) k_ hk)); (case aO => exact (by (with_reducible repeat (first | apply Kd.N_alloc | apply Kd.N_drewN | apply Kd.N_drew)); exact Kd.N_mono HO726.out (fun _ hk => hk.2))); (case aS => exact (below_size (by repeat (first | (with_reducible first | exact HB.out | apply below_alloc | apply pw_below_drewN | apply below_drew1) | exact HB.out)))); (case aL => have := LMc27.out; omega); intro v728 w35 ho hb hg hat; rw [← Ny727.out] at ho; have n0_ := Aside0.mk (Kd.N_afterv (ok := (fun k_ => some k_ ≠ (v713 : Value).ownBlock)) (by (with_reducible repeat (first | apply Kd.N_alloc | apply Kd.N_drewN | apply Kd.N_drew)); exact HO_3.out) hg hat); have n1_ := Aside0.mk (Kd.R_over' (by (with_reducible repeat (first | apply Kd.R_alloc | apply Kd.R_drewN | apply Kd.R_drew)); exact HO_4.out) (Kd.N_typed (by (with_reducible repeat (first | apply Kd.N_alloc | apply Kd.N_drewN | apply Kd.N_drew)); exact HO726.out)) (by decide) hg); have n2_ := Aside0.mk (hb); have n3_ := Aside0.mk (ho); clear HO_3; clear HO_4; clear HB; clear HO726; have HO_3 := n0_; have HO_4 := n1_; have HB := n2_; have HO729 := n3_; clear n0_ n1_ n2_ n3_; clear ho hb hg hat))
                          have n0_ := Aside0.mk (Kd.N_drew HO_3.out)
                          have n1_ := Aside0.mk (Kd.R_drew HO_4.out)
                          have n2_ := Aside0.mk (Kd.N_drew HO729.out)
                          have n3_ := Aside0.mk (below_drew1 HB.out)
                          clear HO_3
                          clear HO_4
                          clear HO729
                          clear HB
                          have HO_3 := n0_
                          have HO_4 := n1_
                          have HO729 := n2_
                          have HB := n3_
                          clear n0_ n1_ n2_ n3_
                          obtain ⟨Ao37, co37, eo37⟩ := Kd.N_slice HO729.out
                          (first | subst eo37 | (injection eo37 with f1_ f2_ f3_; have f4_ := f1_.symm; have f5_ := f3_.symm; clear f1_ f2_ f3_; subst f4_; subst f5_))
                          have p730 : 0 ≤ (x6_2 : Int) := of_decide_eq_true (by first | (with_reducible assumption) | assumption)
                          have q730 : x6_2 < (y727.length : Int) := of_decide_eq_true (by first | (with_reducible assumption) | assumption)
                          obtain ⟨ad730, A730_1, c730_1, e730, hx730_0, hx730_1, hx730_2, hx730_3, hl730_1, hi730_1⟩ := at_T30 (Kd.N_reads' HO729.out).2.2 x6_2 p730 q730
                          cases e730
                          obtain ⟨ce730, hce730, hMe730, hcc730⟩ := Kd.N_get HO729.out z30 x6_2 p730 (by first | exact q730 | exact of_decide_eq_true (by first | (with_reducible assumption) | assumption) | (have e_ := (Kd.N_reads' HO729.out).1; omega))
                          obtain ⟨ua730_1, uc730_1, rfl, ul730_1, ge730_1⟩ := k30_openF hMe730
                          have hv730_1 := hcc730 1 _ rfl
                          rw [add_field _ _ 1 (by omega)] at hv730_1
                          replace hv730_1 := Option.some.inj (hv730_1.symm.trans hx730_1)
                          injection hv730_1 with hva_ hvn_ hvc_
                          rw [hva_] at ge730_1
                          rw [hvc_] at ul730_1
                          have HL730_1 := Aside0.mk (show Kd.V (Kd.int .i64) 3 _ w.heap.size _ _ ((rd_T30 y727 x6_2).f1) from Kd.V_mk ul730_1 ge730_1)
                          clear hva_ hvn_ hvc_ ge730_1 ul730_1
                          clear hcc730 hce730
                          have HR730_1 := Aside0.mk hi730_1
                          have HC730_1 := Aside0.mk hl730_1
                          clear hi730_1 hl730_1
                          replace p730 := eq_true p730
                          replace q730 := eq_true q730
                          obtain ⟨Ao38, co38, eo38⟩ := Kd.R_slice HO_4.out
                          (first | subst eo38 | (injection eo38 with f1_ f2_ f3_; have f4_ := f1_.symm; have f5_ := f3_.symm; clear f1_ f2_ f3_; subst f4_; subst f5_))
                          have p731 : 0 ≤ (x6_2 : Int) := of_decide_eq_true (by first | (with_reducible assumption) | assumption)
                          have q731 : x6_2 < (t712.length : Int) := of_decide_eq_true (by first | (with_reducible assumption) | assumption)
                          obtain ⟨ad731, e731, hx731_0⟩ := Kd.at_int (Kd.R_reads' HO_4.out).2.2 x6_2 p731 q731
                          cases e731
                          replace p731 := eq_true p731
                          replace q731 := eq_true q731
                          have p31 : 0 ≤ (x6_2 : Int) := of_decide_eq_true (by first | (with_reducible assumption) | assumption)
                          have q31 : (x6_2 : Int) < ((y727.length : Int) : Int) := of_decide_eq_true (by first | (with_reducible assumption) | assumption)
                          obtain ⟨go31, co31, eo31, gb31, gl31, cl31, HG31⟩ := Kd.N_form HO729.out (by omega)
                          (first | cases eo31 | (injection eo31 with ea_ en_ ec_; (first | subst ea_ | (injection ea_ with ea_; subst ea_)); subst ec_; clear en_))
                          have GB31 := Aside0.mk gb31
                          have GG31 := Aside0.mk HG31
                          clear gb31 gl31 HG31
                          (first | simp only [add_plain] at hx730_0 | skip)
                          (first | simp only [add_plain] at hx730_1 | skip)
                          (first | simp only [add_plain] at hx730_2 | skip)
                          (first | simp only [add_plain] at hx730_3 | skip)
                          obtain ⟨ce31, hcl31, hM31, hcc31, hfr31⟩ := Kd.N_elem HO729.out z30 (x6_2 : Int) p31 q31
                          obtain ⟨ua31_1, uc31_1, rfl, ul31_1, ge31_1⟩ := k30_openF hM31
                          have hx31_0 : World.cell? _ ⟨go31, (x6_2 : Int).toNat * 4, none⟩ = some (.int .i64 ((rd_T30 y727 x6_2).f0)) := hcc31 0 _ rfl
                          have hx31_1 : World.cell? _ ⟨go31, (x6_2 : Int).toNat * 4 + 1, none⟩ = some (.slice ua31_1 ((rd_T30 y727 x6_2).f1).length uc31_1) := hcc31 1 _ rfl
                          have hx31_2 : World.cell? _ ⟨go31, (x6_2 : Int).toNat * 4 + 2, none⟩ = some (.int .i64 ((rd_T30 y727 x6_2).f2)) := hcc31 2 _ rfl
                          have hx31_3 : World.cell? _ ⟨go31, (x6_2 : Int).toNat * 4 + 3, none⟩ = some (.int .i64 ((rd_T30 y727 x6_2).f3)) := hcc31 3 _ rfl
                          have hf31_0 : World.frozen? _ ⟨go31, (x6_2 : Int).toNat * 4, none⟩ = false := hfr31 0
                          have hf31_1 : World.frozen? _ ⟨go31, (x6_2 : Int).toNat * 4 + 1, none⟩ = false := hfr31 1
                          have hf31_2 : World.frozen? _ ⟨go31, (x6_2 : Int).toNat * 4 + 2, none⟩ = false := hfr31 2
                          have hf31_3 : World.frozen? _ ⟨go31, (x6_2 : Int).toNat * 4 + 3, none⟩ = false := hfr31 3
                          clear hcl31 hcc31 hfr31 hM31
                          replace p31 := eq_true p31
                          replace q31 := eq_true q31
                          have HX39 := Aside0.mk (show Kd.N k30 30 _ w.heap.size (fun k_ => some k_ ≠ (.slice (some ad731) t712.length co38 : Value).ownBlock) (.slice (some ⟨go31, 0, none⟩) y727.length co37) y727 from (Kd.N_mono (HO729.out) (fun k_ hk => hk)))
                          obtain ⟨ce39, hcl39, hM39, hcc39, hfr39⟩ := Kd.N_elem HX39.out z30 (x6_2 : Int) (of_decide_eq_true (by first | (with_reducible assumption) | assumption)) (by have h_ : (x6_2 : Int) < ((y727.length : Int) : Int) := of_decide_eq_true (by first | (with_reducible assumption) | assumption); first | exact h_ | (have e_ := (Kd.N_reads' HO729.out).1; omega) | simpa using h_)
                          obtain ⟨ua39_1, uc39_1, rfl, ul39_1, ge39_1⟩ := k30_openF hM39
                          have HP39 := (Kd.N_seg HX39.out (x6_2 : Int) (of_decide_eq_true (by first | (with_reducible assumption) | assumption)) (by have h_ : (x6_2 : Int) < ((y727.length : Int) : Int) := of_decide_eq_true (by first | (with_reducible assumption) | assumption); first | exact h_ | (have e_ := (Kd.N_reads' HO729.out).1; omega) | simpa using h_) (seg := [.int .i64 (wrap64 (((rd_T30 y727 x6_2).f0) + (rd t712 x6_2)))]) (j := 0) hcl39 hcc39 (show 1 ≤ 4 from by decide) (x' := (⟨wrap64 (((rd_T30 y727 x6_2).f0) + (rd t712 x6_2)), (rd_T30 y727 x6_2).f1, (rd_T30 y727 x6_2).f2, (rd_T30 y727 x6_2).f3⟩ : S30)) (k30_mkF _ _ (⟨wrap64 (((rd_T30 y727 x6_2).f0) + (rd t712 x6_2)), (rd_T30 y727 x6_2).f1, (rd_T30 y727 x6_2).f2, (rd_T30 y727 x6_2).f3⟩ : S30) ul39_1 ge39_1) (fun _ hk => hk)).1
                          rw [← Ny732.out] at HP39
                          have HQ39 := Aside0.mk HP39
                          clear hcl39 hcc39 hfr39 hM39 HP39
                          refine start_ (n := 15) (S := fun w' => w'.cell? ⟨go31, ((x6_2).toNat * 4), none⟩ = some (.int .i64 ((rd_T30 y727 x6_2).f0)) ∧ w'.cell? ⟨go31, ((x6_2).toNat * 4) + 1, none⟩ = some (.slice A730_1 ((rd_T30 y727 x6_2).f1).length c730_1) ∧ w'.cell? ⟨go31, ((x6_2).toNat * 4) + 2, none⟩ = some (.int .i64 ((rd_T30 y727 x6_2).f2)) ∧ w'.cell? ⟨go31, ((x6_2).toNat * 4) + 3, none⟩ = some (.int .i64 ((rd_T30 y727 x6_2).f3)) ∧ w'.cell? (ad731.add (x6_2).toNat) = some (.int .i64 (rd t712 x6_2))) (ds := [14]) #[false, false, false, false, false, false, false, false, false, false, false, false, false, false, false] (by kernel_rfl) rfl rfl ⟨hx730_0, hx730_1, hx730_2, hx730_3, hx731_0⟩ (fun hHeld => ?_); refine with_tabW laws_FnSlackTimes.tab12 laws_FnSlackTimes.bits12 (fun HT_ HW_ => ?_)
                          generalize w35.drew = w36 at HO_3 HO_4 HO729 HB GG31 HL730_1 HQ39 HR730_1 hf31_0 hf31_1 hf31_2 hf31_3 hx31_0 hx31_1 hx31_2 hx31_3 hx730_0 hx730_1 hx730_2 hx730_3 hx731_0 hHeld ⊢
                          refine pure_ (i := 0) (N := some 42) (v := ?_) (a' := ?_) #[true, false, false, false, false, false, false, false, false, false, false, false, false, false, false] rfl rfl (any_of HT_.out (by kernel_rfl)) (fun _ _ _ h => h) (Or.inl ⟨by rfl, ?_⟩) ?_ ?_
                          rotate_left
                          · intro w'
                            go_simp
                            with_reducible rfl
                          rotate_left
                          · simp only [Act.put, List.setIfInBounds_toArray, List.set_cons_zero, List.set_cons_succ, i64_w, i32_w]
                            rfl
                          refine pure_ (i := 1) (N := some 43) (v := ?_) (a' := ?_) #[true, true, false, false, false, false, false, false, false, false, false, false, false, false, false] rfl rfl (any_of HT_.out (by kernel_rfl)) (fun _ _ _ h => h) (Or.inl ⟨by rfl, ?_⟩) ?_ ?_
                          rotate_left
                          · intro w'
                            go_simp
                            with_reducible rfl
                          rotate_left
                          · simp only [Act.put, List.setIfInBounds_toArray, List.set_cons_zero, List.set_cons_succ, i64_w, i32_w]
                            rfl
                          refine pure_ (i := 2) (N := some 44) (v := ?_) (a' := ?_) #[true, true, true, false, false, false, false, false, false, false, false, false, false, false, false] rfl rfl (any_of HT_.out (by kernel_rfl)) (fun _ _ _ h => h) (Or.inl ⟨by rfl, ?_⟩) ?_ ?_
                          rotate_left
                          · intro w'
                            go_simp
                            with_reducible rfl
                          rotate_left
                          · simp only [Act.put, List.setIfInBounds_toArray, List.set_cons_zero, List.set_cons_succ, i64_w, i32_w]
                            rfl
                          refine pure_ (i := 3) (N := some 45) (v := ?_) (a' := ?_) #[true, true, true, true, false, false, false, false, false, false, false, false, false, false, false] rfl rfl (any_of HT_.out (by kernel_rfl)) (fun _ _ _ h => h) (Or.inl ⟨by rfl, ?_⟩) ?_ ?_
                          rotate_left
                          · intro w'
                            go_simp
                            with_reducible rfl
                          rotate_left
                          · simp only [Act.put, List.setIfInBounds_toArray, List.set_cons_zero, List.set_cons_succ, i64_w, i32_w]
                            rfl
                          refine pure_ (i := 4) (N := some 46) (v := ?_) (a' := ?_) #[true, true, true, true, true, false, false, false, false, false, false, false, false, false, false] rfl rfl (any_of HT_.out (by kernel_rfl)) (fun _ _ _ h => h) (Or.inl ⟨by rfl, ?_⟩) ?_ ?_
                          rotate_left
                          · intro w'
                            go_simp
                            with_reducible rfl
                          rotate_left
                          · simp only [Act.put, List.setIfInBounds_toArray, List.set_cons_zero, List.set_cons_succ, i64_w, i32_w]
                            rfl
                          refine pure_ (i := 5) (N := some 47) (v := ?_) (a' := ?_) #[true, true, true, true, true, true, false, false, false, false, false, false, false, false, false] rfl rfl (any_of HT_.out (by kernel_rfl)) (fun _ _ _ h => h) (Or.inl ⟨by rfl, ?_⟩) ?_ ?_
                          rotate_left
                          · intro w'
                            go_simp
                            with_reducible rfl
                          rotate_left
                          · simp only [Act.put, List.setIfInBounds_toArray, List.set_cons_zero, List.set_cons_succ, i64_w, i32_w]
                            rfl
                          refine pure_ (i := 7) (N := some 49) (v := ?_) (a' := ?_) #[true, true, true, true, true, true, false, true, false, false, false, false, false, false, false] rfl rfl (any_of HT_.out (by kernel_rfl)) (fun _ _ _ h => h) (Or.inl ⟨by rfl, ?_⟩) ?_ ?_
                          rotate_left
                          · intro w'
                            go_simp
                            with_reducible rfl
                          rotate_left
                          · simp only [Act.put, List.setIfInBounds_toArray, List.set_cons_zero, List.set_cons_succ, i64_w, i32_w]
                            rfl
                          refine pure_ (i := 8) (N := some 50) (v := ?_) (a' := ?_) #[true, true, true, true, true, true, false, true, true, false, false, false, false, false, false] rfl rfl (any_of HT_.out (by kernel_rfl)) (fun _ _ _ h => h) (Or.inl ⟨by rfl, ?_⟩) ?_ ?_
                          rotate_left
                          · intro w'
                            go_simp
                            with_reducible rfl
                          rotate_left
                          · simp only [Act.put, List.setIfInBounds_toArray, List.set_cons_zero, List.set_cons_succ, i64_w, i32_w]
                            rfl
                          refine pure_ (i := 9) (N := some 51) (v := ?_) (a' := ?_) #[true, true, true, true, true, true, false, true, true, true, false, false, false, false, false] rfl rfl (any_of HT_.out (by kernel_rfl)) (fun _ _ _ h => h) (Or.inl ⟨by rfl, ?_⟩) ?_ ?_
                          rotate_left
                          · intro w'
                            go_simp
                            with_reducible rfl
                          rotate_left
                          · simp only [Act.put, List.setIfInBounds_toArray, List.set_cons_zero, List.set_cons_succ, i64_w, i32_w]
                            rfl
                          refine take_ (i := 6) (N := some 48) (v := ?_) (a' := ?_) #[true, true, true, true, true, true, true, true, true, true, false, false, false, false, false] rfl rfl (take_ofW HT_.out HW_.out (by kernel_rfl)) (fun _ _ _ h => h) (Or.inl ⟨by rfl, ?_⟩) hHeld ?_ ?_
                          rotate_left
                          · rintro w' ⟨s0, s1, s2, s3, s4⟩
                            go_simp
                            with_reducible rfl
                          rotate_left
                          · simp only [Act.put, List.setIfInBounds_toArray, List.set_cons_zero, List.set_cons_succ, i64_w, i32_w]
                            rfl
                          refine take_ (i := 10) (N := some 52) (v := ?_) (a' := ?_) #[true, true, true, true, true, true, true, true, true, true, true, false, false, false, false] rfl rfl (take_ofW HT_.out HW_.out (by kernel_rfl)) (fun _ _ _ h => h) (Or.inl ⟨by rfl, ?_⟩) hHeld ?_ ?_
                          rotate_left
                          · rintro w' ⟨s0, s1, s2, s3, s4⟩
                            go_simp
                            with_reducible rfl
                          rotate_left
                          · simp only [Act.put, List.setIfInBounds_toArray, List.set_cons_zero, List.set_cons_succ, i64_w, i32_w]
                            rfl
                          refine pure_ (i := 11) (N := some 53) (v := ?_) (a' := ?_) #[true, true, true, true, true, true, true, true, true, true, true, true, false, false, false] rfl rfl (any_of HT_.out (by kernel_rfl)) (fun _ _ _ h => h) (Or.inl ⟨by rfl, ?_⟩) ?_ ?_
                          rotate_left
                          · intro w'
                            go_simp
                            with_reducible rfl
                          rotate_left
                          · simp only [Act.put, List.setIfInBounds_toArray, List.set_cons_zero, List.set_cons_succ, i64_w, i32_w]
                            rfl
                          refine pure_ (i := 12) (N := some 54) (v := ?_) (a' := ?_) #[true, true, true, true, true, true, true, true, true, true, true, true, true, false, false] rfl rfl (any_of HT_.out (by kernel_rfl)) (fun _ _ _ h => h) (Or.inl ⟨by rfl, ?_⟩) ?_ ?_
                          rotate_left
                          · intro w'
                            go_simp
                            with_reducible rfl
                          rotate_left
                          · simp only [Act.put, List.setIfInBounds_toArray, List.set_cons_zero, List.set_cons_succ, i64_w, i32_w]
                            rfl
                          refine pure_ (i := 13) (N := some 55) (v := ?_) (a' := ?_) #[true, true, true, true, true, true, true, true, true, true, true, true, true, true, false] rfl rfl (any_of HT_.out (by kernel_rfl)) (fun _ _ _ h => h) (Or.inl ⟨by rfl, ?_⟩) ?_ ?_
                          rotate_left
                          · intro w'
                            go_simp
                            with_reducible rfl
                          rotate_left
                          · simp only [Act.put, List.setIfInBounds_toArray, List.set_cons_zero, List.set_cons_succ, i64_w, i32_w]
                            rfl
                          refine last_ (i := 14) (N := none) #[true, true, true, true, true, true, true, true, true, true, true, true, true, true, true] rfl rfl (one_of HT_.out (by kernel_rfl)) (by decide) (fun K hK => ?_)
                          refine skip_ (w1 := ?_) (by rfl) rfl ?_ ?_
                          rotate_left
                          · go_simp
                            rfl
                          refine hK.out _ _ ?_
                          clear hK K
                          refine done_ (done_of HT_.out (by kernel_rfl)) ?_
                          have p733 : 0 ≤ (x6_2 : Int) := of_decide_eq_true (by first | (with_reducible assumption) | assumption)
                          have q733 : x6_2 < (t712.length : Int) := of_decide_eq_true (by first | (with_reducible assumption) | assumption)
                          obtain ⟨ad733, e733, hx733_0⟩ := Kd.at_int (Kd.R_reads' (Kd.R_far (p := ⟨go31, (x6_2 : Int).toNat * 4, none⟩) (Kd.R_types HO_4.out GG31.out (by decide)) (fun _ hk => hk.2) (.int .i64 (wrap64 (((rd_T30 y727 x6_2).f0) + (rd t712 x6_2)))))).2.2 x6_2 p733 q733
                          obtain rfl : ad731 = ad733 := (by injection e733)
                          replace p733 := eq_true p733
                          replace q733 := eq_true q733
                          try go_wp2
                          go_ret
                          exact ⟨by first | rfl | (simp [errW_none, errW_some] <;> rfl) | (simp [*, errW_none, errW_some] <;> rfl), by repeat (first | (with_reducible first | exact HB.out | apply below_alloc | apply pw_below_drewN | apply below_drew1 | refine below_set ?_ GB31.out) | exact HB.out)⟩
                        · rw [if_neg c32] at H
                          have c32b0 : decide ((rd t712 x6_2) < 0) = false := decide_eq_false c32
                          clear c32
                          replace H := Option.bind_eq_some_iff.mp H
                          obtain ⟨t734, A400, H⟩ := H
                          replace H : (if t734 = true then ((impl_LongestTime.f y732).bind fun t735 => (if t735 = t723 then (laws_FnSlackTimes.l0 k2 x3_2 t712 t723 (wrap64 (x6_2 + 1))) else (some false))) else (laws_FnSlackTimes.l0 k2 x3_2 t712 t723 (wrap64 (x6_2 + 1)))) = some r := H
                          have A40 := Aside0.mk A400
                          clear A400
                          by_cases c41 : t734 = true
                          · subst c41
                            have H1 : ((impl_LongestTime.f y732).bind fun t735 => (if t735 = t723 then (laws_FnSlackTimes.l0 k2 x3_2 t712 t723 (wrap64 (x6_2 + 1))) else (some false))) = some r := by rw [if_pos rfl] at H; exact H
                            clear H
                            have H := H1
                            clear H1
                            replace H := Option.bind_eq_some_iff.mp H
                            obtain ⟨t735, A420, H⟩ := H
                            replace H : (if t735 = t723 then (laws_FnSlackTimes.l0 k2 x3_2 t712 t723 (wrap64 (x6_2 + 1))) else (some false)) = some r := H
                            have A42 := Aside0.mk A420
                            clear A420
                            by_cases c43 : t735 = t723
                            · rw [if_pos c43] at H
                              have c43b0 : (t735 == t723) = true := beq_iff_eq.mpr c43
                              have c43b1 : (t735 != t723) = false := bne_eq_false_iff_eq.mpr c43
                              clear c43
                              have H' := Aside0.mk H
                              clear H
                              try go_wp2_with (first | ((with_reducible refine gate_dst (N := 39) rfl ?_); (try (refine gate_guard (by rfl) ?_; dsimp only)); refine Kd.N_lit k30 _ 30 ?hg (N' := 39) ?hd (xs := ([] : List (S30))) (inner := []) (ok := (fun k_ => some k_ ≠ (.slice Ao7 x3_2.length co7 : Value).ownBlock ∧ some k_ ≠ (v713 : Value).ownBlock)) (okp := (fun k_ => some k_ ≠ (.slice Ao7 x3_2.length co7 : Value).ownBlock ∧ some k_ ≠ (v713 : Value).ownBlock)) ?hr ?hp (fun _ hk => hk) ((show ∀ k_, wr.heap.size ≤ k_ → (fun k_ => some k_ ≠ (.slice Ao7 x3_2.length co7 : Value).ownBlock ∧ some k_ ≠ (v713 : Value).ownBlock) k_ from fun k_ hk => ⟨Kd.fresh' (Kd.N_lt (by (with_reducible repeat (first | apply Kd.N_alloc | apply Kd.N_drewN | apply Kd.N_drew)); exact HO_3.out)) k_ hk, Kd.fresh' (Kd.R_lt (by (with_reducible repeat (first | apply Kd.R_alloc | apply Kd.R_drewN | apply Kd.R_drew)); exact HO_4.out)) k_ hk⟩) _ (Nat.le_refl _)) (Below.refl _ _) (Nat.le_refl _) (by simp) ?_; (case hd => rfl); (case hg => rfl); (case hr => first | (go_simp; done) | (go_simp; rfl)); (case hp => exact (Reps.none _ _)); intro v725 w44 ho45 hb hg_ hnew_; clear hg_ hnew_; (first | rw [← Ny724.out] at ho45 | (simp only [Int.reduceToNat] at ho45; rw [← Ny724.out] at ho45)); have n0_ := Aside0.mk (Kd.N_elder' (by (with_reducible repeat (first | apply Kd.N_alloc | apply Kd.N_drewN | apply Kd.N_drew)); exact HO_3.out) (Kd.N_base ho45) hb); have n1_ := Aside0.mk (Kd.R_below (by (with_reducible repeat (first | apply Kd.R_alloc | apply Kd.R_drewN | apply Kd.R_drew)); exact HO_4.out) hb); have n2_ := Aside0.mk (Kd.N_lower ho45 (below_size (by repeat (first | (with_reducible first | exact HB.out | apply below_alloc | apply pw_below_drewN | apply below_drew1) | exact HB.out)))); have n3_ := Aside0.mk (below_step (by repeat (first | (with_reducible first | exact HB.out | apply below_alloc | apply pw_below_drewN | apply below_drew1) | exact HB.out)) hb); clear HO_3; clear HO_4; clear HB; have HO_3 := n0_; have HO_4 := n1_; have HO726 := n2_; have HB := n3_; clear n0_ n1_ n2_ n3_; clear hb ho45) | ((with_reducible refine gate_builtin (b := .append) (xs := #[.tmp 39, .tmp 40]) rfl ?_); (try (refine gate_guard (by rfl) ?_; dsimp only)); at_builtin; refine Kd.N_append_rows k30 (w0 := w) w.heap.size rfl (.tmp 39) (.tmp 40) 23 30 (.agg #[(.int .i64 0), (.slice none 0 0), (.int .i64 0), (.int .i64 0)]) 48 rfl Tryd.underlying23 info30 rfl (by decide) (by omega) v725 y724 x3_2 _ _ _ (fun k_ => some k_ ≠ (v713 : Value).ownBlock) (fun k_ => ((fun k_ => some k_ ≠ (v713 : Value).ownBlock)) k_ ∧ some k_ ≠ (v725 : Value).ownBlock) rfl rfl ?aO ?aR (fun _ hk => hk) ?aF ?aB ?aS ?aL ?_; (case aR => exact (by skip; exact Kd.N_F (Kd.N_mono (ok' := (fun k_ => ((fun k_ => some k_ ≠ (v713 : Value).ownBlock)) k_ ∧ some k_ ≠ (v725 : Value).ownBlock)) (HO_3.out) (fun k_ hk => ⟨hk.1, hk.2⟩)))); (case aB => exact (by repeat (first | (with_reducible first | exact HB.out | apply below_alloc | apply pw_below_drewN | apply below_drew1) | exact HB.out))); (case aF => exact (fun k_ hk => Kd.fresh' (Kd.R_lt (by (with_reducible repeat (first | apply Kd.R_alloc | apply Kd.R_drewN | apply Kd.R_drew)); exact HO_4.out)) k_ hk)); (case aO => exact (by (with_reducible repeat (first | apply Kd.N_alloc | apply Kd.N_drewN | apply Kd.N_drew)); exact Kd.N_mono HO726.out (fun _ hk => hk.2))); (case aS => exact (below_size (by repeat (first | (with_reducible first | exact HB.out | apply below_alloc | apply pw_below_drewN | apply below_drew1) | exact HB.out)))); (case aL => have := LMc27.out; omega); intro v728 w46 ho hb hg hat; rw [← Ny727.out] at ho; have n0_ := Aside0.mk (Kd.N_afterv (ok := (fun k_ => some k_ ≠ (v713 : Value).ownBlock)) (by (with_reducible repeat (first | apply Kd.N_alloc | apply Kd.N_drewN | apply Kd.N_drew)); exact HO_3.out) hg hat); have n1_ := Aside0.mk (Kd.R_over' (by (with_reducible repeat (first | apply Kd.R_alloc | apply Kd.R_drewN | apply Kd.R_drew)); exact HO_4.out) (Kd.N_typed (by (with_reducible repeat (first | apply Kd.N_alloc | apply Kd.N_drewN | apply Kd.N_drew)); exact HO726.out)) (by decide) hg); have n2_ := Aside0.mk (hb); have n3_ := Aside0.mk (ho); clear HO_3; clear HO_4; clear HB; clear HO726; have HO_3 := n0_; have HO_4 := n1_; have HB := n2_; have HO729 := n3_; clear n0_ n1_ n2_ n3_; clear ho hb hg hat))
                              have n0_ := Aside0.mk (Kd.N_drew HO_3.out)
                              have n1_ := Aside0.mk (Kd.R_drew HO_4.out)
                              have n2_ := Aside0.mk (Kd.N_drew HO729.out)
                              have n3_ := Aside0.mk (below_drew1 HB.out)
                              clear HO_3
                              clear HO_4
                              clear HO729
                              clear HB
                              have HO_3 := n0_
                              have HO_4 := n1_
                              have HO729 := n2_
                              have HB := n3_
                              clear n0_ n1_ n2_ n3_
                              obtain ⟨Ao48, co48, eo48⟩ := Kd.N_slice HO729.out
                              (first | subst eo48 | (injection eo48 with f1_ f2_ f3_; have f4_ := f1_.symm; have f5_ := f3_.symm; clear f1_ f2_ f3_; subst f4_; subst f5_))
                              have p730 : 0 ≤ (x6_2 : Int) := of_decide_eq_true (by first | (with_reducible assumption) | assumption)
                              have q730 : x6_2 < (y727.length : Int) := of_decide_eq_true (by first | (with_reducible assumption) | assumption)
                              obtain ⟨ad730, A730_1, c730_1, e730, hx730_0, hx730_1, hx730_2, hx730_3, hl730_1, hi730_1⟩ := at_T30 (Kd.N_reads' HO729.out).2.2 x6_2 p730 q730
                              cases e730
                              obtain ⟨ce730, hce730, hMe730, hcc730⟩ := Kd.N_get HO729.out z30 x6_2 p730 (by first | exact q730 | exact of_decide_eq_true (by first | (with_reducible assumption) | assumption) | (have e_ := (Kd.N_reads' HO729.out).1; omega))
                              obtain ⟨ua730_1, uc730_1, rfl, ul730_1, ge730_1⟩ := k30_openF hMe730
                              have hv730_1 := hcc730 1 _ rfl
                              rw [add_field _ _ 1 (by omega)] at hv730_1
                              replace hv730_1 := Option.some.inj (hv730_1.symm.trans hx730_1)
                              injection hv730_1 with hva_ hvn_ hvc_
                              rw [hva_] at ge730_1
                              rw [hvc_] at ul730_1
                              have HL730_1 := Aside0.mk (show Kd.V (Kd.int .i64) 3 _ w.heap.size _ _ ((rd_T30 y727 x6_2).f1) from Kd.V_mk ul730_1 ge730_1)
                              clear hva_ hvn_ hvc_ ge730_1 ul730_1
                              clear hcc730 hce730
                              have HR730_1 := Aside0.mk hi730_1
                              have HC730_1 := Aside0.mk hl730_1
                              clear hi730_1 hl730_1
                              replace p730 := eq_true p730
                              replace q730 := eq_true q730
                              obtain ⟨Ao49, co49, eo49⟩ := Kd.R_slice HO_4.out
                              (first | subst eo49 | (injection eo49 with f1_ f2_ f3_; have f4_ := f1_.symm; have f5_ := f3_.symm; clear f1_ f2_ f3_; subst f4_; subst f5_))
                              have p731 : 0 ≤ (x6_2 : Int) := of_decide_eq_true (by first | (with_reducible assumption) | assumption)
                              have q731 : x6_2 < (t712.length : Int) := of_decide_eq_true (by first | (with_reducible assumption) | assumption)
                              obtain ⟨ad731, e731, hx731_0⟩ := Kd.at_int (Kd.R_reads' HO_4.out).2.2 x6_2 p731 q731
                              cases e731
                              replace p731 := eq_true p731
                              replace q731 := eq_true q731
                              have p31 : 0 ≤ (x6_2 : Int) := of_decide_eq_true (by first | (with_reducible assumption) | assumption)
                              have q31 : (x6_2 : Int) < ((y727.length : Int) : Int) := of_decide_eq_true (by first | (with_reducible assumption) | assumption)
                              obtain ⟨go31, co31, eo31, gb31, gl31, cl31, HG31⟩ := Kd.N_form HO729.out (by omega)
                              (first | cases eo31 | (injection eo31 with ea_ en_ ec_; (first | subst ea_ | (injection ea_ with ea_; subst ea_)); subst ec_; clear en_))
                              have GB31 := Aside0.mk gb31
                              have GG31 := Aside0.mk HG31
                              clear gb31 gl31 HG31
                              (first | simp only [add_plain] at hx730_0 | skip)
                              (first | simp only [add_plain] at hx730_1 | skip)
                              (first | simp only [add_plain] at hx730_2 | skip)
                              (first | simp only [add_plain] at hx730_3 | skip)
                              obtain ⟨ce31, hcl31, hM31, hcc31, hfr31⟩ := Kd.N_elem HO729.out z30 (x6_2 : Int) p31 q31
                              obtain ⟨ua31_1, uc31_1, rfl, ul31_1, ge31_1⟩ := k30_openF hM31
                              have hx31_0 : World.cell? _ ⟨go31, (x6_2 : Int).toNat * 4, none⟩ = some (.int .i64 ((rd_T30 y727 x6_2).f0)) := hcc31 0 _ rfl
                              have hx31_1 : World.cell? _ ⟨go31, (x6_2 : Int).toNat * 4 + 1, none⟩ = some (.slice ua31_1 ((rd_T30 y727 x6_2).f1).length uc31_1) := hcc31 1 _ rfl
                              have hx31_2 : World.cell? _ ⟨go31, (x6_2 : Int).toNat * 4 + 2, none⟩ = some (.int .i64 ((rd_T30 y727 x6_2).f2)) := hcc31 2 _ rfl
                              have hx31_3 : World.cell? _ ⟨go31, (x6_2 : Int).toNat * 4 + 3, none⟩ = some (.int .i64 ((rd_T30 y727 x6_2).f3)) := hcc31 3 _ rfl
                              have hf31_0 : World.frozen? _ ⟨go31, (x6_2 : Int).toNat * 4, none⟩ = false := hfr31 0
                              have hf31_1 : World.frozen? _ ⟨go31, (x6_2 : Int).toNat * 4 + 1, none⟩ = false := hfr31 1
                              have hf31_2 : World.frozen? _ ⟨go31, (x6_2 : Int).toNat * 4 + 2, none⟩ = false := hfr31 2
                              have hf31_3 : World.frozen? _ ⟨go31, (x6_2 : Int).toNat * 4 + 3, none⟩ = false := hfr31 3
                              clear hcl31 hcc31 hfr31 hM31
                              replace p31 := eq_true p31
                              replace q31 := eq_true q31
                              have HX50 := Aside0.mk (show Kd.N k30 30 _ w.heap.size (fun k_ => some k_ ≠ (.slice (some ad731) t712.length co49 : Value).ownBlock) (.slice (some ⟨go31, 0, none⟩) y727.length co48) y727 from (Kd.N_mono (HO729.out) (fun k_ hk => hk)))
                              obtain ⟨ce50, hcl50, hM50, hcc50, hfr50⟩ := Kd.N_elem HX50.out z30 (x6_2 : Int) (of_decide_eq_true (by first | (with_reducible assumption) | assumption)) (by have h_ : (x6_2 : Int) < ((y727.length : Int) : Int) := of_decide_eq_true (by first | (with_reducible assumption) | assumption); first | exact h_ | (have e_ := (Kd.N_reads' HO729.out).1; omega) | simpa using h_)
                              obtain ⟨ua50_1, uc50_1, rfl, ul50_1, ge50_1⟩ := k30_openF hM50
                              have HP50 := (Kd.N_seg HX50.out (x6_2 : Int) (of_decide_eq_true (by first | (with_reducible assumption) | assumption)) (by have h_ : (x6_2 : Int) < ((y727.length : Int) : Int) := of_decide_eq_true (by first | (with_reducible assumption) | assumption); first | exact h_ | (have e_ := (Kd.N_reads' HO729.out).1; omega) | simpa using h_) (seg := [.int .i64 (wrap64 (((rd_T30 y727 x6_2).f0) + (rd t712 x6_2)))]) (j := 0) hcl50 hcc50 (show 1 ≤ 4 from by decide) (x' := (⟨wrap64 (((rd_T30 y727 x6_2).f0) + (rd t712 x6_2)), (rd_T30 y727 x6_2).f1, (rd_T30 y727 x6_2).f2, (rd_T30 y727 x6_2).f3⟩ : S30)) (k30_mkF _ _ (⟨wrap64 (((rd_T30 y727 x6_2).f0) + (rd t712 x6_2)), (rd_T30 y727 x6_2).f1, (rd_T30 y727 x6_2).f2, (rd_T30 y727 x6_2).f3⟩ : S30) ul50_1 ge50_1) (fun _ hk => hk)).1
                              rw [← Ny732.out] at HP50
                              have HQ50 := Aside0.mk HP50
                              clear hcl50 hcc50 hfr50 hM50 HP50
                              refine start_ (n := 15) (S := fun w' => w'.cell? ⟨go31, ((x6_2).toNat * 4), none⟩ = some (.int .i64 ((rd_T30 y727 x6_2).f0)) ∧ w'.cell? ⟨go31, ((x6_2).toNat * 4) + 1, none⟩ = some (.slice A730_1 ((rd_T30 y727 x6_2).f1).length c730_1) ∧ w'.cell? ⟨go31, ((x6_2).toNat * 4) + 2, none⟩ = some (.int .i64 ((rd_T30 y727 x6_2).f2)) ∧ w'.cell? ⟨go31, ((x6_2).toNat * 4) + 3, none⟩ = some (.int .i64 ((rd_T30 y727 x6_2).f3)) ∧ w'.cell? (ad731.add (x6_2).toNat) = some (.int .i64 (rd t712 x6_2))) (ds := [14]) #[false, false, false, false, false, false, false, false, false, false, false, false, false, false, false] (by kernel_rfl) rfl rfl ⟨hx730_0, hx730_1, hx730_2, hx730_3, hx731_0⟩ (fun hHeld => ?_); refine with_tabW laws_FnSlackTimes.tab12 laws_FnSlackTimes.bits12 (fun HT_ HW_ => ?_)
                              generalize w46.drew = w47 at HO_3 HO_4 HO729 HB GG31 HL730_1 HQ50 HR730_1 hf31_0 hf31_1 hf31_2 hf31_3 hx31_0 hx31_1 hx31_2 hx31_3 hx730_0 hx730_1 hx730_2 hx730_3 hx731_0 hHeld ⊢
                              refine pure_ (i := 0) (N := some 42) (v := ?_) (a' := ?_) #[true, false, false, false, false, false, false, false, false, false, false, false, false, false, false] rfl rfl (any_of HT_.out (by kernel_rfl)) (fun _ _ _ h => h) (Or.inl ⟨by rfl, ?_⟩) ?_ ?_
                              rotate_left
                              · intro w'
                                go_simp
                                with_reducible rfl
                              rotate_left
                              · simp only [Act.put, List.setIfInBounds_toArray, List.set_cons_zero, List.set_cons_succ, i64_w, i32_w]
                                rfl
                              refine pure_ (i := 1) (N := some 43) (v := ?_) (a' := ?_) #[true, true, false, false, false, false, false, false, false, false, false, false, false, false, false] rfl rfl (any_of HT_.out (by kernel_rfl)) (fun _ _ _ h => h) (Or.inl ⟨by rfl, ?_⟩) ?_ ?_
                              rotate_left
                              · intro w'
                                go_simp
                                with_reducible rfl
                              rotate_left
                              · simp only [Act.put, List.setIfInBounds_toArray, List.set_cons_zero, List.set_cons_succ, i64_w, i32_w]
                                rfl
                              refine pure_ (i := 2) (N := some 44) (v := ?_) (a' := ?_) #[true, true, true, false, false, false, false, false, false, false, false, false, false, false, false] rfl rfl (any_of HT_.out (by kernel_rfl)) (fun _ _ _ h => h) (Or.inl ⟨by rfl, ?_⟩) ?_ ?_
                              rotate_left
                              · intro w'
                                go_simp
                                with_reducible rfl
                              rotate_left
                              · simp only [Act.put, List.setIfInBounds_toArray, List.set_cons_zero, List.set_cons_succ, i64_w, i32_w]
                                rfl
                              refine pure_ (i := 3) (N := some 45) (v := ?_) (a' := ?_) #[true, true, true, true, false, false, false, false, false, false, false, false, false, false, false] rfl rfl (any_of HT_.out (by kernel_rfl)) (fun _ _ _ h => h) (Or.inl ⟨by rfl, ?_⟩) ?_ ?_
                              rotate_left
                              · intro w'
                                go_simp
                                with_reducible rfl
                              rotate_left
                              · simp only [Act.put, List.setIfInBounds_toArray, List.set_cons_zero, List.set_cons_succ, i64_w, i32_w]
                                rfl
                              refine pure_ (i := 4) (N := some 46) (v := ?_) (a' := ?_) #[true, true, true, true, true, false, false, false, false, false, false, false, false, false, false] rfl rfl (any_of HT_.out (by kernel_rfl)) (fun _ _ _ h => h) (Or.inl ⟨by rfl, ?_⟩) ?_ ?_
                              rotate_left
                              · intro w'
                                go_simp
                                with_reducible rfl
                              rotate_left
                              · simp only [Act.put, List.setIfInBounds_toArray, List.set_cons_zero, List.set_cons_succ, i64_w, i32_w]
                                rfl
                              refine pure_ (i := 5) (N := some 47) (v := ?_) (a' := ?_) #[true, true, true, true, true, true, false, false, false, false, false, false, false, false, false] rfl rfl (any_of HT_.out (by kernel_rfl)) (fun _ _ _ h => h) (Or.inl ⟨by rfl, ?_⟩) ?_ ?_
                              rotate_left
                              · intro w'
                                go_simp
                                with_reducible rfl
                              rotate_left
                              · simp only [Act.put, List.setIfInBounds_toArray, List.set_cons_zero, List.set_cons_succ, i64_w, i32_w]
                                rfl
                              refine pure_ (i := 7) (N := some 49) (v := ?_) (a' := ?_) #[true, true, true, true, true, true, false, true, false, false, false, false, false, false, false] rfl rfl (any_of HT_.out (by kernel_rfl)) (fun _ _ _ h => h) (Or.inl ⟨by rfl, ?_⟩) ?_ ?_
                              rotate_left
                              · intro w'
                                go_simp
                                with_reducible rfl
                              rotate_left
                              · simp only [Act.put, List.setIfInBounds_toArray, List.set_cons_zero, List.set_cons_succ, i64_w, i32_w]
                                rfl
                              refine pure_ (i := 8) (N := some 50) (v := ?_) (a' := ?_) #[true, true, true, true, true, true, false, true, true, false, false, false, false, false, false] rfl rfl (any_of HT_.out (by kernel_rfl)) (fun _ _ _ h => h) (Or.inl ⟨by rfl, ?_⟩) ?_ ?_
                              rotate_left
                              · intro w'
                                go_simp
                                with_reducible rfl
                              rotate_left
                              · simp only [Act.put, List.setIfInBounds_toArray, List.set_cons_zero, List.set_cons_succ, i64_w, i32_w]
                                rfl
                              refine pure_ (i := 9) (N := some 51) (v := ?_) (a' := ?_) #[true, true, true, true, true, true, false, true, true, true, false, false, false, false, false] rfl rfl (any_of HT_.out (by kernel_rfl)) (fun _ _ _ h => h) (Or.inl ⟨by rfl, ?_⟩) ?_ ?_
                              rotate_left
                              · intro w'
                                go_simp
                                with_reducible rfl
                              rotate_left
                              · simp only [Act.put, List.setIfInBounds_toArray, List.set_cons_zero, List.set_cons_succ, i64_w, i32_w]
                                rfl
                              refine take_ (i := 6) (N := some 48) (v := ?_) (a' := ?_) #[true, true, true, true, true, true, true, true, true, true, false, false, false, false, false] rfl rfl (take_ofW HT_.out HW_.out (by kernel_rfl)) (fun _ _ _ h => h) (Or.inl ⟨by rfl, ?_⟩) hHeld ?_ ?_
                              rotate_left
                              · rintro w' ⟨s0, s1, s2, s3, s4⟩
                                go_simp
                                with_reducible rfl
                              rotate_left
                              · simp only [Act.put, List.setIfInBounds_toArray, List.set_cons_zero, List.set_cons_succ, i64_w, i32_w]
                                rfl
                              refine take_ (i := 10) (N := some 52) (v := ?_) (a' := ?_) #[true, true, true, true, true, true, true, true, true, true, true, false, false, false, false] rfl rfl (take_ofW HT_.out HW_.out (by kernel_rfl)) (fun _ _ _ h => h) (Or.inl ⟨by rfl, ?_⟩) hHeld ?_ ?_
                              rotate_left
                              · rintro w' ⟨s0, s1, s2, s3, s4⟩
                                go_simp
                                with_reducible rfl
                              rotate_left
                              · simp only [Act.put, List.setIfInBounds_toArray, List.set_cons_zero, List.set_cons_succ, i64_w, i32_w]
                                rfl
                              refine pure_ (i := 11) (N := some 53) (v := ?_) (a' := ?_) #[true, true, true, true, true, true, true, true, true, true, true, true, false, false, false] rfl rfl (any_of HT_.out (by kernel_rfl)) (fun _ _ _ h => h) (Or.inl ⟨by rfl, ?_⟩) ?_ ?_
                              rotate_left
                              · intro w'
                                go_simp
                                with_reducible rfl
                              rotate_left
                              · simp only [Act.put, List.setIfInBounds_toArray, List.set_cons_zero, List.set_cons_succ, i64_w, i32_w]
                                rfl
                              refine pure_ (i := 12) (N := some 54) (v := ?_) (a' := ?_) #[true, true, true, true, true, true, true, true, true, true, true, true, true, false, false] rfl rfl (any_of HT_.out (by kernel_rfl)) (fun _ _ _ h => h) (Or.inl ⟨by rfl, ?_⟩) ?_ ?_
                              rotate_left
                              · intro w'
                                go_simp
                                with_reducible rfl
                              rotate_left
                              · simp only [Act.put, List.setIfInBounds_toArray, List.set_cons_zero, List.set_cons_succ, i64_w, i32_w]
                                rfl
                              refine pure_ (i := 13) (N := some 55) (v := ?_) (a' := ?_) #[true, true, true, true, true, true, true, true, true, true, true, true, true, true, false] rfl rfl (any_of HT_.out (by kernel_rfl)) (fun _ _ _ h => h) (Or.inl ⟨by rfl, ?_⟩) ?_ ?_
                              rotate_left
                              · intro w'
                                go_simp
                                with_reducible rfl
                              rotate_left
                              · simp only [Act.put, List.setIfInBounds_toArray, List.set_cons_zero, List.set_cons_succ, i64_w, i32_w]
                                rfl
                              refine last_ (i := 14) (N := none) #[true, true, true, true, true, true, true, true, true, true, true, true, true, true, true] rfl rfl (one_of HT_.out (by kernel_rfl)) (by decide) (fun K hK => ?_)
                              refine skip_ (w1 := ?_) (by rfl) rfl ?_ ?_
                              rotate_left
                              · go_simp
                                rfl
                              refine hK.out _ _ ?_
                              clear hK K
                              refine done_ (done_of HT_.out (by kernel_rfl)) ?_
                              have p733 : 0 ≤ (x6_2 : Int) := of_decide_eq_true (by first | (with_reducible assumption) | assumption)
                              have q733 : x6_2 < (t712.length : Int) := of_decide_eq_true (by first | (with_reducible assumption) | assumption)
                              obtain ⟨ad733, e733, hx733_0⟩ := Kd.at_int (Kd.R_reads' (Kd.R_far (p := ⟨go31, (x6_2 : Int).toNat * 4, none⟩) (Kd.R_types HO_4.out GG31.out (by decide)) (fun _ hk => hk.2) (.int .i64 (wrap64 (((rd_T30 y727 x6_2).f0) + (rd t712 x6_2)))))).2.2 x6_2 p733 q733
                              obtain rfl : ad731 = ad733 := (by injection e733)
                              replace p733 := eq_true p733
                              replace q733 := eq_true q733
                              try go_wp2_with (first | (go_at_call 34; refine calls_of_args (args' := #[.slice (some ⟨go31, 0, none⟩) y732.length co48]) (by first | (rw [show y732.length = y727.length from (Kd.N_reads' HQ50.out).1.symm] <;> rfl) | rfl) ?_; (with_reducible refine (impl_ValidGraph.calls _ _ y732 true _ ?side1 ?side2 ?sideT A40.out).mono ?_); (case sideT => exact (HT.out.below (by repeat (first | (with_reducible first | exact HB.out | apply below_alloc | apply pw_below_drewN | apply below_drew1 | refine below_set ?_ GB31.out) | exact HB.out)))); (case side1 => refine (Kd.N_reads' (e := 30) (base := w.heap.size) (ok := fun k_ => some k_ ≠ (.slice (some ad731) t712.length co49 : Value).ownBlock) (n := y727.length) (c := co48) ?_).2.2; exact (by (with_reducible repeat (first | apply Kd.N_alloc | apply Kd.N_drewN | apply Kd.N_drew)); exact HQ50.out)); (case side2 => rw [show y732.length = y727.length from (Kd.N_reads' HQ50.out).1.symm]; exact (Kd.N_reads' HO729.out).2.1); rintro e w51 ⟨rfl, hb⟩; have n0_ := Aside0.mk (Kd.N_below (by (with_reducible repeat (first | apply Kd.N_alloc | apply Kd.N_drewN | apply Kd.N_drew)); exact (Kd.N_mono (Kd.N_far (p := ⟨go31, (x6_2 : Int).toNat * 4, none⟩) (Kd.N_mono HO_3.out (fun k_ hk => (⟨hk, fun e_ => hk.2 (by rw [e_]; rfl)⟩ : _ ∧ k_ ≠ go31))) (fun _ hk => hk.2) (.int .i64 (wrap64 (((rd_T30 y727 x6_2).f0) + (rd t712 x6_2))))) (fun _ h_ => h_.1))) hb); have n1_ := Aside0.mk (Kd.R_below (by (with_reducible repeat (first | apply Kd.R_alloc | apply Kd.R_drewN | apply Kd.R_drew)); exact (Kd.R_mono (Kd.R_far (p := ⟨go31, (x6_2 : Int).toNat * 4, none⟩) (Kd.R_types HO_4.out GG31.out (by decide)) (fun _ hk => hk.2) (.int .i64 (wrap64 (((rd_T30 y727 x6_2).f0) + (rd t712 x6_2))))) (fun _ h_ => h_.1))) hb); have n2_ := Aside0.mk (Kd.N_below (by (with_reducible repeat (first | apply Kd.N_alloc | apply Kd.N_drewN | apply Kd.N_drew)); exact HQ50.out) hb); have n3_ := Aside0.mk (Kd.V_below (by (with_reducible repeat (first | apply Kd.V_alloc | apply Kd.V_drewN | apply Kd.V_drew)); exact (Kd.V_mono (Kd.V_far (p := ⟨go31, (x6_2 : Int).toNat * 4, none⟩) (Kd.V_mono HL730_1.out (fun k_ hk => (⟨hk, fun e_ => hk.2 (by rw [e_]; rfl)⟩ : _ ∧ k_ ≠ go31))) (fun _ hk => hk.2) (.int .i64 (wrap64 (((rd_T30 y727 x6_2).f0) + (rd t712 x6_2))))) (fun _ h_ => h_.1))) hb); have n4_ := Aside0.mk (Kd.C_below ((Kd.V_reads' (by (with_reducible repeat (first | apply Kd.V_alloc | apply Kd.V_drewN | apply Kd.V_drew)); exact (Kd.V_mono (Kd.V_far (p := ⟨go31, (x6_2 : Int).toNat * 4, none⟩) (Kd.V_mono HL730_1.out (fun k_ hk => (⟨hk, fun e_ => hk.2 (by rw [e_]; rfl)⟩ : _ ∧ k_ ≠ go31))) (fun _ hk => hk.2) (.int .i64 (wrap64 (((rd_T30 y727 x6_2).f0) + (rd t712 x6_2))))) (fun _ h_ => h_.1)))).2.2) hb); have n5_ := Aside0.mk (below_step (by repeat (first | (with_reducible first | exact HB.out | apply below_alloc | apply pw_below_drewN | apply below_drew1 | refine below_set ?_ GB31.out) | exact HB.out)) hb); clear HO_3; clear HO_4; clear HO729; clear HL730_1; clear HR730_1; clear HB; have HO_3 := n0_; have HO_4 := n1_; have HO729 := n2_; have HL730_1 := n3_; have HR730_1 := n4_; have HB := n5_; clear n0_ n1_ n2_ n3_ n4_ n5_; (try clear hb); (try clear hb2); (try clear hk); (try clear hi)) | (go_at_call 33; refine calls_of_args (args' := #[.slice (some ⟨go31, 0, none⟩) y732.length co48]) (by first | (rw [show y732.length = y727.length from (Kd.N_reads' HO729.out).1.symm] <;> rfl) | rfl) ?_; (with_reducible refine (impl_LongestTime.calls _ _ y732 t735 _ ?side1 ?side2 ?sideT A42.out).mono ?_); (case sideT => exact (HT.out.below (by repeat (first | (with_reducible first | exact HB.out | apply below_alloc | apply pw_below_drewN | apply below_drew1 | refine below_set ?_ GB31.out) | exact HB.out)))); (case side1 => repeat (first | exact (Kd.N_reads' HO729.out).2.2 | (with_reducible refine Kd.C_alloc ?_ _) | (with_reducible refine Kd.C_drewN ?_ _) | (with_reducible refine Kd.C_drew ?_))); (case side2 => rw [show y732.length = y727.length from (Kd.N_reads' HO729.out).1.symm]; exact (Kd.N_reads' HO729.out).2.1); rintro e w52 ⟨rfl, hb⟩; have n0_ := Aside0.mk (Kd.N_below (by (with_reducible repeat (first | apply Kd.N_alloc | apply Kd.N_drewN | apply Kd.N_drew)); exact HO_3.out) hb); have n1_ := Aside0.mk (Kd.R_below (by (with_reducible repeat (first | apply Kd.R_alloc | apply Kd.R_drewN | apply Kd.R_drew)); exact HO_4.out) hb); have n2_ := Aside0.mk (Kd.N_below (by (with_reducible repeat (first | apply Kd.N_alloc | apply Kd.N_drewN | apply Kd.N_drew)); exact HO729.out) hb); have n3_ := Aside0.mk (Kd.V_below (by (with_reducible repeat (first | apply Kd.V_alloc | apply Kd.V_drewN | apply Kd.V_drew)); exact HL730_1.out) hb); have n4_ := Aside0.mk (Kd.C_below (by repeat (first | (with_reducible exact HR730_1.out) | (with_reducible refine Kd.C_alloc ?_ _) | (with_reducible refine Kd.C_drewN ?_ _) | (with_reducible refine Kd.C_drew ?_) | exact HR730_1.out)) hb); have n5_ := Aside0.mk (below_step (by repeat (first | (with_reducible first | exact HB.out | apply below_alloc | apply pw_below_drewN | apply below_drew1) | exact HB.out)) hb); clear HO_3; clear HO_4; clear HO729; clear HL730_1; clear HR730_1; clear HB; have HO_3 := n0_; have HO_4 := n1_; have HO729 := n2_; have HL730_1 := n3_; have HR730_1 := n4_; have HB := n5_; clear n0_ n1_ n2_ n3_ n4_ n5_; (try clear hb); (try clear hb2); (try clear hk); (try clear hi)))
                              (try simp only [← hl3_2])
                              go_roundg k2
                              case measure => have := HJ4.out; have := HK2.out; omega
                              case rel => exact ⟨(x3_2), (wrap64 (x6_2 + 1)), (by first | rfl | (simp; done) | (simp [*]; done)), H', ⟨by have := HJ4.out; have := HK2.out; omega⟩, ⟨by (try simp only [hl3_2]); (with_reducible repeat (first | apply Kd.N_alloc | apply Kd.N_drewN | apply Kd.N_drew)); exact Kd.N_mono HO_3.out (fun _ hk => hk.1)⟩, ⟨by (try simp only [hl3_2]); (with_reducible repeat (first | apply Kd.R_alloc | apply Kd.R_drewN | apply Kd.R_drew)); exact HO_4.out⟩, ⟨by repeat (first | (with_reducible first | exact HB.out | apply below_alloc | apply pw_below_drewN | apply below_drew1) | exact HB.out)⟩⟩
                            · rw [if_neg c43] at H
                              have c43b0 : (t735 == t723) = false := beq_eq_false_iff_ne.mpr c43
                              have c43b1 : (t735 != t723) = true := bne_iff_ne.mpr c43
                              obtain rfl := Option.some.inj H
                              try go_wp2_with (first | ((with_reducible refine gate_dst (N := 39) rfl ?_); (try (refine gate_guard (by rfl) ?_; dsimp only)); refine Kd.N_lit k30 _ 30 ?hg (N' := 39) ?hd (xs := ([] : List (S30))) (inner := []) (ok := (fun k_ => some k_ ≠ (.slice Ao7 x3_2.length co7 : Value).ownBlock ∧ some k_ ≠ (v713 : Value).ownBlock)) (okp := (fun k_ => some k_ ≠ (.slice Ao7 x3_2.length co7 : Value).ownBlock ∧ some k_ ≠ (v713 : Value).ownBlock)) ?hr ?hp (fun _ hk => hk) ((show ∀ k_, wr.heap.size ≤ k_ → (fun k_ => some k_ ≠ (.slice Ao7 x3_2.length co7 : Value).ownBlock ∧ some k_ ≠ (v713 : Value).ownBlock) k_ from fun k_ hk => ⟨Kd.fresh' (Kd.N_lt (by (with_reducible repeat (first | apply Kd.N_alloc | apply Kd.N_drewN | apply Kd.N_drew)); exact HO_3.out)) k_ hk, Kd.fresh' (Kd.R_lt (by (with_reducible repeat (first | apply Kd.R_alloc | apply Kd.R_drewN | apply Kd.R_drew)); exact HO_4.out)) k_ hk⟩) _ (Nat.le_refl _)) (Below.refl _ _) (Nat.le_refl _) (by simp) ?_; (case hd => rfl); (case hg => rfl); (case hr => first | (go_simp; done) | (go_simp; rfl)); (case hp => exact (Reps.none _ _)); intro v725 w53 ho54 hb hg_ hnew_; clear hg_ hnew_; (first | rw [← Ny724.out] at ho54 | (simp only [Int.reduceToNat] at ho54; rw [← Ny724.out] at ho54)); have n0_ := Aside0.mk (Kd.N_elder' (by (with_reducible repeat (first | apply Kd.N_alloc | apply Kd.N_drewN | apply Kd.N_drew)); exact HO_3.out) (Kd.N_base ho54) hb); have n1_ := Aside0.mk (Kd.R_below (by (with_reducible repeat (first | apply Kd.R_alloc | apply Kd.R_drewN | apply Kd.R_drew)); exact HO_4.out) hb); have n2_ := Aside0.mk (Kd.N_lower ho54 (below_size (by repeat (first | (with_reducible first | exact HB.out | apply below_alloc | apply pw_below_drewN | apply below_drew1) | exact HB.out)))); have n3_ := Aside0.mk (below_step (by repeat (first | (with_reducible first | exact HB.out | apply below_alloc | apply pw_below_drewN | apply below_drew1) | exact HB.out)) hb); clear HO_3; clear HO_4; clear HB; have HO_3 := n0_; have HO_4 := n1_; have HO726 := n2_; have HB := n3_; clear n0_ n1_ n2_ n3_; clear hb ho54) | ((with_reducible refine gate_builtin (b := .append) (xs := #[.tmp 39, .tmp 40]) rfl ?_); (try (refine gate_guard (by rfl) ?_; dsimp only)); at_builtin; refine Kd.N_append_rows k30 (w0 := w) w.heap.size rfl (.tmp 39) (.tmp 40) 23 30 (.agg #[(.int .i64 0), (.slice none 0 0), (.int .i64 0), (.int .i64 0)]) 48 rfl Tryd.underlying23 info30 rfl (by decide) (by omega) v725 y724 x3_2 _ _ _ (fun k_ => some k_ ≠ (v713 : Value).ownBlock) (fun k_ => ((fun k_ => some k_ ≠ (v713 : Value).ownBlock)) k_ ∧ some k_ ≠ (v725 : Value).ownBlock) rfl rfl ?aO ?aR (fun _ hk => hk) ?aF ?aB ?aS ?aL ?_; (case aR => exact (by skip; exact Kd.N_F (Kd.N_mono (ok' := (fun k_ => ((fun k_ => some k_ ≠ (v713 : Value).ownBlock)) k_ ∧ some k_ ≠ (v725 : Value).ownBlock)) (HO_3.out) (fun k_ hk => ⟨hk.1, hk.2⟩)))); (case aB => exact (by repeat (first | (with_reducible first | exact HB.out | apply below_alloc | apply pw_below_drewN | apply below_drew1) | exact HB.out))); (case aF => exact (fun k_ hk => Kd.fresh' (Kd.R_lt (by (with_reducible repeat (first | apply Kd.R_alloc | apply Kd.R_drewN | apply Kd.R_drew)); exact HO_4.out)) k_ hk)); (case aO => exact (by (with_reducible repeat (first | apply Kd.N_alloc | apply Kd.N_drewN | apply Kd.N_drew)); exact Kd.N_mono HO726.out (fun _ hk => hk.2))); (case aS => exact (below_size (by repeat (first | (with_reducible first | exact HB.out | apply below_alloc | apply pw_below_drewN | apply below_drew1) | exact HB.out)))); (case aL => have := LMc27.out; omega); intro v728 w55 ho hb hg hat; rw [← Ny727.out] at ho; have n0_ := Aside0.mk (Kd.N_afterv (ok := (fun k_ => some k_ ≠ (v713 : Value).ownBlock)) (by (with_reducible repeat (first | apply Kd.N_alloc | apply Kd.N_drewN | apply Kd.N_drew)); exact HO_3.out) hg hat); have n1_ := Aside0.mk (Kd.R_over' (by (with_reducible repeat (first | apply Kd.R_alloc | apply Kd.R_drewN | apply Kd.R_drew)); exact HO_4.out) (Kd.N_typed (by (with_reducible repeat (first | apply Kd.N_alloc | apply Kd.N_drewN | apply Kd.N_drew)); exact HO726.out)) (by decide) hg); have n2_ := Aside0.mk (hb); have n3_ := Aside0.mk (ho); clear HO_3; clear HO_4; clear HB; clear HO726; have HO_3 := n0_; have HO_4 := n1_; have HB := n2_; have HO729 := n3_; clear n0_ n1_ n2_ n3_; clear ho hb hg hat))
                              have n0_ := Aside0.mk (Kd.N_drew HO_3.out)
                              have n1_ := Aside0.mk (Kd.R_drew HO_4.out)
                              have n2_ := Aside0.mk (Kd.N_drew HO729.out)
                              have n3_ := Aside0.mk (below_drew1 HB.out)
                              clear HO_3
                              clear HO_4
                              clear HO729
                              clear HB
                              have HO_3 := n0_
                              have HO_4 := n1_
                              have HO729 := n2_
                              have HB := n3_
                              clear n0_ n1_ n2_ n3_
                              obtain ⟨Ao57, co57, eo57⟩ := Kd.N_slice HO729.out
                              (first | subst eo57 | (injection eo57 with f1_ f2_ f3_; have f4_ := f1_.symm; have f5_ := f3_.symm; clear f1_ f2_ f3_; subst f4_; subst f5_))
                              have p730 : 0 ≤ (x6_2 : Int) := of_decide_eq_true (by first | (with_reducible assumption) | assumption)
                              have q730 : x6_2 < (y727.length : Int) := of_decide_eq_true (by first | (with_reducible assumption) | assumption)
                              obtain ⟨ad730, A730_1, c730_1, e730, hx730_0, hx730_1, hx730_2, hx730_3, hl730_1, hi730_1⟩ := at_T30 (Kd.N_reads' HO729.out).2.2 x6_2 p730 q730
                              cases e730
                              obtain ⟨ce730, hce730, hMe730, hcc730⟩ := Kd.N_get HO729.out z30 x6_2 p730 (by first | exact q730 | exact of_decide_eq_true (by first | (with_reducible assumption) | assumption) | (have e_ := (Kd.N_reads' HO729.out).1; omega))
                              obtain ⟨ua730_1, uc730_1, rfl, ul730_1, ge730_1⟩ := k30_openF hMe730
                              have hv730_1 := hcc730 1 _ rfl
                              rw [add_field _ _ 1 (by omega)] at hv730_1
                              replace hv730_1 := Option.some.inj (hv730_1.symm.trans hx730_1)
                              injection hv730_1 with hva_ hvn_ hvc_
                              rw [hva_] at ge730_1
                              rw [hvc_] at ul730_1
                              have HL730_1 := Aside0.mk (show Kd.V (Kd.int .i64) 3 _ w.heap.size _ _ ((rd_T30 y727 x6_2).f1) from Kd.V_mk ul730_1 ge730_1)
                              clear hva_ hvn_ hvc_ ge730_1 ul730_1
                              clear hcc730 hce730
                              have HR730_1 := Aside0.mk hi730_1
                              have HC730_1 := Aside0.mk hl730_1
                              clear hi730_1 hl730_1
                              replace p730 := eq_true p730
                              replace q730 := eq_true q730
                              obtain ⟨Ao58, co58, eo58⟩ := Kd.R_slice HO_4.out
                              (first | subst eo58 | (injection eo58 with f1_ f2_ f3_; have f4_ := f1_.symm; have f5_ := f3_.symm; clear f1_ f2_ f3_; subst f4_; subst f5_))
                              have p731 : 0 ≤ (x6_2 : Int) := of_decide_eq_true (by first | (with_reducible assumption) | assumption)
                              have q731 : x6_2 < (t712.length : Int) := of_decide_eq_true (by first | (with_reducible assumption) | assumption)
                              obtain ⟨ad731, e731, hx731_0⟩ := Kd.at_int (Kd.R_reads' HO_4.out).2.2 x6_2 p731 q731
                              cases e731
                              replace p731 := eq_true p731
                              replace q731 := eq_true q731
                              have p31 : 0 ≤ (x6_2 : Int) := of_decide_eq_true (by first | (with_reducible assumption) | assumption)
                              have q31 : (x6_2 : Int) < ((y727.length : Int) : Int) := of_decide_eq_true (by first | (with_reducible assumption) | assumption)
                              obtain ⟨go31, co31, eo31, gb31, gl31, cl31, HG31⟩ := Kd.N_form HO729.out (by omega)
                              (first | cases eo31 | (injection eo31 with ea_ en_ ec_; (first | subst ea_ | (injection ea_ with ea_; subst ea_)); subst ec_; clear en_))
                              have GB31 := Aside0.mk gb31
                              have GG31 := Aside0.mk HG31
                              clear gb31 gl31 HG31
                              (first | simp only [add_plain] at hx730_0 | skip)
                              (first | simp only [add_plain] at hx730_1 | skip)
                              (first | simp only [add_plain] at hx730_2 | skip)
                              (first | simp only [add_plain] at hx730_3 | skip)
                              obtain ⟨ce31, hcl31, hM31, hcc31, hfr31⟩ := Kd.N_elem HO729.out z30 (x6_2 : Int) p31 q31
                              obtain ⟨ua31_1, uc31_1, rfl, ul31_1, ge31_1⟩ := k30_openF hM31
                              have hx31_0 : World.cell? _ ⟨go31, (x6_2 : Int).toNat * 4, none⟩ = some (.int .i64 ((rd_T30 y727 x6_2).f0)) := hcc31 0 _ rfl
                              have hx31_1 : World.cell? _ ⟨go31, (x6_2 : Int).toNat * 4 + 1, none⟩ = some (.slice ua31_1 ((rd_T30 y727 x6_2).f1).length uc31_1) := hcc31 1 _ rfl
                              have hx31_2 : World.cell? _ ⟨go31, (x6_2 : Int).toNat * 4 + 2, none⟩ = some (.int .i64 ((rd_T30 y727 x6_2).f2)) := hcc31 2 _ rfl
                              have hx31_3 : World.cell? _ ⟨go31, (x6_2 : Int).toNat * 4 + 3, none⟩ = some (.int .i64 ((rd_T30 y727 x6_2).f3)) := hcc31 3 _ rfl
                              have hf31_0 : World.frozen? _ ⟨go31, (x6_2 : Int).toNat * 4, none⟩ = false := hfr31 0
                              have hf31_1 : World.frozen? _ ⟨go31, (x6_2 : Int).toNat * 4 + 1, none⟩ = false := hfr31 1
                              have hf31_2 : World.frozen? _ ⟨go31, (x6_2 : Int).toNat * 4 + 2, none⟩ = false := hfr31 2
                              have hf31_3 : World.frozen? _ ⟨go31, (x6_2 : Int).toNat * 4 + 3, none⟩ = false := hfr31 3
                              clear hcl31 hcc31 hfr31 hM31
                              replace p31 := eq_true p31
                              replace q31 := eq_true q31
                              have HX59 := Aside0.mk (show Kd.N k30 30 _ w.heap.size (fun k_ => some k_ ≠ (.slice (some ad731) t712.length co58 : Value).ownBlock) (.slice (some ⟨go31, 0, none⟩) y727.length co57) y727 from (Kd.N_mono (HO729.out) (fun k_ hk => hk)))
                              obtain ⟨ce59, hcl59, hM59, hcc59, hfr59⟩ := Kd.N_elem HX59.out z30 (x6_2 : Int) (of_decide_eq_true (by first | (with_reducible assumption) | assumption)) (by have h_ : (x6_2 : Int) < ((y727.length : Int) : Int) := of_decide_eq_true (by first | (with_reducible assumption) | assumption); first | exact h_ | (have e_ := (Kd.N_reads' HO729.out).1; omega) | simpa using h_)
                              obtain ⟨ua59_1, uc59_1, rfl, ul59_1, ge59_1⟩ := k30_openF hM59
                              have HP59 := (Kd.N_seg HX59.out (x6_2 : Int) (of_decide_eq_true (by first | (with_reducible assumption) | assumption)) (by have h_ : (x6_2 : Int) < ((y727.length : Int) : Int) := of_decide_eq_true (by first | (with_reducible assumption) | assumption); first | exact h_ | (have e_ := (Kd.N_reads' HO729.out).1; omega) | simpa using h_) (seg := [.int .i64 (wrap64 (((rd_T30 y727 x6_2).f0) + (rd t712 x6_2)))]) (j := 0) hcl59 hcc59 (show 1 ≤ 4 from by decide) (x' := (⟨wrap64 (((rd_T30 y727 x6_2).f0) + (rd t712 x6_2)), (rd_T30 y727 x6_2).f1, (rd_T30 y727 x6_2).f2, (rd_T30 y727 x6_2).f3⟩ : S30)) (k30_mkF _ _ (⟨wrap64 (((rd_T30 y727 x6_2).f0) + (rd t712 x6_2)), (rd_T30 y727 x6_2).f1, (rd_T30 y727 x6_2).f2, (rd_T30 y727 x6_2).f3⟩ : S30) ul59_1 ge59_1) (fun _ hk => hk)).1
                              rw [← Ny732.out] at HP59
                              have HQ59 := Aside0.mk HP59
                              clear hcl59 hcc59 hfr59 hM59 HP59
                              refine start_ (n := 15) (S := fun w' => w'.cell? ⟨go31, ((x6_2).toNat * 4), none⟩ = some (.int .i64 ((rd_T30 y727 x6_2).f0)) ∧ w'.cell? ⟨go31, ((x6_2).toNat * 4) + 1, none⟩ = some (.slice A730_1 ((rd_T30 y727 x6_2).f1).length c730_1) ∧ w'.cell? ⟨go31, ((x6_2).toNat * 4) + 2, none⟩ = some (.int .i64 ((rd_T30 y727 x6_2).f2)) ∧ w'.cell? ⟨go31, ((x6_2).toNat * 4) + 3, none⟩ = some (.int .i64 ((rd_T30 y727 x6_2).f3)) ∧ w'.cell? (ad731.add (x6_2).toNat) = some (.int .i64 (rd t712 x6_2))) (ds := [14]) #[false, false, false, false, false, false, false, false, false, false, false, false, false, false, false] (by kernel_rfl) rfl rfl ⟨hx730_0, hx730_1, hx730_2, hx730_3, hx731_0⟩ (fun hHeld => ?_); refine with_tabW laws_FnSlackTimes.tab12 laws_FnSlackTimes.bits12 (fun HT_ HW_ => ?_)
                              generalize w55.drew = w56 at HO_3 HO_4 HO729 HB GG31 HL730_1 HQ59 HR730_1 hf31_0 hf31_1 hf31_2 hf31_3 hx31_0 hx31_1 hx31_2 hx31_3 hx730_0 hx730_1 hx730_2 hx730_3 hx731_0 hHeld ⊢
                              refine pure_ (i := 0) (N := some 42) (v := ?_) (a' := ?_) #[true, false, false, false, false, false, false, false, false, false, false, false, false, false, false] rfl rfl (any_of HT_.out (by kernel_rfl)) (fun _ _ _ h => h) (Or.inl ⟨by rfl, ?_⟩) ?_ ?_
                              rotate_left
                              · intro w'
                                go_simp
                                with_reducible rfl
                              rotate_left
                              · simp only [Act.put, List.setIfInBounds_toArray, List.set_cons_zero, List.set_cons_succ, i64_w, i32_w]
                                rfl
                              refine pure_ (i := 1) (N := some 43) (v := ?_) (a' := ?_) #[true, true, false, false, false, false, false, false, false, false, false, false, false, false, false] rfl rfl (any_of HT_.out (by kernel_rfl)) (fun _ _ _ h => h) (Or.inl ⟨by rfl, ?_⟩) ?_ ?_
                              rotate_left
                              · intro w'
                                go_simp
                                with_reducible rfl
                              rotate_left
                              · simp only [Act.put, List.setIfInBounds_toArray, List.set_cons_zero, List.set_cons_succ, i64_w, i32_w]
                                rfl
                              refine pure_ (i := 2) (N := some 44) (v := ?_) (a' := ?_) #[true, true, true, false, false, false, false, false, false, false, false, false, false, false, false] rfl rfl (any_of HT_.out (by kernel_rfl)) (fun _ _ _ h => h) (Or.inl ⟨by rfl, ?_⟩) ?_ ?_
                              rotate_left
                              · intro w'
                                go_simp
                                with_reducible rfl
                              rotate_left
                              · simp only [Act.put, List.setIfInBounds_toArray, List.set_cons_zero, List.set_cons_succ, i64_w, i32_w]
                                rfl
                              refine pure_ (i := 3) (N := some 45) (v := ?_) (a' := ?_) #[true, true, true, true, false, false, false, false, false, false, false, false, false, false, false] rfl rfl (any_of HT_.out (by kernel_rfl)) (fun _ _ _ h => h) (Or.inl ⟨by rfl, ?_⟩) ?_ ?_
                              rotate_left
                              · intro w'
                                go_simp
                                with_reducible rfl
                              rotate_left
                              · simp only [Act.put, List.setIfInBounds_toArray, List.set_cons_zero, List.set_cons_succ, i64_w, i32_w]
                                rfl
                              refine pure_ (i := 4) (N := some 46) (v := ?_) (a' := ?_) #[true, true, true, true, true, false, false, false, false, false, false, false, false, false, false] rfl rfl (any_of HT_.out (by kernel_rfl)) (fun _ _ _ h => h) (Or.inl ⟨by rfl, ?_⟩) ?_ ?_
                              rotate_left
                              · intro w'
                                go_simp
                                with_reducible rfl
                              rotate_left
                              · simp only [Act.put, List.setIfInBounds_toArray, List.set_cons_zero, List.set_cons_succ, i64_w, i32_w]
                                rfl
                              refine pure_ (i := 5) (N := some 47) (v := ?_) (a' := ?_) #[true, true, true, true, true, true, false, false, false, false, false, false, false, false, false] rfl rfl (any_of HT_.out (by kernel_rfl)) (fun _ _ _ h => h) (Or.inl ⟨by rfl, ?_⟩) ?_ ?_
                              rotate_left
                              · intro w'
                                go_simp
                                with_reducible rfl
                              rotate_left
                              · simp only [Act.put, List.setIfInBounds_toArray, List.set_cons_zero, List.set_cons_succ, i64_w, i32_w]
                                rfl
                              refine pure_ (i := 7) (N := some 49) (v := ?_) (a' := ?_) #[true, true, true, true, true, true, false, true, false, false, false, false, false, false, false] rfl rfl (any_of HT_.out (by kernel_rfl)) (fun _ _ _ h => h) (Or.inl ⟨by rfl, ?_⟩) ?_ ?_
                              rotate_left
                              · intro w'
                                go_simp
                                with_reducible rfl
                              rotate_left
                              · simp only [Act.put, List.setIfInBounds_toArray, List.set_cons_zero, List.set_cons_succ, i64_w, i32_w]
                                rfl
                              refine pure_ (i := 8) (N := some 50) (v := ?_) (a' := ?_) #[true, true, true, true, true, true, false, true, true, false, false, false, false, false, false] rfl rfl (any_of HT_.out (by kernel_rfl)) (fun _ _ _ h => h) (Or.inl ⟨by rfl, ?_⟩) ?_ ?_
                              rotate_left
                              · intro w'
                                go_simp
                                with_reducible rfl
                              rotate_left
                              · simp only [Act.put, List.setIfInBounds_toArray, List.set_cons_zero, List.set_cons_succ, i64_w, i32_w]
                                rfl
                              refine pure_ (i := 9) (N := some 51) (v := ?_) (a' := ?_) #[true, true, true, true, true, true, false, true, true, true, false, false, false, false, false] rfl rfl (any_of HT_.out (by kernel_rfl)) (fun _ _ _ h => h) (Or.inl ⟨by rfl, ?_⟩) ?_ ?_
                              rotate_left
                              · intro w'
                                go_simp
                                with_reducible rfl
                              rotate_left
                              · simp only [Act.put, List.setIfInBounds_toArray, List.set_cons_zero, List.set_cons_succ, i64_w, i32_w]
                                rfl
                              refine take_ (i := 6) (N := some 48) (v := ?_) (a' := ?_) #[true, true, true, true, true, true, true, true, true, true, false, false, false, false, false] rfl rfl (take_ofW HT_.out HW_.out (by kernel_rfl)) (fun _ _ _ h => h) (Or.inl ⟨by rfl, ?_⟩) hHeld ?_ ?_
                              rotate_left
                              · rintro w' ⟨s0, s1, s2, s3, s4⟩
                                go_simp
                                with_reducible rfl
                              rotate_left
                              · simp only [Act.put, List.setIfInBounds_toArray, List.set_cons_zero, List.set_cons_succ, i64_w, i32_w]
                                rfl
                              refine take_ (i := 10) (N := some 52) (v := ?_) (a' := ?_) #[true, true, true, true, true, true, true, true, true, true, true, false, false, false, false] rfl rfl (take_ofW HT_.out HW_.out (by kernel_rfl)) (fun _ _ _ h => h) (Or.inl ⟨by rfl, ?_⟩) hHeld ?_ ?_
                              rotate_left
                              · rintro w' ⟨s0, s1, s2, s3, s4⟩
                                go_simp
                                with_reducible rfl
                              rotate_left
                              · simp only [Act.put, List.setIfInBounds_toArray, List.set_cons_zero, List.set_cons_succ, i64_w, i32_w]
                                rfl
                              refine pure_ (i := 11) (N := some 53) (v := ?_) (a' := ?_) #[true, true, true, true, true, true, true, true, true, true, true, true, false, false, false] rfl rfl (any_of HT_.out (by kernel_rfl)) (fun _ _ _ h => h) (Or.inl ⟨by rfl, ?_⟩) ?_ ?_
                              rotate_left
                              · intro w'
                                go_simp
                                with_reducible rfl
                              rotate_left
                              · simp only [Act.put, List.setIfInBounds_toArray, List.set_cons_zero, List.set_cons_succ, i64_w, i32_w]
                                rfl
                              refine pure_ (i := 12) (N := some 54) (v := ?_) (a' := ?_) #[true, true, true, true, true, true, true, true, true, true, true, true, true, false, false] rfl rfl (any_of HT_.out (by kernel_rfl)) (fun _ _ _ h => h) (Or.inl ⟨by rfl, ?_⟩) ?_ ?_
                              rotate_left
                              · intro w'
                                go_simp
                                with_reducible rfl
                              rotate_left
                              · simp only [Act.put, List.setIfInBounds_toArray, List.set_cons_zero, List.set_cons_succ, i64_w, i32_w]
                                rfl
                              refine pure_ (i := 13) (N := some 55) (v := ?_) (a' := ?_) #[true, true, true, true, true, true, true, true, true, true, true, true, true, true, false] rfl rfl (any_of HT_.out (by kernel_rfl)) (fun _ _ _ h => h) (Or.inl ⟨by rfl, ?_⟩) ?_ ?_
                              rotate_left
                              · intro w'
                                go_simp
                                with_reducible rfl
                              rotate_left
                              · simp only [Act.put, List.setIfInBounds_toArray, List.set_cons_zero, List.set_cons_succ, i64_w, i32_w]
                                rfl
                              refine last_ (i := 14) (N := none) #[true, true, true, true, true, true, true, true, true, true, true, true, true, true, true] rfl rfl (one_of HT_.out (by kernel_rfl)) (by decide) (fun K hK => ?_)
                              refine skip_ (w1 := ?_) (by rfl) rfl ?_ ?_
                              rotate_left
                              · go_simp
                                rfl
                              refine hK.out _ _ ?_
                              clear hK K
                              refine done_ (done_of HT_.out (by kernel_rfl)) ?_
                              have p733 : 0 ≤ (x6_2 : Int) := of_decide_eq_true (by first | (with_reducible assumption) | assumption)
                              have q733 : x6_2 < (t712.length : Int) := of_decide_eq_true (by first | (with_reducible assumption) | assumption)
                              obtain ⟨ad733, e733, hx733_0⟩ := Kd.at_int (Kd.R_reads' (Kd.R_far (p := ⟨go31, (x6_2 : Int).toNat * 4, none⟩) (Kd.R_types HO_4.out GG31.out (by decide)) (fun _ hk => hk.2) (.int .i64 (wrap64 (((rd_T30 y727 x6_2).f0) + (rd t712 x6_2)))))).2.2 x6_2 p733 q733
                              obtain rfl : ad731 = ad733 := (by injection e733)
                              replace p733 := eq_true p733
                              replace q733 := eq_true q733
                              try go_wp2_with (first | (go_at_call 34; refine calls_of_args (args' := #[.slice (some ⟨go31, 0, none⟩) y732.length co57]) (by first | (rw [show y732.length = y727.length from (Kd.N_reads' HQ59.out).1.symm] <;> rfl) | rfl) ?_; (with_reducible refine (impl_ValidGraph.calls _ _ y732 true _ ?side1 ?side2 ?sideT A40.out).mono ?_); (case sideT => exact (HT.out.below (by repeat (first | (with_reducible first | exact HB.out | apply below_alloc | apply pw_below_drewN | apply below_drew1 | refine below_set ?_ GB31.out) | exact HB.out)))); (case side1 => refine (Kd.N_reads' (e := 30) (base := w.heap.size) (ok := fun k_ => some k_ ≠ (.slice (some ad731) t712.length co58 : Value).ownBlock) (n := y727.length) (c := co57) ?_).2.2; exact (by (with_reducible repeat (first | apply Kd.N_alloc | apply Kd.N_drewN | apply Kd.N_drew)); exact HQ59.out)); (case side2 => rw [show y732.length = y727.length from (Kd.N_reads' HQ59.out).1.symm]; exact (Kd.N_reads' HO729.out).2.1); rintro e w60 ⟨rfl, hb⟩; have n0_ := Aside0.mk (Kd.N_below (by (with_reducible repeat (first | apply Kd.N_alloc | apply Kd.N_drewN | apply Kd.N_drew)); exact (Kd.N_mono (Kd.N_far (p := ⟨go31, (x6_2 : Int).toNat * 4, none⟩) (Kd.N_mono HO_3.out (fun k_ hk => (⟨hk, fun e_ => hk.2 (by rw [e_]; rfl)⟩ : _ ∧ k_ ≠ go31))) (fun _ hk => hk.2) (.int .i64 (wrap64 (((rd_T30 y727 x6_2).f0) + (rd t712 x6_2))))) (fun _ h_ => h_.1))) hb); have n1_ := Aside0.mk (Kd.R_below (by (with_reducible repeat (first | apply Kd.R_alloc | apply Kd.R_drewN | apply Kd.R_drew)); exact (Kd.R_mono (Kd.R_far (p := ⟨go31, (x6_2 : Int).toNat * 4, none⟩) (Kd.R_types HO_4.out GG31.out (by decide)) (fun _ hk => hk.2) (.int .i64 (wrap64 (((rd_T30 y727 x6_2).f0) + (rd t712 x6_2))))) (fun _ h_ => h_.1))) hb); have n2_ := Aside0.mk (Kd.N_below (by (with_reducible repeat (first | apply Kd.N_alloc | apply Kd.N_drewN | apply Kd.N_drew)); exact HQ59.out) hb); have n3_ := Aside0.mk (Kd.V_below (by (with_reducible repeat (first | apply Kd.V_alloc | apply Kd.V_drewN | apply Kd.V_drew)); exact (Kd.V_mono (Kd.V_far (p := ⟨go31, (x6_2 : Int).toNat * 4, none⟩) (Kd.V_mono HL730_1.out (fun k_ hk => (⟨hk, fun e_ => hk.2 (by rw [e_]; rfl)⟩ : _ ∧ k_ ≠ go31))) (fun _ hk => hk.2) (.int .i64 (wrap64 (((rd_T30 y727 x6_2).f0) + (rd t712 x6_2))))) (fun _ h_ => h_.1))) hb); have n4_ := Aside0.mk (Kd.C_below ((Kd.V_reads' (by (with_reducible repeat (first | apply Kd.V_alloc | apply Kd.V_drewN | apply Kd.V_drew)); exact (Kd.V_mono (Kd.V_far (p := ⟨go31, (x6_2 : Int).toNat * 4, none⟩) (Kd.V_mono HL730_1.out (fun k_ hk => (⟨hk, fun e_ => hk.2 (by rw [e_]; rfl)⟩ : _ ∧ k_ ≠ go31))) (fun _ hk => hk.2) (.int .i64 (wrap64 (((rd_T30 y727 x6_2).f0) + (rd t712 x6_2))))) (fun _ h_ => h_.1)))).2.2) hb); have n5_ := Aside0.mk (below_step (by repeat (first | (with_reducible first | exact HB.out | apply below_alloc | apply pw_below_drewN | apply below_drew1 | refine below_set ?_ GB31.out) | exact HB.out)) hb); clear HO_3; clear HO_4; clear HO729; clear HL730_1; clear HR730_1; clear HB; have HO_3 := n0_; have HO_4 := n1_; have HO729 := n2_; have HL730_1 := n3_; have HR730_1 := n4_; have HB := n5_; clear n0_ n1_ n2_ n3_ n4_ n5_; (try clear hb); (try clear hb2); (try clear hk); (try clear hi)) | (go_at_call 33; refine calls_of_args (args' := #[.slice (some ⟨go31, 0, none⟩) y732.length co57]) (by first | (rw [show y732.length = y727.length from (Kd.N_reads' HO729.out).1.symm] <;> rfl) | rfl) ?_; (with_reducible refine (impl_LongestTime.calls _ _ y732 t735 _ ?side1 ?side2 ?sideT A42.out).mono ?_); (case sideT => exact (HT.out.below (by repeat (first | (with_reducible first | exact HB.out | apply below_alloc | apply pw_below_drewN | apply below_drew1 | refine below_set ?_ GB31.out) | exact HB.out)))); (case side1 => repeat (first | exact (Kd.N_reads' HO729.out).2.2 | (with_reducible refine Kd.C_alloc ?_ _) | (with_reducible refine Kd.C_drewN ?_ _) | (with_reducible refine Kd.C_drew ?_))); (case side2 => rw [show y732.length = y727.length from (Kd.N_reads' HO729.out).1.symm]; exact (Kd.N_reads' HO729.out).2.1); rintro e w61 ⟨rfl, hb⟩; have n0_ := Aside0.mk (Kd.N_below (by (with_reducible repeat (first | apply Kd.N_alloc | apply Kd.N_drewN | apply Kd.N_drew)); exact HO_3.out) hb); have n1_ := Aside0.mk (Kd.R_below (by (with_reducible repeat (first | apply Kd.R_alloc | apply Kd.R_drewN | apply Kd.R_drew)); exact HO_4.out) hb); have n2_ := Aside0.mk (Kd.N_below (by (with_reducible repeat (first | apply Kd.N_alloc | apply Kd.N_drewN | apply Kd.N_drew)); exact HO729.out) hb); have n3_ := Aside0.mk (Kd.V_below (by (with_reducible repeat (first | apply Kd.V_alloc | apply Kd.V_drewN | apply Kd.V_drew)); exact HL730_1.out) hb); have n4_ := Aside0.mk (Kd.C_below (by repeat (first | (with_reducible exact HR730_1.out) | (with_reducible refine Kd.C_alloc ?_ _) | (with_reducible refine Kd.C_drewN ?_ _) | (with_reducible refine Kd.C_drew ?_) | exact HR730_1.out)) hb); have n5_ := Aside0.mk (below_step (by repeat (first | (with_reducible first | exact HB.out | apply below_alloc | apply pw_below_drewN | apply below_drew1) | exact HB.out)) hb); clear HO_3; clear HO_4; clear HO729; clear HL730_1; clear HR730_1; clear HB; have HO_3 := n0_; have HO_4 := n1_; have HO729 := n2_; have HL730_1 := n3_; have HR730_1 := n4_; have HB := n5_; clear n0_ n1_ n2_ n3_ n4_ n5_; (try clear hb); (try clear hb2); (try clear hk); (try clear hi)))
                              go_ret
                              exact ⟨by first | rfl | (simp [errW_none, errW_some] <;> rfl) | (simp [*, errW_none, errW_some] <;> rfl), by repeat (first | (with_reducible first | exact HB.out | apply below_alloc | apply pw_below_drewN | apply below_drew1) | exact HB.out)⟩
                          · replace c41 := Bool.eq_false_iff.mpr c41
                            subst c41
                            have H1 : (laws_FnSlackTimes.l0 k2 x3_2 t712 t723 (wrap64 (x6_2 + 1))) = some r := by rw [if_neg (show ¬ (false = true) by decide)] at H; exact H
                            clear H
                            have H := H1
                            clear H1
                            have H' := Aside0.mk H
                            clear H
                            try go_wp2_with (first | ((with_reducible refine gate_dst (N := 39) rfl ?_); (try (refine gate_guard (by rfl) ?_; dsimp only)); refine Kd.N_lit k30 _ 30 ?hg (N' := 39) ?hd (xs := ([] : List (S30))) (inner := []) (ok := (fun k_ => some k_ ≠ (.slice Ao7 x3_2.length co7 : Value).ownBlock ∧ some k_ ≠ (v713 : Value).ownBlock)) (okp := (fun k_ => some k_ ≠ (.slice Ao7 x3_2.length co7 : Value).ownBlock ∧ some k_ ≠ (v713 : Value).ownBlock)) ?hr ?hp (fun _ hk => hk) ((show ∀ k_, wr.heap.size ≤ k_ → (fun k_ => some k_ ≠ (.slice Ao7 x3_2.length co7 : Value).ownBlock ∧ some k_ ≠ (v713 : Value).ownBlock) k_ from fun k_ hk => ⟨Kd.fresh' (Kd.N_lt (by (with_reducible repeat (first | apply Kd.N_alloc | apply Kd.N_drewN | apply Kd.N_drew)); exact HO_3.out)) k_ hk, Kd.fresh' (Kd.R_lt (by (with_reducible repeat (first | apply Kd.R_alloc | apply Kd.R_drewN | apply Kd.R_drew)); exact HO_4.out)) k_ hk⟩) _ (Nat.le_refl _)) (Below.refl _ _) (Nat.le_refl _) (by simp) ?_; (case hd => rfl); (case hg => rfl); (case hr => first | (go_simp; done) | (go_simp; rfl)); (case hp => exact (Reps.none _ _)); intro v725 w62 ho63 hb hg_ hnew_; clear hg_ hnew_; (first | rw [← Ny724.out] at ho63 | (simp only [Int.reduceToNat] at ho63; rw [← Ny724.out] at ho63)); have n0_ := Aside0.mk (Kd.N_elder' (by (with_reducible repeat (first | apply Kd.N_alloc | apply Kd.N_drewN | apply Kd.N_drew)); exact HO_3.out) (Kd.N_base ho63) hb); have n1_ := Aside0.mk (Kd.R_below (by (with_reducible repeat (first | apply Kd.R_alloc | apply Kd.R_drewN | apply Kd.R_drew)); exact HO_4.out) hb); have n2_ := Aside0.mk (Kd.N_lower ho63 (below_size (by repeat (first | (with_reducible first | exact HB.out | apply below_alloc | apply pw_below_drewN | apply below_drew1) | exact HB.out)))); have n3_ := Aside0.mk (below_step (by repeat (first | (with_reducible first | exact HB.out | apply below_alloc | apply pw_below_drewN | apply below_drew1) | exact HB.out)) hb); clear HO_3; clear HO_4; clear HB; have HO_3 := n0_; have HO_4 := n1_; have HO726 := n2_; have HB := n3_; clear n0_ n1_ n2_ n3_; clear hb ho63) | ((with_reducible refine gate_builtin (b := .append) (xs := #[.tmp 39, .tmp 40]) rfl ?_); (try (refine gate_guard (by rfl) ?_; dsimp only)); at_builtin; refine Kd.N_append_rows k30 (w0 := w) w.heap.size rfl (.tmp 39) (.tmp 40) 23 30 (.agg #[(.int .i64 0), (.slice none 0 0), (.int .i64 0), (.int .i64 0)]) 48 rfl Tryd.underlying23 info30 rfl (by decide) (by omega) v725 y724 x3_2 _ _ _ (fun k_ => some k_ ≠ (v713 : Value).ownBlock) (fun k_ => ((fun k_ => some k_ ≠ (v713 : Value).ownBlock)) k_ ∧ some k_ ≠ (v725 : Value).ownBlock) rfl rfl ?aO ?aR (fun _ hk => hk) ?aF ?aB ?aS ?aL ?_; (case aR => exact (by skip; exact Kd.N_F (Kd.N_mono (ok' := (fun k_ => ((fun k_ => some k_ ≠ (v713 : Value).ownBlock)) k_ ∧ some k_ ≠ (v725 : Value).ownBlock)) (HO_3.out) (fun k_ hk => ⟨hk.1, hk.2⟩)))); (case aB => exact (by repeat (first | (with_reducible first | exact HB.out | apply below_alloc | apply pw_below_drewN | apply below_drew1) | exact HB.out))); (case aF => exact (fun k_ hk => Kd.fresh' (Kd.R_lt (by (with_reducible repeat (first | apply Kd.R_alloc | apply Kd.R_drewN | apply Kd.R_drew)); exact HO_4.out)) k_ hk)); (case aO => exact (by (with_reducible repeat (first | apply Kd.N_alloc | apply Kd.N_drewN | apply Kd.N_drew)); exact Kd.N_mono HO726.out (fun _ hk => hk.2))); (case aS => exact (below_size (by repeat (first | (with_reducible first | exact HB.out | apply below_alloc | apply pw_below_drewN | apply below_drew1) | exact HB.out)))); (case aL => have := LMc27.out; omega); intro v728 w64 ho hb hg hat; rw [← Ny727.out] at ho; have n0_ := Aside0.mk (Kd.N_afterv (ok := (fun k_ => some k_ ≠ (v713 : Value).ownBlock)) (by (with_reducible repeat (first | apply Kd.N_alloc | apply Kd.N_drewN | apply Kd.N_drew)); exact HO_3.out) hg hat); have n1_ := Aside0.mk (Kd.R_over' (by (with_reducible repeat (first | apply Kd.R_alloc | apply Kd.R_drewN | apply Kd.R_drew)); exact HO_4.out) (Kd.N_typed (by (with_reducible repeat (first | apply Kd.N_alloc | apply Kd.N_drewN | apply Kd.N_drew)); exact HO726.out)) (by decide) hg); have n2_ := Aside0.mk (hb); have n3_ := Aside0.mk (ho); clear HO_3; clear HO_4; clear HB; clear HO726; have HO_3 := n0_; have HO_4 := n1_; have HB := n2_; have HO729 := n3_; clear n0_ n1_ n2_ n3_; clear ho hb hg hat))
                            have n0_ := Aside0.mk (Kd.N_drew HO_3.out)
                            have n1_ := Aside0.mk (Kd.R_drew HO_4.out)
                            have n2_ := Aside0.mk (Kd.N_drew HO729.out)
                            have n3_ := Aside0.mk (below_drew1 HB.out)
                            clear HO_3
                            clear HO_4
                            clear HO729
                            clear HB
                            have HO_3 := n0_
                            have HO_4 := n1_
                            have HO729 := n2_
                            have HB := n3_
                            clear n0_ n1_ n2_ n3_
                            obtain ⟨Ao66, co66, eo66⟩ := Kd.N_slice HO729.out
                            (first | subst eo66 | (injection eo66 with f1_ f2_ f3_; have f4_ := f1_.symm; have f5_ := f3_.symm; clear f1_ f2_ f3_; subst f4_; subst f5_))
                            have p730 : 0 ≤ (x6_2 : Int) := of_decide_eq_true (by first | (with_reducible assumption) | assumption)
                            have q730 : x6_2 < (y727.length : Int) := of_decide_eq_true (by first | (with_reducible assumption) | assumption)
                            obtain ⟨ad730, A730_1, c730_1, e730, hx730_0, hx730_1, hx730_2, hx730_3, hl730_1, hi730_1⟩ := at_T30 (Kd.N_reads' HO729.out).2.2 x6_2 p730 q730
                            cases e730
                            obtain ⟨ce730, hce730, hMe730, hcc730⟩ := Kd.N_get HO729.out z30 x6_2 p730 (by first | exact q730 | exact of_decide_eq_true (by first | (with_reducible assumption) | assumption) | (have e_ := (Kd.N_reads' HO729.out).1; omega))
                            obtain ⟨ua730_1, uc730_1, rfl, ul730_1, ge730_1⟩ := k30_openF hMe730
                            have hv730_1 := hcc730 1 _ rfl
                            rw [add_field _ _ 1 (by omega)] at hv730_1
                            replace hv730_1 := Option.some.inj (hv730_1.symm.trans hx730_1)
                            injection hv730_1 with hva_ hvn_ hvc_
                            rw [hva_] at ge730_1
                            rw [hvc_] at ul730_1
                            have HL730_1 := Aside0.mk (show Kd.V (Kd.int .i64) 3 _ w.heap.size _ _ ((rd_T30 y727 x6_2).f1) from Kd.V_mk ul730_1 ge730_1)
                            clear hva_ hvn_ hvc_ ge730_1 ul730_1
                            clear hcc730 hce730
                            have HR730_1 := Aside0.mk hi730_1
                            have HC730_1 := Aside0.mk hl730_1
                            clear hi730_1 hl730_1
                            replace p730 := eq_true p730
                            replace q730 := eq_true q730
                            obtain ⟨Ao67, co67, eo67⟩ := Kd.R_slice HO_4.out
                            (first | subst eo67 | (injection eo67 with f1_ f2_ f3_; have f4_ := f1_.symm; have f5_ := f3_.symm; clear f1_ f2_ f3_; subst f4_; subst f5_))
                            have p731 : 0 ≤ (x6_2 : Int) := of_decide_eq_true (by first | (with_reducible assumption) | assumption)
                            have q731 : x6_2 < (t712.length : Int) := of_decide_eq_true (by first | (with_reducible assumption) | assumption)
                            obtain ⟨ad731, e731, hx731_0⟩ := Kd.at_int (Kd.R_reads' HO_4.out).2.2 x6_2 p731 q731
                            cases e731
                            replace p731 := eq_true p731
                            replace q731 := eq_true q731
                            have p31 : 0 ≤ (x6_2 : Int) := of_decide_eq_true (by first | (with_reducible assumption) | assumption)
                            have q31 : (x6_2 : Int) < ((y727.length : Int) : Int) := of_decide_eq_true (by first | (with_reducible assumption) | assumption)
                            obtain ⟨go31, co31, eo31, gb31, gl31, cl31, HG31⟩ := Kd.N_form HO729.out (by omega)
                            (first | cases eo31 | (injection eo31 with ea_ en_ ec_; (first | subst ea_ | (injection ea_ with ea_; subst ea_)); subst ec_; clear en_))
                            have GB31 := Aside0.mk gb31
                            have GG31 := Aside0.mk HG31
                            clear gb31 gl31 HG31
                            (first | simp only [add_plain] at hx730_0 | skip)
                            (first | simp only [add_plain] at hx730_1 | skip)
                            (first | simp only [add_plain] at hx730_2 | skip)
                            (first | simp only [add_plain] at hx730_3 | skip)
                            obtain ⟨ce31, hcl31, hM31, hcc31, hfr31⟩ := Kd.N_elem HO729.out z30 (x6_2 : Int) p31 q31
                            obtain ⟨ua31_1, uc31_1, rfl, ul31_1, ge31_1⟩ := k30_openF hM31
                            have hx31_0 : World.cell? _ ⟨go31, (x6_2 : Int).toNat * 4, none⟩ = some (.int .i64 ((rd_T30 y727 x6_2).f0)) := hcc31 0 _ rfl
                            have hx31_1 : World.cell? _ ⟨go31, (x6_2 : Int).toNat * 4 + 1, none⟩ = some (.slice ua31_1 ((rd_T30 y727 x6_2).f1).length uc31_1) := hcc31 1 _ rfl
                            have hx31_2 : World.cell? _ ⟨go31, (x6_2 : Int).toNat * 4 + 2, none⟩ = some (.int .i64 ((rd_T30 y727 x6_2).f2)) := hcc31 2 _ rfl
                            have hx31_3 : World.cell? _ ⟨go31, (x6_2 : Int).toNat * 4 + 3, none⟩ = some (.int .i64 ((rd_T30 y727 x6_2).f3)) := hcc31 3 _ rfl
                            have hf31_0 : World.frozen? _ ⟨go31, (x6_2 : Int).toNat * 4, none⟩ = false := hfr31 0
                            have hf31_1 : World.frozen? _ ⟨go31, (x6_2 : Int).toNat * 4 + 1, none⟩ = false := hfr31 1
                            have hf31_2 : World.frozen? _ ⟨go31, (x6_2 : Int).toNat * 4 + 2, none⟩ = false := hfr31 2
                            have hf31_3 : World.frozen? _ ⟨go31, (x6_2 : Int).toNat * 4 + 3, none⟩ = false := hfr31 3
                            clear hcl31 hcc31 hfr31 hM31
                            replace p31 := eq_true p31
                            replace q31 := eq_true q31
                            have HX68 := Aside0.mk (show Kd.N k30 30 _ w.heap.size (fun k_ => some k_ ≠ (.slice (some ad731) t712.length co67 : Value).ownBlock) (.slice (some ⟨go31, 0, none⟩) y727.length co66) y727 from (Kd.N_mono (HO729.out) (fun k_ hk => hk)))
                            obtain ⟨ce68, hcl68, hM68, hcc68, hfr68⟩ := Kd.N_elem HX68.out z30 (x6_2 : Int) (of_decide_eq_true (by first | (with_reducible assumption) | assumption)) (by have h_ : (x6_2 : Int) < ((y727.length : Int) : Int) := of_decide_eq_true (by first | (with_reducible assumption) | assumption); first | exact h_ | (have e_ := (Kd.N_reads' HO729.out).1; omega) | simpa using h_)
                            obtain ⟨ua68_1, uc68_1, rfl, ul68_1, ge68_1⟩ := k30_openF hM68
                            have HP68 := (Kd.N_seg HX68.out (x6_2 : Int) (of_decide_eq_true (by first | (with_reducible assumption) | assumption)) (by have h_ : (x6_2 : Int) < ((y727.length : Int) : Int) := of_decide_eq_true (by first | (with_reducible assumption) | assumption); first | exact h_ | (have e_ := (Kd.N_reads' HO729.out).1; omega) | simpa using h_) (seg := [.int .i64 (wrap64 (((rd_T30 y727 x6_2).f0) + (rd t712 x6_2)))]) (j := 0) hcl68 hcc68 (show 1 ≤ 4 from by decide) (x' := (⟨wrap64 (((rd_T30 y727 x6_2).f0) + (rd t712 x6_2)), (rd_T30 y727 x6_2).f1, (rd_T30 y727 x6_2).f2, (rd_T30 y727 x6_2).f3⟩ : S30)) (k30_mkF _ _ (⟨wrap64 (((rd_T30 y727 x6_2).f0) + (rd t712 x6_2)), (rd_T30 y727 x6_2).f1, (rd_T30 y727 x6_2).f2, (rd_T30 y727 x6_2).f3⟩ : S30) ul68_1 ge68_1) (fun _ hk => hk)).1
                            rw [← Ny732.out] at HP68
                            have HQ68 := Aside0.mk HP68
                            clear hcl68 hcc68 hfr68 hM68 HP68
                            refine start_ (n := 15) (S := fun w' => w'.cell? ⟨go31, ((x6_2).toNat * 4), none⟩ = some (.int .i64 ((rd_T30 y727 x6_2).f0)) ∧ w'.cell? ⟨go31, ((x6_2).toNat * 4) + 1, none⟩ = some (.slice A730_1 ((rd_T30 y727 x6_2).f1).length c730_1) ∧ w'.cell? ⟨go31, ((x6_2).toNat * 4) + 2, none⟩ = some (.int .i64 ((rd_T30 y727 x6_2).f2)) ∧ w'.cell? ⟨go31, ((x6_2).toNat * 4) + 3, none⟩ = some (.int .i64 ((rd_T30 y727 x6_2).f3)) ∧ w'.cell? (ad731.add (x6_2).toNat) = some (.int .i64 (rd t712 x6_2))) (ds := [14]) #[false, false, false, false, false, false, false, false, false, false, false, false, false, false, false] (by kernel_rfl) rfl rfl ⟨hx730_0, hx730_1, hx730_2, hx730_3, hx731_0⟩ (fun hHeld => ?_); refine with_tabW laws_FnSlackTimes.tab12 laws_FnSlackTimes.bits12 (fun HT_ HW_ => ?_)
                            generalize w64.drew = w65 at HO_3 HO_4 HO729 HB GG31 HL730_1 HQ68 HR730_1 hf31_0 hf31_1 hf31_2 hf31_3 hx31_0 hx31_1 hx31_2 hx31_3 hx730_0 hx730_1 hx730_2 hx730_3 hx731_0 hHeld ⊢
                            refine pure_ (i := 0) (N := some 42) (v := ?_) (a' := ?_) #[true, false, false, false, false, false, false, false, false, false, false, false, false, false, false] rfl rfl (any_of HT_.out (by kernel_rfl)) (fun _ _ _ h => h) (Or.inl ⟨by rfl, ?_⟩) ?_ ?_
                            rotate_left
                            · intro w'
                              go_simp
                              with_reducible rfl
                            rotate_left
                            · simp only [Act.put, List.setIfInBounds_toArray, List.set_cons_zero, List.set_cons_succ, i64_w, i32_w]
                              rfl
                            refine pure_ (i := 1) (N := some 43) (v := ?_) (a' := ?_) #[true, true, false, false, false, false, false, false, false, false, false, false, false, false, false] rfl rfl (any_of HT_.out (by kernel_rfl)) (fun _ _ _ h => h) (Or.inl ⟨by rfl, ?_⟩) ?_ ?_
                            rotate_left
                            · intro w'
                              go_simp
                              with_reducible rfl
                            rotate_left
                            · simp only [Act.put, List.setIfInBounds_toArray, List.set_cons_zero, List.set_cons_succ, i64_w, i32_w]
                              rfl
                            refine pure_ (i := 2) (N := some 44) (v := ?_) (a' := ?_) #[true, true, true, false, false, false, false, false, false, false, false, false, false, false, false] rfl rfl (any_of HT_.out (by kernel_rfl)) (fun _ _ _ h => h) (Or.inl ⟨by rfl, ?_⟩) ?_ ?_
                            rotate_left
                            · intro w'
                              go_simp
                              with_reducible rfl
                            rotate_left
                            · simp only [Act.put, List.setIfInBounds_toArray, List.set_cons_zero, List.set_cons_succ, i64_w, i32_w]
                              rfl
                            refine pure_ (i := 3) (N := some 45) (v := ?_) (a' := ?_) #[true, true, true, true, false, false, false, false, false, false, false, false, false, false, false] rfl rfl (any_of HT_.out (by kernel_rfl)) (fun _ _ _ h => h) (Or.inl ⟨by rfl, ?_⟩) ?_ ?_
                            rotate_left
                            · intro w'
                              go_simp
                              with_reducible rfl
                            rotate_left
                            · simp only [Act.put, List.setIfInBounds_toArray, List.set_cons_zero, List.set_cons_succ, i64_w, i32_w]
                              rfl
                            refine pure_ (i := 4) (N := some 46) (v := ?_) (a' := ?_) #[true, true, true, true, true, false, false, false, false, false, false, false, false, false, false] rfl rfl (any_of HT_.out (by kernel_rfl)) (fun _ _ _ h => h) (Or.inl ⟨by rfl, ?_⟩) ?_ ?_
                            rotate_left
                            · intro w'
                              go_simp
                              with_reducible rfl
                            rotate_left
                            · simp only [Act.put, List.setIfInBounds_toArray, List.set_cons_zero, List.set_cons_succ, i64_w, i32_w]
                              rfl
                            refine pure_ (i := 5) (N := some 47) (v := ?_) (a' := ?_) #[true, true, true, true, true, true, false, false, false, false, false, false, false, false, false] rfl rfl (any_of HT_.out (by kernel_rfl)) (fun _ _ _ h => h) (Or.inl ⟨by rfl, ?_⟩) ?_ ?_
                            rotate_left
                            · intro w'
                              go_simp
                              with_reducible rfl
                            rotate_left
                            · simp only [Act.put, List.setIfInBounds_toArray, List.set_cons_zero, List.set_cons_succ, i64_w, i32_w]
                              rfl
                            refine pure_ (i := 7) (N := some 49) (v := ?_) (a' := ?_) #[true, true, true, true, true, true, false, true, false, false, false, false, false, false, false] rfl rfl (any_of HT_.out (by kernel_rfl)) (fun _ _ _ h => h) (Or.inl ⟨by rfl, ?_⟩) ?_ ?_
                            rotate_left
                            · intro w'
                              go_simp
                              with_reducible rfl
                            rotate_left
                            · simp only [Act.put, List.setIfInBounds_toArray, List.set_cons_zero, List.set_cons_succ, i64_w, i32_w]
                              rfl
                            refine pure_ (i := 8) (N := some 50) (v := ?_) (a' := ?_) #[true, true, true, true, true, true, false, true, true, false, false, false, false, false, false] rfl rfl (any_of HT_.out (by kernel_rfl)) (fun _ _ _ h => h) (Or.inl ⟨by rfl, ?_⟩) ?_ ?_
                            rotate_left
                            · intro w'
                              go_simp
                              with_reducible rfl
                            rotate_left
                            · simp only [Act.put, List.setIfInBounds_toArray, List.set_cons_zero, List.set_cons_succ, i64_w, i32_w]
                              rfl
                            refine pure_ (i := 9) (N := some 51) (v := ?_) (a' := ?_) #[true, true, true, true, true, true, false, true, true, true, false, false, false, false, false] rfl rfl (any_of HT_.out (by kernel_rfl)) (fun _ _ _ h => h) (Or.inl ⟨by rfl, ?_⟩) ?_ ?_
                            rotate_left
                            · intro w'
                              go_simp
                              with_reducible rfl
                            rotate_left
                            · simp only [Act.put, List.setIfInBounds_toArray, List.set_cons_zero, List.set_cons_succ, i64_w, i32_w]
                              rfl
                            refine take_ (i := 6) (N := some 48) (v := ?_) (a' := ?_) #[true, true, true, true, true, true, true, true, true, true, false, false, false, false, false] rfl rfl (take_ofW HT_.out HW_.out (by kernel_rfl)) (fun _ _ _ h => h) (Or.inl ⟨by rfl, ?_⟩) hHeld ?_ ?_
                            rotate_left
                            · rintro w' ⟨s0, s1, s2, s3, s4⟩
                              go_simp
                              with_reducible rfl
                            rotate_left
                            · simp only [Act.put, List.setIfInBounds_toArray, List.set_cons_zero, List.set_cons_succ, i64_w, i32_w]
                              rfl
                            refine take_ (i := 10) (N := some 52) (v := ?_) (a' := ?_) #[true, true, true, true, true, true, true, true, true, true, true, false, false, false, false] rfl rfl (take_ofW HT_.out HW_.out (by kernel_rfl)) (fun _ _ _ h => h) (Or.inl ⟨by rfl, ?_⟩) hHeld ?_ ?_
                            rotate_left
                            · rintro w' ⟨s0, s1, s2, s3, s4⟩
                              go_simp
                              with_reducible rfl
                            rotate_left
                            · simp only [Act.put, List.setIfInBounds_toArray, List.set_cons_zero, List.set_cons_succ, i64_w, i32_w]
                              rfl
                            refine pure_ (i := 11) (N := some 53) (v := ?_) (a' := ?_) #[true, true, true, true, true, true, true, true, true, true, true, true, false, false, false] rfl rfl (any_of HT_.out (by kernel_rfl)) (fun _ _ _ h => h) (Or.inl ⟨by rfl, ?_⟩) ?_ ?_
                            rotate_left
                            · intro w'
                              go_simp
                              with_reducible rfl
                            rotate_left
                            · simp only [Act.put, List.setIfInBounds_toArray, List.set_cons_zero, List.set_cons_succ, i64_w, i32_w]
                              rfl
                            refine pure_ (i := 12) (N := some 54) (v := ?_) (a' := ?_) #[true, true, true, true, true, true, true, true, true, true, true, true, true, false, false] rfl rfl (any_of HT_.out (by kernel_rfl)) (fun _ _ _ h => h) (Or.inl ⟨by rfl, ?_⟩) ?_ ?_
                            rotate_left
                            · intro w'
                              go_simp
                              with_reducible rfl
                            rotate_left
                            · simp only [Act.put, List.setIfInBounds_toArray, List.set_cons_zero, List.set_cons_succ, i64_w, i32_w]
                              rfl
                            refine pure_ (i := 13) (N := some 55) (v := ?_) (a' := ?_) #[true, true, true, true, true, true, true, true, true, true, true, true, true, true, false] rfl rfl (any_of HT_.out (by kernel_rfl)) (fun _ _ _ h => h) (Or.inl ⟨by rfl, ?_⟩) ?_ ?_
                            rotate_left
                            · intro w'
                              go_simp
                              with_reducible rfl
                            rotate_left
                            · simp only [Act.put, List.setIfInBounds_toArray, List.set_cons_zero, List.set_cons_succ, i64_w, i32_w]
                              rfl
                            refine last_ (i := 14) (N := none) #[true, true, true, true, true, true, true, true, true, true, true, true, true, true, true] rfl rfl (one_of HT_.out (by kernel_rfl)) (by decide) (fun K hK => ?_)
                            refine skip_ (w1 := ?_) (by rfl) rfl ?_ ?_
                            rotate_left
                            · go_simp
                              rfl
                            refine hK.out _ _ ?_
                            clear hK K
                            refine done_ (done_of HT_.out (by kernel_rfl)) ?_
                            have p733 : 0 ≤ (x6_2 : Int) := of_decide_eq_true (by first | (with_reducible assumption) | assumption)
                            have q733 : x6_2 < (t712.length : Int) := of_decide_eq_true (by first | (with_reducible assumption) | assumption)
                            obtain ⟨ad733, e733, hx733_0⟩ := Kd.at_int (Kd.R_reads' (Kd.R_far (p := ⟨go31, (x6_2 : Int).toNat * 4, none⟩) (Kd.R_types HO_4.out GG31.out (by decide)) (fun _ hk => hk.2) (.int .i64 (wrap64 (((rd_T30 y727 x6_2).f0) + (rd t712 x6_2)))))).2.2 x6_2 p733 q733
                            obtain rfl : ad731 = ad733 := (by injection e733)
                            replace p733 := eq_true p733
                            replace q733 := eq_true q733
                            try go_wp2_with (first | (go_at_call 34; refine calls_of_args (args' := #[.slice (some ⟨go31, 0, none⟩) y732.length co66]) (by first | (rw [show y732.length = y727.length from (Kd.N_reads' HQ68.out).1.symm] <;> rfl) | rfl) ?_; (with_reducible refine (impl_ValidGraph.calls _ _ y732 false _ ?side1 ?side2 ?sideT A40.out).mono ?_); (case sideT => exact (HT.out.below (by repeat (first | (with_reducible first | exact HB.out | apply below_alloc | apply pw_below_drewN | apply below_drew1 | refine below_set ?_ GB31.out) | exact HB.out)))); (case side1 => refine (Kd.N_reads' (e := 30) (base := w.heap.size) (ok := fun k_ => some k_ ≠ (.slice (some ad731) t712.length co67 : Value).ownBlock) (n := y727.length) (c := co66) ?_).2.2; exact (by (with_reducible repeat (first | apply Kd.N_alloc | apply Kd.N_drewN | apply Kd.N_drew)); exact HQ68.out)); (case side2 => rw [show y732.length = y727.length from (Kd.N_reads' HQ68.out).1.symm]; exact (Kd.N_reads' HO729.out).2.1); rintro e w69 ⟨rfl, hb⟩; have n0_ := Aside0.mk (Kd.N_below (by (with_reducible repeat (first | apply Kd.N_alloc | apply Kd.N_drewN | apply Kd.N_drew)); exact (Kd.N_mono (Kd.N_far (p := ⟨go31, (x6_2 : Int).toNat * 4, none⟩) (Kd.N_mono HO_3.out (fun k_ hk => (⟨hk, fun e_ => hk.2 (by rw [e_]; rfl)⟩ : _ ∧ k_ ≠ go31))) (fun _ hk => hk.2) (.int .i64 (wrap64 (((rd_T30 y727 x6_2).f0) + (rd t712 x6_2))))) (fun _ h_ => h_.1))) hb); have n1_ := Aside0.mk (Kd.R_below (by (with_reducible repeat (first | apply Kd.R_alloc | apply Kd.R_drewN | apply Kd.R_drew)); exact (Kd.R_mono (Kd.R_far (p := ⟨go31, (x6_2 : Int).toNat * 4, none⟩) (Kd.R_types HO_4.out GG31.out (by decide)) (fun _ hk => hk.2) (.int .i64 (wrap64 (((rd_T30 y727 x6_2).f0) + (rd t712 x6_2))))) (fun _ h_ => h_.1))) hb); have n2_ := Aside0.mk (Kd.N_below (by (with_reducible repeat (first | apply Kd.N_alloc | apply Kd.N_drewN | apply Kd.N_drew)); exact HQ68.out) hb); have n3_ := Aside0.mk (Kd.V_below (by (with_reducible repeat (first | apply Kd.V_alloc | apply Kd.V_drewN | apply Kd.V_drew)); exact (Kd.V_mono (Kd.V_far (p := ⟨go31, (x6_2 : Int).toNat * 4, none⟩) (Kd.V_mono HL730_1.out (fun k_ hk => (⟨hk, fun e_ => hk.2 (by rw [e_]; rfl)⟩ : _ ∧ k_ ≠ go31))) (fun _ hk => hk.2) (.int .i64 (wrap64 (((rd_T30 y727 x6_2).f0) + (rd t712 x6_2))))) (fun _ h_ => h_.1))) hb); have n4_ := Aside0.mk (Kd.C_below ((Kd.V_reads' (by (with_reducible repeat (first | apply Kd.V_alloc | apply Kd.V_drewN | apply Kd.V_drew)); exact (Kd.V_mono (Kd.V_far (p := ⟨go31, (x6_2 : Int).toNat * 4, none⟩) (Kd.V_mono HL730_1.out (fun k_ hk => (⟨hk, fun e_ => hk.2 (by rw [e_]; rfl)⟩ : _ ∧ k_ ≠ go31))) (fun _ hk => hk.2) (.int .i64 (wrap64 (((rd_T30 y727 x6_2).f0) + (rd t712 x6_2))))) (fun _ h_ => h_.1)))).2.2) hb); have n5_ := Aside0.mk (below_step (by repeat (first | (with_reducible first | exact HB.out | apply below_alloc | apply pw_below_drewN | apply below_drew1 | refine below_set ?_ GB31.out) | exact HB.out)) hb); clear HO_3; clear HO_4; clear HO729; clear HL730_1; clear HR730_1; clear HB; have HO_3 := n0_; have HO_4 := n1_; have HO729 := n2_; have HL730_1 := n3_; have HR730_1 := n4_; have HB := n5_; clear n0_ n1_ n2_ n3_ n4_ n5_; (try clear hb); (try clear hb2); (try clear hk); (try clear hi)))
                            (try simp only [← hl3_2])
                            go_roundg k2
                            case measure => have := HJ4.out; have := HK2.out; omega
                            case rel => exact ⟨(x3_2), (wrap64 (x6_2 + 1)), (by first | rfl | (simp; done) | (simp [*]; done)), H', ⟨by have := HJ4.out; have := HK2.out; omega⟩, ⟨by (try simp only [hl3_2]); (with_reducible repeat (first | apply Kd.N_alloc | apply Kd.N_drewN | apply Kd.N_drew)); exact Kd.N_mono HO_3.out (fun _ hk => hk.1)⟩, ⟨by (try simp only [hl3_2]); (with_reducible repeat (first | apply Kd.R_alloc | apply Kd.R_drewN | apply Kd.R_drew)); exact HO_4.out⟩, ⟨by repeat (first | (with_reducible first | exact HB.out | apply below_alloc | apply pw_below_drewN | apply below_drew1) | exact HB.out)⟩⟩
                      · rw [if_neg c30] at H
                        exact absurd H (by simp)
                    · rw [if_neg c29] at H
                      exact absurd H (by simp)
                  · rw [if_neg c28] at H
                    exact absurd H (by simp)
                · rw [if_neg c27] at H
                  exact absurd H (by simp)
              · rw [if_neg c26] at H
                have c26b0 : decide (x6_2 < (x3_2.length : Int)) = false := decide_eq_false c26
                clear c26
                obtain rfl := Option.some.inj H
                go_wp2
                go_ret
                exact ⟨by first | rfl | (simp [errW_none, errW_some] <;> rfl) | (simp [*, errW_none, errW_some] <;> rfl), by repeat (first | (with_reducible first | exact HB.out | apply below_alloc | apply pw_below_drewN | apply below_drew1) | exact HB.out)⟩

/-- THE ONE PURE STATEMENT of laws_FnSlackTimes: yours. -/
def laws_FnSlackTimes.Pure : Prop := ∀ (l0 : List Int), l0.length ≤ maxLen → l0.length * 1 ≤ 140737488351232 → (∀ x ∈ l0, (Lit.int .u8 x).wf = true) → ∃ k, laws_FnSlackTimes.f k l0 = some true
theorem laws_FnSlackTimes.walk (P : laws_FnSlackTimes.Pure) (a0 : Option Addr) (len0 cap0 : Nat) (z0 : List Int) (w : World) (hT : Go.Proofs.YtgpnododcbkflaaDoor.H.Tab w) (w0 : (a0 = none ∧ len0 = 0 ∧ cap0 = 0 ∧ z0 = []) ∨ ∃ x, a0 = some x ∧ len0 ≤ cap0 ∧ cap0 ≤ maxLen ∧ z0.length = cap0 ∧ (∀ i, i < z0.length → w.cell? (x.add i) = some (.int .u8 (z0.getD i 0))) ∧ ∀ n ∈ z0, (Lit.int .u8 n).wf = true) (y0 : len0 * 1 ≤ 140737488351232) :
    Calls Tryd.prog 9 #[.slice a0 len0 cap0] w fun e w' => e = .returned (.bool true) ∧ Below w.heap.size w w' := by
  obtain ⟨l0, rfl, hr0, hm0, hw0, hc0⟩ := ReadsInt.ofRowC w0
  obtain ⟨k, h⟩ := P l0 hm0 y0 hw0
  refine (laws_FnSlackTimes.calls k _ _ l0 true w hT (Kd.C_of_reads (d := (0 : Int)) (h1 := fun _ => rfl) hr0) hc0 h).mono ?_
  rintro e w' ⟨rfl, hd⟩
  exact ⟨rfl, hd⟩

end Go.Proofs.YtgpnododcbkflaaDoor.Q
