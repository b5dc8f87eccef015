-- Written by a program of this session (wip/tools/myprint.py), by way of the kit's print, out of the translation of the seat. Lean checks it.
import Derived.Test.YtokikapljmakbaaDoorQx0
import Derived.Test.YtokikapljmakbaaDoorQx26
import Derived.Test.YtokikapljmakbaaDoorQx28
import Derived.Test.YtokikapljmakbaaDoorQx33
import Derived.Test.YtokikapljmakbaaDoorHTailT
namespace Go.Proofs.YtokikapljmakbaaDoor.Q
open Go.Proofs.YtokikapljmakbaaDoor.H Go.RowKit Go.Proofs.YtokikapljmakbaaDoorW.PrintWords Go.Proofs.YtokikapljmakbaaDoorW.PrintLast Go.Proofs.YtokikapljmakbaaDoorW.PrintMore
attribute [local go_sem] max2_int min2_int max_two min_two max_three min_three max_four min_four   -- for this text's walks alone
set_option linter.unusedVariables false
set_option linter.unusedSimpArgs false

/-! ### laws_FnTailTimes: function 13 -/
mutual
def laws_FnTailTimes.j0 : Nat → List (S29) → List Int → Bool → Option (Bool)
  | 0, _, _, _ => none
  | k + 1, x3, x4, x26 => if x26 = true then ((spec_TailTimes.f k x3).bind fun t616 => ((laws_equalInts.f k x4 t616).bind fun t619 => (some t619))) else (laws_FnTailTimes.l0 k x3 x4 0)
def laws_FnTailTimes.l0 : Nat → List (S29) → List Int → Int → Option (Bool)
  | 0, _, _, _ => none
  | k + 1, x3, x4, x5 => if x5 < (x3.length : Int) then (if 0 ≤ x5 then (if x5 < (x4.length : Int) then (if (rd x4 x5) < ((rd_T29 x3 x5).f0) then (some false) else (laws_FnTailTimes.l1 k x3 x4 x5 0)) else (none)) else (none)) else (some true)
def laws_FnTailTimes.l1 : Nat → List (S29) → List Int → Int → Int → Option (Bool)
  | 0, _, _, _, _ => none
  | k + 1, x3, x4, x5, x6 => if 0 ≤ x5 then (if x5 < (x3.length : Int) then (if x6 < (((rd_T29 x3 x5).f1).length : Int) then (if 0 ≤ x6 then (if 0 ≤ (rd ((rd_T29 x3 x5).f1) x6) then (if (rd ((rd_T29 x3 x5).f1) x6) < (x4.length : Int) then (if (rd ((rd_T29 x3 x5).f1) x6) < (x3.length : Int) then (if x5 < (x4.length : Int) then (if (rd x4 (rd ((rd_T29 x3 x5).f1) x6)) < (wrap64 (((rd_T29 x3 (rd ((rd_T29 x3 x5).f1) x6)).f0) + (rd x4 x5))) then (some false) else (laws_FnTailTimes.l1 k x3 x4 x5 (wrap64 (x6 + 1)))) else (none)) else (none)) else (none)) else (none)) else (none)) else (laws_FnTailTimes.l0 k x3 x4 (wrap64 (x5 + 1)))) else (none)) else (none)
end
def laws_FnTailTimes.f (k : Nat) (l0 : List Int) : Option (Bool) := if (l0.length : Int) > 1048576 then (some true) else ((spec_DrawTailTimes.f k l0).bind fun t606 => ((impl_TailTimes.f t606).bind fun t609 => ((spec_TailTimes.f k t606).bind fun t612 => ((laws_equalInts.f k t609 t612).bind fun t615 => (if t615 = true then (laws_FnTailTimes.j0 k t606 t609 ((t609.length : Int) != (t606.length : Int))) else (laws_FnTailTimes.j0 k t606 t609 true))))))
theorem laws_FnTailTimes.mono_l : ∀ k, (∀ y0 y1 y2, LeO (laws_FnTailTimes.j0 k y0 y1 y2) (laws_FnTailTimes.j0 (k + 1) y0 y1 y2)) ∧ (∀ y0 y1 y2, LeO (laws_FnTailTimes.l0 k y0 y1 y2) (laws_FnTailTimes.l0 (k + 1) y0 y1 y2)) ∧ (∀ y0 y1 y2 y3, LeO (laws_FnTailTimes.l1 k y0 y1 y2 y3) (laws_FnTailTimes.l1 (k + 1) y0 y1 y2 y3))
  | 0 => ⟨fun _ _ _ r h => by simp [laws_FnTailTimes.j0] at h, fun _ _ _ r h => by simp [laws_FnTailTimes.l0] at h, fun _ _ _ _ r h => by simp [laws_FnTailTimes.l1] at h⟩
  | k + 1 => by
    obtain ⟨ih0, ih1, ih2⟩ := laws_FnTailTimes.mono_l k
    refine ⟨?_, ?_, ?_⟩
    · intro y0 y1 y2
      unfold laws_FnTailTimes.j0
      repeat' first
      | (with_reducible exact ih0 _ _ _)
      | (with_reducible exact ih1 _ _ _)
      | (with_reducible exact ih2 _ _ _ _)
      | (with_reducible exact laws_equalInts.mono _ _ _)
      | (with_reducible exact spec_DrawTailTimes.mono _ _)
      | (with_reducible exact spec_TailTimes.mono _ _)
      | (with_reducible exact LeO.refl _)
      | (with_reducible exact LeO.none _)
      | (with_reducible refine LeO.ite ?_ ?_)
      | (with_reducible refine LeO.bind ?_ (fun _ => ?_))
      | exact ih0 _ _ _
      | exact ih1 _ _ _
      | exact ih2 _ _ _ _
      | exact laws_equalInts.mono _ _ _
      | exact spec_DrawTailTimes.mono _ _
      | exact spec_TailTimes.mono _ _
      | exact LeO.none _
      | refine LeO.ite ?_ ?_
      | refine LeO.bind ?_ (fun _ => ?_)
    · intro y0 y1 y2
      unfold laws_FnTailTimes.l0
      repeat' first
      | (with_reducible exact ih0 _ _ _)
      | (with_reducible exact ih1 _ _ _)
      | (with_reducible exact ih2 _ _ _ _)
      | (with_reducible exact laws_equalInts.mono _ _ _)
      | (with_reducible exact spec_DrawTailTimes.mono _ _)
      | (with_reducible exact spec_TailTimes.mono _ _)
      | (with_reducible exact LeO.refl _)
      | (with_reducible exact LeO.none _)
      | (with_reducible refine LeO.ite ?_ ?_)
      | (with_reducible refine LeO.bind ?_ (fun _ => ?_))
      | exact ih0 _ _ _
      | exact ih1 _ _ _
      | exact ih2 _ _ _ _
      | exact laws_equalInts.mono _ _ _
      | exact spec_DrawTailTimes.mono _ _
      | exact spec_TailTimes.mono _ _
      | exact LeO.none _
      | refine LeO.ite ?_ ?_
      | refine LeO.bind ?_ (fun _ => ?_)
    · intro y0 y1 y2 y3
      unfold laws_FnTailTimes.l1
      repeat' first
      | (with_reducible exact ih0 _ _ _)
      | (with_reducible exact ih1 _ _ _)
      | (with_reducible exact ih2 _ _ _ _)
      | (with_reducible exact laws_equalInts.mono _ _ _)
      | (with_reducible exact spec_DrawTailTimes.mono _ _)
      | (with_reducible exact spec_TailTimes.mono _ _)
      | (with_reducible exact LeO.refl _)
      | (with_reducible exact LeO.none _)
      | (with_reducible refine LeO.ite ?_ ?_)
      | (with_reducible refine LeO.bind ?_ (fun _ => ?_))
      | exact ih0 _ _ _
      | exact ih1 _ _ _
      | exact ih2 _ _ _ _
      | exact laws_equalInts.mono _ _ _
      | exact spec_DrawTailTimes.mono _ _
      | exact spec_TailTimes.mono _ _
      | exact LeO.none _
      | refine LeO.ite ?_ ?_
      | refine LeO.bind ?_ (fun _ => ?_)
theorem laws_FnTailTimes.mono : ∀ a0 k, LeO (laws_FnTailTimes.f k a0) (laws_FnTailTimes.f (k + 1) a0) := by
  intro a0 k
  obtain ⟨ih0, ih1, ih2⟩ := laws_FnTailTimes.mono_l k
  unfold laws_FnTailTimes.f
  repeat' first
      | (with_reducible exact ih0 _ _ _)
      | (with_reducible exact ih1 _ _ _)
      | (with_reducible exact ih2 _ _ _ _)
      | (with_reducible exact laws_equalInts.mono _ _ _)
      | (with_reducible exact spec_DrawTailTimes.mono _ _)
      | (with_reducible exact spec_TailTimes.mono _ _)
      | (with_reducible exact LeO.refl _)
      | (with_reducible exact LeO.none _)
      | (with_reducible refine LeO.ite ?_ ?_)
      | (with_reducible refine LeO.bind ?_ (fun _ => ?_))
      | exact ih0 _ _ _
      | exact ih1 _ _ _
      | exact ih2 _ _ _ _
      | exact laws_equalInts.mono _ _ _
      | exact spec_DrawTailTimes.mono _ _
      | exact spec_TailTimes.mono _ _
      | exact LeO.none _
      | refine LeO.ite ?_ ?_
      | refine LeO.bind ?_ (fun _ => ?_)
set_option maxHeartbeats 8000000 in
set_option maxRecDepth 100000 in
theorem laws_FnTailTimes.calls (k : Nat) (A0 : Option Addr) (c0 : Nat) (l0 : List Int) (r : Bool) (w : World) (hT : Go.Proofs.YtokikapljmakbaaDoor.H.Tab w) (hr0 : Kd.C (Kd.int .u8) w A0 l0.length l0) (hc0 : l0.length ≤ c0) (h : laws_FnTailTimes.f k l0 = some r) :
    Calls Tryd.prog 13 #[.slice A0 l0.length c0] w fun e w' => e = .returned (.bool r) ∧ Below w.heap.size w w' := by
  have HT := Aside0.mk hT
  clear hT
  have HR0 := Aside0.mk hr0
  have HC0 := Aside0.mk hc0
  clear hr0 hc0
  have HB := Aside0.mk (Below.refl w.heap.size w)
  have H : (if (l0.length : Int) > 1048576 then (some true) else ((spec_DrawTailTimes.f k l0).bind fun t606 => ((impl_TailTimes.f t606).bind fun t609 => ((spec_TailTimes.f k t606).bind fun t612 => ((laws_equalInts.f k t609 t612).bind fun t615 => (if t615 = true then (laws_FnTailTimes.j0 k t606 t609 ((t609.length : Int) != (t606.length : Int))) else (laws_FnTailTimes.j0 k t606 t609 true))))))) = some r := h
  clear h
  by_cases c2 : (l0.length : Int) > 1048576
  · rw [if_pos c2] at H
    have c2b0 : decide (1048576 < (l0.length : Int)) = true := decide_eq_true c2
    have c2b1 : decide (1048576 < l0.length) = true := decide_eq_true (by omega)
    clear c2
    obtain rfl := Option.some.inj H
    go_enter Tryd.func13, Tryd.ntmps13
    go_wp2
    repeat (go_quiet (fail); try go_wp2)
    go_ret
    exact ⟨by first | rfl | (simp [errW_none, errW_some] <;> rfl) | (simp [*, errW_none, errW_some] <;> rfl), by repeat (first | (with_reducible first | exact HB.out | apply below_alloc | apply pw_below_drewN | apply below_drew1) | exact HB.out)⟩
  · rw [if_neg c2] at H
    have c2b0 : decide (1048576 < (l0.length : Int)) = false := decide_eq_false c2
    have c2b1 : decide (1048576 < l0.length) = false := decide_eq_false (by omega)
    clear c2
    replace H := Option.bind_eq_some_iff.mp H
    obtain ⟨t606, A30, H⟩ := H
    replace H : ((impl_TailTimes.f t606).bind fun t609 => ((spec_TailTimes.f k t606).bind fun t612 => ((laws_equalInts.f k t609 t612).bind fun t615 => (if t615 = true then (laws_FnTailTimes.j0 k t606 t609 ((t609.length : Int) != (t606.length : Int))) else (laws_FnTailTimes.j0 k t606 t609 true))))) = some r := H
    have A3 := Aside0.mk A30
    clear A30
    replace H := Option.bind_eq_some_iff.mp H
    obtain ⟨t609, A40, H⟩ := H
    replace H : ((spec_TailTimes.f k t606).bind fun t612 => ((laws_equalInts.f k t609 t612).bind fun t615 => (if t615 = true then (laws_FnTailTimes.j0 k t606 t609 ((t609.length : Int) != (t606.length : Int))) else (laws_FnTailTimes.j0 k t606 t609 true)))) = some r := H
    have A4 := Aside0.mk A40
    clear A40
    have HC5 := Aside0.mk H
    clear H
    go_enter Tryd.func13, Tryd.ntmps13
    go_upto_region 5 with (first | (go_at_call 35; (with_reducible refine (spec_DrawTailTimes.calls k _ _ l0 t606 _ ?side1 ?side2 A3.out).mono ?_); (case side1 => repeat (first | exact HR0.out | (with_reducible refine Kd.C_alloc ?_ _) | (with_reducible refine Kd.C_drewN ?_ _) | (with_reducible refine Kd.C_drew ?_))); (case side2 => exact HC0.out); rintro e w6 ⟨v607, rfl, ho0, hb⟩; have n0_ := Aside0.mk (Kd.N_lower (Kd.N_mono (ok' := fun k_ => True) ho0 (fun k_ hk_ => trivial)) (below_size (by repeat (first | (with_reducible first | exact HB.out | apply below_alloc | apply pw_below_drewN | apply below_drew1) | exact HB.out)))); have n1_ := Aside0.mk (below_step (by repeat (first | (with_reducible first | exact HB.out | apply below_alloc | apply pw_below_drewN | apply below_drew1) | exact HB.out)) hb); clear HB; have HO608 := n0_; have HB := n1_; clear n0_ n1_; (try clear hb); (try clear hb2); (try clear hk); (try clear hi); (try clear ho0); obtain ⟨Ao7, co7, eo7⟩ := Kd.N_slice HO608.out; subst eo7) | (go_at_call 31; (with_reducible refine (impl_TailTimes.calls _ _ t606 t609 _ ?side1 ?side2 ?sideT A4.out).mono ?_); (case sideT => exact (HT.out.below (by repeat (first | (with_reducible first | exact HB.out | apply below_alloc | apply pw_below_drewN | apply below_drew1) | exact HB.out)))); (case side1 => repeat (first | exact (Kd.N_reads' HO608.out).2.2 | (with_reducible refine Kd.C_alloc ?_ _) | (with_reducible refine Kd.C_drewN ?_ _) | (with_reducible refine Kd.C_drew ?_))); (case side2 => exact (Kd.N_reads' HO608.out).2.1); rintro e w8 ⟨v610, rfl, ho0, hb⟩; have n0_ := Aside0.mk (Kd.N_elder' (by (with_reducible repeat (first | apply Kd.N_alloc | apply Kd.N_drewN | apply Kd.N_drew)); exact HO608.out) (Kd.R_base ho0) hb); have n1_ := Aside0.mk (Kd.R_lower ho0 (below_size (by repeat (first | (with_reducible first | exact HB.out | apply below_alloc | apply pw_below_drewN | apply below_drew1) | exact HB.out)))); have n2_ := Aside0.mk (below_step (by repeat (first | (with_reducible first | exact HB.out | apply below_alloc | apply pw_below_drewN | apply below_drew1) | exact HB.out)) hb); clear HO608; clear HB; have HO608 := n0_; have HO611 := n1_; have HB := n2_; clear n0_ n1_ n2_; (try clear hb); (try clear hb2); (try clear hk); (try clear hi); (try clear ho0)))
    repeat (go_quiet (first | (go_at_call 35; (with_reducible refine (spec_DrawTailTimes.calls k _ _ l0 t606 _ ?side1 ?side2 A3.out).mono ?_); (case side1 => repeat (first | exact HR0.out | (with_reducible refine Kd.C_alloc ?_ _) | (with_reducible refine Kd.C_drewN ?_ _) | (with_reducible refine Kd.C_drew ?_))); (case side2 => exact HC0.out); rintro e w6 ⟨v607, rfl, ho0, hb⟩; have n0_ := Aside0.mk (Kd.N_lower (Kd.N_mono (ok' := fun k_ => True) ho0 (fun k_ hk_ => trivial)) (below_size (by repeat (first | (with_reducible first | exact HB.out | apply below_alloc | apply pw_below_drewN | apply below_drew1) | exact HB.out)))); have n1_ := Aside0.mk (below_step (by repeat (first | (with_reducible first | exact HB.out | apply below_alloc | apply pw_below_drewN | apply below_drew1) | exact HB.out)) hb); clear HB; have HO608 := n0_; have HB := n1_; clear n0_ n1_; (try clear hb); (try clear hb2); (try clear hk); (try clear hi); (try clear ho0); obtain ⟨Ao7, co7, eo7⟩ := Kd.N_slice HO608.out; subst eo7) | (go_at_call 31; (with_reducible refine (impl_TailTimes.calls _ _ t606 t609 _ ?side1 ?side2 ?sideT A4.out).mono ?_); (case sideT => exact (HT.out.below (by repeat (first | (with_reducible first | exact HB.out | apply below_alloc | apply pw_below_drewN | apply below_drew1) | exact HB.out)))); (case side1 => repeat (first | exact (Kd.N_reads' HO608.out).2.2 | (with_reducible refine Kd.C_alloc ?_ _) | (with_reducible refine Kd.C_drewN ?_ _) | (with_reducible refine Kd.C_drew ?_))); (case side2 => exact (Kd.N_reads' HO608.out).2.1); rintro e w8 ⟨v610, rfl, ho0, hb⟩; have n0_ := Aside0.mk (Kd.N_elder' (by (with_reducible repeat (first | apply Kd.N_alloc | apply Kd.N_drewN | apply Kd.N_drew)); exact HO608.out) (Kd.R_base ho0) hb); have n1_ := Aside0.mk (Kd.R_lower ho0 (below_size (by repeat (first | (with_reducible first | exact HB.out | apply below_alloc | apply pw_below_drewN | apply below_drew1) | exact HB.out)))); have n2_ := Aside0.mk (below_step (by repeat (first | (with_reducible first | exact HB.out | apply below_alloc | apply pw_below_drewN | apply below_drew1) | exact HB.out)) hb); clear HO608; clear HB; have HO608 := n0_; have HO611 := n1_; have HB := n2_; clear n0_ n1_ n2_; (try clear hb); (try clear hb2); (try clear hk); (try clear hi); (try clear ho0))); go_upto_region 5 with (first | (go_at_call 35; (with_reducible refine (spec_DrawTailTimes.calls k _ _ l0 t606 _ ?side1 ?side2 A3.out).mono ?_); (case side1 => repeat (first | exact HR0.out | (with_reducible refine Kd.C_alloc ?_ _) | (with_reducible refine Kd.C_drewN ?_ _) | (with_reducible refine Kd.C_drew ?_))); (case side2 => exact HC0.out); rintro e w6 ⟨v607, rfl, ho0, hb⟩; have n0_ := Aside0.mk (Kd.N_lower (Kd.N_mono (ok' := fun k_ => True) ho0 (fun k_ hk_ => trivial)) (below_size (by repeat (first | (with_reducible first | exact HB.out | apply below_alloc | apply pw_below_drewN | apply below_drew1) | exact HB.out)))); have n1_ := Aside0.mk (below_step (by repeat (first | (with_reducible first | exact HB.out | apply below_alloc | apply pw_below_drewN | apply below_drew1) | exact HB.out)) hb); clear HB; have HO608 := n0_; have HB := n1_; clear n0_ n1_; (try clear hb); (try clear hb2); (try clear hk); (try clear hi); (try clear ho0); obtain ⟨Ao7, co7, eo7⟩ := Kd.N_slice HO608.out; subst eo7) | (go_at_call 31; (with_reducible refine (impl_TailTimes.calls _ _ t606 t609 _ ?side1 ?side2 ?sideT A4.out).mono ?_); (case sideT => exact (HT.out.below (by repeat (first | (with_reducible first | exact HB.out | apply below_alloc | apply pw_below_drewN | apply below_drew1) | exact HB.out)))); (case side1 => repeat (first | exact (Kd.N_reads' HO608.out).2.2 | (with_reducible refine Kd.C_alloc ?_ _) | (with_reducible refine Kd.C_drewN ?_ _) | (with_reducible refine Kd.C_drew ?_))); (case side2 => exact (Kd.N_reads' HO608.out).2.1); rintro e w8 ⟨v610, rfl, ho0, hb⟩; have n0_ := Aside0.mk (Kd.N_elder' (by (with_reducible repeat (first | apply Kd.N_alloc | apply Kd.N_drewN | apply Kd.N_drew)); exact HO608.out) (Kd.R_base ho0) hb); have n1_ := Aside0.mk (Kd.R_lower ho0 (below_size (by repeat (first | (with_reducible first | exact HB.out | apply below_alloc | apply pw_below_drewN | apply below_drew1) | exact HB.out)))); have n2_ := Aside0.mk (below_step (by repeat (first | (with_reducible first | exact HB.out | apply below_alloc | apply pw_below_drewN | apply below_drew1) | exact HB.out)) hb); clear HO608; clear HB; have HO608 := n0_; have HO611 := n1_; have HB := n2_; clear n0_ n1_ n2_; (try clear hb); (try clear hb2); (try clear hk); (try clear hi); (try clear ho0))))
    (try simp only [Act.put, List.setIfInBounds_toArray, List.set_cons_zero, List.set_cons_succ])
    go_cut [26] (fun v26 wc => ∃ (kq : Nat) (x26_4 : Bool), v26 = .bool x26_4 ∧ Aside0 (laws_FnTailTimes.j0 kq t606 t609 x26_4 = some r) ∧ Aside0 (kq ≤ k) ∧ Aside0 (Kd.N k29 29 wc w.heap.size (fun k_ => some k_ ≠ (v610 : Value).ownBlock) (.slice Ao7 t606.length co7) t606) ∧ Aside0 (Kd.R (Kd.int .i64) 3 wc w.heap.size (fun _ => True) v610 t609) ∧ Aside0 (Below w.heap.size w wc))
    case first =>
      have H := HC5.out
      clear HC5
      replace H := Option.bind_eq_some_iff.mp H
      obtain ⟨t612, A90, H⟩ := H
      replace H : ((laws_equalInts.f k t609 t612).bind fun t615 => (if t615 = true then (laws_FnTailTimes.j0 k t606 t609 ((t609.length : Int) != (t606.length : Int))) else (laws_FnTailTimes.j0 k t606 t609 true))) = some r := H
      have A9 := Aside0.mk A90
      clear A90
      replace H := Option.bind_eq_some_iff.mp H
      obtain ⟨t615, A100, H⟩ := H
      replace H : (if t615 = true then (laws_FnTailTimes.j0 k t606 t609 ((t609.length : Int) != (t606.length : Int))) else (laws_FnTailTimes.j0 k t606 t609 true)) = some r := H
      have A10 := Aside0.mk A100
      clear A100
      by_cases c11 : t615 = true
      · subst c11
        have H1 : (laws_FnTailTimes.j0 k t606 t609 ((t609.length : Int) != (t606.length : Int))) = some r := by rw [if_pos rfl] at H; exact H
        clear H
        have H := H1
        clear H1
        have H' := Aside0.mk H
        clear H
        go_wp2_with (first | (go_at_call 30; (with_reducible refine (spec_TailTimes.calls k _ _ t606 t612 _ ?side1 ?side2 A9.out).mono ?_); (case side1 => repeat (first | exact (Kd.N_reads' HO608.out).2.2 | (with_reducible refine Kd.C_alloc ?_ _) | (with_reducible refine Kd.C_drewN ?_ _) | (with_reducible refine Kd.C_drew ?_))); (case side2 => exact (Kd.N_reads' HO608.out).2.1); rintro e w12 ⟨v613, rfl, ho0, hb⟩; have n0_ := Aside0.mk (Kd.N_elder' (by (with_reducible repeat (first | apply Kd.N_alloc | apply Kd.N_drewN | apply Kd.N_drew)); exact HO608.out) (Kd.R_base ho0) hb); have n1_ := Aside0.mk (Kd.R_elder' (by (with_reducible repeat (first | apply Kd.R_alloc | apply Kd.R_drewN | apply Kd.R_drew)); exact HO611.out) (Kd.R_base ho0) hb); have n2_ := Aside0.mk (Kd.R_lower (Kd.R_new' ho0 (Kd.R_lt (by (with_reducible repeat (first | apply Kd.R_alloc | apply Kd.R_drewN | apply Kd.R_drew)); exact HO611.out))) (below_size (by repeat (first | (with_reducible first | exact HB.out | apply below_alloc | apply pw_below_drewN | apply below_drew1) | exact HB.out)))); have n3_ := Aside0.mk (below_step (by repeat (first | (with_reducible first | exact HB.out | apply below_alloc | apply pw_below_drewN | apply below_drew1) | exact HB.out)) hb); clear HO608; clear HO611; clear HB; have HO608 := n0_; have HO611 := n1_; have HO614 := n2_; have HB := n3_; clear n0_ n1_ n2_ n3_; (try clear hb); (try clear hb2); (try clear hk); (try clear hi); (try clear ho0); obtain ⟨Ao13, co13, eo13⟩ := Kd.R_slice HO611.out; subst eo13; obtain ⟨Ao14, co14, eo14⟩ := Kd.R_slice HO614.out; subst eo14) | (go_at_call 36; (with_reducible refine (laws_equalInts.calls k _ _ t609 _ _ t612 true _ ?side1 ?side2 ?side3 ?side4 A10.out).mono ?_); (case side1 => repeat (first | exact (Kd.R_reads' HO611.out).2.2 | (with_reducible refine Kd.C_alloc ?_ _) | (with_reducible refine Kd.C_drewN ?_ _) | (with_reducible refine Kd.C_drew ?_))); (case side2 => exact (Kd.R_reads' HO611.out).2.1); (case side3 => repeat (first | exact (Kd.R_reads' HO614.out).2.2 | (with_reducible refine Kd.C_alloc ?_ _) | (with_reducible refine Kd.C_drewN ?_ _) | (with_reducible refine Kd.C_drew ?_))); (case side4 => exact (Kd.R_reads' HO614.out).2.1); rintro e w' ⟨rfl, ⟨nd, rfl⟩⟩; (try first | exact ⟨rfl, _, World.drewN_drewN _ _ _⟩ | exact ⟨rfl, _, Eq.trans (World.drewN_drewN _ _ _) (congrArg (World.drewN _) (Nat.add_assoc _ _ _))⟩)))
        repeat (go_quiet (first | (go_at_call 30; (with_reducible refine (spec_TailTimes.calls k _ _ t606 t612 _ ?side1 ?side2 A9.out).mono ?_); (case side1 => repeat (first | exact (Kd.N_reads' HO608.out).2.2 | (with_reducible refine Kd.C_alloc ?_ _) | (with_reducible refine Kd.C_drewN ?_ _) | (with_reducible refine Kd.C_drew ?_))); (case side2 => exact (Kd.N_reads' HO608.out).2.1); rintro e w12 ⟨v613, rfl, ho0, hb⟩; have n0_ := Aside0.mk (Kd.N_elder' (by (with_reducible repeat (first | apply Kd.N_alloc | apply Kd.N_drewN | apply Kd.N_drew)); exact HO608.out) (Kd.R_base ho0) hb); have n1_ := Aside0.mk (Kd.R_elder' (by (with_reducible repeat (first | apply Kd.R_alloc | apply Kd.R_drewN | apply Kd.R_drew)); exact HO611.out) (Kd.R_base ho0) hb); have n2_ := Aside0.mk (Kd.R_lower (Kd.R_new' ho0 (Kd.R_lt (by (with_reducible repeat (first | apply Kd.R_alloc | apply Kd.R_drewN | apply Kd.R_drew)); exact HO611.out))) (below_size (by repeat (first | (with_reducible first | exact HB.out | apply below_alloc | apply pw_below_drewN | apply below_drew1) | exact HB.out)))); have n3_ := Aside0.mk (below_step (by repeat (first | (with_reducible first | exact HB.out | apply below_alloc | apply pw_below_drewN | apply below_drew1) | exact HB.out)) hb); clear HO608; clear HO611; clear HB; have HO608 := n0_; have HO611 := n1_; have HO614 := n2_; have HB := n3_; clear n0_ n1_ n2_ n3_; (try clear hb); (try clear hb2); (try clear hk); (try clear hi); (try clear ho0); obtain ⟨Ao13, co13, eo13⟩ := Kd.R_slice HO611.out; subst eo13; obtain ⟨Ao14, co14, eo14⟩ := Kd.R_slice HO614.out; subst eo14) | (go_at_call 36; (with_reducible refine (laws_equalInts.calls k _ _ t609 _ _ t612 true _ ?side1 ?side2 ?side3 ?side4 A10.out).mono ?_); (case side1 => repeat (first | exact (Kd.R_reads' HO611.out).2.2 | (with_reducible refine Kd.C_alloc ?_ _) | (with_reducible refine Kd.C_drewN ?_ _) | (with_reducible refine Kd.C_drew ?_))); (case side2 => exact (Kd.R_reads' HO611.out).2.1); (case side3 => repeat (first | exact (Kd.R_reads' HO614.out).2.2 | (with_reducible refine Kd.C_alloc ?_ _) | (with_reducible refine Kd.C_drewN ?_ _) | (with_reducible refine Kd.C_drew ?_))); (case side4 => exact (Kd.R_reads' HO614.out).2.1); rintro e w' ⟨rfl, ⟨nd, rfl⟩⟩; (try first | exact ⟨rfl, _, World.drewN_drewN _ _ _⟩ | exact ⟨rfl, _, Eq.trans (World.drewN_drewN _ _ _) (congrArg (World.drewN _) (Nat.add_assoc _ _ _))⟩))); try go_wp2_with (first | (go_at_call 30; (with_reducible refine (spec_TailTimes.calls k _ _ t606 t612 _ ?side1 ?side2 A9.out).mono ?_); (case side1 => repeat (first | exact (Kd.N_reads' HO608.out).2.2 | (with_reducible refine Kd.C_alloc ?_ _) | (with_reducible refine Kd.C_drewN ?_ _) | (with_reducible refine Kd.C_drew ?_))); (case side2 => exact (Kd.N_reads' HO608.out).2.1); rintro e w12 ⟨v613, rfl, ho0, hb⟩; have n0_ := Aside0.mk (Kd.N_elder' (by (with_reducible repeat (first | apply Kd.N_alloc | apply Kd.N_drewN | apply Kd.N_drew)); exact HO608.out) (Kd.R_base ho0) hb); have n1_ := Aside0.mk (Kd.R_elder' (by (with_reducible repeat (first | apply Kd.R_alloc | apply Kd.R_drewN | apply Kd.R_drew)); exact HO611.out) (Kd.R_base ho0) hb); have n2_ := Aside0.mk (Kd.R_lower (Kd.R_new' ho0 (Kd.R_lt (by (with_reducible repeat (first | apply Kd.R_alloc | apply Kd.R_drewN | apply Kd.R_drew)); exact HO611.out))) (below_size (by repeat (first | (with_reducible first | exact HB.out | apply below_alloc | apply pw_below_drewN | apply below_drew1) | exact HB.out)))); have n3_ := Aside0.mk (below_step (by repeat (first | (with_reducible first | exact HB.out | apply below_alloc | apply pw_below_drewN | apply below_drew1) | exact HB.out)) hb); clear HO608; clear HO611; clear HB; have HO608 := n0_; have HO611 := n1_; have HO614 := n2_; have HB := n3_; clear n0_ n1_ n2_ n3_; (try clear hb); (try clear hb2); (try clear hk); (try clear hi); (try clear ho0); obtain ⟨Ao13, co13, eo13⟩ := Kd.R_slice HO611.out; subst eo13; obtain ⟨Ao14, co14, eo14⟩ := Kd.R_slice HO614.out; subst eo14) | (go_at_call 36; (with_reducible refine (laws_equalInts.calls k _ _ t609 _ _ t612 true _ ?side1 ?side2 ?side3 ?side4 A10.out).mono ?_); (case side1 => repeat (first | exact (Kd.R_reads' HO611.out).2.2 | (with_reducible refine Kd.C_alloc ?_ _) | (with_reducible refine Kd.C_drewN ?_ _) | (with_reducible refine Kd.C_drew ?_))); (case side2 => exact (Kd.R_reads' HO611.out).2.1); (case side3 => repeat (first | exact (Kd.R_reads' HO614.out).2.2 | (with_reducible refine Kd.C_alloc ?_ _) | (with_reducible refine Kd.C_drewN ?_ _) | (with_reducible refine Kd.C_drew ?_))); (case side4 => exact (Kd.R_reads' HO614.out).2.1); rintro e w' ⟨rfl, ⟨nd, rfl⟩⟩; (try first | exact ⟨rfl, _, World.drewN_drewN _ _ _⟩ | exact ⟨rfl, _, Eq.trans (World.drewN_drewN _ _ _) (congrArg (World.drewN _) (Nat.add_assoc _ _ _))⟩))))
        go_meet
        case rel => exact ⟨_, (((t609.length : Int) != (t606.length : Int))), (by first | rfl | (simp; done) | (simp [*]; done)), H', ⟨by first | omega | exact Nat.le_refl _⟩, ⟨by (with_reducible repeat (first | apply Kd.N_alloc | apply Kd.N_drewN | apply Kd.N_drew)); exact Kd.N_mono HO608.out (fun _ hk => hk.1.2)⟩, ⟨by (with_reducible repeat (first | apply Kd.R_alloc | apply Kd.R_drewN | apply Kd.R_drew)); exact Kd.R_mono HO611.out (fun _ hk => trivial)⟩, ⟨by repeat (first | (with_reducible first | exact HB.out | apply below_alloc | apply pw_below_drewN | apply below_drew1) | exact HB.out)⟩⟩
      · replace c11 := Bool.eq_false_iff.mpr c11
        subst c11
        have H1 : (laws_FnTailTimes.j0 k t606 t609 true) = some r := by rw [if_neg (show ¬ (false = true) by decide)] at H; exact H
        clear H
        have H := H1
        clear H1
        have H' := Aside0.mk H
        clear H
        go_wp2_with (first | (go_at_call 30; (with_reducible refine (spec_TailTimes.calls k _ _ t606 t612 _ ?side1 ?side2 A9.out).mono ?_); (case side1 => repeat (first | exact (Kd.N_reads' HO608.out).2.2 | (with_reducible refine Kd.C_alloc ?_ _) | (with_reducible refine Kd.C_drewN ?_ _) | (with_reducible refine Kd.C_drew ?_))); (case side2 => exact (Kd.N_reads' HO608.out).2.1); rintro e w15 ⟨v613, rfl, ho0, hb⟩; have n0_ := Aside0.mk (Kd.N_elder' (by (with_reducible repeat (first | apply Kd.N_alloc | apply Kd.N_drewN | apply Kd.N_drew)); exact HO608.out) (Kd.R_base ho0) hb); have n1_ := Aside0.mk (Kd.R_elder' (by (with_reducible repeat (first | apply Kd.R_alloc | apply Kd.R_drewN | apply Kd.R_drew)); exact HO611.out) (Kd.R_base ho0) hb); have n2_ := Aside0.mk (Kd.R_lower (Kd.R_new' ho0 (Kd.R_lt (by (with_reducible repeat (first | apply Kd.R_alloc | apply Kd.R_drewN | apply Kd.R_drew)); exact HO611.out))) (below_size (by repeat (first | (with_reducible first | exact HB.out | apply below_alloc | apply pw_below_drewN | apply below_drew1) | exact HB.out)))); have n3_ := Aside0.mk (below_step (by repeat (first | (with_reducible first | exact HB.out | apply below_alloc | apply pw_below_drewN | apply below_drew1) | exact HB.out)) hb); clear HO608; clear HO611; clear HB; have HO608 := n0_; have HO611 := n1_; have HO614 := n2_; have HB := n3_; clear n0_ n1_ n2_ n3_; (try clear hb); (try clear hb2); (try clear hk); (try clear hi); (try clear ho0); obtain ⟨Ao16, co16, eo16⟩ := Kd.R_slice HO611.out; subst eo16; obtain ⟨Ao17, co17, eo17⟩ := Kd.R_slice HO614.out; subst eo17) | (go_at_call 36; (with_reducible refine (laws_equalInts.calls k _ _ t609 _ _ t612 false _ ?side1 ?side2 ?side3 ?side4 A10.out).mono ?_); (case side1 => repeat (first | exact (Kd.R_reads' HO611.out).2.2 | (with_reducible refine Kd.C_alloc ?_ _) | (with_reducible refine Kd.C_drewN ?_ _) | (with_reducible refine Kd.C_drew ?_))); (case side2 => exact (Kd.R_reads' HO611.out).2.1); (case side3 => repeat (first | exact (Kd.R_reads' HO614.out).2.2 | (with_reducible refine Kd.C_alloc ?_ _) | (with_reducible refine Kd.C_drewN ?_ _) | (with_reducible refine Kd.C_drew ?_))); (case side4 => exact (Kd.R_reads' HO614.out).2.1); rintro e w' ⟨rfl, ⟨nd, rfl⟩⟩; (try first | exact ⟨rfl, _, World.drewN_drewN _ _ _⟩ | exact ⟨rfl, _, Eq.trans (World.drewN_drewN _ _ _) (congrArg (World.drewN _) (Nat.add_assoc _ _ _))⟩)))
        repeat (go_quiet (first | (go_at_call 30; (with_reducible refine (spec_TailTimes.calls k _ _ t606 t612 _ ?side1 ?side2 A9.out).mono ?_); (case side1 => repeat (first | exact (Kd.N_reads' HO608.out).2.2 | (with_reducible refine Kd.C_alloc ?_ _) | (with_reducible refine Kd.C_drewN ?_ _) | (with_reducible refine Kd.C_drew ?_))); (case side2 => exact (Kd.N_reads' HO608.out).2.1); rintro e w15 ⟨v613, rfl, ho0, hb⟩; have n0_ := Aside0.mk (Kd.N_elder' (by (with_reducible repeat (first | apply Kd.N_alloc | apply Kd.N_drewN | apply Kd.N_drew)); exact HO608.out) (Kd.R_base ho0) hb); have n1_ := Aside0.mk (Kd.R_elder' (by (with_reducible repeat (first | apply Kd.R_alloc | apply Kd.R_drewN | apply Kd.R_drew)); exact HO611.out) (Kd.R_base ho0) hb); have n2_ := Aside0.mk (Kd.R_lower (Kd.R_new' ho0 (Kd.R_lt (by (with_reducible repeat (first | apply Kd.R_alloc | apply Kd.R_drewN | apply Kd.R_drew)); exact HO611.out))) (below_size (by repeat (first | (with_reducible first | exact HB.out | apply below_alloc | apply pw_below_drewN | apply below_drew1) | exact HB.out)))); have n3_ := Aside0.mk (below_step (by repeat (first | (with_reducible first | exact HB.out | apply below_alloc | apply pw_below_drewN | apply below_drew1) | exact HB.out)) hb); clear HO608; clear HO611; clear HB; have HO608 := n0_; have HO611 := n1_; have HO614 := n2_; have HB := n3_; clear n0_ n1_ n2_ n3_; (try clear hb); (try clear hb2); (try clear hk); (try clear hi); (try clear ho0); obtain ⟨Ao16, co16, eo16⟩ := Kd.R_slice HO611.out; subst eo16; obtain ⟨Ao17, co17, eo17⟩ := Kd.R_slice HO614.out; subst eo17) | (go_at_call 36; (with_reducible refine (laws_equalInts.calls k _ _ t609 _ _ t612 false _ ?side1 ?side2 ?side3 ?side4 A10.out).mono ?_); (case side1 => repeat (first | exact (Kd.R_reads' HO611.out).2.2 | (with_reducible refine Kd.C_alloc ?_ _) | (with_reducible refine Kd.C_drewN ?_ _) | (with_reducible refine Kd.C_drew ?_))); (case side2 => exact (Kd.R_reads' HO611.out).2.1); (case side3 => repeat (first | exact (Kd.R_reads' HO614.out).2.2 | (with_reducible refine Kd.C_alloc ?_ _) | (with_reducible refine Kd.C_drewN ?_ _) | (with_reducible refine Kd.C_drew ?_))); (case side4 => exact (Kd.R_reads' HO614.out).2.1); rintro e w' ⟨rfl, ⟨nd, rfl⟩⟩; (try first | exact ⟨rfl, _, World.drewN_drewN _ _ _⟩ | exact ⟨rfl, _, Eq.trans (World.drewN_drewN _ _ _) (congrArg (World.drewN _) (Nat.add_assoc _ _ _))⟩))); try go_wp2_with (first | (go_at_call 30; (with_reducible refine (spec_TailTimes.calls k _ _ t606 t612 _ ?side1 ?side2 A9.out).mono ?_); (case side1 => repeat (first | exact (Kd.N_reads' HO608.out).2.2 | (with_reducible refine Kd.C_alloc ?_ _) | (with_reducible refine Kd.C_drewN ?_ _) | (with_reducible refine Kd.C_drew ?_))); (case side2 => exact (Kd.N_reads' HO608.out).2.1); rintro e w15 ⟨v613, rfl, ho0, hb⟩; have n0_ := Aside0.mk (Kd.N_elder' (by (with_reducible repeat (first | apply Kd.N_alloc | apply Kd.N_drewN | apply Kd.N_drew)); exact HO608.out) (Kd.R_base ho0) hb); have n1_ := Aside0.mk (Kd.R_elder' (by (with_reducible repeat (first | apply Kd.R_alloc | apply Kd.R_drewN | apply Kd.R_drew)); exact HO611.out) (Kd.R_base ho0) hb); have n2_ := Aside0.mk (Kd.R_lower (Kd.R_new' ho0 (Kd.R_lt (by (with_reducible repeat (first | apply Kd.R_alloc | apply Kd.R_drewN | apply Kd.R_drew)); exact HO611.out))) (below_size (by repeat (first | (with_reducible first | exact HB.out | apply below_alloc | apply pw_below_drewN | apply below_drew1) | exact HB.out)))); have n3_ := Aside0.mk (below_step (by repeat (first | (with_reducible first | exact HB.out | apply below_alloc | apply pw_below_drewN | apply below_drew1) | exact HB.out)) hb); clear HO608; clear HO611; clear HB; have HO608 := n0_; have HO611 := n1_; have HO614 := n2_; have HB := n3_; clear n0_ n1_ n2_ n3_; (try clear hb); (try clear hb2); (try clear hk); (try clear hi); (try clear ho0); obtain ⟨Ao16, co16, eo16⟩ := Kd.R_slice HO611.out; subst eo16; obtain ⟨Ao17, co17, eo17⟩ := Kd.R_slice HO614.out; subst eo17) | (go_at_call 36; (with_reducible refine (laws_equalInts.calls k _ _ t609 _ _ t612 false _ ?side1 ?side2 ?side3 ?side4 A10.out).mono ?_); (case side1 => repeat (first | exact (Kd.R_reads' HO611.out).2.2 | (with_reducible refine Kd.C_alloc ?_ _) | (with_reducible refine Kd.C_drewN ?_ _) | (with_reducible refine Kd.C_drew ?_))); (case side2 => exact (Kd.R_reads' HO611.out).2.1); (case side3 => repeat (first | exact (Kd.R_reads' HO614.out).2.2 | (with_reducible refine Kd.C_alloc ?_ _) | (with_reducible refine Kd.C_drewN ?_ _) | (with_reducible refine Kd.C_drew ?_))); (case side4 => exact (Kd.R_reads' HO614.out).2.1); rintro e w' ⟨rfl, ⟨nd, rfl⟩⟩; (try first | exact ⟨rfl, _, World.drewN_drewN _ _ _⟩ | exact ⟨rfl, _, Eq.trans (World.drewN_drewN _ _ _) (congrArg (World.drewN _) (Nat.add_assoc _ _ _))⟩))))
        go_meet
        case rel => exact ⟨_, (true), (by first | rfl | (simp; done) | (simp [*]; done)), H', ⟨by first | omega | exact Nat.le_refl _⟩, ⟨by (with_reducible repeat (first | apply Kd.N_alloc | apply Kd.N_drewN | apply Kd.N_drew)); exact Kd.N_mono HO608.out (fun _ hk => hk.1.2)⟩, ⟨by (with_reducible repeat (first | apply Kd.R_alloc | apply Kd.R_drewN | apply Kd.R_drew)); exact Kd.R_mono HO611.out (fun _ hk => trivial)⟩, ⟨by repeat (first | (with_reducible first | exact HB.out | apply below_alloc | apply pw_below_drewN | apply below_drew1) | exact HB.out)⟩⟩
    case rest =>
      clear HC5
      try clear c1
      try clear c2
      try clear c2b0
      try clear c2b1
      try clear p2
      try clear c11
      try clear c13
      obtain ⟨kq, x26_4, rfl, HA, HJ4, HO_3, HO_4, HB⟩ := hcut
      cases kq with
      | zero => exact absurd HA.out (by simp [laws_FnTailTimes.j0])
      | succ kj4 =>
        have H := HA.out
        clear HA
        simp only [laws_FnTailTimes.j0] at H
        by_cases c18 : x26_4 = true
        · subst c18
          have H1 : ((spec_TailTimes.f kj4 t606).bind fun t616 => ((laws_equalInts.f kj4 t609 t616).bind fun t619 => (some t619))) = some r := by rw [if_pos rfl] at H; exact H
          clear H
          have H := H1
          clear H1
          replace H := Option.bind_eq_some_iff.mp H
          obtain ⟨t616, A190, H⟩ := H
          replace H : ((laws_equalInts.f kj4 t609 t616).bind fun t619 => (some t619)) = some r := H
          have A19 := Aside0.mk A190
          clear A190
          replace H := Option.bind_eq_some_iff.mp H
          obtain ⟨t619, A200, H⟩ := H
          replace H : (some t619) = some r := H
          have A20 := Aside0.mk A200
          clear A200
          obtain rfl := Option.some.inj H
          go_wp2_with (first | (go_at_call 30; (with_reducible refine (spec_TailTimes.calls kj4 _ _ t606 t616 _ ?side1 ?side2 A19.out).mono ?_); (case side1 => repeat (first | exact (Kd.N_reads' HO_3.out).2.2 | (with_reducible refine Kd.C_alloc ?_ _) | (with_reducible refine Kd.C_drewN ?_ _) | (with_reducible refine Kd.C_drew ?_))); (case side2 => exact (Kd.N_reads' HO_3.out).2.1); rintro e w21 ⟨v617, rfl, ho0, hb⟩; have n0_ := Aside0.mk (Kd.N_elder' (by (with_reducible repeat (first | apply Kd.N_alloc | apply Kd.N_drewN | apply Kd.N_drew)); exact HO_3.out) (Kd.R_base ho0) hb); have n1_ := Aside0.mk (Kd.R_elder' (by (with_reducible repeat (first | apply Kd.R_alloc | apply Kd.R_drewN | apply Kd.R_drew)); exact HO_4.out) (Kd.R_base ho0) hb); have n2_ := Aside0.mk (Kd.R_lower (Kd.R_new' ho0 (Kd.R_lt (by (with_reducible repeat (first | apply Kd.R_alloc | apply Kd.R_drewN | apply Kd.R_drew)); exact HO_4.out))) (below_size (by repeat (first | (with_reducible first | exact HB.out | apply below_alloc | apply pw_below_drewN | apply below_drew1) | exact HB.out)))); have n3_ := Aside0.mk (below_step (by repeat (first | (with_reducible first | exact HB.out | apply below_alloc | apply pw_below_drewN | apply below_drew1) | exact HB.out)) hb); clear HO_3; clear HO_4; clear HB; have HO_3 := n0_; have HO_4 := n1_; have HO618 := n2_; have HB := n3_; clear n0_ n1_ n2_ n3_; (try clear hb); (try clear hb2); (try clear hk); (try clear hi); (try clear ho0); obtain ⟨Ao22, co22, eo22⟩ := Kd.R_slice HO_4.out; subst eo22; obtain ⟨Ao23, co23, eo23⟩ := Kd.R_slice HO618.out; subst eo23) | (go_at_call 36; (with_reducible refine (laws_equalInts.calls kj4 _ _ t609 _ _ t616 t619 _ ?side1 ?side2 ?side3 ?side4 A20.out).mono ?_); (case side1 => repeat (first | exact (Kd.R_reads' HO_4.out).2.2 | (with_reducible refine Kd.C_alloc ?_ _) | (with_reducible refine Kd.C_drewN ?_ _) | (with_reducible refine Kd.C_drew ?_))); (case side2 => exact (Kd.R_reads' HO_4.out).2.1); (case side3 => repeat (first | exact (Kd.R_reads' HO618.out).2.2 | (with_reducible refine Kd.C_alloc ?_ _) | (with_reducible refine Kd.C_drewN ?_ _) | (with_reducible refine Kd.C_drew ?_))); (case side4 => exact (Kd.R_reads' HO618.out).2.1); rintro e w' ⟨rfl, ⟨nd, rfl⟩⟩; (try first | exact ⟨rfl, _, World.drewN_drewN _ _ _⟩ | exact ⟨rfl, _, Eq.trans (World.drewN_drewN _ _ _) (congrArg (World.drewN _) (Nat.add_assoc _ _ _))⟩)))
          repeat (go_quiet (first | (go_at_call 30; (with_reducible refine (spec_TailTimes.calls kj4 _ _ t606 t616 _ ?side1 ?side2 A19.out).mono ?_); (case side1 => repeat (first | exact (Kd.N_reads' HO_3.out).2.2 | (with_reducible refine Kd.C_alloc ?_ _) | (with_reducible refine Kd.C_drewN ?_ _) | (with_reducible refine Kd.C_drew ?_))); (case side2 => exact (Kd.N_reads' HO_3.out).2.1); rintro e w21 ⟨v617, rfl, ho0, hb⟩; have n0_ := Aside0.mk (Kd.N_elder' (by (with_reducible repeat (first | apply Kd.N_alloc | apply Kd.N_drewN | apply Kd.N_drew)); exact HO_3.out) (Kd.R_base ho0) hb); have n1_ := Aside0.mk (Kd.R_elder' (by (with_reducible repeat (first | apply Kd.R_alloc | apply Kd.R_drewN | apply Kd.R_drew)); exact HO_4.out) (Kd.R_base ho0) hb); have n2_ := Aside0.mk (Kd.R_lower (Kd.R_new' ho0 (Kd.R_lt (by (with_reducible repeat (first | apply Kd.R_alloc | apply Kd.R_drewN | apply Kd.R_drew)); exact HO_4.out))) (below_size (by repeat (first | (with_reducible first | exact HB.out | apply below_alloc | apply pw_below_drewN | apply below_drew1) | exact HB.out)))); have n3_ := Aside0.mk (below_step (by repeat (first | (with_reducible first | exact HB.out | apply below_alloc | apply pw_below_drewN | apply below_drew1) | exact HB.out)) hb); clear HO_3; clear HO_4; clear HB; have HO_3 := n0_; have HO_4 := n1_; have HO618 := n2_; have HB := n3_; clear n0_ n1_ n2_ n3_; (try clear hb); (try clear hb2); (try clear hk); (try clear hi); (try clear ho0); obtain ⟨Ao22, co22, eo22⟩ := Kd.R_slice HO_4.out; subst eo22; obtain ⟨Ao23, co23, eo23⟩ := Kd.R_slice HO618.out; subst eo23) | (go_at_call 36; (with_reducible refine (laws_equalInts.calls kj4 _ _ t609 _ _ t616 t619 _ ?side1 ?side2 ?side3 ?side4 A20.out).mono ?_); (case side1 => repeat (first | exact (Kd.R_reads' HO_4.out).2.2 | (with_reducible refine Kd.C_alloc ?_ _) | (with_reducible refine Kd.C_drewN ?_ _) | (with_reducible refine Kd.C_drew ?_))); (case side2 => exact (Kd.R_reads' HO_4.out).2.1); (case side3 => repeat (first | exact (Kd.R_reads' HO618.out).2.2 | (with_reducible refine Kd.C_alloc ?_ _) | (with_reducible refine Kd.C_drewN ?_ _) | (with_reducible refine Kd.C_drew ?_))); (case side4 => exact (Kd.R_reads' HO618.out).2.1); rintro e w' ⟨rfl, ⟨nd, rfl⟩⟩; (try first | exact ⟨rfl, _, World.drewN_drewN _ _ _⟩ | exact ⟨rfl, _, Eq.trans (World.drewN_drewN _ _ _) (congrArg (World.drewN _) (Nat.add_assoc _ _ _))⟩))); try go_wp2_with (first | (go_at_call 30; (with_reducible refine (spec_TailTimes.calls kj4 _ _ t606 t616 _ ?side1 ?side2 A19.out).mono ?_); (case side1 => repeat (first | exact (Kd.N_reads' HO_3.out).2.2 | (with_reducible refine Kd.C_alloc ?_ _) | (with_reducible refine Kd.C_drewN ?_ _) | (with_reducible refine Kd.C_drew ?_))); (case side2 => exact (Kd.N_reads' HO_3.out).2.1); rintro e w21 ⟨v617, rfl, ho0, hb⟩; have n0_ := Aside0.mk (Kd.N_elder' (by (with_reducible repeat (first | apply Kd.N_alloc | apply Kd.N_drewN | apply Kd.N_drew)); exact HO_3.out) (Kd.R_base ho0) hb); have n1_ := Aside0.mk (Kd.R_elder' (by (with_reducible repeat (first | apply Kd.R_alloc | apply Kd.R_drewN | apply Kd.R_drew)); exact HO_4.out) (Kd.R_base ho0) hb); have n2_ := Aside0.mk (Kd.R_lower (Kd.R_new' ho0 (Kd.R_lt (by (with_reducible repeat (first | apply Kd.R_alloc | apply Kd.R_drewN | apply Kd.R_drew)); exact HO_4.out))) (below_size (by repeat (first | (with_reducible first | exact HB.out | apply below_alloc | apply pw_below_drewN | apply below_drew1) | exact HB.out)))); have n3_ := Aside0.mk (below_step (by repeat (first | (with_reducible first | exact HB.out | apply below_alloc | apply pw_below_drewN | apply below_drew1) | exact HB.out)) hb); clear HO_3; clear HO_4; clear HB; have HO_3 := n0_; have HO_4 := n1_; have HO618 := n2_; have HB := n3_; clear n0_ n1_ n2_ n3_; (try clear hb); (try clear hb2); (try clear hk); (try clear hi); (try clear ho0); obtain ⟨Ao22, co22, eo22⟩ := Kd.R_slice HO_4.out; subst eo22; obtain ⟨Ao23, co23, eo23⟩ := Kd.R_slice HO618.out; subst eo23) | (go_at_call 36; (with_reducible refine (laws_equalInts.calls kj4 _ _ t609 _ _ t616 t619 _ ?side1 ?side2 ?side3 ?side4 A20.out).mono ?_); (case side1 => repeat (first | exact (Kd.R_reads' HO_4.out).2.2 | (with_reducible refine Kd.C_alloc ?_ _) | (with_reducible refine Kd.C_drewN ?_ _) | (with_reducible refine Kd.C_drew ?_))); (case side2 => exact (Kd.R_reads' HO_4.out).2.1); (case side3 => repeat (first | exact (Kd.R_reads' HO618.out).2.2 | (with_reducible refine Kd.C_alloc ?_ _) | (with_reducible refine Kd.C_drewN ?_ _) | (with_reducible refine Kd.C_drew ?_))); (case side4 => exact (Kd.R_reads' HO618.out).2.1); rintro e w' ⟨rfl, ⟨nd, rfl⟩⟩; (try first | exact ⟨rfl, _, World.drewN_drewN _ _ _⟩ | exact ⟨rfl, _, Eq.trans (World.drewN_drewN _ _ _) (congrArg (World.drewN _) (Nat.add_assoc _ _ _))⟩))))
          go_ret
          exact ⟨by first | rfl | (simp [errW_none, errW_some] <;> rfl) | (simp [*, errW_none, errW_some] <;> rfl), by repeat (first | (with_reducible first | exact HB.out | apply below_alloc | apply pw_below_drewN | apply below_drew1) | exact HB.out)⟩
        · replace c18 := Bool.eq_false_iff.mpr c18
          subst c18
          have H1 : (laws_FnTailTimes.l0 kj4 t606 t609 0) = some r := by rw [if_neg (show ¬ (false = true) by decide)] at H; exact H
          clear H
          have H := H1
          clear H1
          have H' := Aside0.mk H
          clear H
          go_wp2
          repeat (go_quiet (fail); try go_wp2)
          go_loopg [5] kj4 (fun kq v5 w' => ∃ (x5_2 : Int), v5 = .int .i64 x5_2 ∧ Aside0 (laws_FnTailTimes.l0 kq t606 t609 x5_2 = some r) ∧ Aside0 (kq ≤ kj4) ∧ Aside0 (Kd.N k29 29 w' w.heap.size (fun k_ => some k_ ≠ (v610 : Value).ownBlock) (.slice Ao7 t606.length co7) t606) ∧ Aside0 (Kd.R (Kd.int .i64) 3 w' w.heap.size (fun _ => True) v610 t609) ∧ Aside0 (Below w.heap.size w w'))
          case atStart => exact ⟨(0), (by first | rfl | (simp; done) | (simp [*]; done)), H', ⟨Nat.le_refl _⟩, ⟨by (with_reducible repeat (first | apply Kd.N_alloc | apply Kd.N_drewN | apply Kd.N_drew)); exact HO_3.out⟩, ⟨by (with_reducible repeat (first | apply Kd.R_alloc | apply Kd.R_drewN | apply Kd.R_drew)); exact HO_4.out⟩, ⟨by repeat (first | (with_reducible first | exact HB.out | apply below_alloc | apply pw_below_drewN | apply below_drew1) | exact HB.out)⟩⟩
          case round =>
            clear H'
            try clear c1
            try clear c2
            try clear c2b0
            try clear c2b1
            try clear p2
            try clear c11
            try clear c13
            try clear c18
            try clear p2
            obtain ⟨x5_2, rfl, HA, HK2, HO_3, HO_4, HB⟩ := hrel
            cases gk with
            | zero => exact absurd HA.out (by simp [laws_FnTailTimes.l0])
            | succ k2 =>
              have H := HA.out
              clear HA
              simp only [laws_FnTailTimes.l0] at H
              by_cases c24 : x5_2 < (t606.length : Int)
              · rw [if_pos c24] at H
                have c24b0 : decide (x5_2 < (t606.length : Int)) = true := decide_eq_true c24
                clear c24
                by_cases c25 : 0 ≤ x5_2
                · rw [if_pos c25] at H
                  have c25b0 : decide (0 ≤ x5_2) = true := decide_eq_true c25
                  clear c25
                  by_cases c26 : x5_2 < (t609.length : Int)
                  · rw [if_pos c26] at H
                    have c26b0 : decide (x5_2 < (t609.length : Int)) = true := decide_eq_true c26
                    clear c26
                    by_cases c27 : (rd t609 x5_2) < ((rd_T29 t606 x5_2).f0)
                    · rw [if_pos c27] at H
                      have c27b0 : decide ((rd t609 x5_2) < ((rd_T29 t606 x5_2).f0)) = true := decide_eq_true c27
                      clear c27
                      obtain rfl := Option.some.inj H
                      obtain ⟨Ao28, co28, eo28⟩ := Kd.R_slice HO_4.out
                      subst eo28
                      have p620 : 0 ≤ (x5_2 : Int) := of_decide_eq_true (by first | (with_reducible assumption) | assumption)
                      have q620 : x5_2 < (t609.length : Int) := of_decide_eq_true (by first | (with_reducible assumption) | assumption)
                      obtain ⟨ad620, e620, hx620_0⟩ := Kd.at_int (Kd.R_reads' HO_4.out).2.2 x5_2 p620 q620
                      cases e620
                      replace p620 := eq_true p620
                      replace q620 := eq_true q620
                      have p621 : 0 ≤ (x5_2 : Int) := of_decide_eq_true (by first | (with_reducible assumption) | assumption)
                      have q621 : x5_2 < (t606.length : Int) := of_decide_eq_true (by first | (with_reducible assumption) | assumption)
                      obtain ⟨ad621, A621_1, c621_1, e621, hx621_0, hx621_1, hx621_2, hx621_3, hl621_1, hi621_1⟩ := at_T29 (Kd.N_reads' HO_3.out).2.2 x5_2 p621 q621
                      cases e621
                      obtain ⟨ce621, hce621, hMe621, hcc621⟩ := Kd.N_get HO_3.out z29 x5_2 p621 (by first | exact q621 | exact of_decide_eq_true (by first | (with_reducible assumption) | assumption) | (have e_ := (Kd.N_reads' HO_3.out).1; omega))
                      obtain ⟨ua621_1, uc621_1, rfl, ul621_1, ge621_1⟩ := k29_openF hMe621
                      have hv621_1 := hcc621 1 _ rfl
                      rw [add_field _ _ 1 (by omega)] at hv621_1
                      replace hv621_1 := Option.some.inj (hv621_1.symm.trans hx621_1)
                      injection hv621_1 with hva_ hvn_ hvc_
                      rw [hva_] at ge621_1
                      rw [hvc_] at ul621_1
                      have HL621_1 := Aside0.mk (show Kd.V (Kd.int .i64) 3 _ w.heap.size _ _ ((rd_T29 t606 x5_2).f1) from Kd.V_mk ul621_1 ge621_1)
                      clear hva_ hvn_ hvc_ ge621_1 ul621_1
                      clear hcc621 hce621
                      have HR621_1 := Aside0.mk hi621_1
                      have HC621_1 := Aside0.mk hl621_1
                      clear hi621_1 hl621_1
                      replace p621 := eq_true p621
                      replace q621 := eq_true q621
                      go_wp2
                      repeat (go_quiet (fail); try go_wp2)
                      go_ret
                      exact ⟨by first | rfl | (simp [errW_none, errW_some] <;> rfl) | (simp [*, errW_none, errW_some] <;> rfl), by repeat (first | (with_reducible first | exact HB.out | apply below_alloc | apply pw_below_drewN | apply below_drew1) | exact HB.out)⟩
                    · rw [if_neg c27] at H
                      have c27b0 : decide ((rd t609 x5_2) < ((rd_T29 t606 x5_2).f0)) = false := decide_eq_false c27
                      clear c27
                      have H' := Aside0.mk H
                      clear H
                      obtain ⟨Ao29, co29, eo29⟩ := Kd.R_slice HO_4.out
                      subst eo29
                      have p620 : 0 ≤ (x5_2 : Int) := of_decide_eq_true (by first | (with_reducible assumption) | assumption)
                      have q620 : x5_2 < (t609.length : Int) := of_decide_eq_true (by first | (with_reducible assumption) | assumption)
                      obtain ⟨ad620, e620, hx620_0⟩ := Kd.at_int (Kd.R_reads' HO_4.out).2.2 x5_2 p620 q620
                      cases e620
                      replace p620 := eq_true p620
                      replace q620 := eq_true q620
                      have p621 : 0 ≤ (x5_2 : Int) := of_decide_eq_true (by first | (with_reducible assumption) | assumption)
                      have q621 : x5_2 < (t606.length : Int) := of_decide_eq_true (by first | (with_reducible assumption) | assumption)
                      obtain ⟨ad621, A621_1, c621_1, e621, hx621_0, hx621_1, hx621_2, hx621_3, hl621_1, hi621_1⟩ := at_T29 (Kd.N_reads' HO_3.out).2.2 x5_2 p621 q621
                      cases e621
                      obtain ⟨ce621, hce621, hMe621, hcc621⟩ := Kd.N_get HO_3.out z29 x5_2 p621 (by first | exact q621 | exact of_decide_eq_true (by first | (with_reducible assumption) | assumption) | (have e_ := (Kd.N_reads' HO_3.out).1; omega))
                      obtain ⟨ua621_1, uc621_1, rfl, ul621_1, ge621_1⟩ := k29_openF hMe621
                      have hv621_1 := hcc621 1 _ rfl
                      rw [add_field _ _ 1 (by omega)] at hv621_1
                      replace hv621_1 := Option.some.inj (hv621_1.symm.trans hx621_1)
                      injection hv621_1 with hva_ hvn_ hvc_
                      rw [hva_] at ge621_1
                      rw [hvc_] at ul621_1
                      have HL621_1 := Aside0.mk (show Kd.V (Kd.int .i64) 3 _ w.heap.size _ _ ((rd_T29 t606 x5_2).f1) from Kd.V_mk ul621_1 ge621_1)
                      clear hva_ hvn_ hvc_ ge621_1 ul621_1
                      clear hcc621 hce621
                      have HR621_1 := Aside0.mk hi621_1
                      have HC621_1 := Aside0.mk hl621_1
                      clear hi621_1 hl621_1
                      replace p621 := eq_true p621
                      replace q621 := eq_true q621
                      go_wp2
                      repeat (go_quiet (fail); try go_wp2)
                      go_loopg [6] k2 (fun kq v6 w' => ∃ (x6_3 : Int), v6 = .int .i64 x6_3 ∧ Aside0 (laws_FnTailTimes.l1 kq t606 t609 x5_2 x6_3 = some r) ∧ Aside0 (kq ≤ k2) ∧ Aside0 (Kd.N k29 29 w' w.heap.size (fun k_ => some k_ ≠ ((.slice (some ad620) t609.length co29) : Value).ownBlock) (.slice (some ad621) t606.length co7) t606) ∧ Aside0 (Kd.R (Kd.int .i64) 3 w' w.heap.size (fun _ => True) (.slice (some ad620) t609.length co29) t609) ∧ Aside0 (Kd.C (Kd.int .i64) w' A621_1 ((rd_T29 t606 x5_2).f1).length ((rd_T29 t606 x5_2).f1)) ∧ Aside0 (Below w.heap.size w w'))
                      case atStart => exact ⟨(0), (by first | rfl | (simp; done) | (simp [*]; done)), H', ⟨Nat.le_refl _⟩, ⟨by (with_reducible repeat (first | apply Kd.N_alloc | apply Kd.N_drewN | apply Kd.N_drew)); exact HO_3.out⟩, ⟨by (with_reducible repeat (first | apply Kd.R_alloc | apply Kd.R_drewN | apply Kd.R_drew)); exact HO_4.out⟩, ⟨by repeat (first | (with_reducible exact HR621_1.out) | (with_reducible refine Kd.C_alloc ?_ _) | (with_reducible refine Kd.C_drewN ?_ _) | (with_reducible refine Kd.C_drew ?_) | exact HR621_1.out)⟩, ⟨by repeat (first | (with_reducible first | exact HB.out | apply below_alloc | apply pw_below_drewN | apply below_drew1) | exact HB.out)⟩⟩
                      case round =>
                        clear H'
                        try clear c1
                        try clear c2
                        try clear c2b0
                        try clear c2b1
                        try clear p2
                        try clear c6
                        try clear p6
                        try clear q6
                        try clear hx6
                        try clear c11
                        try clear c13
                        try clear c18
                        try clear c24
                        try clear c24b0
                        try clear c25
                        try clear c25b0
                        try clear c26
                        try clear c26b0
                        try clear c27
                        try clear c27b0
                        try clear hx620_0
                        try clear hx621_0
                        try clear hx621_1
                        try clear hx621_2
                        try clear hx621_3
                        try clear p2
                        try clear p620
                        try clear p621
                        try clear q620
                        try clear q621
                        obtain ⟨x6_3, rfl, HA, HK3, HO_3, HO_4, HR621_1, HB⟩ := hrel
                        cases gk with
                        | zero => exact absurd HA.out (by simp [laws_FnTailTimes.l1])
                        | succ k3 =>
                          have H := HA.out
                          clear HA
                          simp only [laws_FnTailTimes.l1] at H
                          by_cases c30 : 0 ≤ x5_2
                          · rw [if_pos c30] at H
                            have c30b0 : decide (0 ≤ x5_2) = true := decide_eq_true c30
                            clear c30
                            by_cases c31 : x5_2 < (t606.length : Int)
                            · rw [if_pos c31] at H
                              have c31b0 : decide (x5_2 < (t606.length : Int)) = true := decide_eq_true c31
                              clear c31
                              by_cases c32 : x6_3 < (((rd_T29 t606 x5_2).f1).length : Int)
                              · rw [if_pos c32] at H
                                have c32b0 : decide (x6_3 < (((rd_T29 t606 x5_2).f1).length : Int)) = true := decide_eq_true c32
                                clear c32
                                by_cases c33 : 0 ≤ x6_3
                                · rw [if_pos c33] at H
                                  have c33b0 : decide (0 ≤ x6_3) = true := decide_eq_true c33
                                  clear c33
                                  by_cases c34 : 0 ≤ (rd ((rd_T29 t606 x5_2).f1) x6_3)
                                  · rw [if_pos c34] at H
                                    have c34b0 : decide (0 ≤ (rd ((rd_T29 t606 x5_2).f1) x6_3)) = true := decide_eq_true c34
                                    clear c34
                                    by_cases c35 : (rd ((rd_T29 t606 x5_2).f1) x6_3) < (t609.length : Int)
                                    · rw [if_pos c35] at H
                                      have c35b0 : decide ((rd ((rd_T29 t606 x5_2).f1) x6_3) < (t609.length : Int)) = true := decide_eq_true c35
                                      clear c35
                                      by_cases c36 : (rd ((rd_T29 t606 x5_2).f1) x6_3) < (t606.length : Int)
                                      · rw [if_pos c36] at H
                                        have c36b0 : decide ((rd ((rd_T29 t606 x5_2).f1) x6_3) < (t606.length : Int)) = true := decide_eq_true c36
                                        clear c36
                                        by_cases c37 : x5_2 < (t609.length : Int)
                                        · rw [if_pos c37] at H
                                          have c37b0 : decide (x5_2 < (t609.length : Int)) = true := decide_eq_true c37
                                          clear c37
                                          by_cases c38 : (rd t609 (rd ((rd_T29 t606 x5_2).f1) x6_3)) < (wrap64 (((rd_T29 t606 (rd ((rd_T29 t606 x5_2).f1) x6_3)).f0) + (rd t609 x5_2)))
                                          · rw [if_pos c38] at H
                                            have c38b0 : decide ((rd t609 (rd ((rd_T29 t606 x5_2).f1) x6_3)) < (wrap64 (((rd_T29 t606 (rd ((rd_T29 t606 x5_2).f1) x6_3)).f0) + (rd t609 x5_2)))) = true := decide_eq_true c38
                                            clear c38
                                            obtain rfl := Option.some.inj H
                                            have p622 : 0 ≤ (x5_2 : Int) := of_decide_eq_true (by first | (with_reducible assumption) | assumption)
                                            have q622 : x5_2 < (t606.length : Int) := of_decide_eq_true (by first | (with_reducible assumption) | assumption)
                                            obtain ⟨ad622, A622_1, c622_1, e622, hx622_0, hx622_1, hx622_2, hx622_3, hl622_1, hi622_1⟩ := at_T29 (Kd.N_reads' HO_3.out).2.2 x5_2 p622 q622
                                            obtain rfl : ad621 = ad622 := (by injection e622)
                                            obtain ⟨ce622, hce622, hMe622, hcc622⟩ := Kd.N_get HO_3.out z29 x5_2 p622 (by first | exact q622 | exact of_decide_eq_true (by first | (with_reducible assumption) | assumption) | (have e_ := (Kd.N_reads' HO_3.out).1; omega))
                                            obtain ⟨ua622_1, uc622_1, rfl, ul622_1, ge622_1⟩ := k29_openF hMe622
                                            have hv622_1 := hcc622 1 _ rfl
                                            rw [add_field _ _ 1 (by omega)] at hv622_1
                                            replace hv622_1 := Option.some.inj (hv622_1.symm.trans hx622_1)
                                            injection hv622_1 with hva_ hvn_ hvc_
                                            rw [hva_] at ge622_1
                                            rw [hvc_] at ul622_1
                                            have HL622_1 := Aside0.mk (show Kd.V (Kd.int .i64) 3 _ w.heap.size _ _ ((rd_T29 t606 x5_2).f1) from Kd.V_mk ul622_1 ge622_1)
                                            clear hva_ hvn_ hvc_ ge622_1 ul622_1
                                            clear hcc622 hce622
                                            have HR622_1 := Aside0.mk hi622_1
                                            have HC622_1 := Aside0.mk hl622_1
                                            clear hi622_1 hl622_1
                                            replace p622 := eq_true p622
                                            replace q622 := eq_true q622
                                            have p623 : 0 ≤ (x5_2 : Int) := of_decide_eq_true (by first | (with_reducible assumption) | assumption)
                                            have q623 : x5_2 < (t606.length : Int) := of_decide_eq_true (by first | (with_reducible assumption) | assumption)
                                            obtain ⟨ad623, A623_1, c623_1, e623, hx623_0, hx623_1, hx623_2, hx623_3, hl623_1, hi623_1⟩ := at_T29 (Kd.N_reads' HO_3.out).2.2 x5_2 p623 q623
                                            obtain rfl : ad621 = ad623 := (by injection e623)
                                            obtain ⟨ce623, hce623, hMe623, hcc623⟩ := Kd.N_get HO_3.out z29 x5_2 p623 (by first | exact q623 | exact of_decide_eq_true (by first | (with_reducible assumption) | assumption) | (have e_ := (Kd.N_reads' HO_3.out).1; omega))
                                            obtain ⟨ua623_1, uc623_1, rfl, ul623_1, ge623_1⟩ := k29_openF hMe623
                                            have hv623_1 := hcc623 1 _ rfl
                                            rw [add_field _ _ 1 (by omega)] at hv623_1
                                            replace hv623_1 := Option.some.inj (hv623_1.symm.trans hx623_1)
                                            injection hv623_1 with hva_ hvn_ hvc_
                                            rw [hva_] at ge623_1
                                            rw [hvc_] at ul623_1
                                            have HL623_1 := Aside0.mk (show Kd.V (Kd.int .i64) 3 _ w.heap.size _ _ ((rd_T29 t606 x5_2).f1) from Kd.V_mk ul623_1 ge623_1)
                                            clear hva_ hvn_ hvc_ ge623_1 ul623_1
                                            clear hcc623 hce623
                                            have HR623_1 := Aside0.mk hi623_1
                                            have HC623_1 := Aside0.mk hl623_1
                                            clear hi623_1 hl623_1
                                            replace p623 := eq_true p623
                                            replace q623 := eq_true q623
                                            have ea_ := Option.some.inj (hx622_1.symm.trans hx623_1)
                                            injection ea_ with ea_ en_ ec_
                                            subst ea_
                                            subst ec_
                                            clear en_
                                            have p624 : 0 ≤ (x6_3 : Int) := of_decide_eq_true (by first | (with_reducible assumption) | assumption)
                                            have q624 : x6_3 < (((rd_T29 t606 x5_2).f1).length : Int) := of_decide_eq_true (by first | (with_reducible assumption) | assumption)
                                            obtain ⟨ad624, e624, hx624_0⟩ := Kd.at_int (by repeat (first | (with_reducible exact HR623_1.out) | (with_reducible refine Kd.C_alloc ?_ _) | (with_reducible refine Kd.C_drewN ?_ _) | (with_reducible refine Kd.C_drew ?_) | exact HR623_1.out)) x6_3 p624 q624
                                            cases e624
                                            replace p624 := eq_true p624
                                            replace q624 := eq_true q624
                                            have p625 : 0 ≤ ((rd ((rd_T29 t606 x5_2).f1) x6_3) : Int) := of_decide_eq_true (by first | (with_reducible assumption) | assumption)
                                            have q625 : (rd ((rd_T29 t606 x5_2).f1) x6_3) < (t609.length : Int) := of_decide_eq_true (by first | (with_reducible assumption) | assumption)
                                            obtain ⟨ad625, e625, hx625_0⟩ := Kd.at_int (Kd.R_reads' HO_4.out).2.2 (rd ((rd_T29 t606 x5_2).f1) x6_3) p625 q625
                                            obtain rfl : ad620 = ad625 := (by injection e625)
                                            replace p625 := eq_true p625
                                            replace q625 := eq_true q625
                                            have p626 : 0 ≤ ((rd ((rd_T29 t606 x5_2).f1) x6_3) : Int) := of_decide_eq_true (by first | (with_reducible assumption) | assumption)
                                            have q626 : (rd ((rd_T29 t606 x5_2).f1) x6_3) < (t606.length : Int) := of_decide_eq_true (by first | (with_reducible assumption) | assumption)
                                            obtain ⟨ad626, A626_1, c626_1, e626, hx626_0, hx626_1, hx626_2, hx626_3, hl626_1, hi626_1⟩ := at_T29 (Kd.N_reads' HO_3.out).2.2 (rd ((rd_T29 t606 x5_2).f1) x6_3) p626 q626
                                            obtain rfl : ad621 = ad626 := (by injection e626)
                                            obtain ⟨ce626, hce626, hMe626, hcc626⟩ := Kd.N_get HO_3.out z29 (rd ((rd_T29 t606 x5_2).f1) x6_3) p626 (by first | exact q626 | exact of_decide_eq_true (by first | (with_reducible assumption) | assumption) | (have e_ := (Kd.N_reads' HO_3.out).1; omega))
                                            obtain ⟨ua626_1, uc626_1, rfl, ul626_1, ge626_1⟩ := k29_openF hMe626
                                            have hv626_1 := hcc626 1 _ rfl
                                            rw [add_field _ _ 1 (by omega)] at hv626_1
                                            replace hv626_1 := Option.some.inj (hv626_1.symm.trans hx626_1)
                                            injection hv626_1 with hva_ hvn_ hvc_
                                            rw [hva_] at ge626_1
                                            rw [hvc_] at ul626_1
                                            have HL626_1 := Aside0.mk (show Kd.V (Kd.int .i64) 3 _ w.heap.size _ _ ((rd_T29 t606 (rd ((rd_T29 t606 x5_2).f1) x6_3)).f1) from Kd.V_mk ul626_1 ge626_1)
                                            clear hva_ hvn_ hvc_ ge626_1 ul626_1
                                            clear hcc626 hce626
                                            have HR626_1 := Aside0.mk hi626_1
                                            have HC626_1 := Aside0.mk hl626_1
                                            clear hi626_1 hl626_1
                                            replace p626 := eq_true p626
                                            replace q626 := eq_true q626
                                            have p627 : 0 ≤ (x5_2 : Int) := of_decide_eq_true (by first | (with_reducible assumption) | assumption)
                                            have q627 : x5_2 < (t609.length : Int) := of_decide_eq_true (by first | (with_reducible assumption) | assumption)
                                            obtain ⟨ad627, e627, hx627_0⟩ := Kd.at_int (Kd.R_reads' HO_4.out).2.2 x5_2 p627 q627
                                            obtain rfl : ad620 = ad627 := (by injection e627)
                                            replace p627 := eq_true p627
                                            replace q627 := eq_true q627
                                            go_wp2
                                            repeat (go_quiet (fail); try go_wp2)
                                            go_ret
                                            exact ⟨by first | rfl | (simp [errW_none, errW_some] <;> rfl) | (simp [*, errW_none, errW_some] <;> rfl), by repeat (first | (with_reducible first | exact HB.out | apply below_alloc | apply pw_below_drewN | apply below_drew1) | exact HB.out)⟩
                                          · rw [if_neg c38] at H
                                            have c38b0 : decide ((rd t609 (rd ((rd_T29 t606 x5_2).f1) x6_3)) < (wrap64 (((rd_T29 t606 (rd ((rd_T29 t606 x5_2).f1) x6_3)).f0) + (rd t609 x5_2)))) = false := decide_eq_false c38
                                            clear c38
                                            have H' := Aside0.mk H
                                            clear H
                                            have p622 : 0 ≤ (x5_2 : Int) := of_decide_eq_true (by first | (with_reducible assumption) | assumption)
                                            have q622 : x5_2 < (t606.length : Int) := of_decide_eq_true (by first | (with_reducible assumption) | assumption)
                                            obtain ⟨ad622, A622_1, c622_1, e622, hx622_0, hx622_1, hx622_2, hx622_3, hl622_1, hi622_1⟩ := at_T29 (Kd.N_reads' HO_3.out).2.2 x5_2 p622 q622
                                            obtain rfl : ad621 = ad622 := (by injection e622)
                                            obtain ⟨ce622, hce622, hMe622, hcc622⟩ := Kd.N_get HO_3.out z29 x5_2 p622 (by first | exact q622 | exact of_decide_eq_true (by first | (with_reducible assumption) | assumption) | (have e_ := (Kd.N_reads' HO_3.out).1; omega))
                                            obtain ⟨ua622_1, uc622_1, rfl, ul622_1, ge622_1⟩ := k29_openF hMe622
                                            have hv622_1 := hcc622 1 _ rfl
                                            rw [add_field _ _ 1 (by omega)] at hv622_1
                                            replace hv622_1 := Option.some.inj (hv622_1.symm.trans hx622_1)
                                            injection hv622_1 with hva_ hvn_ hvc_
                                            rw [hva_] at ge622_1
                                            rw [hvc_] at ul622_1
                                            have HL622_1 := Aside0.mk (show Kd.V (Kd.int .i64) 3 _ w.heap.size _ _ ((rd_T29 t606 x5_2).f1) from Kd.V_mk ul622_1 ge622_1)
                                            clear hva_ hvn_ hvc_ ge622_1 ul622_1
                                            clear hcc622 hce622
                                            have HR622_1 := Aside0.mk hi622_1
                                            have HC622_1 := Aside0.mk hl622_1
                                            clear hi622_1 hl622_1
                                            replace p622 := eq_true p622
                                            replace q622 := eq_true q622
                                            have p623 : 0 ≤ (x5_2 : Int) := of_decide_eq_true (by first | (with_reducible assumption) | assumption)
                                            have q623 : x5_2 < (t606.length : Int) := of_decide_eq_true (by first | (with_reducible assumption) | assumption)
                                            obtain ⟨ad623, A623_1, c623_1, e623, hx623_0, hx623_1, hx623_2, hx623_3, hl623_1, hi623_1⟩ := at_T29 (Kd.N_reads' HO_3.out).2.2 x5_2 p623 q623
                                            obtain rfl : ad621 = ad623 := (by injection e623)
                                            obtain ⟨ce623, hce623, hMe623, hcc623⟩ := Kd.N_get HO_3.out z29 x5_2 p623 (by first | exact q623 | exact of_decide_eq_true (by first | (with_reducible assumption) | assumption) | (have e_ := (Kd.N_reads' HO_3.out).1; omega))
                                            obtain ⟨ua623_1, uc623_1, rfl, ul623_1, ge623_1⟩ := k29_openF hMe623
                                            have hv623_1 := hcc623 1 _ rfl
                                            rw [add_field _ _ 1 (by omega)] at hv623_1
                                            replace hv623_1 := Option.some.inj (hv623_1.symm.trans hx623_1)
                                            injection hv623_1 with hva_ hvn_ hvc_
                                            rw [hva_] at ge623_1
                                            rw [hvc_] at ul623_1
                                            have HL623_1 := Aside0.mk (show Kd.V (Kd.int .i64) 3 _ w.heap.size _ _ ((rd_T29 t606 x5_2).f1) from Kd.V_mk ul623_1 ge623_1)
                                            clear hva_ hvn_ hvc_ ge623_1 ul623_1
                                            clear hcc623 hce623
                                            have HR623_1 := Aside0.mk hi623_1
                                            have HC623_1 := Aside0.mk hl623_1
                                            clear hi623_1 hl623_1
                                            replace p623 := eq_true p623
                                            replace q623 := eq_true q623
                                            have ea_ := Option.some.inj (hx622_1.symm.trans hx623_1)
                                            injection ea_ with ea_ en_ ec_
                                            subst ea_
                                            subst ec_
                                            clear en_
                                            have p624 : 0 ≤ (x6_3 : Int) := of_decide_eq_true (by first | (with_reducible assumption) | assumption)
                                            have q624 : x6_3 < (((rd_T29 t606 x5_2).f1).length : Int) := of_decide_eq_true (by first | (with_reducible assumption) | assumption)
                                            obtain ⟨ad624, e624, hx624_0⟩ := Kd.at_int (by repeat (first | (with_reducible exact HR623_1.out) | (with_reducible refine Kd.C_alloc ?_ _) | (with_reducible refine Kd.C_drewN ?_ _) | (with_reducible refine Kd.C_drew ?_) | exact HR623_1.out)) x6_3 p624 q624
                                            cases e624
                                            replace p624 := eq_true p624
                                            replace q624 := eq_true q624
                                            have p625 : 0 ≤ ((rd ((rd_T29 t606 x5_2).f1) x6_3) : Int) := of_decide_eq_true (by first | (with_reducible assumption) | assumption)
                                            have q625 : (rd ((rd_T29 t606 x5_2).f1) x6_3) < (t609.length : Int) := of_decide_eq_true (by first | (with_reducible assumption) | assumption)
                                            obtain ⟨ad625, e625, hx625_0⟩ := Kd.at_int (Kd.R_reads' HO_4.out).2.2 (rd ((rd_T29 t606 x5_2).f1) x6_3) p625 q625
                                            obtain rfl : ad620 = ad625 := (by injection e625)
                                            replace p625 := eq_true p625
                                            replace q625 := eq_true q625
                                            have p626 : 0 ≤ ((rd ((rd_T29 t606 x5_2).f1) x6_3) : Int) := of_decide_eq_true (by first | (with_reducible assumption) | assumption)
                                            have q626 : (rd ((rd_T29 t606 x5_2).f1) x6_3) < (t606.length : Int) := of_decide_eq_true (by first | (with_reducible assumption) | assumption)
                                            obtain ⟨ad626, A626_1, c626_1, e626, hx626_0, hx626_1, hx626_2, hx626_3, hl626_1, hi626_1⟩ := at_T29 (Kd.N_reads' HO_3.out).2.2 (rd ((rd_T29 t606 x5_2).f1) x6_3) p626 q626
                                            obtain rfl : ad621 = ad626 := (by injection e626)
                                            obtain ⟨ce626, hce626, hMe626, hcc626⟩ := Kd.N_get HO_3.out z29 (rd ((rd_T29 t606 x5_2).f1) x6_3) p626 (by first | exact q626 | exact of_decide_eq_true (by first | (with_reducible assumption) | assumption) | (have e_ := (Kd.N_reads' HO_3.out).1; omega))
                                            obtain ⟨ua626_1, uc626_1, rfl, ul626_1, ge626_1⟩ := k29_openF hMe626
                                            have hv626_1 := hcc626 1 _ rfl
                                            rw [add_field _ _ 1 (by omega)] at hv626_1
                                            replace hv626_1 := Option.some.inj (hv626_1.symm.trans hx626_1)
                                            injection hv626_1 with hva_ hvn_ hvc_
                                            rw [hva_] at ge626_1
                                            rw [hvc_] at ul626_1
                                            have HL626_1 := Aside0.mk (show Kd.V (Kd.int .i64) 3 _ w.heap.size _ _ ((rd_T29 t606 (rd ((rd_T29 t606 x5_2).f1) x6_3)).f1) from Kd.V_mk ul626_1 ge626_1)
                                            clear hva_ hvn_ hvc_ ge626_1 ul626_1
                                            clear hcc626 hce626
                                            have HR626_1 := Aside0.mk hi626_1
                                            have HC626_1 := Aside0.mk hl626_1
                                            clear hi626_1 hl626_1
                                            replace p626 := eq_true p626
                                            replace q626 := eq_true q626
                                            have p627 : 0 ≤ (x5_2 : Int) := of_decide_eq_true (by first | (with_reducible assumption) | assumption)
                                            have q627 : x5_2 < (t609.length : Int) := of_decide_eq_true (by first | (with_reducible assumption) | assumption)
                                            obtain ⟨ad627, e627, hx627_0⟩ := Kd.at_int (Kd.R_reads' HO_4.out).2.2 x5_2 p627 q627
                                            obtain rfl : ad620 = ad627 := (by injection e627)
                                            replace p627 := eq_true p627
                                            replace q627 := eq_true q627
                                            go_wp2
                                            repeat (go_quiet (fail); try go_wp2)
                                            go_roundg k3
                                            case measure => have := HJ4.out; have := HK2.out; have := HK3.out; omega
                                            case rel => exact ⟨(wrap64 (x6_3 + 1)), (by first | rfl | (simp; done) | (simp [*]; done)), H', ⟨by have := HJ4.out; have := HK2.out; have := HK3.out; omega⟩, ⟨by (with_reducible repeat (first | apply Kd.N_alloc | apply Kd.N_drewN | apply Kd.N_drew)); exact HO_3.out⟩, ⟨by (with_reducible repeat (first | apply Kd.R_alloc | apply Kd.R_drewN | apply Kd.R_drew)); exact HO_4.out⟩, ⟨by repeat (first | (with_reducible exact HR621_1.out) | (with_reducible refine Kd.C_alloc ?_ _) | (with_reducible refine Kd.C_drewN ?_ _) | (with_reducible refine Kd.C_drew ?_) | exact HR621_1.out)⟩, ⟨by repeat (first | (with_reducible first | exact HB.out | apply below_alloc | apply pw_below_drewN | apply below_drew1) | exact HB.out)⟩⟩
                                        · rw [if_neg c37] at H
                                          exact absurd H (by simp)
                                      · rw [if_neg c36] at H
                                        exact absurd H (by simp)
                                    · rw [if_neg c35] at H
                                      exact absurd H (by simp)
                                  · rw [if_neg c34] at H
                                    exact absurd H (by simp)
                                · rw [if_neg c33] at H
                                  exact absurd H (by simp)
                              · rw [if_neg c32] at H
                                have c32b0 : decide (x6_3 < (((rd_T29 t606 x5_2).f1).length : Int)) = false := decide_eq_false c32
                                clear c32
                                have H' := Aside0.mk H
                                clear H
                                have p622 : 0 ≤ (x5_2 : Int) := of_decide_eq_true (by first | (with_reducible assumption) | assumption)
                                have q622 : x5_2 < (t606.length : Int) := of_decide_eq_true (by first | (with_reducible assumption) | assumption)
                                obtain ⟨ad622, A622_1, c622_1, e622, hx622_0, hx622_1, hx622_2, hx622_3, hl622_1, hi622_1⟩ := at_T29 (Kd.N_reads' HO_3.out).2.2 x5_2 p622 q622
                                obtain rfl : ad621 = ad622 := (by injection e622)
                                obtain ⟨ce622, hce622, hMe622, hcc622⟩ := Kd.N_get HO_3.out z29 x5_2 p622 (by first | exact q622 | exact of_decide_eq_true (by first | (with_reducible assumption) | assumption) | (have e_ := (Kd.N_reads' HO_3.out).1; omega))
                                obtain ⟨ua622_1, uc622_1, rfl, ul622_1, ge622_1⟩ := k29_openF hMe622
                                have hv622_1 := hcc622 1 _ rfl
                                rw [add_field _ _ 1 (by omega)] at hv622_1
                                replace hv622_1 := Option.some.inj (hv622_1.symm.trans hx622_1)
                                injection hv622_1 with hva_ hvn_ hvc_
                                rw [hva_] at ge622_1
                                rw [hvc_] at ul622_1
                                have HL622_1 := Aside0.mk (show Kd.V (Kd.int .i64) 3 _ w.heap.size _ _ ((rd_T29 t606 x5_2).f1) from Kd.V_mk ul622_1 ge622_1)
                                clear hva_ hvn_ hvc_ ge622_1 ul622_1
                                clear hcc622 hce622
                                have HR622_1 := Aside0.mk hi622_1
                                have HC622_1 := Aside0.mk hl622_1
                                clear hi622_1 hl622_1
                                replace p622 := eq_true p622
                                replace q622 := eq_true q622
                                go_wp2
                                repeat (go_quiet (fail); try go_wp2)
                                go_roundg k3
                                case measure => have := HJ4.out; have := HK2.out; have := HK3.out; omega
                                case rel => exact ⟨(wrap64 (x5_2 + 1)), (by first | rfl | (simp; done) | (simp [*]; done)), H', ⟨by have := HJ4.out; have := HK2.out; have := HK3.out; omega⟩, ⟨by (with_reducible repeat (first | apply Kd.N_alloc | apply Kd.N_drewN | apply Kd.N_drew)); exact HO_3.out⟩, ⟨by (with_reducible repeat (first | apply Kd.R_alloc | apply Kd.R_drewN | apply Kd.R_drew)); exact HO_4.out⟩, ⟨by repeat (first | (with_reducible first | exact HB.out | apply below_alloc | apply pw_below_drewN | apply below_drew1) | exact HB.out)⟩⟩
                            · rw [if_neg c31] at H
                              exact absurd H (by simp)
                          · rw [if_neg c30] at H
                            exact absurd H (by simp)
                  · rw [if_neg c26] at H
                    exact absurd H (by simp)
                · rw [if_neg c25] at H
                  exact absurd H (by simp)
              · rw [if_neg c24] at H
                have c24b0 : decide (x5_2 < (t606.length : Int)) = false := decide_eq_false c24
                clear c24
                obtain rfl := Option.some.inj H
                go_wp2
                repeat (go_quiet (fail); try go_wp2)
                go_ret
                exact ⟨by first | rfl | (simp [errW_none, errW_some] <;> rfl) | (simp [*, errW_none, errW_some] <;> rfl), by repeat (first | (with_reducible first | exact HB.out | apply below_alloc | apply pw_below_drewN | apply below_drew1) | exact HB.out)⟩

/-- THE ONE PURE STATEMENT of laws_FnTailTimes: yours. -/
def laws_FnTailTimes.Pure : Prop := ∀ (l0 : List Int), l0.length ≤ maxLen → l0.length * 1 ≤ 140737488351232 → (∀ x ∈ l0, (Lit.int .u8 x).wf = true) → ∃ k, laws_FnTailTimes.f k l0 = some true
theorem laws_FnTailTimes.walk (P : laws_FnTailTimes.Pure) (a0 : Option Addr) (len0 cap0 : Nat) (z0 : List Int) (w : World) (hT : Go.Proofs.YtokikapljmakbaaDoor.H.Tab w) (w0 : (a0 = none ∧ len0 = 0 ∧ cap0 = 0 ∧ z0 = []) ∨ ∃ x, a0 = some x ∧ len0 ≤ cap0 ∧ cap0 ≤ maxLen ∧ z0.length = cap0 ∧ (∀ i, i < z0.length → w.cell? (x.add i) = some (.int .u8 (z0.getD i 0))) ∧ ∀ n ∈ z0, (Lit.int .u8 n).wf = true) (y0 : len0 * 1 ≤ 140737488351232) :
    Calls Tryd.prog 13 #[.slice a0 len0 cap0] w fun e w' => e = .returned (.bool true) ∧ Below w.heap.size w w' := by
  obtain ⟨l0, rfl, hr0, hm0, hw0, hc0⟩ := ReadsInt.ofRowC w0
  obtain ⟨k, h⟩ := P l0 hm0 y0 hw0
  refine (laws_FnTailTimes.calls k _ _ l0 true w hT (Kd.C_of_reads (d := (0 : Int)) (h1 := fun _ => rfl) hr0) hc0 h).mono ?_
  rintro e w' ⟨rfl, hd⟩
  exact ⟨rfl, hd⟩

end Go.Proofs.YtokikapljmakbaaDoor.Q
