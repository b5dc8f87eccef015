-- Written by a program of this session (wip/tools/myprint.py), by way of the kit's print, out of the translation of the seat. Lean checks it.
import Derived.Test.YtgpnododcbkflaaDoorQx0
import Derived.Test.YtgpnododcbkflaaDoorQx17
import Derived.Test.YtgpnododcbkflaaDoorQx24
import Derived.Test.YtgpnododcbkflaaDoorQx31
import Derived.Test.YtgpnododcbkflaaDoorHHeads
namespace Go.Proofs.YtgpnododcbkflaaDoor.Q
open Go.Proofs.YtgpnododcbkflaaDoor.H Go.RowKit Go.Proofs.YtgpnododcbkflaaDoorW.PrintWords Go.Proofs.YtgpnododcbkflaaDoorW.PrintLast Go.Proofs.YtgpnododcbkflaaDoorW.PrintMore
attribute [local go_sem] max2_int min2_int max_two min_two max_three min_three max_four min_four   -- for this text's walks alone
set_option linter.unusedVariables false
set_option linter.unusedSimpArgs false

/-! ### laws_FnHeadTimes: function 4 -/
mutual
def laws_FnHeadTimes.j0 : Nat → List (S30) → List Int → Bool → Option (Bool)
  | 0, _, _, _ => none
  | k + 1, x3, x4, x27 => if x27 = true then ((spec_HeadTimes.f k x3).bind fun t383 => ((laws_equalInts.f k x4 t383).bind fun t386 => (some t386))) else (laws_FnHeadTimes.l0 k x3 x4 0)
def laws_FnHeadTimes.l0 : Nat → List (S30) → List Int → Int → Option (Bool)
  | 0, _, _, _ => none
  | k + 1, x3, x4, x5 => if x5 < (x3.length : Int) then (if 0 ≤ x5 then (if (((rd_T30 x3 x5).f1).length : Int) = 0 then (if x5 < (x4.length : Int) then (laws_FnHeadTimes.j2 k x3 x4 x5 ((rd x4 x5) == 0)) else (none)) else (laws_FnHeadTimes.j2 k x3 x4 x5 false)) else (none)) else (some true)
def laws_FnHeadTimes.j2 : Nat → List (S30) → List Int → Int → Bool → Option (Bool)
  | 0, _, _, _, _ => none
  | k + 1, x3, x4, x5, x6 => laws_FnHeadTimes.l1 k x3 x4 x5 x6 0
def laws_FnHeadTimes.l1 : Nat → List (S30) → List Int → Int → Bool → Int → Option (Bool)
  | 0, _, _, _, _, _ => none
  | k + 1, x3, x4, x5, x6, x7 => if 0 ≤ x5 then (if x5 < (x3.length : Int) then (if x7 < (((rd_T30 x3 x5).f1).length : Int) then (if 0 ≤ x7 then (if x6 = true then (if 0 ≤ (rd ((rd_T30 x3 x5).f1) x7) then (if (rd ((rd_T30 x3 x5).f1) x7) < (x4.length : Int) then (if (rd ((rd_T30 x3 x5).f1) x7) < (x3.length : Int) then (if x5 < (x4.length : Int) then (if (wrap64 ((rd x4 (rd ((rd_T30 x3 x5).f1) x7)) + ((rd_T30 x3 (rd ((rd_T30 x3 x5).f1) x7)).f0))) > (rd x4 x5) then (some false) else (laws_FnHeadTimes.l1 k x3 x4 x5 true (wrap64 (x7 + 1)))) else (none)) else (none)) else (none)) else (none)) else (if 0 ≤ (rd ((rd_T30 x3 x5).f1) x7) then (if (rd ((rd_T30 x3 x5).f1) x7) < (x4.length : Int) then (if (rd ((rd_T30 x3 x5).f1) x7) < (x3.length : Int) then (if x5 < (x4.length : Int) then (if (wrap64 ((rd x4 (rd ((rd_T30 x3 x5).f1) x7)) + ((rd_T30 x3 (rd ((rd_T30 x3 x5).f1) x7)).f0))) > (rd x4 x5) then (some false) else (laws_FnHeadTimes.l1 k x3 x4 x5 ((wrap64 ((rd x4 (rd ((rd_T30 x3 x5).f1) x7)) + ((rd_T30 x3 (rd ((rd_T30 x3 x5).f1) x7)).f0))) == (rd x4 x5)) (wrap64 (x7 + 1)))) else (none)) else (none)) else (none)) else (none))) else (none)) else (if x6 = true then (laws_FnHeadTimes.l0 k x3 x4 (wrap64 (x5 + 1))) else (some false))) else (none)) else (none)
end
def laws_FnHeadTimes.f (k : Nat) (l0 : List Int) : Option (Bool) := if (l0.length : Int) > 1048576 then (some true) else ((spec_DrawHeadTimes.f k l0).bind fun t373 => ((impl_HeadTimes.f t373).bind fun t376 => ((spec_HeadTimes.f k t373).bind fun t379 => ((laws_equalInts.f k t376 t379).bind fun t382 => (if t382 = true then (laws_FnHeadTimes.j0 k t373 t376 ((t376.length : Int) != (t373.length : Int))) else (laws_FnHeadTimes.j0 k t373 t376 true))))))
theorem laws_FnHeadTimes.mono_l : ∀ k, (∀ y0 y1 y2, LeO (laws_FnHeadTimes.j0 k y0 y1 y2) (laws_FnHeadTimes.j0 (k + 1) y0 y1 y2)) ∧ (∀ y0 y1 y2, LeO (laws_FnHeadTimes.l0 k y0 y1 y2) (laws_FnHeadTimes.l0 (k + 1) y0 y1 y2)) ∧ (∀ y0 y1 y2 y3, LeO (laws_FnHeadTimes.j2 k y0 y1 y2 y3) (laws_FnHeadTimes.j2 (k + 1) y0 y1 y2 y3)) ∧ (∀ y0 y1 y2 y3 y4, LeO (laws_FnHeadTimes.l1 k y0 y1 y2 y3 y4) (laws_FnHeadTimes.l1 (k + 1) y0 y1 y2 y3 y4))
  | 0 => ⟨fun _ _ _ r h => by simp [laws_FnHeadTimes.j0] at h, fun _ _ _ r h => by simp [laws_FnHeadTimes.l0] at h, fun _ _ _ _ r h => by simp [laws_FnHeadTimes.j2] at h, fun _ _ _ _ _ r h => by simp [laws_FnHeadTimes.l1] at h⟩
  | k + 1 => by
    obtain ⟨ih0, ih1, ih2, ih3⟩ := laws_FnHeadTimes.mono_l k
    refine ⟨?_, ?_, ?_, ?_⟩
    · intro y0 y1 y2
      unfold laws_FnHeadTimes.j0
      repeat' first
      | (with_reducible exact ih0 _ _ _)
      | (with_reducible exact ih1 _ _ _)
      | (with_reducible exact ih2 _ _ _ _)
      | (with_reducible exact ih3 _ _ _ _ _)
      | (with_reducible exact laws_equalInts.mono _ _ _)
      | (with_reducible exact spec_DrawHeadTimes.mono _ _)
      | (with_reducible exact spec_HeadTimes.mono _ _)
      | (with_reducible exact LeO.refl _)
      | (with_reducible exact LeO.none _)
      | (with_reducible refine LeO.ite ?_ ?_)
      | (with_reducible refine LeO.bind ?_ (fun _ => ?_))
      | exact ih0 _ _ _
      | exact ih1 _ _ _
      | exact ih2 _ _ _ _
      | exact ih3 _ _ _ _ _
      | exact laws_equalInts.mono _ _ _
      | exact spec_DrawHeadTimes.mono _ _
      | exact spec_HeadTimes.mono _ _
      | exact LeO.none _
      | refine LeO.ite ?_ ?_
      | refine LeO.bind ?_ (fun _ => ?_)
    · intro y0 y1 y2
      unfold laws_FnHeadTimes.l0
      repeat' first
      | (with_reducible exact ih0 _ _ _)
      | (with_reducible exact ih1 _ _ _)
      | (with_reducible exact ih2 _ _ _ _)
      | (with_reducible exact ih3 _ _ _ _ _)
      | (with_reducible exact laws_equalInts.mono _ _ _)
      | (with_reducible exact spec_DrawHeadTimes.mono _ _)
      | (with_reducible exact spec_HeadTimes.mono _ _)
      | (with_reducible exact LeO.refl _)
      | (with_reducible exact LeO.none _)
      | (with_reducible refine LeO.ite ?_ ?_)
      | (with_reducible refine LeO.bind ?_ (fun _ => ?_))
      | exact ih0 _ _ _
      | exact ih1 _ _ _
      | exact ih2 _ _ _ _
      | exact ih3 _ _ _ _ _
      | exact laws_equalInts.mono _ _ _
      | exact spec_DrawHeadTimes.mono _ _
      | exact spec_HeadTimes.mono _ _
      | exact LeO.none _
      | refine LeO.ite ?_ ?_
      | refine LeO.bind ?_ (fun _ => ?_)
    · intro y0 y1 y2 y3
      unfold laws_FnHeadTimes.j2
      repeat' first
      | (with_reducible exact ih0 _ _ _)
      | (with_reducible exact ih1 _ _ _)
      | (with_reducible exact ih2 _ _ _ _)
      | (with_reducible exact ih3 _ _ _ _ _)
      | (with_reducible exact laws_equalInts.mono _ _ _)
      | (with_reducible exact spec_DrawHeadTimes.mono _ _)
      | (with_reducible exact spec_HeadTimes.mono _ _)
      | (with_reducible exact LeO.refl _)
      | (with_reducible exact LeO.none _)
      | (with_reducible refine LeO.ite ?_ ?_)
      | (with_reducible refine LeO.bind ?_ (fun _ => ?_))
      | exact ih0 _ _ _
      | exact ih1 _ _ _
      | exact ih2 _ _ _ _
      | exact ih3 _ _ _ _ _
      | exact laws_equalInts.mono _ _ _
      | exact spec_DrawHeadTimes.mono _ _
      | exact spec_HeadTimes.mono _ _
      | exact LeO.none _
      | refine LeO.ite ?_ ?_
      | refine LeO.bind ?_ (fun _ => ?_)
    · intro y0 y1 y2 y3 y4
      unfold laws_FnHeadTimes.l1
      repeat' first
      | (with_reducible exact ih0 _ _ _)
      | (with_reducible exact ih1 _ _ _)
      | (with_reducible exact ih2 _ _ _ _)
      | (with_reducible exact ih3 _ _ _ _ _)
      | (with_reducible exact laws_equalInts.mono _ _ _)
      | (with_reducible exact spec_DrawHeadTimes.mono _ _)
      | (with_reducible exact spec_HeadTimes.mono _ _)
      | (with_reducible exact LeO.refl _)
      | (with_reducible exact LeO.none _)
      | (with_reducible refine LeO.ite ?_ ?_)
      | (with_reducible refine LeO.bind ?_ (fun _ => ?_))
      | exact ih0 _ _ _
      | exact ih1 _ _ _
      | exact ih2 _ _ _ _
      | exact ih3 _ _ _ _ _
      | exact laws_equalInts.mono _ _ _
      | exact spec_DrawHeadTimes.mono _ _
      | exact spec_HeadTimes.mono _ _
      | exact LeO.none _
      | refine LeO.ite ?_ ?_
      | refine LeO.bind ?_ (fun _ => ?_)
theorem laws_FnHeadTimes.mono : ∀ a0 k, LeO (laws_FnHeadTimes.f k a0) (laws_FnHeadTimes.f (k + 1) a0) := by
  intro a0 k
  obtain ⟨ih0, ih1, ih2, ih3⟩ := laws_FnHeadTimes.mono_l k
  unfold laws_FnHeadTimes.f
  repeat' first
      | (with_reducible exact ih0 _ _ _)
      | (with_reducible exact ih1 _ _ _)
      | (with_reducible exact ih2 _ _ _ _)
      | (with_reducible exact ih3 _ _ _ _ _)
      | (with_reducible exact laws_equalInts.mono _ _ _)
      | (with_reducible exact spec_DrawHeadTimes.mono _ _)
      | (with_reducible exact spec_HeadTimes.mono _ _)
      | (with_reducible exact LeO.refl _)
      | (with_reducible exact LeO.none _)
      | (with_reducible refine LeO.ite ?_ ?_)
      | (with_reducible refine LeO.bind ?_ (fun _ => ?_))
      | exact ih0 _ _ _
      | exact ih1 _ _ _
      | exact ih2 _ _ _ _
      | exact ih3 _ _ _ _ _
      | exact laws_equalInts.mono _ _ _
      | exact spec_DrawHeadTimes.mono _ _
      | exact spec_HeadTimes.mono _ _
      | exact LeO.none _
      | refine LeO.ite ?_ ?_
      | refine LeO.bind ?_ (fun _ => ?_)
set_option maxHeartbeats 8000000 in
set_option maxRecDepth 100000 in
theorem laws_FnHeadTimes.calls (k : Nat) (A0 : Option Addr) (c0 : Nat) (l0 : List Int) (r : Bool) (w : World) (hT : Go.Proofs.YtgpnododcbkflaaDoor.H.Tab w) (hr0 : Kd.C (Kd.int .u8) w A0 l0.length l0) (hc0 : l0.length ≤ c0) (h : laws_FnHeadTimes.f k l0 = some r) :
    Calls Tryd.prog 4 #[.slice A0 l0.length c0] w fun e w' => e = .returned (.bool r) ∧ Below w.heap.size w w' := by
  have HT := Aside0.mk hT
  clear hT
  have HR0 := Aside0.mk hr0
  have HC0 := Aside0.mk hc0
  clear hr0 hc0
  have HB := Aside0.mk (Below.refl w.heap.size w)
  have H : (if (l0.length : Int) > 1048576 then (some true) else ((spec_DrawHeadTimes.f k l0).bind fun t373 => ((impl_HeadTimes.f t373).bind fun t376 => ((spec_HeadTimes.f k t373).bind fun t379 => ((laws_equalInts.f k t376 t379).bind fun t382 => (if t382 = true then (laws_FnHeadTimes.j0 k t373 t376 ((t376.length : Int) != (t373.length : Int))) else (laws_FnHeadTimes.j0 k t373 t376 true))))))) = some r := h
  clear h
  by_cases c2 : (l0.length : Int) > 1048576
  · rw [if_pos c2] at H
    have c2b0 : decide (1048576 < (l0.length : Int)) = true := decide_eq_true c2
    have c2b1 : decide (1048576 < l0.length) = true := decide_eq_true (by omega)
    clear c2
    obtain rfl := Option.some.inj H
    go_enter Tryd.func4, Tryd.ntmps4
    go_wp2
    repeat (go_quiet (fail); try go_wp2)
    go_ret
    exact ⟨by first | rfl | (simp [errW_none, errW_some] <;> rfl) | (simp [*, errW_none, errW_some] <;> rfl), by repeat (first | (with_reducible first | exact HB.out | apply below_alloc | apply pw_below_drewN | apply below_drew1) | exact HB.out)⟩
  · rw [if_neg c2] at H
    have c2b0 : decide (1048576 < (l0.length : Int)) = false := decide_eq_false c2
    have c2b1 : decide (1048576 < l0.length) = false := decide_eq_false (by omega)
    clear c2
    replace H := Option.bind_eq_some_iff.mp H
    obtain ⟨t373, A30, H⟩ := H
    replace H : ((impl_HeadTimes.f t373).bind fun t376 => ((spec_HeadTimes.f k t373).bind fun t379 => ((laws_equalInts.f k t376 t379).bind fun t382 => (if t382 = true then (laws_FnHeadTimes.j0 k t373 t376 ((t376.length : Int) != (t373.length : Int))) else (laws_FnHeadTimes.j0 k t373 t376 true))))) = some r := H
    have A3 := Aside0.mk A30
    clear A30
    replace H := Option.bind_eq_some_iff.mp H
    obtain ⟨t376, A40, H⟩ := H
    replace H : ((spec_HeadTimes.f k t373).bind fun t379 => ((laws_equalInts.f k t376 t379).bind fun t382 => (if t382 = true then (laws_FnHeadTimes.j0 k t373 t376 ((t376.length : Int) != (t373.length : Int))) else (laws_FnHeadTimes.j0 k t373 t376 true)))) = some r := H
    have A4 := Aside0.mk A40
    clear A40
    have HC5 := Aside0.mk H
    clear H
    go_enter Tryd.func4, Tryd.ntmps4
    go_upto_region 5 with (first | (go_at_call 20; (with_reducible refine (spec_DrawHeadTimes.calls k _ _ l0 t373 _ ?side1 ?side2 A3.out).mono ?_); (case side1 => repeat (first | exact HR0.out | (with_reducible refine Kd.C_alloc ?_ _) | (with_reducible refine Kd.C_drewN ?_ _) | (with_reducible refine Kd.C_drew ?_))); (case side2 => exact HC0.out); rintro e w6 ⟨v374, rfl, ho0, hb⟩; have n0_ := Aside0.mk (Kd.N_lower (Kd.N_mono (ok' := fun k_ => True) ho0 (fun k_ hk_ => trivial)) (below_size (by repeat (first | (with_reducible first | exact HB.out | apply below_alloc | apply pw_below_drewN | apply below_drew1) | exact HB.out)))); have n1_ := Aside0.mk (below_step (by repeat (first | (with_reducible first | exact HB.out | apply below_alloc | apply pw_below_drewN | apply below_drew1) | exact HB.out)) hb); clear HB; have HO375 := n0_; have HB := n1_; clear n0_ n1_; (try clear hb); (try clear hb2); (try clear hk); (try clear hi); (try clear ho0); obtain ⟨Ao7, co7, eo7⟩ := Kd.N_slice HO375.out; subst eo7) | (go_at_call 21; (with_reducible refine (impl_HeadTimes.calls _ _ t373 t376 _ ?side1 ?side2 ?sideT A4.out).mono ?_); (case sideT => exact (HT.out.below (by repeat (first | (with_reducible first | exact HB.out | apply below_alloc | apply pw_below_drewN | apply below_drew1) | exact HB.out)))); (case side1 => repeat (first | exact (Kd.N_reads' HO375.out).2.2 | (with_reducible refine Kd.C_alloc ?_ _) | (with_reducible refine Kd.C_drewN ?_ _) | (with_reducible refine Kd.C_drew ?_))); (case side2 => exact (Kd.N_reads' HO375.out).2.1); rintro e w8 ⟨v377, rfl, ho0, hb⟩; have n0_ := Aside0.mk (Kd.N_elder' (by (with_reducible repeat (first | apply Kd.N_alloc | apply Kd.N_drewN | apply Kd.N_drew)); exact HO375.out) (Kd.R_base ho0) hb); have n1_ := Aside0.mk (Kd.R_lower ho0 (below_size (by repeat (first | (with_reducible first | exact HB.out | apply below_alloc | apply pw_below_drewN | apply below_drew1) | exact HB.out)))); have n2_ := Aside0.mk (below_step (by repeat (first | (with_reducible first | exact HB.out | apply below_alloc | apply pw_below_drewN | apply below_drew1) | exact HB.out)) hb); clear HO375; clear HB; have HO375 := n0_; have HO378 := n1_; have HB := n2_; clear n0_ n1_ n2_; (try clear hb); (try clear hb2); (try clear hk); (try clear hi); (try clear ho0)))
    repeat (go_quiet (first | (go_at_call 20; (with_reducible refine (spec_DrawHeadTimes.calls k _ _ l0 t373 _ ?side1 ?side2 A3.out).mono ?_); (case side1 => repeat (first | exact HR0.out | (with_reducible refine Kd.C_alloc ?_ _) | (with_reducible refine Kd.C_drewN ?_ _) | (with_reducible refine Kd.C_drew ?_))); (case side2 => exact HC0.out); rintro e w6 ⟨v374, rfl, ho0, hb⟩; have n0_ := Aside0.mk (Kd.N_lower (Kd.N_mono (ok' := fun k_ => True) ho0 (fun k_ hk_ => trivial)) (below_size (by repeat (first | (with_reducible first | exact HB.out | apply below_alloc | apply pw_below_drewN | apply below_drew1) | exact HB.out)))); have n1_ := Aside0.mk (below_step (by repeat (first | (with_reducible first | exact HB.out | apply below_alloc | apply pw_below_drewN | apply below_drew1) | exact HB.out)) hb); clear HB; have HO375 := n0_; have HB := n1_; clear n0_ n1_; (try clear hb); (try clear hb2); (try clear hk); (try clear hi); (try clear ho0); obtain ⟨Ao7, co7, eo7⟩ := Kd.N_slice HO375.out; subst eo7) | (go_at_call 21; (with_reducible refine (impl_HeadTimes.calls _ _ t373 t376 _ ?side1 ?side2 ?sideT A4.out).mono ?_); (case sideT => exact (HT.out.below (by repeat (first | (with_reducible first | exact HB.out | apply below_alloc | apply pw_below_drewN | apply below_drew1) | exact HB.out)))); (case side1 => repeat (first | exact (Kd.N_reads' HO375.out).2.2 | (with_reducible refine Kd.C_alloc ?_ _) | (with_reducible refine Kd.C_drewN ?_ _) | (with_reducible refine Kd.C_drew ?_))); (case side2 => exact (Kd.N_reads' HO375.out).2.1); rintro e w8 ⟨v377, rfl, ho0, hb⟩; have n0_ := Aside0.mk (Kd.N_elder' (by (with_reducible repeat (first | apply Kd.N_alloc | apply Kd.N_drewN | apply Kd.N_drew)); exact HO375.out) (Kd.R_base ho0) hb); have n1_ := Aside0.mk (Kd.R_lower ho0 (below_size (by repeat (first | (with_reducible first | exact HB.out | apply below_alloc | apply pw_below_drewN | apply below_drew1) | exact HB.out)))); have n2_ := Aside0.mk (below_step (by repeat (first | (with_reducible first | exact HB.out | apply below_alloc | apply pw_below_drewN | apply below_drew1) | exact HB.out)) hb); clear HO375; clear HB; have HO375 := n0_; have HO378 := n1_; have HB := n2_; clear n0_ n1_ n2_; (try clear hb); (try clear hb2); (try clear hk); (try clear hi); (try clear ho0))); go_upto_region 5 with (first | (go_at_call 20; (with_reducible refine (spec_DrawHeadTimes.calls k _ _ l0 t373 _ ?side1 ?side2 A3.out).mono ?_); (case side1 => repeat (first | exact HR0.out | (with_reducible refine Kd.C_alloc ?_ _) | (with_reducible refine Kd.C_drewN ?_ _) | (with_reducible refine Kd.C_drew ?_))); (case side2 => exact HC0.out); rintro e w6 ⟨v374, rfl, ho0, hb⟩; have n0_ := Aside0.mk (Kd.N_lower (Kd.N_mono (ok' := fun k_ => True) ho0 (fun k_ hk_ => trivial)) (below_size (by repeat (first | (with_reducible first | exact HB.out | apply below_alloc | apply pw_below_drewN | apply below_drew1) | exact HB.out)))); have n1_ := Aside0.mk (below_step (by repeat (first | (with_reducible first | exact HB.out | apply below_alloc | apply pw_below_drewN | apply below_drew1) | exact HB.out)) hb); clear HB; have HO375 := n0_; have HB := n1_; clear n0_ n1_; (try clear hb); (try clear hb2); (try clear hk); (try clear hi); (try clear ho0); obtain ⟨Ao7, co7, eo7⟩ := Kd.N_slice HO375.out; subst eo7) | (go_at_call 21; (with_reducible refine (impl_HeadTimes.calls _ _ t373 t376 _ ?side1 ?side2 ?sideT A4.out).mono ?_); (case sideT => exact (HT.out.below (by repeat (first | (with_reducible first | exact HB.out | apply below_alloc | apply pw_below_drewN | apply below_drew1) | exact HB.out)))); (case side1 => repeat (first | exact (Kd.N_reads' HO375.out).2.2 | (with_reducible refine Kd.C_alloc ?_ _) | (with_reducible refine Kd.C_drewN ?_ _) | (with_reducible refine Kd.C_drew ?_))); (case side2 => exact (Kd.N_reads' HO375.out).2.1); rintro e w8 ⟨v377, rfl, ho0, hb⟩; have n0_ := Aside0.mk (Kd.N_elder' (by (with_reducible repeat (first | apply Kd.N_alloc | apply Kd.N_drewN | apply Kd.N_drew)); exact HO375.out) (Kd.R_base ho0) hb); have n1_ := Aside0.mk (Kd.R_lower ho0 (below_size (by repeat (first | (with_reducible first | exact HB.out | apply below_alloc | apply pw_below_drewN | apply below_drew1) | exact HB.out)))); have n2_ := Aside0.mk (below_step (by repeat (first | (with_reducible first | exact HB.out | apply below_alloc | apply pw_below_drewN | apply below_drew1) | exact HB.out)) hb); clear HO375; clear HB; have HO375 := n0_; have HO378 := n1_; have HB := n2_; clear n0_ n1_ n2_; (try clear hb); (try clear hb2); (try clear hk); (try clear hi); (try clear ho0))))
    (try simp only [Act.put, List.setIfInBounds_toArray, List.set_cons_zero, List.set_cons_succ])
    go_cut [27] (fun v27 wc => ∃ (kq : Nat) (x27_4 : Bool), v27 = .bool x27_4 ∧ Aside0 (laws_FnHeadTimes.j0 kq t373 t376 x27_4 = some r) ∧ Aside0 (kq ≤ k) ∧ Aside0 (Kd.N k30 30 wc w.heap.size (fun k_ => some k_ ≠ (v377 : Value).ownBlock) (.slice Ao7 t373.length co7) t373) ∧ Aside0 (Kd.R (Kd.int .i64) 3 wc w.heap.size (fun _ => True) v377 t376) ∧ Aside0 (Below w.heap.size w wc))
    case first =>
      have H := HC5.out
      clear HC5
      replace H := Option.bind_eq_some_iff.mp H
      obtain ⟨t379, A90, H⟩ := H
      replace H : ((laws_equalInts.f k t376 t379).bind fun t382 => (if t382 = true then (laws_FnHeadTimes.j0 k t373 t376 ((t376.length : Int) != (t373.length : Int))) else (laws_FnHeadTimes.j0 k t373 t376 true))) = some r := H
      have A9 := Aside0.mk A90
      clear A90
      replace H := Option.bind_eq_some_iff.mp H
      obtain ⟨t382, A100, H⟩ := H
      replace H : (if t382 = true then (laws_FnHeadTimes.j0 k t373 t376 ((t376.length : Int) != (t373.length : Int))) else (laws_FnHeadTimes.j0 k t373 t376 true)) = some r := H
      have A10 := Aside0.mk A100
      clear A100
      by_cases c11 : t382 = true
      · subst c11
        have H1 : (laws_FnHeadTimes.j0 k t373 t376 ((t376.length : Int) != (t373.length : Int))) = some r := by rw [if_pos rfl] at H; exact H
        clear H
        have H := H1
        clear H1
        have H' := Aside0.mk H
        clear H
        go_wp2_with (first | (go_at_call 22; (with_reducible refine (spec_HeadTimes.calls k _ _ t373 t379 _ ?side1 ?side2 A9.out).mono ?_); (case side1 => repeat (first | exact (Kd.N_reads' HO375.out).2.2 | (with_reducible refine Kd.C_alloc ?_ _) | (with_reducible refine Kd.C_drewN ?_ _) | (with_reducible refine Kd.C_drew ?_))); (case side2 => exact (Kd.N_reads' HO375.out).2.1); rintro e w12 ⟨v380, rfl, ho0, hb⟩; have n0_ := Aside0.mk (Kd.N_elder' (by (with_reducible repeat (first | apply Kd.N_alloc | apply Kd.N_drewN | apply Kd.N_drew)); exact HO375.out) (Kd.R_base ho0) hb); have n1_ := Aside0.mk (Kd.R_elder' (by (with_reducible repeat (first | apply Kd.R_alloc | apply Kd.R_drewN | apply Kd.R_drew)); exact HO378.out) (Kd.R_base ho0) hb); have n2_ := Aside0.mk (Kd.R_lower (Kd.R_new' ho0 (Kd.R_lt (by (with_reducible repeat (first | apply Kd.R_alloc | apply Kd.R_drewN | apply Kd.R_drew)); exact HO378.out))) (below_size (by repeat (first | (with_reducible first | exact HB.out | apply below_alloc | apply pw_below_drewN | apply below_drew1) | exact HB.out)))); have n3_ := Aside0.mk (below_step (by repeat (first | (with_reducible first | exact HB.out | apply below_alloc | apply pw_below_drewN | apply below_drew1) | exact HB.out)) hb); clear HO375; clear HO378; clear HB; have HO375 := n0_; have HO378 := n1_; have HO381 := n2_; have HB := n3_; clear n0_ n1_ n2_ n3_; (try clear hb); (try clear hb2); (try clear hk); (try clear hi); (try clear ho0); obtain ⟨Ao13, co13, eo13⟩ := Kd.R_slice HO378.out; subst eo13; obtain ⟨Ao14, co14, eo14⟩ := Kd.R_slice HO381.out; subst eo14) | (go_at_call 17; (with_reducible refine (laws_equalInts.calls k _ _ t376 _ _ t379 true _ ?side1 ?side2 ?side3 ?side4 A10.out).mono ?_); (case side1 => repeat (first | exact (Kd.R_reads' HO378.out).2.2 | (with_reducible refine Kd.C_alloc ?_ _) | (with_reducible refine Kd.C_drewN ?_ _) | (with_reducible refine Kd.C_drew ?_))); (case side2 => exact (Kd.R_reads' HO378.out).2.1); (case side3 => repeat (first | exact (Kd.R_reads' HO381.out).2.2 | (with_reducible refine Kd.C_alloc ?_ _) | (with_reducible refine Kd.C_drewN ?_ _) | (with_reducible refine Kd.C_drew ?_))); (case side4 => exact (Kd.R_reads' HO381.out).2.1); rintro e w' ⟨rfl, ⟨nd, rfl⟩⟩; (try first | exact ⟨rfl, _, World.drewN_drewN _ _ _⟩ | exact ⟨rfl, _, Eq.trans (World.drewN_drewN _ _ _) (congrArg (World.drewN _) (Nat.add_assoc _ _ _))⟩)))
        repeat (go_quiet (first | (go_at_call 22; (with_reducible refine (spec_HeadTimes.calls k _ _ t373 t379 _ ?side1 ?side2 A9.out).mono ?_); (case side1 => repeat (first | exact (Kd.N_reads' HO375.out).2.2 | (with_reducible refine Kd.C_alloc ?_ _) | (with_reducible refine Kd.C_drewN ?_ _) | (with_reducible refine Kd.C_drew ?_))); (case side2 => exact (Kd.N_reads' HO375.out).2.1); rintro e w12 ⟨v380, rfl, ho0, hb⟩; have n0_ := Aside0.mk (Kd.N_elder' (by (with_reducible repeat (first | apply Kd.N_alloc | apply Kd.N_drewN | apply Kd.N_drew)); exact HO375.out) (Kd.R_base ho0) hb); have n1_ := Aside0.mk (Kd.R_elder' (by (with_reducible repeat (first | apply Kd.R_alloc | apply Kd.R_drewN | apply Kd.R_drew)); exact HO378.out) (Kd.R_base ho0) hb); have n2_ := Aside0.mk (Kd.R_lower (Kd.R_new' ho0 (Kd.R_lt (by (with_reducible repeat (first | apply Kd.R_alloc | apply Kd.R_drewN | apply Kd.R_drew)); exact HO378.out))) (below_size (by repeat (first | (with_reducible first | exact HB.out | apply below_alloc | apply pw_below_drewN | apply below_drew1) | exact HB.out)))); have n3_ := Aside0.mk (below_step (by repeat (first | (with_reducible first | exact HB.out | apply below_alloc | apply pw_below_drewN | apply below_drew1) | exact HB.out)) hb); clear HO375; clear HO378; clear HB; have HO375 := n0_; have HO378 := n1_; have HO381 := n2_; have HB := n3_; clear n0_ n1_ n2_ n3_; (try clear hb); (try clear hb2); (try clear hk); (try clear hi); (try clear ho0); obtain ⟨Ao13, co13, eo13⟩ := Kd.R_slice HO378.out; subst eo13; obtain ⟨Ao14, co14, eo14⟩ := Kd.R_slice HO381.out; subst eo14) | (go_at_call 17; (with_reducible refine (laws_equalInts.calls k _ _ t376 _ _ t379 true _ ?side1 ?side2 ?side3 ?side4 A10.out).mono ?_); (case side1 => repeat (first | exact (Kd.R_reads' HO378.out).2.2 | (with_reducible refine Kd.C_alloc ?_ _) | (with_reducible refine Kd.C_drewN ?_ _) | (with_reducible refine Kd.C_drew ?_))); (case side2 => exact (Kd.R_reads' HO378.out).2.1); (case side3 => repeat (first | exact (Kd.R_reads' HO381.out).2.2 | (with_reducible refine Kd.C_alloc ?_ _) | (with_reducible refine Kd.C_drewN ?_ _) | (with_reducible refine Kd.C_drew ?_))); (case side4 => exact (Kd.R_reads' HO381.out).2.1); rintro e w' ⟨rfl, ⟨nd, rfl⟩⟩; (try first | exact ⟨rfl, _, World.drewN_drewN _ _ _⟩ | exact ⟨rfl, _, Eq.trans (World.drewN_drewN _ _ _) (congrArg (World.drewN _) (Nat.add_assoc _ _ _))⟩))); try go_wp2_with (first | (go_at_call 22; (with_reducible refine (spec_HeadTimes.calls k _ _ t373 t379 _ ?side1 ?side2 A9.out).mono ?_); (case side1 => repeat (first | exact (Kd.N_reads' HO375.out).2.2 | (with_reducible refine Kd.C_alloc ?_ _) | (with_reducible refine Kd.C_drewN ?_ _) | (with_reducible refine Kd.C_drew ?_))); (case side2 => exact (Kd.N_reads' HO375.out).2.1); rintro e w12 ⟨v380, rfl, ho0, hb⟩; have n0_ := Aside0.mk (Kd.N_elder' (by (with_reducible repeat (first | apply Kd.N_alloc | apply Kd.N_drewN | apply Kd.N_drew)); exact HO375.out) (Kd.R_base ho0) hb); have n1_ := Aside0.mk (Kd.R_elder' (by (with_reducible repeat (first | apply Kd.R_alloc | apply Kd.R_drewN | apply Kd.R_drew)); exact HO378.out) (Kd.R_base ho0) hb); have n2_ := Aside0.mk (Kd.R_lower (Kd.R_new' ho0 (Kd.R_lt (by (with_reducible repeat (first | apply Kd.R_alloc | apply Kd.R_drewN | apply Kd.R_drew)); exact HO378.out))) (below_size (by repeat (first | (with_reducible first | exact HB.out | apply below_alloc | apply pw_below_drewN | apply below_drew1) | exact HB.out)))); have n3_ := Aside0.mk (below_step (by repeat (first | (with_reducible first | exact HB.out | apply below_alloc | apply pw_below_drewN | apply below_drew1) | exact HB.out)) hb); clear HO375; clear HO378; clear HB; have HO375 := n0_; have HO378 := n1_; have HO381 := n2_; have HB := n3_; clear n0_ n1_ n2_ n3_; (try clear hb); (try clear hb2); (try clear hk); (try clear hi); (try clear ho0); obtain ⟨Ao13, co13, eo13⟩ := Kd.R_slice HO378.out; subst eo13; obtain ⟨Ao14, co14, eo14⟩ := Kd.R_slice HO381.out; subst eo14) | (go_at_call 17; (with_reducible refine (laws_equalInts.calls k _ _ t376 _ _ t379 true _ ?side1 ?side2 ?side3 ?side4 A10.out).mono ?_); (case side1 => repeat (first | exact (Kd.R_reads' HO378.out).2.2 | (with_reducible refine Kd.C_alloc ?_ _) | (with_reducible refine Kd.C_drewN ?_ _) | (with_reducible refine Kd.C_drew ?_))); (case side2 => exact (Kd.R_reads' HO378.out).2.1); (case side3 => repeat (first | exact (Kd.R_reads' HO381.out).2.2 | (with_reducible refine Kd.C_alloc ?_ _) | (with_reducible refine Kd.C_drewN ?_ _) | (with_reducible refine Kd.C_drew ?_))); (case side4 => exact (Kd.R_reads' HO381.out).2.1); rintro e w' ⟨rfl, ⟨nd, rfl⟩⟩; (try first | exact ⟨rfl, _, World.drewN_drewN _ _ _⟩ | exact ⟨rfl, _, Eq.trans (World.drewN_drewN _ _ _) (congrArg (World.drewN _) (Nat.add_assoc _ _ _))⟩))))
        go_meet
        case rel => exact ⟨_, (((t376.length : Int) != (t373.length : Int))), (by first | rfl | (simp; done) | (simp [*]; done)), H', ⟨by first | omega | exact Nat.le_refl _⟩, ⟨by (with_reducible repeat (first | apply Kd.N_alloc | apply Kd.N_drewN | apply Kd.N_drew)); exact Kd.N_mono HO375.out (fun _ hk => hk.1.2)⟩, ⟨by (with_reducible repeat (first | apply Kd.R_alloc | apply Kd.R_drewN | apply Kd.R_drew)); exact Kd.R_mono HO378.out (fun _ hk => trivial)⟩, ⟨by repeat (first | (with_reducible first | exact HB.out | apply below_alloc | apply pw_below_drewN | apply below_drew1) | exact HB.out)⟩⟩
      · replace c11 := Bool.eq_false_iff.mpr c11
        subst c11
        have H1 : (laws_FnHeadTimes.j0 k t373 t376 true) = some r := by rw [if_neg (show ¬ (false = true) by decide)] at H; exact H
        clear H
        have H := H1
        clear H1
        have H' := Aside0.mk H
        clear H
        go_wp2_with (first | (go_at_call 22; (with_reducible refine (spec_HeadTimes.calls k _ _ t373 t379 _ ?side1 ?side2 A9.out).mono ?_); (case side1 => repeat (first | exact (Kd.N_reads' HO375.out).2.2 | (with_reducible refine Kd.C_alloc ?_ _) | (with_reducible refine Kd.C_drewN ?_ _) | (with_reducible refine Kd.C_drew ?_))); (case side2 => exact (Kd.N_reads' HO375.out).2.1); rintro e w15 ⟨v380, rfl, ho0, hb⟩; have n0_ := Aside0.mk (Kd.N_elder' (by (with_reducible repeat (first | apply Kd.N_alloc | apply Kd.N_drewN | apply Kd.N_drew)); exact HO375.out) (Kd.R_base ho0) hb); have n1_ := Aside0.mk (Kd.R_elder' (by (with_reducible repeat (first | apply Kd.R_alloc | apply Kd.R_drewN | apply Kd.R_drew)); exact HO378.out) (Kd.R_base ho0) hb); have n2_ := Aside0.mk (Kd.R_lower (Kd.R_new' ho0 (Kd.R_lt (by (with_reducible repeat (first | apply Kd.R_alloc | apply Kd.R_drewN | apply Kd.R_drew)); exact HO378.out))) (below_size (by repeat (first | (with_reducible first | exact HB.out | apply below_alloc | apply pw_below_drewN | apply below_drew1) | exact HB.out)))); have n3_ := Aside0.mk (below_step (by repeat (first | (with_reducible first | exact HB.out | apply below_alloc | apply pw_below_drewN | apply below_drew1) | exact HB.out)) hb); clear HO375; clear HO378; clear HB; have HO375 := n0_; have HO378 := n1_; have HO381 := n2_; have HB := n3_; clear n0_ n1_ n2_ n3_; (try clear hb); (try clear hb2); (try clear hk); (try clear hi); (try clear ho0); obtain ⟨Ao16, co16, eo16⟩ := Kd.R_slice HO378.out; subst eo16; obtain ⟨Ao17, co17, eo17⟩ := Kd.R_slice HO381.out; subst eo17) | (go_at_call 17; (with_reducible refine (laws_equalInts.calls k _ _ t376 _ _ t379 false _ ?side1 ?side2 ?side3 ?side4 A10.out).mono ?_); (case side1 => repeat (first | exact (Kd.R_reads' HO378.out).2.2 | (with_reducible refine Kd.C_alloc ?_ _) | (with_reducible refine Kd.C_drewN ?_ _) | (with_reducible refine Kd.C_drew ?_))); (case side2 => exact (Kd.R_reads' HO378.out).2.1); (case side3 => repeat (first | exact (Kd.R_reads' HO381.out).2.2 | (with_reducible refine Kd.C_alloc ?_ _) | (with_reducible refine Kd.C_drewN ?_ _) | (with_reducible refine Kd.C_drew ?_))); (case side4 => exact (Kd.R_reads' HO381.out).2.1); rintro e w' ⟨rfl, ⟨nd, rfl⟩⟩; (try first | exact ⟨rfl, _, World.drewN_drewN _ _ _⟩ | exact ⟨rfl, _, Eq.trans (World.drewN_drewN _ _ _) (congrArg (World.drewN _) (Nat.add_assoc _ _ _))⟩)))
        repeat (go_quiet (first | (go_at_call 22; (with_reducible refine (spec_HeadTimes.calls k _ _ t373 t379 _ ?side1 ?side2 A9.out).mono ?_); (case side1 => repeat (first | exact (Kd.N_reads' HO375.out).2.2 | (with_reducible refine Kd.C_alloc ?_ _) | (with_reducible refine Kd.C_drewN ?_ _) | (with_reducible refine Kd.C_drew ?_))); (case side2 => exact (Kd.N_reads' HO375.out).2.1); rintro e w15 ⟨v380, rfl, ho0, hb⟩; have n0_ := Aside0.mk (Kd.N_elder' (by (with_reducible repeat (first | apply Kd.N_alloc | apply Kd.N_drewN | apply Kd.N_drew)); exact HO375.out) (Kd.R_base ho0) hb); have n1_ := Aside0.mk (Kd.R_elder' (by (with_reducible repeat (first | apply Kd.R_alloc | apply Kd.R_drewN | apply Kd.R_drew)); exact HO378.out) (Kd.R_base ho0) hb); have n2_ := Aside0.mk (Kd.R_lower (Kd.R_new' ho0 (Kd.R_lt (by (with_reducible repeat (first | apply Kd.R_alloc | apply Kd.R_drewN | apply Kd.R_drew)); exact HO378.out))) (below_size (by repeat (first | (with_reducible first | exact HB.out | apply below_alloc | apply pw_below_drewN | apply below_drew1) | exact HB.out)))); have n3_ := Aside0.mk (below_step (by repeat (first | (with_reducible first | exact HB.out | apply below_alloc | apply pw_below_drewN | apply below_drew1) | exact HB.out)) hb); clear HO375; clear HO378; clear HB; have HO375 := n0_; have HO378 := n1_; have HO381 := n2_; have HB := n3_; clear n0_ n1_ n2_ n3_; (try clear hb); (try clear hb2); (try clear hk); (try clear hi); (try clear ho0); obtain ⟨Ao16, co16, eo16⟩ := Kd.R_slice HO378.out; subst eo16; obtain ⟨Ao17, co17, eo17⟩ := Kd.R_slice HO381.out; subst eo17) | (go_at_call 17; (with_reducible refine (laws_equalInts.calls k _ _ t376 _ _ t379 false _ ?side1 ?side2 ?side3 ?side4 A10.out).mono ?_); (case side1 => repeat (first | exact (Kd.R_reads' HO378.out).2.2 | (with_reducible refine Kd.C_alloc ?_ _) | (with_reducible refine Kd.C_drewN ?_ _) | (with_reducible refine Kd.C_drew ?_))); (case side2 => exact (Kd.R_reads' HO378.out).2.1); (case side3 => repeat (first | exact (Kd.R_reads' HO381.out).2.2 | (with_reducible refine Kd.C_alloc ?_ _) | (with_reducible refine Kd.C_drewN ?_ _) | (with_reducible refine Kd.C_drew ?_))); (case side4 => exact (Kd.R_reads' HO381.out).2.1); rintro e w' ⟨rfl, ⟨nd, rfl⟩⟩; (try first | exact ⟨rfl, _, World.drewN_drewN _ _ _⟩ | exact ⟨rfl, _, Eq.trans (World.drewN_drewN _ _ _) (congrArg (World.drewN _) (Nat.add_assoc _ _ _))⟩))); try go_wp2_with (first | (go_at_call 22; (with_reducible refine (spec_HeadTimes.calls k _ _ t373 t379 _ ?side1 ?side2 A9.out).mono ?_); (case side1 => repeat (first | exact (Kd.N_reads' HO375.out).2.2 | (with_reducible refine Kd.C_alloc ?_ _) | (with_reducible refine Kd.C_drewN ?_ _) | (with_reducible refine Kd.C_drew ?_))); (case side2 => exact (Kd.N_reads' HO375.out).2.1); rintro e w15 ⟨v380, rfl, ho0, hb⟩; have n0_ := Aside0.mk (Kd.N_elder' (by (with_reducible repeat (first | apply Kd.N_alloc | apply Kd.N_drewN | apply Kd.N_drew)); exact HO375.out) (Kd.R_base ho0) hb); have n1_ := Aside0.mk (Kd.R_elder' (by (with_reducible repeat (first | apply Kd.R_alloc | apply Kd.R_drewN | apply Kd.R_drew)); exact HO378.out) (Kd.R_base ho0) hb); have n2_ := Aside0.mk (Kd.R_lower (Kd.R_new' ho0 (Kd.R_lt (by (with_reducible repeat (first | apply Kd.R_alloc | apply Kd.R_drewN | apply Kd.R_drew)); exact HO378.out))) (below_size (by repeat (first | (with_reducible first | exact HB.out | apply below_alloc | apply pw_below_drewN | apply below_drew1) | exact HB.out)))); have n3_ := Aside0.mk (below_step (by repeat (first | (with_reducible first | exact HB.out | apply below_alloc | apply pw_below_drewN | apply below_drew1) | exact HB.out)) hb); clear HO375; clear HO378; clear HB; have HO375 := n0_; have HO378 := n1_; have HO381 := n2_; have HB := n3_; clear n0_ n1_ n2_ n3_; (try clear hb); (try clear hb2); (try clear hk); (try clear hi); (try clear ho0); obtain ⟨Ao16, co16, eo16⟩ := Kd.R_slice HO378.out; subst eo16; obtain ⟨Ao17, co17, eo17⟩ := Kd.R_slice HO381.out; subst eo17) | (go_at_call 17; (with_reducible refine (laws_equalInts.calls k _ _ t376 _ _ t379 false _ ?side1 ?side2 ?side3 ?side4 A10.out).mono ?_); (case side1 => repeat (first | exact (Kd.R_reads' HO378.out).2.2 | (with_reducible refine Kd.C_alloc ?_ _) | (with_reducible refine Kd.C_drewN ?_ _) | (with_reducible refine Kd.C_drew ?_))); (case side2 => exact (Kd.R_reads' HO378.out).2.1); (case side3 => repeat (first | exact (Kd.R_reads' HO381.out).2.2 | (with_reducible refine Kd.C_alloc ?_ _) | (with_reducible refine Kd.C_drewN ?_ _) | (with_reducible refine Kd.C_drew ?_))); (case side4 => exact (Kd.R_reads' HO381.out).2.1); rintro e w' ⟨rfl, ⟨nd, rfl⟩⟩; (try first | exact ⟨rfl, _, World.drewN_drewN _ _ _⟩ | exact ⟨rfl, _, Eq.trans (World.drewN_drewN _ _ _) (congrArg (World.drewN _) (Nat.add_assoc _ _ _))⟩))))
        go_meet
        case rel => exact ⟨_, (true), (by first | rfl | (simp; done) | (simp [*]; done)), H', ⟨by first | omega | exact Nat.le_refl _⟩, ⟨by (with_reducible repeat (first | apply Kd.N_alloc | apply Kd.N_drewN | apply Kd.N_drew)); exact Kd.N_mono HO375.out (fun _ hk => hk.1.2)⟩, ⟨by (with_reducible repeat (first | apply Kd.R_alloc | apply Kd.R_drewN | apply Kd.R_drew)); exact Kd.R_mono HO378.out (fun _ hk => trivial)⟩, ⟨by repeat (first | (with_reducible first | exact HB.out | apply below_alloc | apply pw_below_drewN | apply below_drew1) | exact HB.out)⟩⟩
    case rest =>
      clear HC5
      try clear c1
      try clear c2
      try clear c2b0
      try clear c2b1
      try clear p2
      try clear c4
      try clear c11
      obtain ⟨kq, x27_4, rfl, HA, HJ4, HO_3, HO_4, HB⟩ := hcut
      cases kq with
      | zero => exact absurd HA.out (by simp [laws_FnHeadTimes.j0])
      | succ kj4 =>
        have H := HA.out
        clear HA
        simp only [laws_FnHeadTimes.j0] at H
        by_cases c18 : x27_4 = true
        · subst c18
          have H1 : ((spec_HeadTimes.f kj4 t373).bind fun t383 => ((laws_equalInts.f kj4 t376 t383).bind fun t386 => (some t386))) = some r := by rw [if_pos rfl] at H; exact H
          clear H
          have H := H1
          clear H1
          replace H := Option.bind_eq_some_iff.mp H
          obtain ⟨t383, A190, H⟩ := H
          replace H : ((laws_equalInts.f kj4 t376 t383).bind fun t386 => (some t386)) = some r := H
          have A19 := Aside0.mk A190
          clear A190
          replace H := Option.bind_eq_some_iff.mp H
          obtain ⟨t386, A200, H⟩ := H
          replace H : (some t386) = some r := H
          have A20 := Aside0.mk A200
          clear A200
          obtain rfl := Option.some.inj H
          go_wp2_with (first | (go_at_call 22; (with_reducible refine (spec_HeadTimes.calls kj4 _ _ t373 t383 _ ?side1 ?side2 A19.out).mono ?_); (case side1 => repeat (first | exact (Kd.N_reads' HO_3.out).2.2 | (with_reducible refine Kd.C_alloc ?_ _) | (with_reducible refine Kd.C_drewN ?_ _) | (with_reducible refine Kd.C_drew ?_))); (case side2 => exact (Kd.N_reads' HO_3.out).2.1); rintro e w21 ⟨v384, rfl, ho0, hb⟩; have n0_ := Aside0.mk (Kd.N_elder' (by (with_reducible repeat (first | apply Kd.N_alloc | apply Kd.N_drewN | apply Kd.N_drew)); exact HO_3.out) (Kd.R_base ho0) hb); have n1_ := Aside0.mk (Kd.R_elder' (by (with_reducible repeat (first | apply Kd.R_alloc | apply Kd.R_drewN | apply Kd.R_drew)); exact HO_4.out) (Kd.R_base ho0) hb); have n2_ := Aside0.mk (Kd.R_lower (Kd.R_new' ho0 (Kd.R_lt (by (with_reducible repeat (first | apply Kd.R_alloc | apply Kd.R_drewN | apply Kd.R_drew)); exact HO_4.out))) (below_size (by repeat (first | (with_reducible first | exact HB.out | apply below_alloc | apply pw_below_drewN | apply below_drew1) | exact HB.out)))); have n3_ := Aside0.mk (below_step (by repeat (first | (with_reducible first | exact HB.out | apply below_alloc | apply pw_below_drewN | apply below_drew1) | exact HB.out)) hb); clear HO_3; clear HO_4; clear HB; have HO_3 := n0_; have HO_4 := n1_; have HO385 := n2_; have HB := n3_; clear n0_ n1_ n2_ n3_; (try clear hb); (try clear hb2); (try clear hk); (try clear hi); (try clear ho0); obtain ⟨Ao22, co22, eo22⟩ := Kd.R_slice HO_4.out; subst eo22; obtain ⟨Ao23, co23, eo23⟩ := Kd.R_slice HO385.out; subst eo23) | (go_at_call 17; (with_reducible refine (laws_equalInts.calls kj4 _ _ t376 _ _ t383 t386 _ ?side1 ?side2 ?side3 ?side4 A20.out).mono ?_); (case side1 => repeat (first | exact (Kd.R_reads' HO_4.out).2.2 | (with_reducible refine Kd.C_alloc ?_ _) | (with_reducible refine Kd.C_drewN ?_ _) | (with_reducible refine Kd.C_drew ?_))); (case side2 => exact (Kd.R_reads' HO_4.out).2.1); (case side3 => repeat (first | exact (Kd.R_reads' HO385.out).2.2 | (with_reducible refine Kd.C_alloc ?_ _) | (with_reducible refine Kd.C_drewN ?_ _) | (with_reducible refine Kd.C_drew ?_))); (case side4 => exact (Kd.R_reads' HO385.out).2.1); rintro e w' ⟨rfl, ⟨nd, rfl⟩⟩; (try first | exact ⟨rfl, _, World.drewN_drewN _ _ _⟩ | exact ⟨rfl, _, Eq.trans (World.drewN_drewN _ _ _) (congrArg (World.drewN _) (Nat.add_assoc _ _ _))⟩)))
          repeat (go_quiet (first | (go_at_call 22; (with_reducible refine (spec_HeadTimes.calls kj4 _ _ t373 t383 _ ?side1 ?side2 A19.out).mono ?_); (case side1 => repeat (first | exact (Kd.N_reads' HO_3.out).2.2 | (with_reducible refine Kd.C_alloc ?_ _) | (with_reducible refine Kd.C_drewN ?_ _) | (with_reducible refine Kd.C_drew ?_))); (case side2 => exact (Kd.N_reads' HO_3.out).2.1); rintro e w21 ⟨v384, rfl, ho0, hb⟩; have n0_ := Aside0.mk (Kd.N_elder' (by (with_reducible repeat (first | apply Kd.N_alloc | apply Kd.N_drewN | apply Kd.N_drew)); exact HO_3.out) (Kd.R_base ho0) hb); have n1_ := Aside0.mk (Kd.R_elder' (by (with_reducible repeat (first | apply Kd.R_alloc | apply Kd.R_drewN | apply Kd.R_drew)); exact HO_4.out) (Kd.R_base ho0) hb); have n2_ := Aside0.mk (Kd.R_lower (Kd.R_new' ho0 (Kd.R_lt (by (with_reducible repeat (first | apply Kd.R_alloc | apply Kd.R_drewN | apply Kd.R_drew)); exact HO_4.out))) (below_size (by repeat (first | (with_reducible first | exact HB.out | apply below_alloc | apply pw_below_drewN | apply below_drew1) | exact HB.out)))); have n3_ := Aside0.mk (below_step (by repeat (first | (with_reducible first | exact HB.out | apply below_alloc | apply pw_below_drewN | apply below_drew1) | exact HB.out)) hb); clear HO_3; clear HO_4; clear HB; have HO_3 := n0_; have HO_4 := n1_; have HO385 := n2_; have HB := n3_; clear n0_ n1_ n2_ n3_; (try clear hb); (try clear hb2); (try clear hk); (try clear hi); (try clear ho0); obtain ⟨Ao22, co22, eo22⟩ := Kd.R_slice HO_4.out; subst eo22; obtain ⟨Ao23, co23, eo23⟩ := Kd.R_slice HO385.out; subst eo23) | (go_at_call 17; (with_reducible refine (laws_equalInts.calls kj4 _ _ t376 _ _ t383 t386 _ ?side1 ?side2 ?side3 ?side4 A20.out).mono ?_); (case side1 => repeat (first | exact (Kd.R_reads' HO_4.out).2.2 | (with_reducible refine Kd.C_alloc ?_ _) | (with_reducible refine Kd.C_drewN ?_ _) | (with_reducible refine Kd.C_drew ?_))); (case side2 => exact (Kd.R_reads' HO_4.out).2.1); (case side3 => repeat (first | exact (Kd.R_reads' HO385.out).2.2 | (with_reducible refine Kd.C_alloc ?_ _) | (with_reducible refine Kd.C_drewN ?_ _) | (with_reducible refine Kd.C_drew ?_))); (case side4 => exact (Kd.R_reads' HO385.out).2.1); rintro e w' ⟨rfl, ⟨nd, rfl⟩⟩; (try first | exact ⟨rfl, _, World.drewN_drewN _ _ _⟩ | exact ⟨rfl, _, Eq.trans (World.drewN_drewN _ _ _) (congrArg (World.drewN _) (Nat.add_assoc _ _ _))⟩))); try go_wp2_with (first | (go_at_call 22; (with_reducible refine (spec_HeadTimes.calls kj4 _ _ t373 t383 _ ?side1 ?side2 A19.out).mono ?_); (case side1 => repeat (first | exact (Kd.N_reads' HO_3.out).2.2 | (with_reducible refine Kd.C_alloc ?_ _) | (with_reducible refine Kd.C_drewN ?_ _) | (with_reducible refine Kd.C_drew ?_))); (case side2 => exact (Kd.N_reads' HO_3.out).2.1); rintro e w21 ⟨v384, rfl, ho0, hb⟩; have n0_ := Aside0.mk (Kd.N_elder' (by (with_reducible repeat (first | apply Kd.N_alloc | apply Kd.N_drewN | apply Kd.N_drew)); exact HO_3.out) (Kd.R_base ho0) hb); have n1_ := Aside0.mk (Kd.R_elder' (by (with_reducible repeat (first | apply Kd.R_alloc | apply Kd.R_drewN | apply Kd.R_drew)); exact HO_4.out) (Kd.R_base ho0) hb); have n2_ := Aside0.mk (Kd.R_lower (Kd.R_new' ho0 (Kd.R_lt (by (with_reducible repeat (first | apply Kd.R_alloc | apply Kd.R_drewN | apply Kd.R_drew)); exact HO_4.out))) (below_size (by repeat (first | (with_reducible first | exact HB.out | apply below_alloc | apply pw_below_drewN | apply below_drew1) | exact HB.out)))); have n3_ := Aside0.mk (below_step (by repeat (first | (with_reducible first | exact HB.out | apply below_alloc | apply pw_below_drewN | apply below_drew1) | exact HB.out)) hb); clear HO_3; clear HO_4; clear HB; have HO_3 := n0_; have HO_4 := n1_; have HO385 := n2_; have HB := n3_; clear n0_ n1_ n2_ n3_; (try clear hb); (try clear hb2); (try clear hk); (try clear hi); (try clear ho0); obtain ⟨Ao22, co22, eo22⟩ := Kd.R_slice HO_4.out; subst eo22; obtain ⟨Ao23, co23, eo23⟩ := Kd.R_slice HO385.out; subst eo23) | (go_at_call 17; (with_reducible refine (laws_equalInts.calls kj4 _ _ t376 _ _ t383 t386 _ ?side1 ?side2 ?side3 ?side4 A20.out).mono ?_); (case side1 => repeat (first | exact (Kd.R_reads' HO_4.out).2.2 | (with_reducible refine Kd.C_alloc ?_ _) | (with_reducible refine Kd.C_drewN ?_ _) | (with_reducible refine Kd.C_drew ?_))); (case side2 => exact (Kd.R_reads' HO_4.out).2.1); (case side3 => repeat (first | exact (Kd.R_reads' HO385.out).2.2 | (with_reducible refine Kd.C_alloc ?_ _) | (with_reducible refine Kd.C_drewN ?_ _) | (with_reducible refine Kd.C_drew ?_))); (case side4 => exact (Kd.R_reads' HO385.out).2.1); rintro e w' ⟨rfl, ⟨nd, rfl⟩⟩; (try first | exact ⟨rfl, _, World.drewN_drewN _ _ _⟩ | exact ⟨rfl, _, Eq.trans (World.drewN_drewN _ _ _) (congrArg (World.drewN _) (Nat.add_assoc _ _ _))⟩))))
          go_ret
          exact ⟨by first | rfl | (simp [errW_none, errW_some] <;> rfl) | (simp [*, errW_none, errW_some] <;> rfl), by repeat (first | (with_reducible first | exact HB.out | apply below_alloc | apply pw_below_drewN | apply below_drew1) | exact HB.out)⟩
        · replace c18 := Bool.eq_false_iff.mpr c18
          subst c18
          have H1 : (laws_FnHeadTimes.l0 kj4 t373 t376 0) = some r := by rw [if_neg (show ¬ (false = true) by decide)] at H; exact H
          clear H
          have H := H1
          clear H1
          have H' := Aside0.mk H
          clear H
          go_wp2
          repeat (go_quiet (fail); try go_wp2)
          go_loopg [5] kj4 (fun kq v5 w' => ∃ (x5_2 : Int), v5 = .int .i64 x5_2 ∧ Aside0 (laws_FnHeadTimes.l0 kq t373 t376 x5_2 = some r) ∧ Aside0 (kq ≤ kj4) ∧ Aside0 (Kd.N k30 30 w' w.heap.size (fun k_ => some k_ ≠ (v377 : Value).ownBlock) (.slice Ao7 t373.length co7) t373) ∧ Aside0 (Kd.R (Kd.int .i64) 3 w' w.heap.size (fun _ => True) v377 t376) ∧ Aside0 (Below w.heap.size w w'))
          case atStart => exact ⟨(0), (by first | rfl | (simp; done) | (simp [*]; done)), H', ⟨Nat.le_refl _⟩, ⟨by (with_reducible repeat (first | apply Kd.N_alloc | apply Kd.N_drewN | apply Kd.N_drew)); exact HO_3.out⟩, ⟨by (with_reducible repeat (first | apply Kd.R_alloc | apply Kd.R_drewN | apply Kd.R_drew)); exact HO_4.out⟩, ⟨by repeat (first | (with_reducible first | exact HB.out | apply below_alloc | apply pw_below_drewN | apply below_drew1) | exact HB.out)⟩⟩
          case round =>
            clear H'
            try clear c1
            try clear c2
            try clear c2b0
            try clear c2b1
            try clear p2
            try clear c4
            try clear c11
            try clear c18
            try clear p2
            obtain ⟨x5_2, rfl, HA, HK2, HO_3, HO_4, HB⟩ := hrel
            cases gk with
            | zero => exact absurd HA.out (by simp [laws_FnHeadTimes.l0])
            | succ k2 =>
              have H := HA.out
              clear HA
              simp only [laws_FnHeadTimes.l0] at H
              by_cases c24 : x5_2 < (t373.length : Int)
              · rw [if_pos c24] at H
                have c24b0 : decide (x5_2 < (t373.length : Int)) = true := decide_eq_true c24
                clear c24
                have HC25 := Aside0.mk H
                clear H
                go_upto_region 10 with (fail)
                repeat (go_quiet (fail); go_upto_region 10 with (fail))
                go_cut [6] (fun v6 wc => ∃ (kq : Nat) (x6_24 : Bool), v6 = .bool x6_24 ∧ Aside0 (laws_FnHeadTimes.j2 kq t373 t376 x5_2 x6_24 = some r) ∧ Aside0 (kq ≤ k2) ∧ Aside0 (Kd.N k30 30 wc w.heap.size (fun k_ => some k_ ≠ (v377 : Value).ownBlock) (.slice Ao7 t373.length co7) t373) ∧ Aside0 (Kd.R (Kd.int .i64) 3 wc w.heap.size (fun _ => True) v377 t376) ∧ Aside0 (Below w.heap.size w wc))
                case first =>
                  have H := HC25.out
                  clear HC25
                  by_cases c26 : 0 ≤ x5_2
                  · rw [if_pos c26] at H
                    have c26b0 : decide (0 ≤ x5_2) = true := decide_eq_true c26
                    clear c26
                    (first | rw [c26b0] | (simp only [i64_w, i32_w]; rw [c26b0]) | skip)
                    by_cases c27 : (((rd_T30 t373 x5_2).f1).length : Int) = 0
                    · rw [if_pos c27] at H
                      have c27b0 : ((((rd_T30 t373 x5_2).f1).length : Int) == 0) = true := beq_iff_eq.mpr c27
                      have c27b1 : ((((rd_T30 t373 x5_2).f1).length : Int) != 0) = false := bne_eq_false_iff_eq.mpr c27
                      clear c27
                      by_cases c28 : x5_2 < (t376.length : Int)
                      · rw [if_pos c28] at H
                        have c28b0 : decide (x5_2 < (t376.length : Int)) = true := decide_eq_true c28
                        clear c28
                        have H' := Aside0.mk H
                        clear H
                        have p387 : 0 ≤ (x5_2 : Int) := of_decide_eq_true (by first | (with_reducible assumption) | assumption)
                        have q387 : x5_2 < (t373.length : Int) := of_decide_eq_true (by first | (with_reducible assumption) | assumption)
                        obtain ⟨ad387, A387_1, c387_1, e387, hx387_0, hx387_1, hx387_2, hx387_3, hl387_1, hi387_1⟩ := at_T30 (Kd.N_reads' HO_3.out).2.2 x5_2 p387 q387
                        cases e387
                        obtain ⟨ce387, hce387, hMe387, hcc387⟩ := Kd.N_get HO_3.out z30 x5_2 p387 (by first | exact q387 | exact of_decide_eq_true (by first | (with_reducible assumption) | assumption) | (have e_ := (Kd.N_reads' HO_3.out).1; omega))
                        obtain ⟨ua387_1, uc387_1, rfl, ul387_1, ge387_1⟩ := k30_openF hMe387
                        have hv387_1 := hcc387 1 _ rfl
                        rw [add_field _ _ 1 (by omega)] at hv387_1
                        replace hv387_1 := Option.some.inj (hv387_1.symm.trans hx387_1)
                        injection hv387_1 with hva_ hvn_ hvc_
                        rw [hva_] at ge387_1
                        rw [hvc_] at ul387_1
                        have HL387_1 := Aside0.mk (show Kd.V (Kd.int .i64) 3 _ w.heap.size _ _ ((rd_T30 t373 x5_2).f1) from Kd.V_mk ul387_1 ge387_1)
                        clear hva_ hvn_ hvc_ ge387_1 ul387_1
                        clear hcc387 hce387
                        have HR387_1 := Aside0.mk hi387_1
                        have HC387_1 := Aside0.mk hl387_1
                        clear hi387_1 hl387_1
                        replace p387 := eq_true p387
                        replace q387 := eq_true q387
                        obtain ⟨Ao29, co29, eo29⟩ := Kd.R_slice HO_4.out
                        subst eo29
                        have p388 : 0 ≤ (x5_2 : Int) := of_decide_eq_true (by first | (with_reducible assumption) | assumption)
                        have q388 : x5_2 < (t376.length : Int) := of_decide_eq_true (by first | (with_reducible assumption) | assumption)
                        obtain ⟨ad388, e388, hx388_0⟩ := Kd.at_int (Kd.R_reads' HO_4.out).2.2 x5_2 p388 q388
                        cases e388
                        replace p388 := eq_true p388
                        replace q388 := eq_true q388
                        go_wp2
                        repeat (go_quiet (fail); try go_wp2)
                        go_meet
                        case rel => exact ⟨_, (((rd t376 x5_2) == 0)), (by first | rfl | (simp; done) | (simp [*]; done)), H', ⟨by have := HJ4.out; have := HK2.out; first | omega | exact Nat.le_refl _⟩, ⟨by (with_reducible repeat (first | apply Kd.N_alloc | apply Kd.N_drewN | apply Kd.N_drew)); exact HO_3.out⟩, ⟨by (with_reducible repeat (first | apply Kd.R_alloc | apply Kd.R_drewN | apply Kd.R_drew)); exact HO_4.out⟩, ⟨by repeat (first | (with_reducible first | exact HB.out | apply below_alloc | apply pw_below_drewN | apply below_drew1) | exact HB.out)⟩⟩
                      · rw [if_neg c28] at H
                        exact absurd H (by simp)
                    · rw [if_neg c27] at H
                      have c27b0 : ((((rd_T30 t373 x5_2).f1).length : Int) == 0) = false := beq_eq_false_iff_ne.mpr c27
                      have c27b1 : ((((rd_T30 t373 x5_2).f1).length : Int) != 0) = true := bne_iff_ne.mpr c27
                      have c27b2 : ¬ (((rd_T30 t373 x5_2).f1) = []) := fun h_ => c27 (by rw [h_]; rfl)
                      have H' := Aside0.mk H
                      clear H
                      have p387 : 0 ≤ (x5_2 : Int) := of_decide_eq_true (by first | (with_reducible assumption) | assumption)
                      have q387 : x5_2 < (t373.length : Int) := of_decide_eq_true (by first | (with_reducible assumption) | assumption)
                      obtain ⟨ad387, A387_1, c387_1, e387, hx387_0, hx387_1, hx387_2, hx387_3, hl387_1, hi387_1⟩ := at_T30 (Kd.N_reads' HO_3.out).2.2 x5_2 p387 q387
                      cases e387
                      obtain ⟨ce387, hce387, hMe387, hcc387⟩ := Kd.N_get HO_3.out z30 x5_2 p387 (by first | exact q387 | exact of_decide_eq_true (by first | (with_reducible assumption) | assumption) | (have e_ := (Kd.N_reads' HO_3.out).1; omega))
                      obtain ⟨ua387_1, uc387_1, rfl, ul387_1, ge387_1⟩ := k30_openF hMe387
                      have hv387_1 := hcc387 1 _ rfl
                      rw [add_field _ _ 1 (by omega)] at hv387_1
                      replace hv387_1 := Option.some.inj (hv387_1.symm.trans hx387_1)
                      injection hv387_1 with hva_ hvn_ hvc_
                      rw [hva_] at ge387_1
                      rw [hvc_] at ul387_1
                      have HL387_1 := Aside0.mk (show Kd.V (Kd.int .i64) 3 _ w.heap.size _ _ ((rd_T30 t373 x5_2).f1) from Kd.V_mk ul387_1 ge387_1)
                      clear hva_ hvn_ hvc_ ge387_1 ul387_1
                      clear hcc387 hce387
                      have HR387_1 := Aside0.mk hi387_1
                      have HC387_1 := Aside0.mk hl387_1
                      clear hi387_1 hl387_1
                      replace p387 := eq_true p387
                      replace q387 := eq_true q387
                      go_wp2
                      repeat (go_quiet (fail); try go_wp2)
                      go_meet
                      case rel => exact ⟨_, (false), (by first | rfl | (simp; done) | (simp [*]; done)), H', ⟨by have := HJ4.out; have := HK2.out; first | omega | exact Nat.le_refl _⟩, ⟨by (with_reducible repeat (first | apply Kd.N_alloc | apply Kd.N_drewN | apply Kd.N_drew)); exact HO_3.out⟩, ⟨by (with_reducible repeat (first | apply Kd.R_alloc | apply Kd.R_drewN | apply Kd.R_drew)); exact HO_4.out⟩, ⟨by repeat (first | (with_reducible first | exact HB.out | apply below_alloc | apply pw_below_drewN | apply below_drew1) | exact HB.out)⟩⟩
                  · rw [if_neg c26] at H
                    exact absurd H (by simp)
                case rest =>
                  clear HC25
                  try clear c1
                  try clear c2
                  try clear c2b0
                  try clear c2b1
                  try clear p2
                  try clear c3
                  try clear p3
                  try clear q3
                  try clear hx3
                  try clear c4
                  try clear c11
                  try clear c18
                  try clear c24
                  try clear c24b0
                  try clear c26
                  try clear c26b0
                  try clear c27
                  try clear c27b0
                  try clear c27b1
                  try clear c27b2
                  try clear c28
                  try clear c28b0
                  try clear hx387_0
                  try clear hx387_1
                  try clear hx387_2
                  try clear hx387_3
                  try clear hx388_0
                  try clear p2
                  try clear p387
                  try clear p388
                  try clear q387
                  try clear q388
                  obtain ⟨kq, x6_24, rfl, HA, HJ24, HO_3, HO_4, HB⟩ := hcut
                  cases kq with
                  | zero => exact absurd HA.out (by simp [laws_FnHeadTimes.j2])
                  | succ kj24 =>
                    have H := HA.out
                    clear HA
                    simp only [laws_FnHeadTimes.j2] at H
                    have H' := Aside0.mk H
                    clear H
                    go_wp2
                    repeat (go_quiet (fail); try go_wp2)
                    go_loopg [6, 7] kj24 (fun kq v6 v7 w' => ∃ (x6_4 : Bool) (x7_4 : Int), v6 = .bool x6_4 ∧ v7 = .int .i64 x7_4 ∧ Aside0 (laws_FnHeadTimes.l1 kq t373 t376 x5_2 x6_4 x7_4 = some r) ∧ Aside0 (kq ≤ kj24) ∧ Aside0 (Kd.N k30 30 w' w.heap.size (fun k_ => some k_ ≠ (v377 : Value).ownBlock) (.slice Ao7 t373.length co7) t373) ∧ Aside0 (Kd.R (Kd.int .i64) 3 w' w.heap.size (fun _ => True) v377 t376) ∧ Aside0 (Below w.heap.size w w'))
                    case atStart => exact ⟨(x6_24), (0), (by first | rfl | (simp; done) | (simp [*]; done)), (by first | rfl | (simp; done) | (simp [*]; done)), H', ⟨Nat.le_refl _⟩, ⟨by (with_reducible repeat (first | apply Kd.N_alloc | apply Kd.N_drewN | apply Kd.N_drew)); exact HO_3.out⟩, ⟨by (with_reducible repeat (first | apply Kd.R_alloc | apply Kd.R_drewN | apply Kd.R_drew)); exact HO_4.out⟩, ⟨by repeat (first | (with_reducible first | exact HB.out | apply below_alloc | apply pw_below_drewN | apply below_drew1) | exact HB.out)⟩⟩
                    case round =>
                      clear H'
                      try clear c1
                      try clear c2
                      try clear c2b0
                      try clear c2b1
                      try clear p2
                      try clear c3
                      try clear p3
                      try clear q3
                      try clear hx3
                      try clear c4
                      try clear c11
                      try clear c18
                      try clear c24
                      try clear c24b0
                      try clear c26
                      try clear c26b0
                      try clear c27
                      try clear c27b0
                      try clear c27b1
                      try clear c27b2
                      try clear c28
                      try clear c28b0
                      try clear hx387_0
                      try clear hx387_1
                      try clear hx387_2
                      try clear hx387_3
                      try clear hx388_0
                      try clear p2
                      try clear p3
                      try clear p387
                      try clear p388
                      try clear q3
                      try clear q387
                      try clear q388
                      obtain ⟨x6_4, x7_4, rfl, rfl, HA, HK4, HO_3, HO_4, HB⟩ := hrel
                      cases gk with
                      | zero => exact absurd HA.out (by simp [laws_FnHeadTimes.l1])
                      | succ k4 =>
                        have H := HA.out
                        clear HA
                        simp only [laws_FnHeadTimes.l1] at H
                        by_cases c30 : 0 ≤ x5_2
                        · rw [if_pos c30] at H
                          have c30b0 : decide (0 ≤ x5_2) = true := decide_eq_true c30
                          clear c30
                          by_cases c31 : x5_2 < (t373.length : Int)
                          · rw [if_pos c31] at H
                            have c31b0 : decide (x5_2 < (t373.length : Int)) = true := decide_eq_true c31
                            clear c31
                            by_cases c32 : x7_4 < (((rd_T30 t373 x5_2).f1).length : Int)
                            · rw [if_pos c32] at H
                              have c32b0 : decide (x7_4 < (((rd_T30 t373 x5_2).f1).length : Int)) = true := decide_eq_true c32
                              clear c32
                              by_cases c33 : 0 ≤ x7_4
                              · rw [if_pos c33] at H
                                have c33b0 : decide (0 ≤ x7_4) = true := decide_eq_true c33
                                clear c33
                                by_cases c34 : x6_4 = true
                                · subst c34
                                  have H1 : (if 0 ≤ (rd ((rd_T30 t373 x5_2).f1) x7_4) then (if (rd ((rd_T30 t373 x5_2).f1) x7_4) < (t376.length : Int) then (if (rd ((rd_T30 t373 x5_2).f1) x7_4) < (t373.length : Int) then (if x5_2 < (t376.length : Int) then (if (wrap64 ((rd t376 (rd ((rd_T30 t373 x5_2).f1) x7_4)) + ((rd_T30 t373 (rd ((rd_T30 t373 x5_2).f1) x7_4)).f0))) > (rd t376 x5_2) then (some false) else (laws_FnHeadTimes.l1 k4 t373 t376 x5_2 true (wrap64 (x7_4 + 1)))) else (none)) else (none)) else (none)) else (none)) = some r := by rw [if_pos rfl] at H; exact H
                                  clear H
                                  have H := H1
                                  clear H1
                                  by_cases c35 : 0 ≤ (rd ((rd_T30 t373 x5_2).f1) x7_4)
                                  · rw [if_pos c35] at H
                                    have c35b0 : decide (0 ≤ (rd ((rd_T30 t373 x5_2).f1) x7_4)) = true := decide_eq_true c35
                                    clear c35
                                    by_cases c36 : (rd ((rd_T30 t373 x5_2).f1) x7_4) < (t376.length : Int)
                                    · rw [if_pos c36] at H
                                      have c36b0 : decide ((rd ((rd_T30 t373 x5_2).f1) x7_4) < (t376.length : Int)) = true := decide_eq_true c36
                                      clear c36
                                      by_cases c37 : (rd ((rd_T30 t373 x5_2).f1) x7_4) < (t373.length : Int)
                                      · rw [if_pos c37] at H
                                        have c37b0 : decide ((rd ((rd_T30 t373 x5_2).f1) x7_4) < (t373.length : Int)) = true := decide_eq_true c37
                                        clear c37
                                        by_cases c38 : x5_2 < (t376.length : Int)
                                        · rw [if_pos c38] at H
                                          have c38b0 : decide (x5_2 < (t376.length : Int)) = true := decide_eq_true c38
                                          clear c38
                                          by_cases c39 : (wrap64 ((rd t376 (rd ((rd_T30 t373 x5_2).f1) x7_4)) + ((rd_T30 t373 (rd ((rd_T30 t373 x5_2).f1) x7_4)).f0))) > (rd t376 x5_2)
                                          · rw [if_pos c39] at H
                                            have c39b0 : decide ((rd t376 x5_2) < (wrap64 ((rd t376 (rd ((rd_T30 t373 x5_2).f1) x7_4)) + ((rd_T30 t373 (rd ((rd_T30 t373 x5_2).f1) x7_4)).f0)))) = true := decide_eq_true c39
                                            clear c39
                                            obtain rfl := Option.some.inj H
                                            have p389 : 0 ≤ (x5_2 : Int) := of_decide_eq_true (by first | (with_reducible assumption) | assumption)
                                            have q389 : x5_2 < (t373.length : Int) := of_decide_eq_true (by first | (with_reducible assumption) | assumption)
                                            obtain ⟨ad389, A389_1, c389_1, e389, hx389_0, hx389_1, hx389_2, hx389_3, hl389_1, hi389_1⟩ := at_T30 (Kd.N_reads' HO_3.out).2.2 x5_2 p389 q389
                                            cases e389
                                            obtain ⟨ce389, hce389, hMe389, hcc389⟩ := Kd.N_get HO_3.out z30 x5_2 p389 (by first | exact q389 | exact of_decide_eq_true (by first | (with_reducible assumption) | assumption) | (have e_ := (Kd.N_reads' HO_3.out).1; omega))
                                            obtain ⟨ua389_1, uc389_1, rfl, ul389_1, ge389_1⟩ := k30_openF hMe389
                                            have hv389_1 := hcc389 1 _ rfl
                                            rw [add_field _ _ 1 (by omega)] at hv389_1
                                            replace hv389_1 := Option.some.inj (hv389_1.symm.trans hx389_1)
                                            injection hv389_1 with hva_ hvn_ hvc_
                                            rw [hva_] at ge389_1
                                            rw [hvc_] at ul389_1
                                            have HL389_1 := Aside0.mk (show Kd.V (Kd.int .i64) 3 _ w.heap.size _ _ ((rd_T30 t373 x5_2).f1) from Kd.V_mk ul389_1 ge389_1)
                                            clear hva_ hvn_ hvc_ ge389_1 ul389_1
                                            clear hcc389 hce389
                                            have HR389_1 := Aside0.mk hi389_1
                                            have HC389_1 := Aside0.mk hl389_1
                                            clear hi389_1 hl389_1
                                            replace p389 := eq_true p389
                                            replace q389 := eq_true q389
                                            have p390 : 0 ≤ (x5_2 : Int) := of_decide_eq_true (by first | (with_reducible assumption) | assumption)
                                            have q390 : x5_2 < (t373.length : Int) := of_decide_eq_true (by first | (with_reducible assumption) | assumption)
                                            obtain ⟨ad390, A390_1, c390_1, e390, hx390_0, hx390_1, hx390_2, hx390_3, hl390_1, hi390_1⟩ := at_T30 (Kd.N_reads' HO_3.out).2.2 x5_2 p390 q390
                                            obtain rfl : ad389 = ad390 := (by injection e390)
                                            obtain ⟨ce390, hce390, hMe390, hcc390⟩ := Kd.N_get HO_3.out z30 x5_2 p390 (by first | exact q390 | exact of_decide_eq_true (by first | (with_reducible assumption) | assumption) | (have e_ := (Kd.N_reads' HO_3.out).1; omega))
                                            obtain ⟨ua390_1, uc390_1, rfl, ul390_1, ge390_1⟩ := k30_openF hMe390
                                            have hv390_1 := hcc390 1 _ rfl
                                            rw [add_field _ _ 1 (by omega)] at hv390_1
                                            replace hv390_1 := Option.some.inj (hv390_1.symm.trans hx390_1)
                                            injection hv390_1 with hva_ hvn_ hvc_
                                            rw [hva_] at ge390_1
                                            rw [hvc_] at ul390_1
                                            have HL390_1 := Aside0.mk (show Kd.V (Kd.int .i64) 3 _ w.heap.size _ _ ((rd_T30 t373 x5_2).f1) from Kd.V_mk ul390_1 ge390_1)
                                            clear hva_ hvn_ hvc_ ge390_1 ul390_1
                                            clear hcc390 hce390
                                            have HR390_1 := Aside0.mk hi390_1
                                            have HC390_1 := Aside0.mk hl390_1
                                            clear hi390_1 hl390_1
                                            replace p390 := eq_true p390
                                            replace q390 := eq_true q390
                                            have ea_ := Option.some.inj (hx389_1.symm.trans hx390_1)
                                            injection ea_ with ea_ en_ ec_
                                            subst ea_
                                            subst ec_
                                            clear en_
                                            have p391 : 0 ≤ (x7_4 : Int) := of_decide_eq_true (by first | (with_reducible assumption) | assumption)
                                            have q391 : x7_4 < (((rd_T30 t373 x5_2).f1).length : Int) := of_decide_eq_true (by first | (with_reducible assumption) | assumption)
                                            obtain ⟨ad391, e391, hx391_0⟩ := Kd.at_int (by repeat (first | (with_reducible exact HR390_1.out) | (with_reducible refine Kd.C_alloc ?_ _) | (with_reducible refine Kd.C_drewN ?_ _) | (with_reducible refine Kd.C_drew ?_) | exact HR390_1.out)) x7_4 p391 q391
                                            cases e391
                                            replace p391 := eq_true p391
                                            replace q391 := eq_true q391
                                            obtain ⟨Ao40, co40, eo40⟩ := Kd.R_slice HO_4.out
                                            subst eo40
                                            have p392 : 0 ≤ ((rd ((rd_T30 t373 x5_2).f1) x7_4) : Int) := of_decide_eq_true (by first | (with_reducible assumption) | assumption)
                                            have q392 : (rd ((rd_T30 t373 x5_2).f1) x7_4) < (t376.length : Int) := of_decide_eq_true (by first | (with_reducible assumption) | assumption)
                                            obtain ⟨ad392, e392, hx392_0⟩ := Kd.at_int (Kd.R_reads' HO_4.out).2.2 (rd ((rd_T30 t373 x5_2).f1) x7_4) p392 q392
                                            cases e392
                                            replace p392 := eq_true p392
                                            replace q392 := eq_true q392
                                            have p393 : 0 ≤ ((rd ((rd_T30 t373 x5_2).f1) x7_4) : Int) := of_decide_eq_true (by first | (with_reducible assumption) | assumption)
                                            have q393 : (rd ((rd_T30 t373 x5_2).f1) x7_4) < (t373.length : Int) := of_decide_eq_true (by first | (with_reducible assumption) | assumption)
                                            obtain ⟨ad393, A393_1, c393_1, e393, hx393_0, hx393_1, hx393_2, hx393_3, hl393_1, hi393_1⟩ := at_T30 (Kd.N_reads' HO_3.out).2.2 (rd ((rd_T30 t373 x5_2).f1) x7_4) p393 q393
                                            obtain rfl : ad389 = ad393 := (by injection e393)
                                            obtain ⟨ce393, hce393, hMe393, hcc393⟩ := Kd.N_get HO_3.out z30 (rd ((rd_T30 t373 x5_2).f1) x7_4) p393 (by first | exact q393 | exact of_decide_eq_true (by first | (with_reducible assumption) | assumption) | (have e_ := (Kd.N_reads' HO_3.out).1; omega))
                                            obtain ⟨ua393_1, uc393_1, rfl, ul393_1, ge393_1⟩ := k30_openF hMe393
                                            have hv393_1 := hcc393 1 _ rfl
                                            rw [add_field _ _ 1 (by omega)] at hv393_1
                                            replace hv393_1 := Option.some.inj (hv393_1.symm.trans hx393_1)
                                            injection hv393_1 with hva_ hvn_ hvc_
                                            rw [hva_] at ge393_1
                                            rw [hvc_] at ul393_1
                                            have HL393_1 := Aside0.mk (show Kd.V (Kd.int .i64) 3 _ w.heap.size _ _ ((rd_T30 t373 (rd ((rd_T30 t373 x5_2).f1) x7_4)).f1) from Kd.V_mk ul393_1 ge393_1)
                                            clear hva_ hvn_ hvc_ ge393_1 ul393_1
                                            clear hcc393 hce393
                                            have HR393_1 := Aside0.mk hi393_1
                                            have HC393_1 := Aside0.mk hl393_1
                                            clear hi393_1 hl393_1
                                            replace p393 := eq_true p393
                                            replace q393 := eq_true q393
                                            have p394 : 0 ≤ (x5_2 : Int) := of_decide_eq_true (by first | (with_reducible assumption) | assumption)
                                            have q394 : x5_2 < (t376.length : Int) := of_decide_eq_true (by first | (with_reducible assumption) | assumption)
                                            obtain ⟨ad394, e394, hx394_0⟩ := Kd.at_int (Kd.R_reads' HO_4.out).2.2 x5_2 p394 q394
                                            obtain rfl : ad392 = ad394 := (by injection e394)
                                            replace p394 := eq_true p394
                                            replace q394 := eq_true q394
                                            go_wp2
                                            repeat (go_quiet (fail); try go_wp2)
                                            go_ret
                                            exact ⟨by first | rfl | (simp [errW_none, errW_some] <;> rfl) | (simp [*, errW_none, errW_some] <;> rfl), by repeat (first | (with_reducible first | exact HB.out | apply below_alloc | apply pw_below_drewN | apply below_drew1) | exact HB.out)⟩
                                          · rw [if_neg c39] at H
                                            have c39b0 : decide ((rd t376 x5_2) < (wrap64 ((rd t376 (rd ((rd_T30 t373 x5_2).f1) x7_4)) + ((rd_T30 t373 (rd ((rd_T30 t373 x5_2).f1) x7_4)).f0)))) = false := decide_eq_false c39
                                            clear c39
                                            have H' := Aside0.mk H
                                            clear H
                                            have p389 : 0 ≤ (x5_2 : Int) := of_decide_eq_true (by first | (with_reducible assumption) | assumption)
                                            have q389 : x5_2 < (t373.length : Int) := of_decide_eq_true (by first | (with_reducible assumption) | assumption)
                                            obtain ⟨ad389, A389_1, c389_1, e389, hx389_0, hx389_1, hx389_2, hx389_3, hl389_1, hi389_1⟩ := at_T30 (Kd.N_reads' HO_3.out).2.2 x5_2 p389 q389
                                            cases e389
                                            obtain ⟨ce389, hce389, hMe389, hcc389⟩ := Kd.N_get HO_3.out z30 x5_2 p389 (by first | exact q389 | exact of_decide_eq_true (by first | (with_reducible assumption) | assumption) | (have e_ := (Kd.N_reads' HO_3.out).1; omega))
                                            obtain ⟨ua389_1, uc389_1, rfl, ul389_1, ge389_1⟩ := k30_openF hMe389
                                            have hv389_1 := hcc389 1 _ rfl
                                            rw [add_field _ _ 1 (by omega)] at hv389_1
                                            replace hv389_1 := Option.some.inj (hv389_1.symm.trans hx389_1)
                                            injection hv389_1 with hva_ hvn_ hvc_
                                            rw [hva_] at ge389_1
                                            rw [hvc_] at ul389_1
                                            have HL389_1 := Aside0.mk (show Kd.V (Kd.int .i64) 3 _ w.heap.size _ _ ((rd_T30 t373 x5_2).f1) from Kd.V_mk ul389_1 ge389_1)
                                            clear hva_ hvn_ hvc_ ge389_1 ul389_1
                                            clear hcc389 hce389
                                            have HR389_1 := Aside0.mk hi389_1
                                            have HC389_1 := Aside0.mk hl389_1
                                            clear hi389_1 hl389_1
                                            replace p389 := eq_true p389
                                            replace q389 := eq_true q389
                                            have p390 : 0 ≤ (x5_2 : Int) := of_decide_eq_true (by first | (with_reducible assumption) | assumption)
                                            have q390 : x5_2 < (t373.length : Int) := of_decide_eq_true (by first | (with_reducible assumption) | assumption)
                                            obtain ⟨ad390, A390_1, c390_1, e390, hx390_0, hx390_1, hx390_2, hx390_3, hl390_1, hi390_1⟩ := at_T30 (Kd.N_reads' HO_3.out).2.2 x5_2 p390 q390
                                            obtain rfl : ad389 = ad390 := (by injection e390)
                                            obtain ⟨ce390, hce390, hMe390, hcc390⟩ := Kd.N_get HO_3.out z30 x5_2 p390 (by first | exact q390 | exact of_decide_eq_true (by first | (with_reducible assumption) | assumption) | (have e_ := (Kd.N_reads' HO_3.out).1; omega))
                                            obtain ⟨ua390_1, uc390_1, rfl, ul390_1, ge390_1⟩ := k30_openF hMe390
                                            have hv390_1 := hcc390 1 _ rfl
                                            rw [add_field _ _ 1 (by omega)] at hv390_1
                                            replace hv390_1 := Option.some.inj (hv390_1.symm.trans hx390_1)
                                            injection hv390_1 with hva_ hvn_ hvc_
                                            rw [hva_] at ge390_1
                                            rw [hvc_] at ul390_1
                                            have HL390_1 := Aside0.mk (show Kd.V (Kd.int .i64) 3 _ w.heap.size _ _ ((rd_T30 t373 x5_2).f1) from Kd.V_mk ul390_1 ge390_1)
                                            clear hva_ hvn_ hvc_ ge390_1 ul390_1
                                            clear hcc390 hce390
                                            have HR390_1 := Aside0.mk hi390_1
                                            have HC390_1 := Aside0.mk hl390_1
                                            clear hi390_1 hl390_1
                                            replace p390 := eq_true p390
                                            replace q390 := eq_true q390
                                            have ea_ := Option.some.inj (hx389_1.symm.trans hx390_1)
                                            injection ea_ with ea_ en_ ec_
                                            subst ea_
                                            subst ec_
                                            clear en_
                                            have p391 : 0 ≤ (x7_4 : Int) := of_decide_eq_true (by first | (with_reducible assumption) | assumption)
                                            have q391 : x7_4 < (((rd_T30 t373 x5_2).f1).length : Int) := of_decide_eq_true (by first | (with_reducible assumption) | assumption)
                                            obtain ⟨ad391, e391, hx391_0⟩ := Kd.at_int (by repeat (first | (with_reducible exact HR390_1.out) | (with_reducible refine Kd.C_alloc ?_ _) | (with_reducible refine Kd.C_drewN ?_ _) | (with_reducible refine Kd.C_drew ?_) | exact HR390_1.out)) x7_4 p391 q391
                                            cases e391
                                            replace p391 := eq_true p391
                                            replace q391 := eq_true q391
                                            obtain ⟨Ao41, co41, eo41⟩ := Kd.R_slice HO_4.out
                                            subst eo41
                                            have p392 : 0 ≤ ((rd ((rd_T30 t373 x5_2).f1) x7_4) : Int) := of_decide_eq_true (by first | (with_reducible assumption) | assumption)
                                            have q392 : (rd ((rd_T30 t373 x5_2).f1) x7_4) < (t376.length : Int) := of_decide_eq_true (by first | (with_reducible assumption) | assumption)
                                            obtain ⟨ad392, e392, hx392_0⟩ := Kd.at_int (Kd.R_reads' HO_4.out).2.2 (rd ((rd_T30 t373 x5_2).f1) x7_4) p392 q392
                                            cases e392
                                            replace p392 := eq_true p392
                                            replace q392 := eq_true q392
                                            have p393 : 0 ≤ ((rd ((rd_T30 t373 x5_2).f1) x7_4) : Int) := of_decide_eq_true (by first | (with_reducible assumption) | assumption)
                                            have q393 : (rd ((rd_T30 t373 x5_2).f1) x7_4) < (t373.length : Int) := of_decide_eq_true (by first | (with_reducible assumption) | assumption)
                                            obtain ⟨ad393, A393_1, c393_1, e393, hx393_0, hx393_1, hx393_2, hx393_3, hl393_1, hi393_1⟩ := at_T30 (Kd.N_reads' HO_3.out).2.2 (rd ((rd_T30 t373 x5_2).f1) x7_4) p393 q393
                                            obtain rfl : ad389 = ad393 := (by injection e393)
                                            obtain ⟨ce393, hce393, hMe393, hcc393⟩ := Kd.N_get HO_3.out z30 (rd ((rd_T30 t373 x5_2).f1) x7_4) p393 (by first | exact q393 | exact of_decide_eq_true (by first | (with_reducible assumption) | assumption) | (have e_ := (Kd.N_reads' HO_3.out).1; omega))
                                            obtain ⟨ua393_1, uc393_1, rfl, ul393_1, ge393_1⟩ := k30_openF hMe393
                                            have hv393_1 := hcc393 1 _ rfl
                                            rw [add_field _ _ 1 (by omega)] at hv393_1
                                            replace hv393_1 := Option.some.inj (hv393_1.symm.trans hx393_1)
                                            injection hv393_1 with hva_ hvn_ hvc_
                                            rw [hva_] at ge393_1
                                            rw [hvc_] at ul393_1
                                            have HL393_1 := Aside0.mk (show Kd.V (Kd.int .i64) 3 _ w.heap.size _ _ ((rd_T30 t373 (rd ((rd_T30 t373 x5_2).f1) x7_4)).f1) from Kd.V_mk ul393_1 ge393_1)
                                            clear hva_ hvn_ hvc_ ge393_1 ul393_1
                                            clear hcc393 hce393
                                            have HR393_1 := Aside0.mk hi393_1
                                            have HC393_1 := Aside0.mk hl393_1
                                            clear hi393_1 hl393_1
                                            replace p393 := eq_true p393
                                            replace q393 := eq_true q393
                                            have p394 : 0 ≤ (x5_2 : Int) := of_decide_eq_true (by first | (with_reducible assumption) | assumption)
                                            have q394 : x5_2 < (t376.length : Int) := of_decide_eq_true (by first | (with_reducible assumption) | assumption)
                                            obtain ⟨ad394, e394, hx394_0⟩ := Kd.at_int (Kd.R_reads' HO_4.out).2.2 x5_2 p394 q394
                                            obtain rfl : ad392 = ad394 := (by injection e394)
                                            replace p394 := eq_true p394
                                            replace q394 := eq_true q394
                                            go_wp2
                                            repeat (go_quiet (fail); try go_wp2)
                                            go_roundg k4
                                            case measure => have := HJ4.out; have := HK2.out; have := HJ24.out; have := HK4.out; omega
                                            case rel => exact ⟨(true), (wrap64 (x7_4 + 1)), (by first | rfl | (simp; done) | (simp [*]; done)), (by first | rfl | (simp; done) | (simp [*]; done)), H', ⟨by have := HJ4.out; have := HK2.out; have := HJ24.out; have := HK4.out; omega⟩, ⟨by (with_reducible repeat (first | apply Kd.N_alloc | apply Kd.N_drewN | apply Kd.N_drew)); exact HO_3.out⟩, ⟨by (with_reducible repeat (first | apply Kd.R_alloc | apply Kd.R_drewN | apply Kd.R_drew)); exact HO_4.out⟩, ⟨by repeat (first | (with_reducible first | exact HB.out | apply below_alloc | apply pw_below_drewN | apply below_drew1) | exact HB.out)⟩⟩
                                        · rw [if_neg c38] at H
                                          exact absurd H (by simp)
                                      · rw [if_neg c37] at H
                                        exact absurd H (by simp)
                                    · rw [if_neg c36] at H
                                      exact absurd H (by simp)
                                  · rw [if_neg c35] at H
                                    exact absurd H (by simp)
                                · replace c34 := Bool.eq_false_iff.mpr c34
                                  subst c34
                                  have H1 : (if 0 ≤ (rd ((rd_T30 t373 x5_2).f1) x7_4) then (if (rd ((rd_T30 t373 x5_2).f1) x7_4) < (t376.length : Int) then (if (rd ((rd_T30 t373 x5_2).f1) x7_4) < (t373.length : Int) then (if x5_2 < (t376.length : Int) then (if (wrap64 ((rd t376 (rd ((rd_T30 t373 x5_2).f1) x7_4)) + ((rd_T30 t373 (rd ((rd_T30 t373 x5_2).f1) x7_4)).f0))) > (rd t376 x5_2) then (some false) else (laws_FnHeadTimes.l1 k4 t373 t376 x5_2 ((wrap64 ((rd t376 (rd ((rd_T30 t373 x5_2).f1) x7_4)) + ((rd_T30 t373 (rd ((rd_T30 t373 x5_2).f1) x7_4)).f0))) == (rd t376 x5_2)) (wrap64 (x7_4 + 1)))) else (none)) else (none)) else (none)) else (none)) = some r := by rw [if_neg (show ¬ (false = true) by decide)] at H; exact H
                                  clear H
                                  have H := H1
                                  clear H1
                                  by_cases c42 : 0 ≤ (rd ((rd_T30 t373 x5_2).f1) x7_4)
                                  · rw [if_pos c42] at H
                                    have c42b0 : decide (0 ≤ (rd ((rd_T30 t373 x5_2).f1) x7_4)) = true := decide_eq_true c42
                                    clear c42
                                    by_cases c43 : (rd ((rd_T30 t373 x5_2).f1) x7_4) < (t376.length : Int)
                                    · rw [if_pos c43] at H
                                      have c43b0 : decide ((rd ((rd_T30 t373 x5_2).f1) x7_4) < (t376.length : Int)) = true := decide_eq_true c43
                                      clear c43
                                      by_cases c44 : (rd ((rd_T30 t373 x5_2).f1) x7_4) < (t373.length : Int)
                                      · rw [if_pos c44] at H
                                        have c44b0 : decide ((rd ((rd_T30 t373 x5_2).f1) x7_4) < (t373.length : Int)) = true := decide_eq_true c44
                                        clear c44
                                        by_cases c45 : x5_2 < (t376.length : Int)
                                        · rw [if_pos c45] at H
                                          have c45b0 : decide (x5_2 < (t376.length : Int)) = true := decide_eq_true c45
                                          clear c45
                                          by_cases c46 : (wrap64 ((rd t376 (rd ((rd_T30 t373 x5_2).f1) x7_4)) + ((rd_T30 t373 (rd ((rd_T30 t373 x5_2).f1) x7_4)).f0))) > (rd t376 x5_2)
                                          · rw [if_pos c46] at H
                                            have c46b0 : decide ((rd t376 x5_2) < (wrap64 ((rd t376 (rd ((rd_T30 t373 x5_2).f1) x7_4)) + ((rd_T30 t373 (rd ((rd_T30 t373 x5_2).f1) x7_4)).f0)))) = true := decide_eq_true c46
                                            clear c46
                                            obtain rfl := Option.some.inj H
                                            have p389 : 0 ≤ (x5_2 : Int) := of_decide_eq_true (by first | (with_reducible assumption) | assumption)
                                            have q389 : x5_2 < (t373.length : Int) := of_decide_eq_true (by first | (with_reducible assumption) | assumption)
                                            obtain ⟨ad389, A389_1, c389_1, e389, hx389_0, hx389_1, hx389_2, hx389_3, hl389_1, hi389_1⟩ := at_T30 (Kd.N_reads' HO_3.out).2.2 x5_2 p389 q389
                                            cases e389
                                            obtain ⟨ce389, hce389, hMe389, hcc389⟩ := Kd.N_get HO_3.out z30 x5_2 p389 (by first | exact q389 | exact of_decide_eq_true (by first | (with_reducible assumption) | assumption) | (have e_ := (Kd.N_reads' HO_3.out).1; omega))
                                            obtain ⟨ua389_1, uc389_1, rfl, ul389_1, ge389_1⟩ := k30_openF hMe389
                                            have hv389_1 := hcc389 1 _ rfl
                                            rw [add_field _ _ 1 (by omega)] at hv389_1
                                            replace hv389_1 := Option.some.inj (hv389_1.symm.trans hx389_1)
                                            injection hv389_1 with hva_ hvn_ hvc_
                                            rw [hva_] at ge389_1
                                            rw [hvc_] at ul389_1
                                            have HL389_1 := Aside0.mk (show Kd.V (Kd.int .i64) 3 _ w.heap.size _ _ ((rd_T30 t373 x5_2).f1) from Kd.V_mk ul389_1 ge389_1)
                                            clear hva_ hvn_ hvc_ ge389_1 ul389_1
                                            clear hcc389 hce389
                                            have HR389_1 := Aside0.mk hi389_1
                                            have HC389_1 := Aside0.mk hl389_1
                                            clear hi389_1 hl389_1
                                            replace p389 := eq_true p389
                                            replace q389 := eq_true q389
                                            have p390 : 0 ≤ (x5_2 : Int) := of_decide_eq_true (by first | (with_reducible assumption) | assumption)
                                            have q390 : x5_2 < (t373.length : Int) := of_decide_eq_true (by first | (with_reducible assumption) | assumption)
                                            obtain ⟨ad390, A390_1, c390_1, e390, hx390_0, hx390_1, hx390_2, hx390_3, hl390_1, hi390_1⟩ := at_T30 (Kd.N_reads' HO_3.out).2.2 x5_2 p390 q390
                                            obtain rfl : ad389 = ad390 := (by injection e390)
                                            obtain ⟨ce390, hce390, hMe390, hcc390⟩ := Kd.N_get HO_3.out z30 x5_2 p390 (by first | exact q390 | exact of_decide_eq_true (by first | (with_reducible assumption) | assumption) | (have e_ := (Kd.N_reads' HO_3.out).1; omega))
                                            obtain ⟨ua390_1, uc390_1, rfl, ul390_1, ge390_1⟩ := k30_openF hMe390
                                            have hv390_1 := hcc390 1 _ rfl
                                            rw [add_field _ _ 1 (by omega)] at hv390_1
                                            replace hv390_1 := Option.some.inj (hv390_1.symm.trans hx390_1)
                                            injection hv390_1 with hva_ hvn_ hvc_
                                            rw [hva_] at ge390_1
                                            rw [hvc_] at ul390_1
                                            have HL390_1 := Aside0.mk (show Kd.V (Kd.int .i64) 3 _ w.heap.size _ _ ((rd_T30 t373 x5_2).f1) from Kd.V_mk ul390_1 ge390_1)
                                            clear hva_ hvn_ hvc_ ge390_1 ul390_1
                                            clear hcc390 hce390
                                            have HR390_1 := Aside0.mk hi390_1
                                            have HC390_1 := Aside0.mk hl390_1
                                            clear hi390_1 hl390_1
                                            replace p390 := eq_true p390
                                            replace q390 := eq_true q390
                                            have ea_ := Option.some.inj (hx389_1.symm.trans hx390_1)
                                            injection ea_ with ea_ en_ ec_
                                            subst ea_
                                            subst ec_
                                            clear en_
                                            have p391 : 0 ≤ (x7_4 : Int) := of_decide_eq_true (by first | (with_reducible assumption) | assumption)
                                            have q391 : x7_4 < (((rd_T30 t373 x5_2).f1).length : Int) := of_decide_eq_true (by first | (with_reducible assumption) | assumption)
                                            obtain ⟨ad391, e391, hx391_0⟩ := Kd.at_int (by repeat (first | (with_reducible exact HR390_1.out) | (with_reducible refine Kd.C_alloc ?_ _) | (with_reducible refine Kd.C_drewN ?_ _) | (with_reducible refine Kd.C_drew ?_) | exact HR390_1.out)) x7_4 p391 q391
                                            cases e391
                                            replace p391 := eq_true p391
                                            replace q391 := eq_true q391
                                            obtain ⟨Ao47, co47, eo47⟩ := Kd.R_slice HO_4.out
                                            subst eo47
                                            have p395 : 0 ≤ ((rd ((rd_T30 t373 x5_2).f1) x7_4) : Int) := of_decide_eq_true (by first | (with_reducible assumption) | assumption)
                                            have q395 : (rd ((rd_T30 t373 x5_2).f1) x7_4) < (t376.length : Int) := of_decide_eq_true (by first | (with_reducible assumption) | assumption)
                                            obtain ⟨ad395, e395, hx395_0⟩ := Kd.at_int (Kd.R_reads' HO_4.out).2.2 (rd ((rd_T30 t373 x5_2).f1) x7_4) p395 q395
                                            cases e395
                                            replace p395 := eq_true p395
                                            replace q395 := eq_true q395
                                            have p396 : 0 ≤ ((rd ((rd_T30 t373 x5_2).f1) x7_4) : Int) := of_decide_eq_true (by first | (with_reducible assumption) | assumption)
                                            have q396 : (rd ((rd_T30 t373 x5_2).f1) x7_4) < (t373.length : Int) := of_decide_eq_true (by first | (with_reducible assumption) | assumption)
                                            obtain ⟨ad396, A396_1, c396_1, e396, hx396_0, hx396_1, hx396_2, hx396_3, hl396_1, hi396_1⟩ := at_T30 (Kd.N_reads' HO_3.out).2.2 (rd ((rd_T30 t373 x5_2).f1) x7_4) p396 q396
                                            obtain rfl : ad389 = ad396 := (by injection e396)
                                            obtain ⟨ce396, hce396, hMe396, hcc396⟩ := Kd.N_get HO_3.out z30 (rd ((rd_T30 t373 x5_2).f1) x7_4) p396 (by first | exact q396 | exact of_decide_eq_true (by first | (with_reducible assumption) | assumption) | (have e_ := (Kd.N_reads' HO_3.out).1; omega))
                                            obtain ⟨ua396_1, uc396_1, rfl, ul396_1, ge396_1⟩ := k30_openF hMe396
                                            have hv396_1 := hcc396 1 _ rfl
                                            rw [add_field _ _ 1 (by omega)] at hv396_1
                                            replace hv396_1 := Option.some.inj (hv396_1.symm.trans hx396_1)
                                            injection hv396_1 with hva_ hvn_ hvc_
                                            rw [hva_] at ge396_1
                                            rw [hvc_] at ul396_1
                                            have HL396_1 := Aside0.mk (show Kd.V (Kd.int .i64) 3 _ w.heap.size _ _ ((rd_T30 t373 (rd ((rd_T30 t373 x5_2).f1) x7_4)).f1) from Kd.V_mk ul396_1 ge396_1)
                                            clear hva_ hvn_ hvc_ ge396_1 ul396_1
                                            clear hcc396 hce396
                                            have HR396_1 := Aside0.mk hi396_1
                                            have HC396_1 := Aside0.mk hl396_1
                                            clear hi396_1 hl396_1
                                            replace p396 := eq_true p396
                                            replace q396 := eq_true q396
                                            have p397 : 0 ≤ (x5_2 : Int) := of_decide_eq_true (by first | (with_reducible assumption) | assumption)
                                            have q397 : x5_2 < (t376.length : Int) := of_decide_eq_true (by first | (with_reducible assumption) | assumption)
                                            obtain ⟨ad397, e397, hx397_0⟩ := Kd.at_int (Kd.R_reads' HO_4.out).2.2 x5_2 p397 q397
                                            obtain rfl : ad395 = ad397 := (by injection e397)
                                            replace p397 := eq_true p397
                                            replace q397 := eq_true q397
                                            have p398 : 0 ≤ ((rd ((rd_T30 t373 x5_2).f1) x7_4) : Int) := of_decide_eq_true (by first | (with_reducible assumption) | assumption)
                                            have q398 : (rd ((rd_T30 t373 x5_2).f1) x7_4) < (t376.length : Int) := of_decide_eq_true (by first | (with_reducible assumption) | assumption)
                                            obtain ⟨ad398, e398, hx398_0⟩ := Kd.at_int (Kd.R_reads' HO_4.out).2.2 (rd ((rd_T30 t373 x5_2).f1) x7_4) p398 q398
                                            obtain rfl : ad395 = ad398 := (by injection e398)
                                            replace p398 := eq_true p398
                                            replace q398 := eq_true q398
                                            have p399 : 0 ≤ ((rd ((rd_T30 t373 x5_2).f1) x7_4) : Int) := of_decide_eq_true (by first | (with_reducible assumption) | assumption)
                                            have q399 : (rd ((rd_T30 t373 x5_2).f1) x7_4) < (t373.length : Int) := of_decide_eq_true (by first | (with_reducible assumption) | assumption)
                                            obtain ⟨ad399, A399_1, c399_1, e399, hx399_0, hx399_1, hx399_2, hx399_3, hl399_1, hi399_1⟩ := at_T30 (Kd.N_reads' HO_3.out).2.2 (rd ((rd_T30 t373 x5_2).f1) x7_4) p399 q399
                                            obtain rfl : ad389 = ad399 := (by injection e399)
                                            obtain ⟨ce399, hce399, hMe399, hcc399⟩ := Kd.N_get HO_3.out z30 (rd ((rd_T30 t373 x5_2).f1) x7_4) p399 (by first | exact q399 | exact of_decide_eq_true (by first | (with_reducible assumption) | assumption) | (have e_ := (Kd.N_reads' HO_3.out).1; omega))
                                            obtain ⟨ua399_1, uc399_1, rfl, ul399_1, ge399_1⟩ := k30_openF hMe399
                                            have hv399_1 := hcc399 1 _ rfl
                                            rw [add_field _ _ 1 (by omega)] at hv399_1
                                            replace hv399_1 := Option.some.inj (hv399_1.symm.trans hx399_1)
                                            injection hv399_1 with hva_ hvn_ hvc_
                                            rw [hva_] at ge399_1
                                            rw [hvc_] at ul399_1
                                            have HL399_1 := Aside0.mk (show Kd.V (Kd.int .i64) 3 _ w.heap.size _ _ ((rd_T30 t373 (rd ((rd_T30 t373 x5_2).f1) x7_4)).f1) from Kd.V_mk ul399_1 ge399_1)
                                            clear hva_ hvn_ hvc_ ge399_1 ul399_1
                                            clear hcc399 hce399
                                            have HR399_1 := Aside0.mk hi399_1
                                            have HC399_1 := Aside0.mk hl399_1
                                            clear hi399_1 hl399_1
                                            replace p399 := eq_true p399
                                            replace q399 := eq_true q399
                                            have ea_ := Option.some.inj (hx396_1.symm.trans hx399_1)
                                            injection ea_ with ea_ en_ ec_
                                            subst ea_
                                            subst ec_
                                            clear en_
                                            have p400 : 0 ≤ (x5_2 : Int) := of_decide_eq_true (by first | (with_reducible assumption) | assumption)
                                            have q400 : x5_2 < (t376.length : Int) := of_decide_eq_true (by first | (with_reducible assumption) | assumption)
                                            obtain ⟨ad400, e400, hx400_0⟩ := Kd.at_int (Kd.R_reads' HO_4.out).2.2 x5_2 p400 q400
                                            obtain rfl : ad395 = ad400 := (by injection e400)
                                            replace p400 := eq_true p400
                                            replace q400 := eq_true q400
                                            go_wp2
                                            repeat (go_quiet (fail); try go_wp2)
                                            go_ret
                                            exact ⟨by first | rfl | (simp [errW_none, errW_some] <;> rfl) | (simp [*, errW_none, errW_some] <;> rfl), by repeat (first | (with_reducible first | exact HB.out | apply below_alloc | apply pw_below_drewN | apply below_drew1) | exact HB.out)⟩
                                          · rw [if_neg c46] at H
                                            have c46b0 : decide ((rd t376 x5_2) < (wrap64 ((rd t376 (rd ((rd_T30 t373 x5_2).f1) x7_4)) + ((rd_T30 t373 (rd ((rd_T30 t373 x5_2).f1) x7_4)).f0)))) = false := decide_eq_false c46
                                            clear c46
                                            have H' := Aside0.mk H
                                            clear H
                                            have p389 : 0 ≤ (x5_2 : Int) := of_decide_eq_true (by first | (with_reducible assumption) | assumption)
                                            have q389 : x5_2 < (t373.length : Int) := of_decide_eq_true (by first | (with_reducible assumption) | assumption)
                                            obtain ⟨ad389, A389_1, c389_1, e389, hx389_0, hx389_1, hx389_2, hx389_3, hl389_1, hi389_1⟩ := at_T30 (Kd.N_reads' HO_3.out).2.2 x5_2 p389 q389
                                            cases e389
                                            obtain ⟨ce389, hce389, hMe389, hcc389⟩ := Kd.N_get HO_3.out z30 x5_2 p389 (by first | exact q389 | exact of_decide_eq_true (by first | (with_reducible assumption) | assumption) | (have e_ := (Kd.N_reads' HO_3.out).1; omega))
                                            obtain ⟨ua389_1, uc389_1, rfl, ul389_1, ge389_1⟩ := k30_openF hMe389
                                            have hv389_1 := hcc389 1 _ rfl
                                            rw [add_field _ _ 1 (by omega)] at hv389_1
                                            replace hv389_1 := Option.some.inj (hv389_1.symm.trans hx389_1)
                                            injection hv389_1 with hva_ hvn_ hvc_
                                            rw [hva_] at ge389_1
                                            rw [hvc_] at ul389_1
                                            have HL389_1 := Aside0.mk (show Kd.V (Kd.int .i64) 3 _ w.heap.size _ _ ((rd_T30 t373 x5_2).f1) from Kd.V_mk ul389_1 ge389_1)
                                            clear hva_ hvn_ hvc_ ge389_1 ul389_1
                                            clear hcc389 hce389
                                            have HR389_1 := Aside0.mk hi389_1
                                            have HC389_1 := Aside0.mk hl389_1
                                            clear hi389_1 hl389_1
                                            replace p389 := eq_true p389
                                            replace q389 := eq_true q389
                                            have p390 : 0 ≤ (x5_2 : Int) := of_decide_eq_true (by first | (with_reducible assumption) | assumption)
                                            have q390 : x5_2 < (t373.length : Int) := of_decide_eq_true (by first | (with_reducible assumption) | assumption)
                                            obtain ⟨ad390, A390_1, c390_1, e390, hx390_0, hx390_1, hx390_2, hx390_3, hl390_1, hi390_1⟩ := at_T30 (Kd.N_reads' HO_3.out).2.2 x5_2 p390 q390
                                            obtain rfl : ad389 = ad390 := (by injection e390)
                                            obtain ⟨ce390, hce390, hMe390, hcc390⟩ := Kd.N_get HO_3.out z30 x5_2 p390 (by first | exact q390 | exact of_decide_eq_true (by first | (with_reducible assumption) | assumption) | (have e_ := (Kd.N_reads' HO_3.out).1; omega))
                                            obtain ⟨ua390_1, uc390_1, rfl, ul390_1, ge390_1⟩ := k30_openF hMe390
                                            have hv390_1 := hcc390 1 _ rfl
                                            rw [add_field _ _ 1 (by omega)] at hv390_1
                                            replace hv390_1 := Option.some.inj (hv390_1.symm.trans hx390_1)
                                            injection hv390_1 with hva_ hvn_ hvc_
                                            rw [hva_] at ge390_1
                                            rw [hvc_] at ul390_1
                                            have HL390_1 := Aside0.mk (show Kd.V (Kd.int .i64) 3 _ w.heap.size _ _ ((rd_T30 t373 x5_2).f1) from Kd.V_mk ul390_1 ge390_1)
                                            clear hva_ hvn_ hvc_ ge390_1 ul390_1
                                            clear hcc390 hce390
                                            have HR390_1 := Aside0.mk hi390_1
                                            have HC390_1 := Aside0.mk hl390_1
                                            clear hi390_1 hl390_1
                                            replace p390 := eq_true p390
                                            replace q390 := eq_true q390
                                            have ea_ := Option.some.inj (hx389_1.symm.trans hx390_1)
                                            injection ea_ with ea_ en_ ec_
                                            subst ea_
                                            subst ec_
                                            clear en_
                                            have p391 : 0 ≤ (x7_4 : Int) := of_decide_eq_true (by first | (with_reducible assumption) | assumption)
                                            have q391 : x7_4 < (((rd_T30 t373 x5_2).f1).length : Int) := of_decide_eq_true (by first | (with_reducible assumption) | assumption)
                                            obtain ⟨ad391, e391, hx391_0⟩ := Kd.at_int (by repeat (first | (with_reducible exact HR390_1.out) | (with_reducible refine Kd.C_alloc ?_ _) | (with_reducible refine Kd.C_drewN ?_ _) | (with_reducible refine Kd.C_drew ?_) | exact HR390_1.out)) x7_4 p391 q391
                                            cases e391
                                            replace p391 := eq_true p391
                                            replace q391 := eq_true q391
                                            obtain ⟨Ao48, co48, eo48⟩ := Kd.R_slice HO_4.out
                                            subst eo48
                                            have p395 : 0 ≤ ((rd ((rd_T30 t373 x5_2).f1) x7_4) : Int) := of_decide_eq_true (by first | (with_reducible assumption) | assumption)
                                            have q395 : (rd ((rd_T30 t373 x5_2).f1) x7_4) < (t376.length : Int) := of_decide_eq_true (by first | (with_reducible assumption) | assumption)
                                            obtain ⟨ad395, e395, hx395_0⟩ := Kd.at_int (Kd.R_reads' HO_4.out).2.2 (rd ((rd_T30 t373 x5_2).f1) x7_4) p395 q395
                                            cases e395
                                            replace p395 := eq_true p395
                                            replace q395 := eq_true q395
                                            have p396 : 0 ≤ ((rd ((rd_T30 t373 x5_2).f1) x7_4) : Int) := of_decide_eq_true (by first | (with_reducible assumption) | assumption)
                                            have q396 : (rd ((rd_T30 t373 x5_2).f1) x7_4) < (t373.length : Int) := of_decide_eq_true (by first | (with_reducible assumption) | assumption)
                                            obtain ⟨ad396, A396_1, c396_1, e396, hx396_0, hx396_1, hx396_2, hx396_3, hl396_1, hi396_1⟩ := at_T30 (Kd.N_reads' HO_3.out).2.2 (rd ((rd_T30 t373 x5_2).f1) x7_4) p396 q396
                                            obtain rfl : ad389 = ad396 := (by injection e396)
                                            obtain ⟨ce396, hce396, hMe396, hcc396⟩ := Kd.N_get HO_3.out z30 (rd ((rd_T30 t373 x5_2).f1) x7_4) p396 (by first | exact q396 | exact of_decide_eq_true (by first | (with_reducible assumption) | assumption) | (have e_ := (Kd.N_reads' HO_3.out).1; omega))
                                            obtain ⟨ua396_1, uc396_1, rfl, ul396_1, ge396_1⟩ := k30_openF hMe396
                                            have hv396_1 := hcc396 1 _ rfl
                                            rw [add_field _ _ 1 (by omega)] at hv396_1
                                            replace hv396_1 := Option.some.inj (hv396_1.symm.trans hx396_1)
                                            injection hv396_1 with hva_ hvn_ hvc_
                                            rw [hva_] at ge396_1
                                            rw [hvc_] at ul396_1
                                            have HL396_1 := Aside0.mk (show Kd.V (Kd.int .i64) 3 _ w.heap.size _ _ ((rd_T30 t373 (rd ((rd_T30 t373 x5_2).f1) x7_4)).f1) from Kd.V_mk ul396_1 ge396_1)
                                            clear hva_ hvn_ hvc_ ge396_1 ul396_1
                                            clear hcc396 hce396
                                            have HR396_1 := Aside0.mk hi396_1
                                            have HC396_1 := Aside0.mk hl396_1
                                            clear hi396_1 hl396_1
                                            replace p396 := eq_true p396
                                            replace q396 := eq_true q396
                                            have p397 : 0 ≤ (x5_2 : Int) := of_decide_eq_true (by first | (with_reducible assumption) | assumption)
                                            have q397 : x5_2 < (t376.length : Int) := of_decide_eq_true (by first | (with_reducible assumption) | assumption)
                                            obtain ⟨ad397, e397, hx397_0⟩ := Kd.at_int (Kd.R_reads' HO_4.out).2.2 x5_2 p397 q397
                                            obtain rfl : ad395 = ad397 := (by injection e397)
                                            replace p397 := eq_true p397
                                            replace q397 := eq_true q397
                                            have p398 : 0 ≤ ((rd ((rd_T30 t373 x5_2).f1) x7_4) : Int) := of_decide_eq_true (by first | (with_reducible assumption) | assumption)
                                            have q398 : (rd ((rd_T30 t373 x5_2).f1) x7_4) < (t376.length : Int) := of_decide_eq_true (by first | (with_reducible assumption) | assumption)
                                            obtain ⟨ad398, e398, hx398_0⟩ := Kd.at_int (Kd.R_reads' HO_4.out).2.2 (rd ((rd_T30 t373 x5_2).f1) x7_4) p398 q398
                                            obtain rfl : ad395 = ad398 := (by injection e398)
                                            replace p398 := eq_true p398
                                            replace q398 := eq_true q398
                                            have p399 : 0 ≤ ((rd ((rd_T30 t373 x5_2).f1) x7_4) : Int) := of_decide_eq_true (by first | (with_reducible assumption) | assumption)
                                            have q399 : (rd ((rd_T30 t373 x5_2).f1) x7_4) < (t373.length : Int) := of_decide_eq_true (by first | (with_reducible assumption) | assumption)
                                            obtain ⟨ad399, A399_1, c399_1, e399, hx399_0, hx399_1, hx399_2, hx399_3, hl399_1, hi399_1⟩ := at_T30 (Kd.N_reads' HO_3.out).2.2 (rd ((rd_T30 t373 x5_2).f1) x7_4) p399 q399
                                            obtain rfl : ad389 = ad399 := (by injection e399)
                                            obtain ⟨ce399, hce399, hMe399, hcc399⟩ := Kd.N_get HO_3.out z30 (rd ((rd_T30 t373 x5_2).f1) x7_4) p399 (by first | exact q399 | exact of_decide_eq_true (by first | (with_reducible assumption) | assumption) | (have e_ := (Kd.N_reads' HO_3.out).1; omega))
                                            obtain ⟨ua399_1, uc399_1, rfl, ul399_1, ge399_1⟩ := k30_openF hMe399
                                            have hv399_1 := hcc399 1 _ rfl
                                            rw [add_field _ _ 1 (by omega)] at hv399_1
                                            replace hv399_1 := Option.some.inj (hv399_1.symm.trans hx399_1)
                                            injection hv399_1 with hva_ hvn_ hvc_
                                            rw [hva_] at ge399_1
                                            rw [hvc_] at ul399_1
                                            have HL399_1 := Aside0.mk (show Kd.V (Kd.int .i64) 3 _ w.heap.size _ _ ((rd_T30 t373 (rd ((rd_T30 t373 x5_2).f1) x7_4)).f1) from Kd.V_mk ul399_1 ge399_1)
                                            clear hva_ hvn_ hvc_ ge399_1 ul399_1
                                            clear hcc399 hce399
                                            have HR399_1 := Aside0.mk hi399_1
                                            have HC399_1 := Aside0.mk hl399_1
                                            clear hi399_1 hl399_1
                                            replace p399 := eq_true p399
                                            replace q399 := eq_true q399
                                            have ea_ := Option.some.inj (hx396_1.symm.trans hx399_1)
                                            injection ea_ with ea_ en_ ec_
                                            subst ea_
                                            subst ec_
                                            clear en_
                                            have p400 : 0 ≤ (x5_2 : Int) := of_decide_eq_true (by first | (with_reducible assumption) | assumption)
                                            have q400 : x5_2 < (t376.length : Int) := of_decide_eq_true (by first | (with_reducible assumption) | assumption)
                                            obtain ⟨ad400, e400, hx400_0⟩ := Kd.at_int (Kd.R_reads' HO_4.out).2.2 x5_2 p400 q400
                                            obtain rfl : ad395 = ad400 := (by injection e400)
                                            replace p400 := eq_true p400
                                            replace q400 := eq_true q400
                                            go_wp2
                                            repeat (go_quiet (fail); try go_wp2)
                                            go_roundg k4
                                            case measure => have := HJ4.out; have := HK2.out; have := HJ24.out; have := HK4.out; omega
                                            case rel => exact ⟨(((wrap64 ((rd t376 (rd ((rd_T30 t373 x5_2).f1) x7_4)) + ((rd_T30 t373 (rd ((rd_T30 t373 x5_2).f1) x7_4)).f0))) == (rd t376 x5_2))), (wrap64 (x7_4 + 1)), (by first | rfl | (simp; done) | (simp [*]; done)), (by first | rfl | (simp; done) | (simp [*]; done)), H', ⟨by have := HJ4.out; have := HK2.out; have := HJ24.out; have := HK4.out; omega⟩, ⟨by (with_reducible repeat (first | apply Kd.N_alloc | apply Kd.N_drewN | apply Kd.N_drew)); exact HO_3.out⟩, ⟨by (with_reducible repeat (first | apply Kd.R_alloc | apply Kd.R_drewN | apply Kd.R_drew)); exact HO_4.out⟩, ⟨by repeat (first | (with_reducible first | exact HB.out | apply below_alloc | apply pw_below_drewN | apply below_drew1) | exact HB.out)⟩⟩
                                        · rw [if_neg c45] at H
                                          exact absurd H (by simp)
                                      · rw [if_neg c44] at H
                                        exact absurd H (by simp)
                                    · rw [if_neg c43] at H
                                      exact absurd H (by simp)
                                  · rw [if_neg c42] at H
                                    exact absurd H (by simp)
                              · rw [if_neg c33] at H
                                exact absurd H (by simp)
                            · rw [if_neg c32] at H
                              have c32b0 : decide (x7_4 < (((rd_T30 t373 x5_2).f1).length : Int)) = false := decide_eq_false c32
                              clear c32
                              by_cases c49 : x6_4 = true
                              · subst c49
                                have H1 : (laws_FnHeadTimes.l0 k4 t373 t376 (wrap64 (x5_2 + 1))) = some r := by rw [if_pos rfl] at H; exact H
                                clear H
                                have H := H1
                                clear H1
                                have H' := Aside0.mk H
                                clear H
                                have p389 : 0 ≤ (x5_2 : Int) := of_decide_eq_true (by first | (with_reducible assumption) | assumption)
                                have q389 : x5_2 < (t373.length : Int) := of_decide_eq_true (by first | (with_reducible assumption) | assumption)
                                obtain ⟨ad389, A389_1, c389_1, e389, hx389_0, hx389_1, hx389_2, hx389_3, hl389_1, hi389_1⟩ := at_T30 (Kd.N_reads' HO_3.out).2.2 x5_2 p389 q389
                                cases e389
                                obtain ⟨ce389, hce389, hMe389, hcc389⟩ := Kd.N_get HO_3.out z30 x5_2 p389 (by first | exact q389 | exact of_decide_eq_true (by first | (with_reducible assumption) | assumption) | (have e_ := (Kd.N_reads' HO_3.out).1; omega))
                                obtain ⟨ua389_1, uc389_1, rfl, ul389_1, ge389_1⟩ := k30_openF hMe389
                                have hv389_1 := hcc389 1 _ rfl
                                rw [add_field _ _ 1 (by omega)] at hv389_1
                                replace hv389_1 := Option.some.inj (hv389_1.symm.trans hx389_1)
                                injection hv389_1 with hva_ hvn_ hvc_
                                rw [hva_] at ge389_1
                                rw [hvc_] at ul389_1
                                have HL389_1 := Aside0.mk (show Kd.V (Kd.int .i64) 3 _ w.heap.size _ _ ((rd_T30 t373 x5_2).f1) from Kd.V_mk ul389_1 ge389_1)
                                clear hva_ hvn_ hvc_ ge389_1 ul389_1
                                clear hcc389 hce389
                                have HR389_1 := Aside0.mk hi389_1
                                have HC389_1 := Aside0.mk hl389_1
                                clear hi389_1 hl389_1
                                replace p389 := eq_true p389
                                replace q389 := eq_true q389
                                go_wp2
                                repeat (go_quiet (fail); try go_wp2)
                                go_roundg k4
                                case measure => have := HJ4.out; have := HK2.out; have := HJ24.out; have := HK4.out; omega
                                case rel => exact ⟨(wrap64 (x5_2 + 1)), (by first | rfl | (simp; done) | (simp [*]; done)), H', ⟨by have := HJ4.out; have := HK2.out; have := HJ24.out; have := HK4.out; omega⟩, ⟨by (with_reducible repeat (first | apply Kd.N_alloc | apply Kd.N_drewN | apply Kd.N_drew)); exact HO_3.out⟩, ⟨by (with_reducible repeat (first | apply Kd.R_alloc | apply Kd.R_drewN | apply Kd.R_drew)); exact HO_4.out⟩, ⟨by repeat (first | (with_reducible first | exact HB.out | apply below_alloc | apply pw_below_drewN | apply below_drew1) | exact HB.out)⟩⟩
                              · replace c49 := Bool.eq_false_iff.mpr c49
                                subst c49
                                have H1 : (some false) = some r := by rw [if_neg (show ¬ (false = true) by decide)] at H; exact H
                                clear H
                                have H := H1
                                clear H1
                                obtain rfl := Option.some.inj H
                                have p389 : 0 ≤ (x5_2 : Int) := of_decide_eq_true (by first | (with_reducible assumption) | assumption)
                                have q389 : x5_2 < (t373.length : Int) := of_decide_eq_true (by first | (with_reducible assumption) | assumption)
                                obtain ⟨ad389, A389_1, c389_1, e389, hx389_0, hx389_1, hx389_2, hx389_3, hl389_1, hi389_1⟩ := at_T30 (Kd.N_reads' HO_3.out).2.2 x5_2 p389 q389
                                cases e389
                                obtain ⟨ce389, hce389, hMe389, hcc389⟩ := Kd.N_get HO_3.out z30 x5_2 p389 (by first | exact q389 | exact of_decide_eq_true (by first | (with_reducible assumption) | assumption) | (have e_ := (Kd.N_reads' HO_3.out).1; omega))
                                obtain ⟨ua389_1, uc389_1, rfl, ul389_1, ge389_1⟩ := k30_openF hMe389
                                have hv389_1 := hcc389 1 _ rfl
                                rw [add_field _ _ 1 (by omega)] at hv389_1
                                replace hv389_1 := Option.some.inj (hv389_1.symm.trans hx389_1)
                                injection hv389_1 with hva_ hvn_ hvc_
                                rw [hva_] at ge389_1
                                rw [hvc_] at ul389_1
                                have HL389_1 := Aside0.mk (show Kd.V (Kd.int .i64) 3 _ w.heap.size _ _ ((rd_T30 t373 x5_2).f1) from Kd.V_mk ul389_1 ge389_1)
                                clear hva_ hvn_ hvc_ ge389_1 ul389_1
                                clear hcc389 hce389
                                have HR389_1 := Aside0.mk hi389_1
                                have HC389_1 := Aside0.mk hl389_1
                                clear hi389_1 hl389_1
                                replace p389 := eq_true p389
                                replace q389 := eq_true q389
                                go_wp2
                                repeat (go_quiet (fail); try go_wp2)
                                go_ret
                                exact ⟨by first | rfl | (simp [errW_none, errW_some] <;> rfl) | (simp [*, errW_none, errW_some] <;> rfl), by repeat (first | (with_reducible first | exact HB.out | apply below_alloc | apply pw_below_drewN | apply below_drew1) | exact HB.out)⟩
                          · rw [if_neg c31] at H
                            exact absurd H (by simp)
                        · rw [if_neg c30] at H
                          exact absurd H (by simp)
              · rw [if_neg c24] at H
                have c24b0 : decide (x5_2 < (t373.length : Int)) = false := decide_eq_false c24
                clear c24
                obtain rfl := Option.some.inj H
                go_wp2
                repeat (go_quiet (fail); try go_wp2)
                go_ret
                exact ⟨by first | rfl | (simp [errW_none, errW_some] <;> rfl) | (simp [*, errW_none, errW_some] <;> rfl), by repeat (first | (with_reducible first | exact HB.out | apply below_alloc | apply pw_below_drewN | apply below_drew1) | exact HB.out)⟩

/-- THE ONE PURE STATEMENT of laws_FnHeadTimes: yours. -/
def laws_FnHeadTimes.Pure : Prop := ∀ (l0 : List Int), l0.length ≤ maxLen → l0.length * 1 ≤ 140737488351232 → (∀ x ∈ l0, (Lit.int .u8 x).wf = true) → ∃ k, laws_FnHeadTimes.f k l0 = some true
theorem laws_FnHeadTimes.walk (P : laws_FnHeadTimes.Pure) (a0 : Option Addr) (len0 cap0 : Nat) (z0 : List Int) (w : World) (hT : Go.Proofs.YtgpnododcbkflaaDoor.H.Tab w) (w0 : (a0 = none ∧ len0 = 0 ∧ cap0 = 0 ∧ z0 = []) ∨ ∃ x, a0 = some x ∧ len0 ≤ cap0 ∧ cap0 ≤ maxLen ∧ z0.length = cap0 ∧ (∀ i, i < z0.length → w.cell? (x.add i) = some (.int .u8 (z0.getD i 0))) ∧ ∀ n ∈ z0, (Lit.int .u8 n).wf = true) (y0 : len0 * 1 ≤ 140737488351232) :
    Calls Tryd.prog 4 #[.slice a0 len0 cap0] w fun e w' => e = .returned (.bool true) ∧ Below w.heap.size w w' := by
  obtain ⟨l0, rfl, hr0, hm0, hw0, hc0⟩ := ReadsInt.ofRowC w0
  obtain ⟨k, h⟩ := P l0 hm0 y0 hw0
  refine (laws_FnHeadTimes.calls k _ _ l0 true w hT (Kd.C_of_reads (d := (0 : Int)) (h1 := fun _ => rfl) hr0) hc0 h).mono ?_
  rintro e w' ⟨rfl, hd⟩
  exact ⟨rfl, hd⟩

end Go.Proofs.YtgpnododcbkflaaDoor.Q
