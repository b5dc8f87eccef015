-- Written by a program of this session (wip/tools/myprint.py), by way of the kit's print, out of the translation of the seat. Lean checks it.
import Derived.Test.YtgpnododcbkflaaDoorQx0
import Derived.Test.YtgpnododcbkflaaDoorQx17
import Derived.Test.YtgpnododcbkflaaDoorQx20
import Derived.Test.YtgpnododcbkflaaDoorQx28
import Derived.Test.YtgpnododcbkflaaDoorHChain
import Derived.Test.YtgpnododcbkflaaDoorHLong
import Derived.Test.YtgpnododcbkflaaDoorHM
namespace Go.Proofs.YtgpnododcbkflaaDoor.Q
open Go.Proofs.YtgpnododcbkflaaDoor.H Go.RowKit Go.Proofs.YtgpnododcbkflaaDoorW.PrintWords Go.Proofs.YtgpnododcbkflaaDoorW.PrintLast Go.Proofs.YtgpnododcbkflaaDoorW.PrintMore
attribute [local go_sem] max2_int min2_int max_two min_two max_three min_three max_four min_four   -- for this text's walks alone
set_option linter.unusedVariables false
set_option linter.unusedSimpArgs false

/-! ### laws_FnCriticalChainLonger: function 12 -/
mutual
def laws_FnCriticalChainLonger.j0 : Nat → List (S30) → List Int → Bool → Option (Bool)
  | 0, _, _, _ => none
  | k + 1, x3, x4, x24 => if x24 = true then ((spec_CriticalChain.f k x3).bind fun t668 => ((laws_equalInts.f k x4 t668).bind fun t671 => (some t671))) else ((impl_LongestTime.f x3).bind fun t672 => (laws_FnCriticalChainLonger.l0 k x3 x4 t672 0))
def laws_FnCriticalChainLonger.l0 : Nat → List (S30) → List Int → Int → Int → Option (Bool)
  | 0, _, _, _, _ => none
  | k + 1, x3, x4, x5, x6 => if x6 < (x4.length : Int) then (if 0 ≤ x6 then (if (rd x4 x6) < 0 then (laws_FnCriticalChainLonger.j2 k x3 x4 x5 x6 true) else (laws_FnCriticalChainLonger.j2 k x3 x4 x5 x6 (decide ((rd x4 x6) ≥ (x3.length : Int))))) else (none)) else (some true)
def laws_FnCriticalChainLonger.j2 : Nat → List (S30) → List Int → Int → Int → Bool → Option (Bool)
  | 0, _, _, _, _, _ => none
  | k + 1, x3, x4, x5, x6, x50 => if x50 = true then (some false) else ((some (([] : List (S30)) : List (S30))).bind fun y675 => (if y675.length + x3.length < 2932031007402 then ((some (y675 ++ x3 : List (S30))).bind fun y678 => (if 0 ≤ x6 then (if x6 < (x4.length : Int) then (if 0 ≤ (rd x4 x6) then (if (rd x4 x6) < (y678.length : Int) then ((some (y678.set ((rd x4 x6) : Int).toNat (⟨wrap64 (((rd_T30 y678 (rd x4 x6)).f0) + 1), (rd_T30 y678 (rd x4 x6)).f1, (rd_T30 y678 (rd x4 x6)).f2, (rd_T30 y678 (rd x4 x6)).f3⟩ : S30) : List (S30))).bind fun y684 => ((impl_ValidGraph.f y684).bind fun t685 => (if t685 = true then ((impl_LongestTime.f y684).bind fun t686 => (if t686 = (wrap64 (x5 + 1)) then (laws_FnCriticalChainLonger.l0 k x3 x4 x5 (wrap64 (x6 + 1))) else (some false))) else (laws_FnCriticalChainLonger.l0 k x3 x4 x5 (wrap64 (x6 + 1)))))) else (none)) else (none)) else (none)) else (none))) else (none)))
end
def laws_FnCriticalChainLonger.f (k : Nat) (l0 : List Int) : Option (Bool) := if (l0.length : Int) > 1048576 then (some true) else ((spec_DrawCriticalChain.f k l0).bind fun t658 => ((impl_CriticalChain.f t658).bind fun t661 => ((spec_CriticalChain.f k t658).bind fun t664 => ((laws_equalInts.f k t661 t664).bind fun t667 => (if t667 = true then (laws_FnCriticalChainLonger.j0 k t658 t661 ((t661.length : Int) == 0)) else (laws_FnCriticalChainLonger.j0 k t658 t661 true))))))
theorem laws_FnCriticalChainLonger.mono_l : ∀ k, (∀ y0 y1 y2, LeO (laws_FnCriticalChainLonger.j0 k y0 y1 y2) (laws_FnCriticalChainLonger.j0 (k + 1) y0 y1 y2)) ∧ (∀ y0 y1 y2 y3, LeO (laws_FnCriticalChainLonger.l0 k y0 y1 y2 y3) (laws_FnCriticalChainLonger.l0 (k + 1) y0 y1 y2 y3)) ∧ (∀ y0 y1 y2 y3 y4, LeO (laws_FnCriticalChainLonger.j2 k y0 y1 y2 y3 y4) (laws_FnCriticalChainLonger.j2 (k + 1) y0 y1 y2 y3 y4))
  | 0 => ⟨fun _ _ _ r h => by simp [laws_FnCriticalChainLonger.j0] at h, fun _ _ _ _ r h => by simp [laws_FnCriticalChainLonger.l0] at h, fun _ _ _ _ _ r h => by simp [laws_FnCriticalChainLonger.j2] at h⟩
  | k + 1 => by
    obtain ⟨ih0, ih1, ih2⟩ := laws_FnCriticalChainLonger.mono_l k
    refine ⟨?_, ?_, ?_⟩
    · intro y0 y1 y2
      unfold laws_FnCriticalChainLonger.j0
      repeat' first
      | (with_reducible exact ih0 _ _ _)
      | (with_reducible exact ih1 _ _ _ _)
      | (with_reducible exact ih2 _ _ _ _ _)
      | (with_reducible exact laws_equalInts.mono _ _ _)
      | (with_reducible exact spec_CriticalChain.mono _ _)
      | (with_reducible exact spec_DrawCriticalChain.mono _ _)
      | (with_reducible exact LeO.refl _)
      | (with_reducible exact LeO.none _)
      | (with_reducible refine LeO.ite ?_ ?_)
      | (with_reducible refine LeO.bind ?_ (fun _ => ?_))
      | exact ih0 _ _ _
      | exact ih1 _ _ _ _
      | exact ih2 _ _ _ _ _
      | exact laws_equalInts.mono _ _ _
      | exact spec_CriticalChain.mono _ _
      | exact spec_DrawCriticalChain.mono _ _
      | exact LeO.none _
      | refine LeO.ite ?_ ?_
      | refine LeO.bind ?_ (fun _ => ?_)
    · intro y0 y1 y2 y3
      unfold laws_FnCriticalChainLonger.l0
      repeat' first
      | (with_reducible exact ih0 _ _ _)
      | (with_reducible exact ih1 _ _ _ _)
      | (with_reducible exact ih2 _ _ _ _ _)
      | (with_reducible exact laws_equalInts.mono _ _ _)
      | (with_reducible exact spec_CriticalChain.mono _ _)
      | (with_reducible exact spec_DrawCriticalChain.mono _ _)
      | (with_reducible exact LeO.refl _)
      | (with_reducible exact LeO.none _)
      | (with_reducible refine LeO.ite ?_ ?_)
      | (with_reducible refine LeO.bind ?_ (fun _ => ?_))
      | exact ih0 _ _ _
      | exact ih1 _ _ _ _
      | exact ih2 _ _ _ _ _
      | exact laws_equalInts.mono _ _ _
      | exact spec_CriticalChain.mono _ _
      | exact spec_DrawCriticalChain.mono _ _
      | exact LeO.none _
      | refine LeO.ite ?_ ?_
      | refine LeO.bind ?_ (fun _ => ?_)
    · intro y0 y1 y2 y3 y4
      unfold laws_FnCriticalChainLonger.j2
      repeat' first
      | (with_reducible exact ih0 _ _ _)
      | (with_reducible exact ih1 _ _ _ _)
      | (with_reducible exact ih2 _ _ _ _ _)
      | (with_reducible exact laws_equalInts.mono _ _ _)
      | (with_reducible exact spec_CriticalChain.mono _ _)
      | (with_reducible exact spec_DrawCriticalChain.mono _ _)
      | (with_reducible exact LeO.refl _)
      | (with_reducible exact LeO.none _)
      | (with_reducible refine LeO.ite ?_ ?_)
      | (with_reducible refine LeO.bind ?_ (fun _ => ?_))
      | exact ih0 _ _ _
      | exact ih1 _ _ _ _
      | exact ih2 _ _ _ _ _
      | exact laws_equalInts.mono _ _ _
      | exact spec_CriticalChain.mono _ _
      | exact spec_DrawCriticalChain.mono _ _
      | exact LeO.none _
      | refine LeO.ite ?_ ?_
      | refine LeO.bind ?_ (fun _ => ?_)
theorem laws_FnCriticalChainLonger.mono : ∀ a0 k, LeO (laws_FnCriticalChainLonger.f k a0) (laws_FnCriticalChainLonger.f (k + 1) a0) := by
  intro a0 k
  obtain ⟨ih0, ih1, ih2⟩ := laws_FnCriticalChainLonger.mono_l k
  unfold laws_FnCriticalChainLonger.f
  repeat' first
      | (with_reducible exact ih0 _ _ _)
      | (with_reducible exact ih1 _ _ _ _)
      | (with_reducible exact ih2 _ _ _ _ _)
      | (with_reducible exact laws_equalInts.mono _ _ _)
      | (with_reducible exact spec_CriticalChain.mono _ _)
      | (with_reducible exact spec_DrawCriticalChain.mono _ _)
      | (with_reducible exact LeO.refl _)
      | (with_reducible exact LeO.none _)
      | (with_reducible refine LeO.ite ?_ ?_)
      | (with_reducible refine LeO.bind ?_ (fun _ => ?_))
      | exact ih0 _ _ _
      | exact ih1 _ _ _ _
      | exact ih2 _ _ _ _ _
      | exact laws_equalInts.mono _ _ _
      | exact spec_CriticalChain.mono _ _
      | exact spec_DrawCriticalChain.mono _ _
      | exact LeO.none _
      | refine LeO.ite ?_ ?_
      | refine LeO.bind ?_ (fun _ => ?_)
def laws_FnCriticalChainLonger.T14 : Bool × List (List Nat × List Nat) := (true, [([], []), ([], []), ([], []), ([1, 2], [1, 2]), ([3], [3]), ([], []), ([], []), ([], []), ([6, 7], [6, 7]), ([8], [8]), ([5, 9], [5, 9]), ([10], [10]), ([11], [11]), ([12], [12]), ([0, 4, 0, 1, 2, 3, 4, 5, 6, 7, 8, 9, 10, 11, 12, 13], [0, 4]), ([14, 0, 1, 2, 3, 4, 5, 6, 7, 8, 9, 10, 11, 12, 13], [14]), ([15, 13, 0, 1, 2, 3, 4, 5, 6, 7, 8, 9, 10, 11, 12, 13], [13, 15])])
def laws_FnCriticalChainLonger.B14 : List Nat := [0, 0, 0, 6, 14, 0, 0, 0, 192, 448, 992, 2016, 4064, 8160, 16383, 32767, 65535]
theorem laws_FnCriticalChainLonger.tab14 : rtab .any (opsOf Tryd.f12 14) = laws_FnCriticalChainLonger.T14 := by kernel_rfl
theorem laws_FnCriticalChainLonger.bits14 : waitsOk laws_FnCriticalChainLonger.T14.2 laws_FnCriticalChainLonger.B14 = true := by kernel_rfl
set_option maxHeartbeats 8000000 in
set_option maxRecDepth 100000 in
theorem laws_FnCriticalChainLonger.calls (k : Nat) (A0 : Option Addr) (c0 : Nat) (l0 : List Int) (r : Bool) (w : World) (hT : Go.Proofs.YtgpnododcbkflaaDoor.H.Tab w) (hr0 : Kd.C (Kd.int .u8) w A0 l0.length l0) (hc0 : l0.length ≤ c0) (h : laws_FnCriticalChainLonger.f k l0 = some r) :
    Calls Tryd.prog 12 #[.slice A0 l0.length c0] w fun e w' => e = .returned (.bool r) ∧ Below w.heap.size w w' := by
  have HT := Aside0.mk hT
  clear hT
  have HR0 := Aside0.mk hr0
  have HC0 := Aside0.mk hc0
  clear hr0 hc0
  have HB := Aside0.mk (Below.refl w.heap.size w)
  have H : (if (l0.length : Int) > 1048576 then (some true) else ((spec_DrawCriticalChain.f k l0).bind fun t658 => ((impl_CriticalChain.f t658).bind fun t661 => ((spec_CriticalChain.f k t658).bind fun t664 => ((laws_equalInts.f k t661 t664).bind fun t667 => (if t667 = true then (laws_FnCriticalChainLonger.j0 k t658 t661 ((t661.length : Int) == 0)) else (laws_FnCriticalChainLonger.j0 k t658 t661 true))))))) = some r := h
  clear h
  by_cases c2 : (l0.length : Int) > 1048576
  · rw [if_pos c2] at H
    have c2b0 : decide (1048576 < (l0.length : Int)) = true := decide_eq_true c2
    have c2b1 : decide (1048576 < l0.length) = true := decide_eq_true (by omega)
    clear c2
    obtain rfl := Option.some.inj H
    go_enter Tryd.func12, Tryd.ntmps12
    go_wp2
    go_ret
    exact ⟨by first | rfl | (simp [errW_none, errW_some] <;> rfl) | (simp [*, errW_none, errW_some] <;> rfl), by repeat (first | (with_reducible first | exact HB.out | apply below_alloc | apply pw_below_drewN | apply below_drew1) | exact HB.out)⟩
  · rw [if_neg c2] at H
    have c2b0 : decide (1048576 < (l0.length : Int)) = false := decide_eq_false c2
    have c2b1 : decide (1048576 < l0.length) = false := decide_eq_false (by omega)
    clear c2
    replace H := Option.bind_eq_some_iff.mp H
    obtain ⟨t658, A30, H⟩ := H
    replace H : ((impl_CriticalChain.f t658).bind fun t661 => ((spec_CriticalChain.f k t658).bind fun t664 => ((laws_equalInts.f k t661 t664).bind fun t667 => (if t667 = true then (laws_FnCriticalChainLonger.j0 k t658 t661 ((t661.length : Int) == 0)) else (laws_FnCriticalChainLonger.j0 k t658 t661 true))))) = some r := H
    have A3 := Aside0.mk A30
    clear A30
    replace H := Option.bind_eq_some_iff.mp H
    obtain ⟨t661, A40, H⟩ := H
    replace H : ((spec_CriticalChain.f k t658).bind fun t664 => ((laws_equalInts.f k t661 t664).bind fun t667 => (if t667 = true then (laws_FnCriticalChainLonger.j0 k t658 t661 ((t661.length : Int) == 0)) else (laws_FnCriticalChainLonger.j0 k t658 t661 true)))) = some r := H
    have A4 := Aside0.mk A40
    clear A40
    have HC5 := Aside0.mk H
    clear H
    go_enter Tryd.func12, Tryd.ntmps12
    go_upto_region 5 with (first | ((with_reducible refine gate_callee (f := 15) rfl ?_); refine goesL_ (some 12) rfl rfl Tryd.func15 (by kernel_rfl) rfl #[.slice A0 l0.length c0] rfl (by (try simp only [List.map_toArray, List.map_cons, List.map_nil]); first | done | rfl | (simp only [List.length_drop, List.length_take]; rfl)) ?_; (with_reducible refine (spec_DrawCriticalChain.calls k _ _ l0 t658 _ ?side1 ?side2 A3.out).mono ?_); (case side1 => repeat (first | exact HR0.out | (with_reducible refine Kd.C_alloc ?_ _) | (with_reducible refine Kd.C_drewN ?_ _) | (with_reducible refine Kd.C_drew ?_))); (case side2 => exact HC0.out); rintro e w6 ⟨v659, rfl, ho0, hb⟩; refine ⟨_, rfl, ?_⟩; have n0_ := Aside0.mk (Kd.N_lower (Kd.N_mono (ok' := fun k_ => True) ho0 (fun k_ hk_ => trivial)) (below_size (by repeat (first | (with_reducible first | exact HB.out | apply below_alloc | apply pw_below_drewN | apply below_drew1) | exact HB.out)))); have n1_ := Aside0.mk (below_step (by repeat (first | (with_reducible first | exact HB.out | apply below_alloc | apply pw_below_drewN | apply below_drew1) | exact HB.out)) hb); clear HB; have HO660 := n0_; have HB := n1_; clear n0_ n1_; (try clear hb); (try clear hb2); (try clear hk); (try clear hi); (try clear ho0); obtain ⟨Ao7, co7, eo7⟩ := Kd.N_slice HO660.out; subst eo7) | ((with_reducible refine gate_callee (f := 16) rfl ?_); refine goesL_ (some 14) rfl rfl Tryd.func16 (by kernel_rfl) rfl #[.slice Ao7 t658.length co7] rfl (by (try simp only [List.map_toArray, List.map_cons, List.map_nil]); first | done | rfl | (simp only [List.length_drop, List.length_take]; rfl)) ?_; (with_reducible refine (impl_CriticalChain.calls _ _ t658 t661 _ ?side1 ?side2 ?sideT A4.out).mono ?_); (case sideT => exact (HT.out.below (by repeat (first | (with_reducible first | exact HB.out | apply below_alloc | apply pw_below_drewN | apply below_drew1) | exact HB.out)))); (case side1 => repeat (first | exact (Kd.N_reads' HO660.out).2.2 | (with_reducible refine Kd.C_alloc ?_ _) | (with_reducible refine Kd.C_drewN ?_ _) | (with_reducible refine Kd.C_drew ?_))); (case side2 => exact (Kd.N_reads' HO660.out).2.1); rintro e w8 ⟨v662, rfl, ho0, hb⟩; refine ⟨_, rfl, ?_⟩; have n0_ := Aside0.mk (Kd.N_elder' (by (with_reducible repeat (first | apply Kd.N_alloc | apply Kd.N_drewN | apply Kd.N_drew)); exact HO660.out) (Kd.R_base ho0) hb); have n1_ := Aside0.mk (Kd.R_lower ho0 (below_size (by repeat (first | (with_reducible first | exact HB.out | apply below_alloc | apply pw_below_drewN | apply below_drew1) | exact HB.out)))); have n2_ := Aside0.mk (below_step (by repeat (first | (with_reducible first | exact HB.out | apply below_alloc | apply pw_below_drewN | apply below_drew1) | exact HB.out)) hb); clear HO660; clear HB; have HO660 := n0_; have HO663 := n1_; have HB := n2_; clear n0_ n1_ n2_; (try clear hb); (try clear hb2); (try clear hk); (try clear hi); (try clear ho0)))
    (try simp only [Act.put, List.setIfInBounds_toArray, List.set_cons_zero, List.set_cons_succ])
    go_cut [24] (fun v24 wc => ∃ (kq : Nat) (x24_4 : Bool), v24 = .bool x24_4 ∧ Aside0 (laws_FnCriticalChainLonger.j0 kq t658 t661 x24_4 = some r) ∧ Aside0 (kq ≤ k) ∧ Aside0 (Kd.N k30 30 wc w.heap.size (fun k_ => some k_ ≠ (v662 : Value).ownBlock) (.slice Ao7 t658.length co7) t658) ∧ Aside0 (Kd.R (Kd.int .i64) 3 wc w.heap.size (fun _ => True) v662 t661) ∧ Aside0 (Below w.heap.size w wc))
    case first =>
      have H := HC5.out
      clear HC5
      replace H := Option.bind_eq_some_iff.mp H
      obtain ⟨t664, A90, H⟩ := H
      replace H : ((laws_equalInts.f k t661 t664).bind fun t667 => (if t667 = true then (laws_FnCriticalChainLonger.j0 k t658 t661 ((t661.length : Int) == 0)) else (laws_FnCriticalChainLonger.j0 k t658 t661 true))) = some r := H
      have A9 := Aside0.mk A90
      clear A90
      replace H := Option.bind_eq_some_iff.mp H
      obtain ⟨t667, A100, H⟩ := H
      replace H : (if t667 = true then (laws_FnCriticalChainLonger.j0 k t658 t661 ((t661.length : Int) == 0)) else (laws_FnCriticalChainLonger.j0 k t658 t661 true)) = some r := H
      have A10 := Aside0.mk A100
      clear A100
      by_cases c11 : t667 = true
      · subst c11
        have H1 : (laws_FnCriticalChainLonger.j0 k t658 t661 ((t661.length : Int) == 0)) = some r := by rw [if_pos rfl] at H; exact H
        clear H
        have H := H1
        clear H1
        have H' := Aside0.mk H
        clear H
        go_wp2_with (first | ((with_reducible refine gate_callee (f := 18) rfl ?_); refine goesL_ (some 17) rfl rfl Tryd.func18 (by kernel_rfl) rfl #[.slice Ao7 t658.length co7] rfl (by (try simp only [List.map_toArray, List.map_cons, List.map_nil]); first | done | rfl | (simp only [List.length_drop, List.length_take]; rfl)) ?_; (with_reducible refine (spec_CriticalChain.calls k _ _ t658 t664 _ ?side1 ?side2 A9.out).mono ?_); (case side1 => repeat (first | exact (Kd.N_reads' HO660.out).2.2 | (with_reducible refine Kd.C_alloc ?_ _) | (with_reducible refine Kd.C_drewN ?_ _) | (with_reducible refine Kd.C_drew ?_))); (case side2 => exact (Kd.N_reads' HO660.out).2.1); rintro e w12 ⟨v665, rfl, ho0, hb⟩; refine ⟨_, rfl, ?_⟩; have n0_ := Aside0.mk (Kd.N_elder' (by (with_reducible repeat (first | apply Kd.N_alloc | apply Kd.N_drewN | apply Kd.N_drew)); exact HO660.out) (Kd.R_base ho0) hb); have n1_ := Aside0.mk (Kd.R_elder' (by (with_reducible repeat (first | apply Kd.R_alloc | apply Kd.R_drewN | apply Kd.R_drew)); exact HO663.out) (Kd.R_base ho0) hb); have n2_ := Aside0.mk (Kd.R_lower (Kd.R_new' ho0 (Kd.R_lt (by (with_reducible repeat (first | apply Kd.R_alloc | apply Kd.R_drewN | apply Kd.R_drew)); exact HO663.out))) (below_size (by repeat (first | (with_reducible first | exact HB.out | apply below_alloc | apply pw_below_drewN | apply below_drew1) | exact HB.out)))); have n3_ := Aside0.mk (below_step (by repeat (first | (with_reducible first | exact HB.out | apply below_alloc | apply pw_below_drewN | apply below_drew1) | exact HB.out)) hb); clear HO660; clear HO663; clear HB; have HO660 := n0_; have HO663 := n1_; have HO666 := n2_; have HB := n3_; clear n0_ n1_ n2_ n3_; (try clear hb); (try clear hb2); (try clear hk); (try clear hi); (try clear ho0); obtain ⟨Ao13, co13, eo13⟩ := Kd.R_slice HO663.out; subst eo13; obtain ⟨Ao14, co14, eo14⟩ := Kd.R_slice HO666.out; subst eo14) | ((with_reducible refine gate_callee (f := 17) rfl ?_); refine goesL_ (some 18) rfl rfl Tryd.func17 (by kernel_rfl) rfl #[.slice Ao13 t661.length co13, .slice Ao14 t664.length co14] rfl (by (try simp only [List.map_toArray, List.map_cons, List.map_nil]); first | done | rfl | (simp only [List.length_drop, List.length_take]; rfl)) ?_; (with_reducible refine (laws_equalInts.calls k _ _ t661 _ _ t664 true _ ?side1 ?side2 ?side3 ?side4 A10.out).mono ?_); (case side1 => repeat (first | exact (Kd.R_reads' HO663.out).2.2 | (with_reducible refine Kd.C_alloc ?_ _) | (with_reducible refine Kd.C_drewN ?_ _) | (with_reducible refine Kd.C_drew ?_))); (case side2 => exact (Kd.R_reads' HO663.out).2.1); (case side3 => repeat (first | exact (Kd.R_reads' HO666.out).2.2 | (with_reducible refine Kd.C_alloc ?_ _) | (with_reducible refine Kd.C_drewN ?_ _) | (with_reducible refine Kd.C_drew ?_))); (case side4 => exact (Kd.R_reads' HO666.out).2.1); rintro e w' ⟨rfl, ⟨nd, rfl⟩⟩; refine ⟨_, rfl, ?_⟩))
        go_meet
        case rel => exact ⟨_, (((t661.length : Int) == 0)), (by first | rfl | (simp; done) | (simp [*]; done)), H', ⟨by first | omega | exact Nat.le_refl _⟩, ⟨by (with_reducible repeat (first | apply Kd.N_alloc | apply Kd.N_drewN | apply Kd.N_drew)); exact Kd.N_mono HO660.out (fun _ hk => hk.1.2)⟩, ⟨by (with_reducible repeat (first | apply Kd.R_alloc | apply Kd.R_drewN | apply Kd.R_drew)); exact Kd.R_mono HO663.out (fun _ hk => trivial)⟩, ⟨by repeat (first | (with_reducible first | exact HB.out | apply below_alloc | apply pw_below_drewN | apply below_drew1) | exact HB.out)⟩⟩
      · replace c11 := Bool.eq_false_iff.mpr c11
        subst c11
        have H1 : (laws_FnCriticalChainLonger.j0 k t658 t661 true) = some r := by rw [if_neg (show ¬ (false = true) by decide)] at H; exact H
        clear H
        have H := H1
        clear H1
        have H' := Aside0.mk H
        clear H
        go_wp2_with (first | ((with_reducible refine gate_callee (f := 18) rfl ?_); refine goesL_ (some 17) rfl rfl Tryd.func18 (by kernel_rfl) rfl #[.slice Ao7 t658.length co7] rfl (by (try simp only [List.map_toArray, List.map_cons, List.map_nil]); first | done | rfl | (simp only [List.length_drop, List.length_take]; rfl)) ?_; (with_reducible refine (spec_CriticalChain.calls k _ _ t658 t664 _ ?side1 ?side2 A9.out).mono ?_); (case side1 => repeat (first | exact (Kd.N_reads' HO660.out).2.2 | (with_reducible refine Kd.C_alloc ?_ _) | (with_reducible refine Kd.C_drewN ?_ _) | (with_reducible refine Kd.C_drew ?_))); (case side2 => exact (Kd.N_reads' HO660.out).2.1); rintro e w15 ⟨v665, rfl, ho0, hb⟩; refine ⟨_, rfl, ?_⟩; have n0_ := Aside0.mk (Kd.N_elder' (by (with_reducible repeat (first | apply Kd.N_alloc | apply Kd.N_drewN | apply Kd.N_drew)); exact HO660.out) (Kd.R_base ho0) hb); have n1_ := Aside0.mk (Kd.R_elder' (by (with_reducible repeat (first | apply Kd.R_alloc | apply Kd.R_drewN | apply Kd.R_drew)); exact HO663.out) (Kd.R_base ho0) hb); have n2_ := Aside0.mk (Kd.R_lower (Kd.R_new' ho0 (Kd.R_lt (by (with_reducible repeat (first | apply Kd.R_alloc | apply Kd.R_drewN | apply Kd.R_drew)); exact HO663.out))) (below_size (by repeat (first | (with_reducible first | exact HB.out | apply below_alloc | apply pw_below_drewN | apply below_drew1) | exact HB.out)))); have n3_ := Aside0.mk (below_step (by repeat (first | (with_reducible first | exact HB.out | apply below_alloc | apply pw_below_drewN | apply below_drew1) | exact HB.out)) hb); clear HO660; clear HO663; clear HB; have HO660 := n0_; have HO663 := n1_; have HO666 := n2_; have HB := n3_; clear n0_ n1_ n2_ n3_; (try clear hb); (try clear hb2); (try clear hk); (try clear hi); (try clear ho0); obtain ⟨Ao16, co16, eo16⟩ := Kd.R_slice HO663.out; subst eo16; obtain ⟨Ao17, co17, eo17⟩ := Kd.R_slice HO666.out; subst eo17) | ((with_reducible refine gate_callee (f := 17) rfl ?_); refine goesL_ (some 18) rfl rfl Tryd.func17 (by kernel_rfl) rfl #[.slice Ao16 t661.length co16, .slice Ao17 t664.length co17] rfl (by (try simp only [List.map_toArray, List.map_cons, List.map_nil]); first | done | rfl | (simp only [List.length_drop, List.length_take]; rfl)) ?_; (with_reducible refine (laws_equalInts.calls k _ _ t661 _ _ t664 false _ ?side1 ?side2 ?side3 ?side4 A10.out).mono ?_); (case side1 => repeat (first | exact (Kd.R_reads' HO663.out).2.2 | (with_reducible refine Kd.C_alloc ?_ _) | (with_reducible refine Kd.C_drewN ?_ _) | (with_reducible refine Kd.C_drew ?_))); (case side2 => exact (Kd.R_reads' HO663.out).2.1); (case side3 => repeat (first | exact (Kd.R_reads' HO666.out).2.2 | (with_reducible refine Kd.C_alloc ?_ _) | (with_reducible refine Kd.C_drewN ?_ _) | (with_reducible refine Kd.C_drew ?_))); (case side4 => exact (Kd.R_reads' HO666.out).2.1); rintro e w' ⟨rfl, ⟨nd, rfl⟩⟩; refine ⟨_, rfl, ?_⟩))
        go_meet
        case rel => exact ⟨_, (true), (by first | rfl | (simp; done) | (simp [*]; done)), H', ⟨by first | omega | exact Nat.le_refl _⟩, ⟨by (with_reducible repeat (first | apply Kd.N_alloc | apply Kd.N_drewN | apply Kd.N_drew)); exact Kd.N_mono HO660.out (fun _ hk => hk.1.2)⟩, ⟨by (with_reducible repeat (first | apply Kd.R_alloc | apply Kd.R_drewN | apply Kd.R_drew)); exact Kd.R_mono HO663.out (fun _ hk => trivial)⟩, ⟨by repeat (first | (with_reducible first | exact HB.out | apply below_alloc | apply pw_below_drewN | apply below_drew1) | exact HB.out)⟩⟩
    case rest =>
      clear HC5
      try clear c1
      try clear c2
      try clear c2b0
      try clear c2b1
      try clear p2
      try clear c11
      try clear c12
      try clear c15
      try clear c16
      try clear c17
      obtain ⟨kq, x24_4, rfl, HA, HJ4, HO_3, HO_4, HB⟩ := hcut
      cases kq with
      | zero => exact absurd HA.out (by simp [laws_FnCriticalChainLonger.j0])
      | succ kj4 =>
        have H := HA.out
        clear HA
        simp only [laws_FnCriticalChainLonger.j0] at H
        by_cases c18 : x24_4 = true
        · subst c18
          have H1 : ((spec_CriticalChain.f kj4 t658).bind fun t668 => ((laws_equalInts.f kj4 t661 t668).bind fun t671 => (some t671))) = some r := by rw [if_pos rfl] at H; exact H
          clear H
          have H := H1
          clear H1
          replace H := Option.bind_eq_some_iff.mp H
          obtain ⟨t668, A190, H⟩ := H
          replace H : ((laws_equalInts.f kj4 t661 t668).bind fun t671 => (some t671)) = some r := H
          have A19 := Aside0.mk A190
          clear A190
          replace H := Option.bind_eq_some_iff.mp H
          obtain ⟨t671, A200, H⟩ := H
          replace H : (some t671) = some r := H
          have A20 := Aside0.mk A200
          clear A200
          obtain rfl := Option.some.inj H
          go_wp2_with (first | ((with_reducible refine gate_callee (f := 18) rfl ?_); refine goesL_ (some 27) rfl rfl Tryd.func18 (by kernel_rfl) rfl #[.slice Ao7 t658.length co7] rfl (by (try simp only [List.map_toArray, List.map_cons, List.map_nil]); first | done | rfl | (simp only [List.length_drop, List.length_take]; rfl)) ?_; (with_reducible refine (spec_CriticalChain.calls kj4 _ _ t658 t668 _ ?side1 ?side2 A19.out).mono ?_); (case side1 => repeat (first | exact (Kd.N_reads' HO_3.out).2.2 | (with_reducible refine Kd.C_alloc ?_ _) | (with_reducible refine Kd.C_drewN ?_ _) | (with_reducible refine Kd.C_drew ?_))); (case side2 => exact (Kd.N_reads' HO_3.out).2.1); rintro e w21 ⟨v669, rfl, ho0, hb⟩; refine ⟨_, rfl, ?_⟩; have n0_ := Aside0.mk (Kd.N_elder' (by (with_reducible repeat (first | apply Kd.N_alloc | apply Kd.N_drewN | apply Kd.N_drew)); exact HO_3.out) (Kd.R_base ho0) hb); have n1_ := Aside0.mk (Kd.R_elder' (by (with_reducible repeat (first | apply Kd.R_alloc | apply Kd.R_drewN | apply Kd.R_drew)); exact HO_4.out) (Kd.R_base ho0) hb); have n2_ := Aside0.mk (Kd.R_lower (Kd.R_new' ho0 (Kd.R_lt (by (with_reducible repeat (first | apply Kd.R_alloc | apply Kd.R_drewN | apply Kd.R_drew)); exact HO_4.out))) (below_size (by repeat (first | (with_reducible first | exact HB.out | apply below_alloc | apply pw_below_drewN | apply below_drew1) | exact HB.out)))); have n3_ := Aside0.mk (below_step (by repeat (first | (with_reducible first | exact HB.out | apply below_alloc | apply pw_below_drewN | apply below_drew1) | exact HB.out)) hb); clear HO_3; clear HO_4; clear HB; have HO_3 := n0_; have HO_4 := n1_; have HO670 := n2_; have HB := n3_; clear n0_ n1_ n2_ n3_; (try clear hb); (try clear hb2); (try clear hk); (try clear hi); (try clear ho0); obtain ⟨Ao22, co22, eo22⟩ := Kd.R_slice HO_4.out; subst eo22; obtain ⟨Ao23, co23, eo23⟩ := Kd.R_slice HO670.out; subst eo23) | ((with_reducible refine gate_callee (f := 17) rfl ?_); refine goesL_ (some 28) rfl rfl Tryd.func17 (by kernel_rfl) rfl #[.slice Ao22 t661.length co22, .slice Ao23 t668.length co23] rfl (by (try simp only [List.map_toArray, List.map_cons, List.map_nil]); first | done | rfl | (simp only [List.length_drop, List.length_take]; rfl)) ?_; (with_reducible refine (laws_equalInts.calls kj4 _ _ t661 _ _ t668 t671 _ ?side1 ?side2 ?side3 ?side4 A20.out).mono ?_); (case side1 => repeat (first | exact (Kd.R_reads' HO_4.out).2.2 | (with_reducible refine Kd.C_alloc ?_ _) | (with_reducible refine Kd.C_drewN ?_ _) | (with_reducible refine Kd.C_drew ?_))); (case side2 => exact (Kd.R_reads' HO_4.out).2.1); (case side3 => repeat (first | exact (Kd.R_reads' HO670.out).2.2 | (with_reducible refine Kd.C_alloc ?_ _) | (with_reducible refine Kd.C_drewN ?_ _) | (with_reducible refine Kd.C_drew ?_))); (case side4 => exact (Kd.R_reads' HO670.out).2.1); rintro e w' ⟨rfl, ⟨nd, rfl⟩⟩; refine ⟨_, rfl, ?_⟩))
          go_ret
          exact ⟨by first | rfl | (simp [errW_none, errW_some] <;> rfl) | (simp [*, errW_none, errW_some] <;> rfl), by repeat (first | (with_reducible first | exact HB.out | apply below_alloc | apply pw_below_drewN | apply below_drew1) | exact HB.out)⟩
        · replace c18 := Bool.eq_false_iff.mpr c18
          subst c18
          have H1 : ((impl_LongestTime.f t658).bind fun t672 => (laws_FnCriticalChainLonger.l0 kj4 t658 t661 t672 0)) = some r := by rw [if_neg (show ¬ (false = true) by decide)] at H; exact H
          clear H
          have H := H1
          clear H1
          replace H := Option.bind_eq_some_iff.mp H
          obtain ⟨t672, A240, H⟩ := H
          replace H : (laws_FnCriticalChainLonger.l0 kj4 t658 t661 t672 0) = some r := H
          have A24 := Aside0.mk A240
          clear A240
          have H' := Aside0.mk H
          clear H
          go_wp2_with (first | ((with_reducible refine gate_callee (f := 33) rfl ?_); refine goesL_ (some 30) rfl rfl Tryd.func33 (by kernel_rfl) rfl #[.slice Ao7 t658.length co7] rfl (by (try simp only [List.map_toArray, List.map_cons, List.map_nil]); first | done | rfl | (simp only [List.length_drop, List.length_take]; rfl)) ?_; (with_reducible refine (impl_LongestTime.calls _ _ t658 t672 _ ?side1 ?side2 ?sideT A24.out).mono ?_); (case sideT => exact (HT.out.below (by repeat (first | (with_reducible first | exact HB.out | apply below_alloc | apply pw_below_drewN | apply below_drew1) | exact HB.out)))); (case side1 => repeat (first | exact (Kd.N_reads' HO_3.out).2.2 | (with_reducible refine Kd.C_alloc ?_ _) | (with_reducible refine Kd.C_drewN ?_ _) | (with_reducible refine Kd.C_drew ?_))); (case side2 => exact (Kd.N_reads' HO_3.out).2.1); rintro e w25 ⟨rfl, hb⟩; refine ⟨_, rfl, ?_⟩; have n0_ := Aside0.mk (Kd.N_below (by (with_reducible repeat (first | apply Kd.N_alloc | apply Kd.N_drewN | apply Kd.N_drew)); exact HO_3.out) hb); have n1_ := Aside0.mk (Kd.R_below (by (with_reducible repeat (first | apply Kd.R_alloc | apply Kd.R_drewN | apply Kd.R_drew)); exact HO_4.out) hb); have n2_ := Aside0.mk (below_step (by repeat (first | (with_reducible first | exact HB.out | apply below_alloc | apply pw_below_drewN | apply below_drew1) | exact HB.out)) hb); clear HO_3; clear HO_4; clear HB; have HO_3 := n0_; have HO_4 := n1_; have HB := n2_; clear n0_ n1_ n2_; (try clear hb); (try clear hb2); (try clear hk); (try clear hi)))
          go_loopg [6] kj4 (fun kq v6 w' => ∃ (x3_2 : List (S30)) (x6_2 : Int), v6 = .int .i64 x6_2 ∧ Aside0 (laws_FnCriticalChainLonger.l0 kq x3_2 t661 t672 x6_2 = some r) ∧ Aside0 (kq ≤ kj4) ∧ Aside0 (Kd.N k30 30 w' w.heap.size (fun k_ => some k_ ≠ (v662 : Value).ownBlock) (.slice Ao7 t658.length co7) x3_2) ∧ Aside0 (Kd.R (Kd.int .i64) 3 w' w.heap.size (fun _ => True) v662 t661) ∧ Aside0 (Below w.heap.size w w'))
          case atStart => exact ⟨(t658), (0), (by first | rfl | (simp; done) | (simp [*]; done)), H', ⟨Nat.le_refl _⟩, ⟨by (with_reducible repeat (first | apply Kd.N_alloc | apply Kd.N_drewN | apply Kd.N_drew)); exact HO_3.out⟩, ⟨by (with_reducible repeat (first | apply Kd.R_alloc | apply Kd.R_drewN | apply Kd.R_drew)); exact HO_4.out⟩, ⟨by repeat (first | (with_reducible first | exact HB.out | apply below_alloc | apply pw_below_drewN | apply below_drew1) | exact HB.out)⟩⟩
          case round =>
            clear H'
            try clear c1
            try clear c2
            try clear c2b0
            try clear c2b1
            try clear p2
            try clear c3
            try clear c11
            try clear c12
            try clear c15
            try clear c16
            try clear c17
            try clear c18
            try clear p2
            obtain ⟨x3_2, x6_2, rfl, HA, HK2, HO_3, HO_4, HB⟩ := hrel
            have hl3_2 := (Kd.N_reads' HO_3.out).1
            rw [hl3_2] at HO_3
            (try simp only [hl3_2])
            (try simp only [hl3_2] at HO_4)
            cases gk with
            | zero => exact absurd HA.out (by simp [laws_FnCriticalChainLonger.l0])
            | succ k2 =>
              have H := HA.out
              clear HA
              simp only [laws_FnCriticalChainLonger.l0] at H
              by_cases c26 : x6_2 < (t661.length : Int)
              · rw [if_pos c26] at H
                have c26b0 : decide (x6_2 < (t661.length : Int)) = true := decide_eq_true c26
                clear c26
                have HC27 := Aside0.mk H
                clear H
                obtain ⟨Ao28, co28, eo28⟩ := Kd.R_slice HO_4.out
                subst eo28
                go_upto_region 11 with (fail)
                go_cut [50] (fun v50 wc => ∃ (kq : Nat) (x50_26 : Bool), v50 = .bool x50_26 ∧ Aside0 (laws_FnCriticalChainLonger.j2 kq x3_2 t661 t672 x6_2 x50_26 = some r) ∧ Aside0 (kq ≤ k2) ∧ Aside0 (Kd.N k30 30 wc w.heap.size (fun k_ => some k_ ≠ ((.slice Ao28 t661.length co28) : Value).ownBlock) (.slice Ao7 x3_2.length co7) x3_2) ∧ Aside0 (Kd.R (Kd.int .i64) 3 wc w.heap.size (fun _ => True) (.slice Ao28 t661.length co28) t661) ∧ Aside0 (Below w.heap.size w wc))
                case first =>
                  have H := HC27.out
                  clear HC27
                  by_cases c29 : 0 ≤ x6_2
                  · rw [if_pos c29] at H
                    have c29b0 : decide (0 ≤ x6_2) = true := decide_eq_true c29
                    clear c29
                    (first | rw [c29b0] | (simp only [i64_w, i32_w]; rw [c29b0]) | skip)
                    by_cases c30 : (rd t661 x6_2) < 0
                    · rw [if_pos c30] at H
                      have c30b0 : decide ((rd t661 x6_2) < 0) = true := decide_eq_true c30
                      clear c30
                      have H' := Aside0.mk H
                      clear H
                      have p673 : 0 ≤ (x6_2 : Int) := of_decide_eq_true (by first | (with_reducible assumption) | assumption)
                      have q673 : x6_2 < (t661.length : Int) := of_decide_eq_true (by first | (with_reducible assumption) | assumption)
                      obtain ⟨ad673, e673, hx673_0⟩ := Kd.at_int (Kd.R_reads' HO_4.out).2.2 x6_2 p673 q673
                      cases e673
                      replace p673 := eq_true p673
                      replace q673 := eq_true q673
                      go_wp2
                      go_meet
                      case rel => exact ⟨_, (true), (by first | rfl | (simp; done) | (simp [*]; done)), H', ⟨by have := HJ4.out; have := HK2.out; first | omega | exact Nat.le_refl _⟩, ⟨by (try simp only [hl3_2]); (with_reducible repeat (first | apply Kd.N_alloc | apply Kd.N_drewN | apply Kd.N_drew)); exact HO_3.out⟩, ⟨by (try simp only [hl3_2]); (with_reducible repeat (first | apply Kd.R_alloc | apply Kd.R_drewN | apply Kd.R_drew)); exact HO_4.out⟩, ⟨by repeat (first | (with_reducible first | exact HB.out | apply below_alloc | apply pw_below_drewN | apply below_drew1) | exact HB.out)⟩⟩
                    · rw [if_neg c30] at H
                      have c30b0 : decide ((rd t661 x6_2) < 0) = false := decide_eq_false c30
                      clear c30
                      have H' := Aside0.mk H
                      clear H
                      have p673 : 0 ≤ (x6_2 : Int) := of_decide_eq_true (by first | (with_reducible assumption) | assumption)
                      have q673 : x6_2 < (t661.length : Int) := of_decide_eq_true (by first | (with_reducible assumption) | assumption)
                      obtain ⟨ad673, e673, hx673_0⟩ := Kd.at_int (Kd.R_reads' HO_4.out).2.2 x6_2 p673 q673
                      cases e673
                      replace p673 := eq_true p673
                      replace q673 := eq_true q673
                      have p674 : 0 ≤ (x6_2 : Int) := of_decide_eq_true (by first | (with_reducible assumption) | assumption)
                      have q674 : x6_2 < (t661.length : Int) := of_decide_eq_true (by first | (with_reducible assumption) | assumption)
                      obtain ⟨ad674, e674, hx674_0⟩ := Kd.at_int (Kd.R_reads' HO_4.out).2.2 x6_2 p674 q674
                      obtain rfl : ad673 = ad674 := (by injection e674)
                      replace p674 := eq_true p674
                      replace q674 := eq_true q674
                      go_wp2
                      go_meet
                      case rel => exact ⟨_, (decide ((rd t661 x6_2) ≥ (x3_2.length : Int))), (by first | rfl | (simp; done) | (simp [*]; done)), H', ⟨by have := HJ4.out; have := HK2.out; first | omega | exact Nat.le_refl _⟩, ⟨by (try simp only [hl3_2]); (with_reducible repeat (first | apply Kd.N_alloc | apply Kd.N_drewN | apply Kd.N_drew)); exact HO_3.out⟩, ⟨by (try simp only [hl3_2]); (with_reducible repeat (first | apply Kd.R_alloc | apply Kd.R_drewN | apply Kd.R_drew)); exact HO_4.out⟩, ⟨by repeat (first | (with_reducible first | exact HB.out | apply below_alloc | apply pw_below_drewN | apply below_drew1) | exact HB.out)⟩⟩
                  · rw [if_neg c29] at H
                    exact absurd H (by simp)
                case rest =>
                  clear HC27
                  try clear c1
                  try clear c2
                  try clear c2b0
                  try clear c2b1
                  try clear p2
                  try clear c3
                  try clear p6
                  try clear q6
                  try clear hx6
                  try clear c11
                  try clear c12
                  try clear c15
                  try clear c16
                  try clear c17
                  try clear c18
                  try clear c26
                  try clear c26b0
                  try clear c29
                  try clear c29b0
                  try clear c30
                  try clear c30b0
                  try clear hx673_0
                  try clear hx674_0
                  try clear p2
                  try clear p673
                  try clear p674
                  try clear q673
                  try clear q674
                  obtain ⟨kq, x50_26, rfl, HA, HJ26, HO_3, HO_4, HB⟩ := hcut
                  cases kq with
                  | zero => exact absurd HA.out (by simp [laws_FnCriticalChainLonger.j2])
                  | succ kj26 =>
                    have H := HA.out
                    clear HA
                    simp only [laws_FnCriticalChainLonger.j2] at H
                    by_cases c31 : x50_26 = true
                    · subst c31
                      have H1 : (some false) = some r := by rw [if_pos rfl] at H; exact H
                      clear H
                      have H := H1
                      clear H1
                      obtain rfl := Option.some.inj H
                      go_wp2
                      go_ret
                      exact ⟨by first | rfl | (simp [errW_none, errW_some] <;> rfl) | (simp [*, errW_none, errW_some] <;> rfl), by repeat (first | (with_reducible first | exact HB.out | apply below_alloc | apply pw_below_drewN | apply below_drew1) | exact HB.out)⟩
                    · replace c31 := Bool.eq_false_iff.mpr c31
                      subst c31
                      have H1 : ((some (([] : List (S30)) : List (S30))).bind fun y675 => (if y675.length + x3_2.length < 2932031007402 then ((some (y675 ++ x3_2 : List (S30))).bind fun y678 => (if 0 ≤ x6_2 then (if x6_2 < (t661.length : Int) then (if 0 ≤ (rd t661 x6_2) then (if (rd t661 x6_2) < (y678.length : Int) then ((some (y678.set ((rd t661 x6_2) : Int).toNat (⟨wrap64 (((rd_T30 y678 (rd t661 x6_2)).f0) + 1), (rd_T30 y678 (rd t661 x6_2)).f1, (rd_T30 y678 (rd t661 x6_2)).f2, (rd_T30 y678 (rd t661 x6_2)).f3⟩ : S30) : List (S30))).bind fun y684 => ((impl_ValidGraph.f y684).bind fun t685 => (if t685 = true then ((impl_LongestTime.f y684).bind fun t686 => (if t686 = (wrap64 (t672 + 1)) then (laws_FnCriticalChainLonger.l0 kj26 x3_2 t661 t672 (wrap64 (x6_2 + 1))) else (some false))) else (laws_FnCriticalChainLonger.l0 kj26 x3_2 t661 t672 (wrap64 (x6_2 + 1)))))) else (none)) else (none)) else (none)) else (none))) else (none))) = some r := by rw [if_neg (show ¬ (false = true) by decide)] at H; exact H
                      clear H
                      have H := H1
                      clear H1
                      obtain ⟨y675, hy675⟩ : ∃ y_ : List (S30), y_ = (([] : List (S30))) := ⟨_, rfl⟩
                      replace H : (if y675.length + x3_2.length < 2932031007402 then ((some (y675 ++ x3_2 : List (S30))).bind fun y678 => (if 0 ≤ x6_2 then (if x6_2 < (t661.length : Int) then (if 0 ≤ (rd t661 x6_2) then (if (rd t661 x6_2) < (y678.length : Int) then ((some (y678.set ((rd t661 x6_2) : Int).toNat (⟨wrap64 (((rd_T30 y678 (rd t661 x6_2)).f0) + 1), (rd_T30 y678 (rd t661 x6_2)).f1, (rd_T30 y678 (rd t661 x6_2)).f2, (rd_T30 y678 (rd t661 x6_2)).f3⟩ : S30) : List (S30))).bind fun y684 => ((impl_ValidGraph.f y684).bind fun t685 => (if t685 = true then ((impl_LongestTime.f y684).bind fun t686 => (if t686 = (wrap64 (t672 + 1)) then (laws_FnCriticalChainLonger.l0 kj26 x3_2 t661 t672 (wrap64 (x6_2 + 1))) else (some false))) else (laws_FnCriticalChainLonger.l0 kj26 x3_2 t661 t672 (wrap64 (x6_2 + 1)))))) else (none)) else (none)) else (none)) else (none))) else (none)) = some r := by first | (rw [hy675]; with_reducible exact H) | (have H2_ := (Option.bind_some _ _).symm.trans H; rw [hy675]; with_reducible exact H2_) | (have H2_ := (Option.bind_some _ _).symm.trans H; with_reducible exact H2_) | with_reducible exact H | (rw [hy675]; exact H) | exact H
                      have Ny675 := Aside0.mk hy675
                      clear hy675
                      by_cases c32 : y675.length + x3_2.length < 2932031007402
                      · rw [if_pos c32] at H
                        have LMc32 := Aside0.mk c32
                        clear c32
                        obtain ⟨y678, hy678⟩ : ∃ y_ : List (S30), y_ = (y675 ++ x3_2) := ⟨_, rfl⟩
                        replace H : (if 0 ≤ x6_2 then (if x6_2 < (t661.length : Int) then (if 0 ≤ (rd t661 x6_2) then (if (rd t661 x6_2) < (y678.length : Int) then ((some (y678.set ((rd t661 x6_2) : Int).toNat (⟨wrap64 (((rd_T30 y678 (rd t661 x6_2)).f0) + 1), (rd_T30 y678 (rd t661 x6_2)).f1, (rd_T30 y678 (rd t661 x6_2)).f2, (rd_T30 y678 (rd t661 x6_2)).f3⟩ : S30) : List (S30))).bind fun y684 => ((impl_ValidGraph.f y684).bind fun t685 => (if t685 = true then ((impl_LongestTime.f y684).bind fun t686 => (if t686 = (wrap64 (t672 + 1)) then (laws_FnCriticalChainLonger.l0 kj26 x3_2 t661 t672 (wrap64 (x6_2 + 1))) else (some false))) else (laws_FnCriticalChainLonger.l0 kj26 x3_2 t661 t672 (wrap64 (x6_2 + 1)))))) else (none)) else (none)) else (none)) else (none)) = some r := by first | (rw [hy678]; with_reducible exact H) | (have H2_ := (Option.bind_some _ _).symm.trans H; rw [hy678]; with_reducible exact H2_) | (have H2_ := (Option.bind_some _ _).symm.trans H; with_reducible exact H2_) | with_reducible exact H | (rw [hy678]; exact H) | exact H
                        have Ny678 := Aside0.mk hy678
                        clear hy678
                        by_cases c33 : 0 ≤ x6_2
                        · rw [if_pos c33] at H
                          have c33b0 : decide (0 ≤ x6_2) = true := decide_eq_true c33
                          clear c33
                          by_cases c34 : x6_2 < (t661.length : Int)
                          · rw [if_pos c34] at H
                            have c34b0 : decide (x6_2 < (t661.length : Int)) = true := decide_eq_true c34
                            clear c34
                            by_cases c35 : 0 ≤ (rd t661 x6_2)
                            · rw [if_pos c35] at H
                              have c35b0 : decide (0 ≤ (rd t661 x6_2)) = true := decide_eq_true c35
                              clear c35
                              by_cases c36 : (rd t661 x6_2) < (y678.length : Int)
                              · rw [if_pos c36] at H
                                have c36b0 : decide ((rd t661 x6_2) < (y678.length : Int)) = true := decide_eq_true c36
                                clear c36
                                obtain ⟨y684, hy684⟩ : ∃ y_ : List (S30), y_ = (y678.set ((rd t661 x6_2) : Int).toNat (⟨wrap64 (((rd_T30 y678 (rd t661 x6_2)).f0) + 1), (rd_T30 y678 (rd t661 x6_2)).f1, (rd_T30 y678 (rd t661 x6_2)).f2, (rd_T30 y678 (rd t661 x6_2)).f3⟩ : S30)) := ⟨_, rfl⟩
                                replace H : ((impl_ValidGraph.f y684).bind fun t685 => (if t685 = true then ((impl_LongestTime.f y684).bind fun t686 => (if t686 = (wrap64 (t672 + 1)) then (laws_FnCriticalChainLonger.l0 kj26 x3_2 t661 t672 (wrap64 (x6_2 + 1))) else (some false))) else (laws_FnCriticalChainLonger.l0 kj26 x3_2 t661 t672 (wrap64 (x6_2 + 1))))) = some r := by first | (rw [hy684]; with_reducible exact H) | (have H2_ := (Option.bind_some _ _).symm.trans H; rw [hy684]; with_reducible exact H2_) | (have H2_ := (Option.bind_some _ _).symm.trans H; with_reducible exact H2_) | with_reducible exact H | (rw [hy684]; exact H) | exact H
                                have Ny684 := Aside0.mk hy684
                                clear hy684
                                replace H := Option.bind_eq_some_iff.mp H
                                obtain ⟨t685, A380, H⟩ := H
                                replace H : (if t685 = true then ((impl_LongestTime.f y684).bind fun t686 => (if t686 = (wrap64 (t672 + 1)) then (laws_FnCriticalChainLonger.l0 kj26 x3_2 t661 t672 (wrap64 (x6_2 + 1))) else (some false))) else (laws_FnCriticalChainLonger.l0 kj26 x3_2 t661 t672 (wrap64 (x6_2 + 1)))) = some r := H
                                have A38 := Aside0.mk A380
                                clear A380
                                by_cases c39 : t685 = true
                                · subst c39
                                  have H1 : ((impl_LongestTime.f y684).bind fun t686 => (if t686 = (wrap64 (t672 + 1)) then (laws_FnCriticalChainLonger.l0 kj26 x3_2 t661 t672 (wrap64 (x6_2 + 1))) else (some false))) = some r := by rw [if_pos rfl] at H; exact H
                                  clear H
                                  have H := H1
                                  clear H1
                                  replace H := Option.bind_eq_some_iff.mp H
                                  obtain ⟨t686, A400, H⟩ := H
                                  replace H : (if t686 = (wrap64 (t672 + 1)) then (laws_FnCriticalChainLonger.l0 kj26 x3_2 t661 t672 (wrap64 (x6_2 + 1))) else (some false)) = some r := H
                                  have A40 := Aside0.mk A400
                                  clear A400
                                  by_cases c41 : t686 = (wrap64 (t672 + 1))
                                  · rw [if_pos c41] at H
                                    have c41b0 : (t686 == (wrap64 (t672 + 1))) = true := beq_iff_eq.mpr c41
                                    have c41b1 : (t686 != (wrap64 (t672 + 1))) = false := bne_eq_false_iff_eq.mpr c41
                                    clear c41
                                    have H' := Aside0.mk H
                                    clear H
                                    try go_wp2_with (first | ((with_reducible refine gate_dst (N := 51) rfl ?_); (try (refine gate_guard (by rfl) ?_; dsimp only)); refine Kd.N_lit k30 _ 30 ?hg (N' := 51) ?hd (xs := ([] : List (S30))) (inner := []) (ok := (fun k_ => some k_ ≠ (.slice Ao7 x3_2.length co7 : Value).ownBlock ∧ some k_ ≠ (.slice Ao28 t661.length co28 : Value).ownBlock)) (okp := (fun k_ => some k_ ≠ (.slice Ao7 x3_2.length co7 : Value).ownBlock ∧ some k_ ≠ (.slice Ao28 t661.length co28 : Value).ownBlock)) ?hr ?hp (fun _ hk => hk) ((show ∀ k_, wc.heap.size ≤ k_ → (fun k_ => some k_ ≠ (.slice Ao7 x3_2.length co7 : Value).ownBlock ∧ some k_ ≠ (.slice Ao28 t661.length co28 : Value).ownBlock) k_ from fun k_ hk => ⟨Kd.fresh' (Kd.N_lt (by (with_reducible repeat (first | apply Kd.N_alloc | apply Kd.N_drewN | apply Kd.N_drew)); exact HO_3.out)) k_ hk, Kd.fresh' (Kd.R_lt (by (with_reducible repeat (first | apply Kd.R_alloc | apply Kd.R_drewN | apply Kd.R_drew)); exact HO_4.out)) k_ hk⟩) _ (Nat.le_refl _)) (Below.refl _ _) (Nat.le_refl _) (by simp) ?_; (case hd => rfl); (case hg => rfl); (case hr => first | (go_simp; done) | (go_simp; rfl)); (case hp => exact (Reps.none _ _)); intro v676 w42 ho43 hb hg_ hnew_; clear hg_ hnew_; (first | rw [← Ny675.out] at ho43 | (simp only [Int.reduceToNat] at ho43; rw [← Ny675.out] at ho43)); have n0_ := Aside0.mk (Kd.N_elder' (by (with_reducible repeat (first | apply Kd.N_alloc | apply Kd.N_drewN | apply Kd.N_drew)); exact HO_3.out) (Kd.N_base ho43) hb); have n1_ := Aside0.mk (Kd.R_below (by (with_reducible repeat (first | apply Kd.R_alloc | apply Kd.R_drewN | apply Kd.R_drew)); exact HO_4.out) hb); have n2_ := Aside0.mk (Kd.N_lower ho43 (below_size (by repeat (first | (with_reducible first | exact HB.out | apply below_alloc | apply pw_below_drewN | apply below_drew1) | exact HB.out)))); have n3_ := Aside0.mk (below_step (by repeat (first | (with_reducible first | exact HB.out | apply below_alloc | apply pw_below_drewN | apply below_drew1) | exact HB.out)) hb); clear HO_3; clear HO_4; clear HB; have HO_3 := n0_; have HO_4 := n1_; have HO677 := n2_; have HB := n3_; clear n0_ n1_ n2_ n3_; clear hb ho43) | ((with_reducible refine gate_builtin (b := .append) (xs := #[.tmp 51, .tmp 52]) rfl ?_); (try (refine gate_guard (by rfl) ?_; dsimp only)); at_builtin; refine Kd.N_append_rows k30 (w0 := w) w.heap.size rfl (.tmp 51) (.tmp 52) 23 30 (.agg #[(.int .i64 0), (.slice none 0 0), (.int .i64 0), (.int .i64 0)]) 48 rfl Tryd.underlying23 info30 rfl (by decide) (by omega) v676 y675 x3_2 _ _ _ (fun k_ => some k_ ≠ (.slice Ao28 t661.length co28 : Value).ownBlock) (fun k_ => ((fun k_ => some k_ ≠ (.slice Ao28 t661.length co28 : Value).ownBlock)) k_ ∧ some k_ ≠ (v676 : Value).ownBlock) rfl rfl ?aO ?aR (fun _ hk => hk) ?aF ?aB ?aS ?aL ?_; (case aR => exact (by skip; exact Kd.N_F (Kd.N_mono (ok' := (fun k_ => ((fun k_ => some k_ ≠ (.slice Ao28 t661.length co28 : Value).ownBlock)) k_ ∧ some k_ ≠ (v676 : Value).ownBlock)) (HO_3.out) (fun k_ hk => ⟨hk.1, hk.2⟩)))); (case aB => exact (by repeat (first | (with_reducible first | exact HB.out | apply below_alloc | apply pw_below_drewN | apply below_drew1) | exact HB.out))); (case aF => exact (fun k_ hk => Kd.fresh' (Kd.R_lt (by (with_reducible repeat (first | apply Kd.R_alloc | apply Kd.R_drewN | apply Kd.R_drew)); exact HO_4.out)) k_ hk)); (case aO => exact (by (with_reducible repeat (first | apply Kd.N_alloc | apply Kd.N_drewN | apply Kd.N_drew)); exact Kd.N_mono HO677.out (fun _ hk => hk.2))); (case aS => exact (below_size (by repeat (first | (with_reducible first | exact HB.out | apply below_alloc | apply pw_below_drewN | apply below_drew1) | exact HB.out)))); (case aL => have := LMc32.out; omega); intro v679 w44 ho hb hg hat; rw [← Ny678.out] at ho; have n0_ := Aside0.mk (Kd.N_afterv (ok := (fun k_ => some k_ ≠ (.slice Ao28 t661.length co28 : Value).ownBlock)) (by (with_reducible repeat (first | apply Kd.N_alloc | apply Kd.N_drewN | apply Kd.N_drew)); exact HO_3.out) hg hat); have n1_ := Aside0.mk (Kd.R_over' (by (with_reducible repeat (first | apply Kd.R_alloc | apply Kd.R_drewN | apply Kd.R_drew)); exact HO_4.out) (Kd.N_typed (by (with_reducible repeat (first | apply Kd.N_alloc | apply Kd.N_drewN | apply Kd.N_drew)); exact HO677.out)) (by decide) hg); have n2_ := Aside0.mk (hb); have n3_ := Aside0.mk (ho); clear HO_3; clear HO_4; clear HB; clear HO677; have HO_3 := n0_; have HO_4 := n1_; have HB := n2_; have HO680 := n3_; clear n0_ n1_ n2_ n3_; clear ho hb hg hat))
                                    have n0_ := Aside0.mk (Kd.N_drew HO_3.out)
                                    have n1_ := Aside0.mk (Kd.R_drew HO_4.out)
                                    have n2_ := Aside0.mk (Kd.N_drew HO680.out)
                                    have n3_ := Aside0.mk (below_drew1 HB.out)
                                    clear HO_3
                                    clear HO_4
                                    clear HO680
                                    clear HB
                                    have HO_3 := n0_
                                    have HO_4 := n1_
                                    have HO680 := n2_
                                    have HB := n3_
                                    clear n0_ n1_ n2_ n3_
                                    have p681 : 0 ≤ (x6_2 : Int) := of_decide_eq_true (by first | (with_reducible assumption) | assumption)
                                    have q681 : x6_2 < (t661.length : Int) := of_decide_eq_true (by first | (with_reducible assumption) | assumption)
                                    obtain ⟨ad681, e681, hx681_0⟩ := Kd.at_int (Kd.R_reads' HO_4.out).2.2 x6_2 p681 q681
                                    cases e681
                                    replace p681 := eq_true p681
                                    replace q681 := eq_true q681
                                    have p682 : 0 ≤ (x6_2 : Int) := of_decide_eq_true (by first | (with_reducible assumption) | assumption)
                                    have q682 : x6_2 < (t661.length : Int) := of_decide_eq_true (by first | (with_reducible assumption) | assumption)
                                    obtain ⟨ad682, e682, hx682_0⟩ := Kd.at_int (Kd.R_reads' HO_4.out).2.2 x6_2 p682 q682
                                    obtain rfl : ad681 = ad682 := (by injection e682)
                                    replace p682 := eq_true p682
                                    replace q682 := eq_true q682
                                    obtain ⟨Ao46, co46, eo46⟩ := Kd.N_slice HO680.out
                                    (first | subst eo46 | (injection eo46 with f1_ f2_ f3_; have f4_ := f1_.symm; have f5_ := f3_.symm; clear f1_ f2_ f3_; subst f4_; subst f5_))
                                    have p683 : 0 ≤ ((rd t661 x6_2) : Int) := of_decide_eq_true (by first | (with_reducible assumption) | assumption)
                                    have q683 : (rd t661 x6_2) < (y678.length : Int) := of_decide_eq_true (by first | (with_reducible assumption) | assumption)
                                    obtain ⟨ad683, A683_1, c683_1, e683, hx683_0, hx683_1, hx683_2, hx683_3, hl683_1, hi683_1⟩ := at_T30 (Kd.N_reads' HO680.out).2.2 (rd t661 x6_2) p683 q683
                                    cases e683
                                    obtain ⟨ce683, hce683, hMe683, hcc683⟩ := Kd.N_get HO680.out z30 (rd t661 x6_2) p683 (by first | exact q683 | exact of_decide_eq_true (by first | (with_reducible assumption) | assumption) | (have e_ := (Kd.N_reads' HO680.out).1; omega))
                                    obtain ⟨ua683_1, uc683_1, rfl, ul683_1, ge683_1⟩ := k30_openF hMe683
                                    have hv683_1 := hcc683 1 _ rfl
                                    rw [add_field _ _ 1 (by omega)] at hv683_1
                                    replace hv683_1 := Option.some.inj (hv683_1.symm.trans hx683_1)
                                    injection hv683_1 with hva_ hvn_ hvc_
                                    rw [hva_] at ge683_1
                                    rw [hvc_] at ul683_1
                                    have HL683_1 := Aside0.mk (show Kd.V (Kd.int .i64) 3 _ w.heap.size _ _ ((rd_T30 y678 (rd t661 x6_2)).f1) from Kd.V_mk ul683_1 ge683_1)
                                    clear hva_ hvn_ hvc_ ge683_1 ul683_1
                                    clear hcc683 hce683
                                    have HR683_1 := Aside0.mk hi683_1
                                    have HC683_1 := Aside0.mk hl683_1
                                    clear hi683_1 hl683_1
                                    replace p683 := eq_true p683
                                    replace q683 := eq_true q683
                                    have p37 : 0 ≤ ((rd t661 x6_2) : Int) := of_decide_eq_true (by first | (with_reducible assumption) | assumption)
                                    have q37 : ((rd t661 x6_2) : Int) < ((y678.length : Int) : Int) := of_decide_eq_true (by first | (with_reducible assumption) | assumption)
                                    obtain ⟨go37, co37, eo37, gb37, gl37, cl37, HG37⟩ := Kd.N_form HO680.out (by omega)
                                    (first | cases eo37 | (injection eo37 with ea_ en_ ec_; (first | subst ea_ | (injection ea_ with ea_; subst ea_)); subst ec_; clear en_))
                                    have GB37 := Aside0.mk gb37
                                    have GG37 := Aside0.mk HG37
                                    clear gb37 gl37 HG37
                                    (first | simp only [add_plain] at hx683_0 | skip)
                                    (first | simp only [add_plain] at hx683_1 | skip)
                                    (first | simp only [add_plain] at hx683_2 | skip)
                                    (first | simp only [add_plain] at hx683_3 | skip)
                                    obtain ⟨ce37, hcl37, hM37, hcc37, hfr37⟩ := Kd.N_elem HO680.out z30 ((rd t661 x6_2) : Int) p37 q37
                                    obtain ⟨ua37_1, uc37_1, rfl, ul37_1, ge37_1⟩ := k30_openF hM37
                                    have hx37_0 : World.cell? _ ⟨go37, ((rd t661 x6_2) : Int).toNat * 4, none⟩ = some (.int .i64 ((rd_T30 y678 (rd t661 x6_2)).f0)) := hcc37 0 _ rfl
                                    have hx37_1 : World.cell? _ ⟨go37, ((rd t661 x6_2) : Int).toNat * 4 + 1, none⟩ = some (.slice ua37_1 ((rd_T30 y678 (rd t661 x6_2)).f1).length uc37_1) := hcc37 1 _ rfl
                                    have hx37_2 : World.cell? _ ⟨go37, ((rd t661 x6_2) : Int).toNat * 4 + 2, none⟩ = some (.int .i64 ((rd_T30 y678 (rd t661 x6_2)).f2)) := hcc37 2 _ rfl
                                    have hx37_3 : World.cell? _ ⟨go37, ((rd t661 x6_2) : Int).toNat * 4 + 3, none⟩ = some (.int .i64 ((rd_T30 y678 (rd t661 x6_2)).f3)) := hcc37 3 _ rfl
                                    have hf37_0 : World.frozen? _ ⟨go37, ((rd t661 x6_2) : Int).toNat * 4, none⟩ = false := hfr37 0
                                    have hf37_1 : World.frozen? _ ⟨go37, ((rd t661 x6_2) : Int).toNat * 4 + 1, none⟩ = false := hfr37 1
                                    have hf37_2 : World.frozen? _ ⟨go37, ((rd t661 x6_2) : Int).toNat * 4 + 2, none⟩ = false := hfr37 2
                                    have hf37_3 : World.frozen? _ ⟨go37, ((rd t661 x6_2) : Int).toNat * 4 + 3, none⟩ = false := hfr37 3
                                    clear hcl37 hcc37 hfr37 hM37
                                    replace p37 := eq_true p37
                                    replace q37 := eq_true q37
                                    have HX47 := Aside0.mk (show Kd.N k30 30 _ w.heap.size (fun k_ => some k_ ≠ (.slice (some ad681) t661.length co28 : Value).ownBlock) (.slice (some ⟨go37, 0, none⟩) y678.length co46) y678 from (Kd.N_mono (HO680.out) (fun k_ hk => hk)))
                                    obtain ⟨ce47, hcl47, hM47, hcc47, hfr47⟩ := Kd.N_elem HX47.out z30 ((rd t661 x6_2) : Int) (of_decide_eq_true (by first | (with_reducible assumption) | assumption)) (by have h_ : ((rd t661 x6_2) : Int) < ((y678.length : Int) : Int) := of_decide_eq_true (by first | (with_reducible assumption) | assumption); first | exact h_ | (have e_ := (Kd.N_reads' HO680.out).1; omega) | simpa using h_)
                                    obtain ⟨ua47_1, uc47_1, rfl, ul47_1, ge47_1⟩ := k30_openF hM47
                                    have HP47 := (Kd.N_seg HX47.out ((rd t661 x6_2) : Int) (of_decide_eq_true (by first | (with_reducible assumption) | assumption)) (by have h_ : ((rd t661 x6_2) : Int) < ((y678.length : Int) : Int) := of_decide_eq_true (by first | (with_reducible assumption) | assumption); first | exact h_ | (have e_ := (Kd.N_reads' HO680.out).1; omega) | simpa using h_) (seg := [.int .i64 (wrap64 (((rd_T30 y678 (rd t661 x6_2)).f0) + 1))]) (j := 0) hcl47 hcc47 (show 1 ≤ 4 from by decide) (x' := (⟨wrap64 (((rd_T30 y678 (rd t661 x6_2)).f0) + 1), (rd_T30 y678 (rd t661 x6_2)).f1, (rd_T30 y678 (rd t661 x6_2)).f2, (rd_T30 y678 (rd t661 x6_2)).f3⟩ : S30)) (k30_mkF _ _ (⟨wrap64 (((rd_T30 y678 (rd t661 x6_2)).f0) + 1), (rd_T30 y678 (rd t661 x6_2)).f1, (rd_T30 y678 (rd t661 x6_2)).f2, (rd_T30 y678 (rd t661 x6_2)).f3⟩ : S30) ul47_1 ge47_1) (fun _ hk => hk)).1
                                    rw [← Ny684.out] at HP47
                                    have HQ47 := Aside0.mk HP47
                                    clear hcl47 hcc47 hfr47 hM47 HP47
                                    refine start_ (n := 17) (S := fun w' => w'.cell? (ad681.add (x6_2).toNat) = some (.int .i64 (rd t661 x6_2)) ∧ w'.cell? (ad681.add (x6_2).toNat) = some (.int .i64 (rd t661 x6_2)) ∧ w'.cell? ⟨go37, (((rd t661 x6_2)).toNat * 4), none⟩ = some (.int .i64 ((rd_T30 y678 (rd t661 x6_2)).f0)) ∧ w'.cell? ⟨go37, (((rd t661 x6_2)).toNat * 4) + 1, none⟩ = some (.slice A683_1 ((rd_T30 y678 (rd t661 x6_2)).f1).length c683_1) ∧ w'.cell? ⟨go37, (((rd t661 x6_2)).toNat * 4) + 2, none⟩ = some (.int .i64 ((rd_T30 y678 (rd t661 x6_2)).f2)) ∧ w'.cell? ⟨go37, (((rd t661 x6_2)).toNat * 4) + 3, none⟩ = some (.int .i64 ((rd_T30 y678 (rd t661 x6_2)).f3))) (ds := [16]) #[false, false, false, false, false, false, false, false, false, false, false, false, false, false, false, false, false] (by kernel_rfl) rfl rfl ⟨hx681_0, hx682_0, hx683_0, hx683_1, hx683_2, hx683_3⟩ (fun hHeld => ?_); refine with_tabW laws_FnCriticalChainLonger.tab14 laws_FnCriticalChainLonger.bits14 (fun HT_ HW_ => ?_)
                                    generalize w44.drew = w45 at HO_3 HO_4 HO680 HB GG37 HL683_1 HQ47 HR683_1 hf37_0 hf37_1 hf37_2 hf37_3 hx37_0 hx37_1 hx37_2 hx37_3 hx681_0 hx682_0 hx683_0 hx683_1 hx683_2 hx683_3 hHeld ⊢
                                    refine pure_ (i := 0) (N := some 54) (v := ?_) (a' := ?_) #[true, false, false, false, false, false, false, false, false, false, false, false, false, false, false, false, false] rfl rfl (any_of HT_.out (by kernel_rfl)) (fun _ _ _ h => h) (Or.inl ⟨by rfl, ?_⟩) ?_ ?_
                                    rotate_left
                                    · intro w'
                                      go_simp
                                      with_reducible rfl
                                    rotate_left
                                    · simp only [Act.put, List.setIfInBounds_toArray, List.set_cons_zero, List.set_cons_succ, i64_w, i32_w]
                                      rfl
                                    refine pure_ (i := 1) (N := some 55) (v := ?_) (a' := ?_) #[true, true, false, false, false, false, false, false, false, false, false, false, false, false, false, false, false] rfl rfl (any_of HT_.out (by kernel_rfl)) (fun _ _ _ h => h) (Or.inl ⟨by rfl, ?_⟩) ?_ ?_
                                    rotate_left
                                    · intro w'
                                      go_simp
                                      with_reducible rfl
                                    rotate_left
                                    · simp only [Act.put, List.setIfInBounds_toArray, List.set_cons_zero, List.set_cons_succ, i64_w, i32_w]
                                      rfl
                                    refine pure_ (i := 2) (N := some 56) (v := ?_) (a' := ?_) #[true, true, true, false, false, false, false, false, false, false, false, false, false, false, false, false, false] rfl rfl (any_of HT_.out (by kernel_rfl)) (fun _ _ _ h => h) (Or.inl ⟨by rfl, ?_⟩) ?_ ?_
                                    rotate_left
                                    · intro w'
                                      go_simp
                                      with_reducible rfl
                                    rotate_left
                                    · simp only [Act.put, List.setIfInBounds_toArray, List.set_cons_zero, List.set_cons_succ, i64_w, i32_w]
                                      rfl
                                    refine pure_ (i := 3) (N := some 57) (v := ?_) (a' := ?_) #[true, true, true, true, false, false, false, false, false, false, false, false, false, false, false, false, false] rfl rfl (any_of HT_.out (by kernel_rfl)) (fun _ _ _ h => h) (Or.inl ⟨by rfl, ?_⟩) ?_ ?_
                                    rotate_left
                                    · intro w'
                                      go_simp
                                      with_reducible rfl
                                    rotate_left
                                    · simp only [Act.put, List.setIfInBounds_toArray, List.set_cons_zero, List.set_cons_succ, i64_w, i32_w]
                                      rfl
                                    refine pure_ (i := 5) (N := some 59) (v := ?_) (a' := ?_) #[true, true, true, true, false, true, false, false, false, false, false, false, false, false, false, false, false] rfl rfl (any_of HT_.out (by kernel_rfl)) (fun _ _ _ h => h) (Or.inl ⟨by rfl, ?_⟩) ?_ ?_
                                    rotate_left
                                    · intro w'
                                      go_simp
                                      with_reducible rfl
                                    rotate_left
                                    · simp only [Act.put, List.setIfInBounds_toArray, List.set_cons_zero, List.set_cons_succ, i64_w, i32_w]
                                      rfl
                                    refine pure_ (i := 6) (N := some 60) (v := ?_) (a' := ?_) #[true, true, true, true, false, true, true, false, false, false, false, false, false, false, false, false, false] rfl rfl (any_of HT_.out (by kernel_rfl)) (fun _ _ _ h => h) (Or.inl ⟨by rfl, ?_⟩) ?_ ?_
                                    rotate_left
                                    · intro w'
                                      go_simp
                                      with_reducible rfl
                                    rotate_left
                                    · simp only [Act.put, List.setIfInBounds_toArray, List.set_cons_zero, List.set_cons_succ, i64_w, i32_w]
                                      rfl
                                    refine pure_ (i := 7) (N := some 61) (v := ?_) (a' := ?_) #[true, true, true, true, false, true, true, true, false, false, false, false, false, false, false, false, false] rfl rfl (any_of HT_.out (by kernel_rfl)) (fun _ _ _ h => h) (Or.inl ⟨by rfl, ?_⟩) ?_ ?_
                                    rotate_left
                                    · intro w'
                                      go_simp
                                      with_reducible rfl
                                    rotate_left
                                    · simp only [Act.put, List.setIfInBounds_toArray, List.set_cons_zero, List.set_cons_succ, i64_w, i32_w]
                                      rfl
                                    refine pure_ (i := 8) (N := some 62) (v := ?_) (a' := ?_) #[true, true, true, true, false, true, true, true, true, false, false, false, false, false, false, false, false] rfl rfl (any_of HT_.out (by kernel_rfl)) (fun _ _ _ h => h) (Or.inl ⟨by rfl, ?_⟩) ?_ ?_
                                    rotate_left
                                    · intro w'
                                      go_simp
                                      with_reducible rfl
                                    rotate_left
                                    · simp only [Act.put, List.setIfInBounds_toArray, List.set_cons_zero, List.set_cons_succ, i64_w, i32_w]
                                      rfl
                                    refine take_ (i := 4) (N := some 58) (v := ?_) (a' := ?_) #[true, true, true, true, true, true, true, true, true, false, false, false, false, false, false, false, false] rfl rfl (take_ofW HT_.out HW_.out (by kernel_rfl)) (fun _ _ _ h => h) (Or.inl ⟨by rfl, ?_⟩) hHeld ?_ ?_
                                    rotate_left
                                    · rintro w' ⟨s0, s1, s2, s3, s4, s5⟩
                                      go_simp
                                      with_reducible rfl
                                    rotate_left
                                    · simp only [Act.put, List.setIfInBounds_toArray, List.set_cons_zero, List.set_cons_succ, i64_w, i32_w]
                                      rfl
                                    refine take_ (i := 9) (N := some 63) (v := ?_) (a' := ?_) #[true, true, true, true, true, true, true, true, true, true, false, false, false, false, false, false, false] rfl rfl (take_ofW HT_.out HW_.out (by kernel_rfl)) (fun _ _ _ h => h) (Or.inl ⟨by rfl, ?_⟩) hHeld ?_ ?_
                                    rotate_left
                                    · rintro w' ⟨s0, s1, s2, s3, s4, s5⟩
                                      go_simp
                                      with_reducible rfl
                                    rotate_left
                                    · simp only [Act.put, List.setIfInBounds_toArray, List.set_cons_zero, List.set_cons_succ, i64_w, i32_w]
                                      rfl
                                    refine pure_ (i := 10) (N := some 64) (v := ?_) (a' := ?_) #[true, true, true, true, true, true, true, true, true, true, true, false, false, false, false, false, false] rfl rfl (any_of HT_.out (by kernel_rfl)) (fun _ _ _ h => h) (Or.inl ⟨by rfl, ?_⟩) ?_ ?_
                                    rotate_left
                                    · intro w'
                                      go_simp
                                      with_reducible rfl
                                    rotate_left
                                    · simp only [Act.put, List.setIfInBounds_toArray, List.set_cons_zero, List.set_cons_succ, i64_w, i32_w]
                                      rfl
                                    refine pure_ (i := 11) (N := some 65) (v := ?_) (a' := ?_) #[true, true, true, true, true, true, true, true, true, true, true, true, false, false, false, false, false] rfl rfl (any_of HT_.out (by kernel_rfl)) (fun _ _ _ h => h) (Or.inl ⟨by rfl, ?_⟩) ?_ ?_
                                    rotate_left
                                    · intro w'
                                      go_simp
                                      with_reducible rfl
                                    rotate_left
                                    · simp only [Act.put, List.setIfInBounds_toArray, List.set_cons_zero, List.set_cons_succ, i64_w, i32_w]
                                      rfl
                                    refine take_ (i := 12) (N := some 66) (v := ?_) (a' := ?_) #[true, true, true, true, true, true, true, true, true, true, true, true, true, false, false, false, false] rfl rfl (take_ofW HT_.out HW_.out (by kernel_rfl)) (fun _ _ _ h => h) (Or.inl ⟨by rfl, ?_⟩) hHeld ?_ ?_
                                    rotate_left
                                    · rintro w' ⟨s0, s1, s2, s3, s4, s5⟩
                                      go_simp
                                      with_reducible rfl
                                    rotate_left
                                    · simp only [Act.put, List.setIfInBounds_toArray, List.set_cons_zero, List.set_cons_succ, i64_w, i32_w]
                                      rfl
                                    refine pure_ (i := 13) (N := some 67) (v := ?_) (a' := ?_) #[true, true, true, true, true, true, true, true, true, true, true, true, true, true, false, false, false] rfl rfl (any_of HT_.out (by kernel_rfl)) (fun _ _ _ h => h) (Or.inl ⟨by rfl, ?_⟩) ?_ ?_
                                    rotate_left
                                    · intro w'
                                      go_simp
                                      with_reducible rfl
                                    rotate_left
                                    · simp only [Act.put, List.setIfInBounds_toArray, List.set_cons_zero, List.set_cons_succ, i64_w, i32_w]
                                      rfl
                                    refine pure_ (i := 14) (N := some 68) (v := ?_) (a' := ?_) #[true, true, true, true, true, true, true, true, true, true, true, true, true, true, true, false, false] rfl rfl (any_of HT_.out (by kernel_rfl)) (fun _ _ _ h => h) (Or.inl ⟨by rfl, ?_⟩) ?_ ?_
                                    rotate_left
                                    · intro w'
                                      go_simp
                                      with_reducible rfl
                                    rotate_left
                                    · simp only [Act.put, List.setIfInBounds_toArray, List.set_cons_zero, List.set_cons_succ, i64_w, i32_w]
                                      rfl
                                    refine pure_ (i := 15) (N := some 69) (v := ?_) (a' := ?_) #[true, true, true, true, true, true, true, true, true, true, true, true, true, true, true, true, false] rfl rfl (any_of HT_.out (by kernel_rfl)) (fun _ _ _ h => h) (Or.inl ⟨by rfl, ?_⟩) ?_ ?_
                                    rotate_left
                                    · intro w'
                                      go_simp
                                      with_reducible rfl
                                    rotate_left
                                    · simp only [Act.put, List.setIfInBounds_toArray, List.set_cons_zero, List.set_cons_succ, i64_w, i32_w]
                                      rfl
                                    refine last_ (i := 16) (N := none) #[true, true, true, true, true, true, true, true, true, true, true, true, true, true, true, true, true] rfl rfl (one_of HT_.out (by kernel_rfl)) (by decide) (fun K hK => ?_)
                                    refine skip_ (w1 := ?_) (by rfl) rfl ?_ ?_
                                    rotate_left
                                    · go_simp
                                      rfl
                                    refine hK.out _ _ ?_
                                    clear hK K
                                    refine done_ (done_of HT_.out (by kernel_rfl)) ?_
                                    try go_wp2_with (first | ((with_reducible refine gate_callee (f := 34) rfl ?_); refine goesL_ (some 71) rfl rfl Tryd.func34 (by kernel_rfl) rfl #[.slice (some ⟨go37, 0, none⟩) y684.length co46] rfl (by (try simp only [List.map_toArray, List.map_cons, List.map_nil]); first | done | (rw [show y684.length = y678.length from (Kd.N_reads' HQ47.out).1.symm] <;> rfl) | rfl | (simp only [List.length_drop, List.length_take]; rfl)) ?_; (with_reducible refine (impl_ValidGraph.calls _ _ y684 true _ ?side1 ?side2 ?sideT A38.out).mono ?_); (case sideT => exact (HT.out.below (by repeat (first | (with_reducible first | exact HB.out | apply below_alloc | apply pw_below_drewN | apply below_drew1 | refine below_set ?_ GB37.out) | exact HB.out)))); (case side1 => refine (Kd.N_reads' (e := 30) (base := w.heap.size) (ok := fun k_ => some k_ ≠ (.slice (some ad681) t661.length co28 : Value).ownBlock) (n := y678.length) (c := co46) ?_).2.2; exact (by (with_reducible repeat (first | apply Kd.N_alloc | apply Kd.N_drewN | apply Kd.N_drew)); exact HQ47.out)); (case side2 => rw [show y684.length = y678.length from (Kd.N_reads' HQ47.out).1.symm]; exact (Kd.N_reads' HO680.out).2.1); rintro e w48 ⟨rfl, hb⟩; refine ⟨_, rfl, ?_⟩; have n0_ := Aside0.mk (Kd.N_below (by (with_reducible repeat (first | apply Kd.N_alloc | apply Kd.N_drewN | apply Kd.N_drew)); exact (Kd.N_mono (Kd.N_far (p := ⟨go37, ((rd t661 x6_2) : Int).toNat * 4, none⟩) (Kd.N_mono HO_3.out (fun k_ hk => (⟨hk, fun e_ => hk.2 (by rw [e_]; rfl)⟩ : _ ∧ k_ ≠ go37))) (fun _ hk => hk.2) (.int .i64 (wrap64 (((rd_T30 y678 (rd t661 x6_2)).f0) + 1)))) (fun _ h_ => h_.1))) hb); have n1_ := Aside0.mk (Kd.R_below (by (with_reducible repeat (first | apply Kd.R_alloc | apply Kd.R_drewN | apply Kd.R_drew)); exact (Kd.R_mono (Kd.R_far (p := ⟨go37, ((rd t661 x6_2) : Int).toNat * 4, none⟩) (Kd.R_types HO_4.out GG37.out (by decide)) (fun _ hk => hk.2) (.int .i64 (wrap64 (((rd_T30 y678 (rd t661 x6_2)).f0) + 1)))) (fun _ h_ => h_.1))) hb); have n2_ := Aside0.mk (Kd.N_below (by (with_reducible repeat (first | apply Kd.N_alloc | apply Kd.N_drewN | apply Kd.N_drew)); exact HQ47.out) hb); have n3_ := Aside0.mk (Kd.V_below (by (with_reducible repeat (first | apply Kd.V_alloc | apply Kd.V_drewN | apply Kd.V_drew)); exact (Kd.V_mono (Kd.V_far (p := ⟨go37, ((rd t661 x6_2) : Int).toNat * 4, none⟩) (Kd.V_mono HL683_1.out (fun k_ hk => (⟨hk, fun e_ => hk.2 (by rw [e_]; rfl)⟩ : _ ∧ k_ ≠ go37))) (fun _ hk => hk.2) (.int .i64 (wrap64 (((rd_T30 y678 (rd t661 x6_2)).f0) + 1)))) (fun _ h_ => h_.1))) hb); have n4_ := Aside0.mk (Kd.C_below ((Kd.V_reads' (by (with_reducible repeat (first | apply Kd.V_alloc | apply Kd.V_drewN | apply Kd.V_drew)); exact (Kd.V_mono (Kd.V_far (p := ⟨go37, ((rd t661 x6_2) : Int).toNat * 4, none⟩) (Kd.V_mono HL683_1.out (fun k_ hk => (⟨hk, fun e_ => hk.2 (by rw [e_]; rfl)⟩ : _ ∧ k_ ≠ go37))) (fun _ hk => hk.2) (.int .i64 (wrap64 (((rd_T30 y678 (rd t661 x6_2)).f0) + 1)))) (fun _ h_ => h_.1)))).2.2) hb); have n5_ := Aside0.mk (below_step (by repeat (first | (with_reducible first | exact HB.out | apply below_alloc | apply pw_below_drewN | apply below_drew1 | refine below_set ?_ GB37.out) | exact HB.out)) hb); clear HO_3; clear HO_4; clear HO680; clear HL683_1; clear HR683_1; clear HB; have HO_3 := n0_; have HO_4 := n1_; have HO680 := n2_; have HL683_1 := n3_; have HR683_1 := n4_; have HB := n5_; clear n0_ n1_ n2_ n3_ n4_ n5_; (try clear hb); (try clear hb2); (try clear hk); (try clear hi)) | (go_at_call 33; refine calls_of_args (args' := #[.slice (some ⟨go37, 0, none⟩) y684.length co46]) (by first | (rw [show y684.length = y678.length from (Kd.N_reads' HO680.out).1.symm] <;> rfl) | rfl) ?_; (with_reducible refine (impl_LongestTime.calls _ _ y684 t686 _ ?side1 ?side2 ?sideT A40.out).mono ?_); (case sideT => exact (HT.out.below (by repeat (first | (with_reducible first | exact HB.out | apply below_alloc | apply pw_below_drewN | apply below_drew1 | refine below_set ?_ GB37.out) | exact HB.out)))); (case side1 => repeat (first | exact (Kd.N_reads' HO680.out).2.2 | (with_reducible refine Kd.C_alloc ?_ _) | (with_reducible refine Kd.C_drewN ?_ _) | (with_reducible refine Kd.C_drew ?_))); (case side2 => rw [show y684.length = y678.length from (Kd.N_reads' HO680.out).1.symm]; exact (Kd.N_reads' HO680.out).2.1); rintro e w49 ⟨rfl, hb⟩; have n0_ := Aside0.mk (Kd.N_below (by (with_reducible repeat (first | apply Kd.N_alloc | apply Kd.N_drewN | apply Kd.N_drew)); exact HO_3.out) hb); have n1_ := Aside0.mk (Kd.R_below (by (with_reducible repeat (first | apply Kd.R_alloc | apply Kd.R_drewN | apply Kd.R_drew)); exact HO_4.out) hb); have n2_ := Aside0.mk (Kd.N_below (by (with_reducible repeat (first | apply Kd.N_alloc | apply Kd.N_drewN | apply Kd.N_drew)); exact HO680.out) hb); have n3_ := Aside0.mk (Kd.V_below (by (with_reducible repeat (first | apply Kd.V_alloc | apply Kd.V_drewN | apply Kd.V_drew)); exact HL683_1.out) hb); have n4_ := Aside0.mk (Kd.C_below (by repeat (first | (with_reducible exact HR683_1.out) | (with_reducible refine Kd.C_alloc ?_ _) | (with_reducible refine Kd.C_drewN ?_ _) | (with_reducible refine Kd.C_drew ?_) | exact HR683_1.out)) hb); have n5_ := Aside0.mk (below_step (by repeat (first | (with_reducible first | exact HB.out | apply below_alloc | apply pw_below_drewN | apply below_drew1) | exact HB.out)) hb); clear HO_3; clear HO_4; clear HO680; clear HL683_1; clear HR683_1; clear HB; have HO_3 := n0_; have HO_4 := n1_; have HO680 := n2_; have HL683_1 := n3_; have HR683_1 := n4_; have HB := n5_; clear n0_ n1_ n2_ n3_ n4_ n5_; (try clear hb); (try clear hb2); (try clear hk); (try clear hi)))
                                    (try simp only [← hl3_2])
                                    go_roundg kj26
                                    case measure => have := HJ4.out; have := HK2.out; have := HJ26.out; omega
                                    case rel => exact ⟨(x3_2), (wrap64 (x6_2 + 1)), (by first | rfl | (simp; done) | (simp [*]; done)), H', ⟨by have := HJ4.out; have := HK2.out; have := HJ26.out; omega⟩, ⟨by (try simp only [hl3_2]); (with_reducible repeat (first | apply Kd.N_alloc | apply Kd.N_drewN | apply Kd.N_drew)); exact Kd.N_mono HO_3.out (fun _ hk => hk.1)⟩, ⟨by (try simp only [hl3_2]); (with_reducible repeat (first | apply Kd.R_alloc | apply Kd.R_drewN | apply Kd.R_drew)); exact HO_4.out⟩, ⟨by repeat (first | (with_reducible first | exact HB.out | apply below_alloc | apply pw_below_drewN | apply below_drew1) | exact HB.out)⟩⟩
                                  · rw [if_neg c41] at H
                                    have c41b0 : (t686 == (wrap64 (t672 + 1))) = false := beq_eq_false_iff_ne.mpr c41
                                    have c41b1 : (t686 != (wrap64 (t672 + 1))) = true := bne_iff_ne.mpr c41
                                    obtain rfl := Option.some.inj H
                                    try go_wp2_with (first | ((with_reducible refine gate_dst (N := 51) rfl ?_); (try (refine gate_guard (by rfl) ?_; dsimp only)); refine Kd.N_lit k30 _ 30 ?hg (N' := 51) ?hd (xs := ([] : List (S30))) (inner := []) (ok := (fun k_ => some k_ ≠ (.slice Ao7 x3_2.length co7 : Value).ownBlock ∧ some k_ ≠ (.slice Ao28 t661.length co28 : Value).ownBlock)) (okp := (fun k_ => some k_ ≠ (.slice Ao7 x3_2.length co7 : Value).ownBlock ∧ some k_ ≠ (.slice Ao28 t661.length co28 : Value).ownBlock)) ?hr ?hp (fun _ hk => hk) ((show ∀ k_, wc.heap.size ≤ k_ → (fun k_ => some k_ ≠ (.slice Ao7 x3_2.length co7 : Value).ownBlock ∧ some k_ ≠ (.slice Ao28 t661.length co28 : Value).ownBlock) k_ from fun k_ hk => ⟨Kd.fresh' (Kd.N_lt (by (with_reducible repeat (first | apply Kd.N_alloc | apply Kd.N_drewN | apply Kd.N_drew)); exact HO_3.out)) k_ hk, Kd.fresh' (Kd.R_lt (by (with_reducible repeat (first | apply Kd.R_alloc | apply Kd.R_drewN | apply Kd.R_drew)); exact HO_4.out)) k_ hk⟩) _ (Nat.le_refl _)) (Below.refl _ _) (Nat.le_refl _) (by simp) ?_; (case hd => rfl); (case hg => rfl); (case hr => first | (go_simp; done) | (go_simp; rfl)); (case hp => exact (Reps.none _ _)); intro v676 w50 ho51 hb hg_ hnew_; clear hg_ hnew_; (first | rw [← Ny675.out] at ho51 | (simp only [Int.reduceToNat] at ho51; rw [← Ny675.out] at ho51)); have n0_ := Aside0.mk (Kd.N_elder' (by (with_reducible repeat (first | apply Kd.N_alloc | apply Kd.N_drewN | apply Kd.N_drew)); exact HO_3.out) (Kd.N_base ho51) hb); have n1_ := Aside0.mk (Kd.R_below (by (with_reducible repeat (first | apply Kd.R_alloc | apply Kd.R_drewN | apply Kd.R_drew)); exact HO_4.out) hb); have n2_ := Aside0.mk (Kd.N_lower ho51 (below_size (by repeat (first | (with_reducible first | exact HB.out | apply below_alloc | apply pw_below_drewN | apply below_drew1) | exact HB.out)))); have n3_ := Aside0.mk (below_step (by repeat (first | (with_reducible first | exact HB.out | apply below_alloc | apply pw_below_drewN | apply below_drew1) | exact HB.out)) hb); clear HO_3; clear HO_4; clear HB; have HO_3 := n0_; have HO_4 := n1_; have HO677 := n2_; have HB := n3_; clear n0_ n1_ n2_ n3_; clear hb ho51) | ((with_reducible refine gate_builtin (b := .append) (xs := #[.tmp 51, .tmp 52]) rfl ?_); (try (refine gate_guard (by rfl) ?_; dsimp only)); at_builtin; refine Kd.N_append_rows k30 (w0 := w) w.heap.size rfl (.tmp 51) (.tmp 52) 23 30 (.agg #[(.int .i64 0), (.slice none 0 0), (.int .i64 0), (.int .i64 0)]) 48 rfl Tryd.underlying23 info30 rfl (by decide) (by omega) v676 y675 x3_2 _ _ _ (fun k_ => some k_ ≠ (.slice Ao28 t661.length co28 : Value).ownBlock) (fun k_ => ((fun k_ => some k_ ≠ (.slice Ao28 t661.length co28 : Value).ownBlock)) k_ ∧ some k_ ≠ (v676 : Value).ownBlock) rfl rfl ?aO ?aR (fun _ hk => hk) ?aF ?aB ?aS ?aL ?_; (case aR => exact (by skip; exact Kd.N_F (Kd.N_mono (ok' := (fun k_ => ((fun k_ => some k_ ≠ (.slice Ao28 t661.length co28 : Value).ownBlock)) k_ ∧ some k_ ≠ (v676 : Value).ownBlock)) (HO_3.out) (fun k_ hk => ⟨hk.1, hk.2⟩)))); (case aB => exact (by repeat (first | (with_reducible first | exact HB.out | apply below_alloc | apply pw_below_drewN | apply below_drew1) | exact HB.out))); (case aF => exact (fun k_ hk => Kd.fresh' (Kd.R_lt (by (with_reducible repeat (first | apply Kd.R_alloc | apply Kd.R_drewN | apply Kd.R_drew)); exact HO_4.out)) k_ hk)); (case aO => exact (by (with_reducible repeat (first | apply Kd.N_alloc | apply Kd.N_drewN | apply Kd.N_drew)); exact Kd.N_mono HO677.out (fun _ hk => hk.2))); (case aS => exact (below_size (by repeat (first | (with_reducible first | exact HB.out | apply below_alloc | apply pw_below_drewN | apply below_drew1) | exact HB.out)))); (case aL => have := LMc32.out; omega); intro v679 w52 ho hb hg hat; rw [← Ny678.out] at ho; have n0_ := Aside0.mk (Kd.N_afterv (ok := (fun k_ => some k_ ≠ (.slice Ao28 t661.length co28 : Value).ownBlock)) (by (with_reducible repeat (first | apply Kd.N_alloc | apply Kd.N_drewN | apply Kd.N_drew)); exact HO_3.out) hg hat); have n1_ := Aside0.mk (Kd.R_over' (by (with_reducible repeat (first | apply Kd.R_alloc | apply Kd.R_drewN | apply Kd.R_drew)); exact HO_4.out) (Kd.N_typed (by (with_reducible repeat (first | apply Kd.N_alloc | apply Kd.N_drewN | apply Kd.N_drew)); exact HO677.out)) (by decide) hg); have n2_ := Aside0.mk (hb); have n3_ := Aside0.mk (ho); clear HO_3; clear HO_4; clear HB; clear HO677; have HO_3 := n0_; have HO_4 := n1_; have HB := n2_; have HO680 := n3_; clear n0_ n1_ n2_ n3_; clear ho hb hg hat))
                                    have n0_ := Aside0.mk (Kd.N_drew HO_3.out)
                                    have n1_ := Aside0.mk (Kd.R_drew HO_4.out)
                                    have n2_ := Aside0.mk (Kd.N_drew HO680.out)
                                    have n3_ := Aside0.mk (below_drew1 HB.out)
                                    clear HO_3
                                    clear HO_4
                                    clear HO680
                                    clear HB
                                    have HO_3 := n0_
                                    have HO_4 := n1_
                                    have HO680 := n2_
                                    have HB := n3_
                                    clear n0_ n1_ n2_ n3_
                                    have p681 : 0 ≤ (x6_2 : Int) := of_decide_eq_true (by first | (with_reducible assumption) | assumption)
                                    have q681 : x6_2 < (t661.length : Int) := of_decide_eq_true (by first | (with_reducible assumption) | assumption)
                                    obtain ⟨ad681, e681, hx681_0⟩ := Kd.at_int (Kd.R_reads' HO_4.out).2.2 x6_2 p681 q681
                                    cases e681
                                    replace p681 := eq_true p681
                                    replace q681 := eq_true q681
                                    have p682 : 0 ≤ (x6_2 : Int) := of_decide_eq_true (by first | (with_reducible assumption) | assumption)
                                    have q682 : x6_2 < (t661.length : Int) := of_decide_eq_true (by first | (with_reducible assumption) | assumption)
                                    obtain ⟨ad682, e682, hx682_0⟩ := Kd.at_int (Kd.R_reads' HO_4.out).2.2 x6_2 p682 q682
                                    obtain rfl : ad681 = ad682 := (by injection e682)
                                    replace p682 := eq_true p682
                                    replace q682 := eq_true q682
                                    obtain ⟨Ao54, co54, eo54⟩ := Kd.N_slice HO680.out
                                    (first | subst eo54 | (injection eo54 with f1_ f2_ f3_; have f4_ := f1_.symm; have f5_ := f3_.symm; clear f1_ f2_ f3_; subst f4_; subst f5_))
                                    have p683 : 0 ≤ ((rd t661 x6_2) : Int) := of_decide_eq_true (by first | (with_reducible assumption) | assumption)
                                    have q683 : (rd t661 x6_2) < (y678.length : Int) := of_decide_eq_true (by first | (with_reducible assumption) | assumption)
                                    obtain ⟨ad683, A683_1, c683_1, e683, hx683_0, hx683_1, hx683_2, hx683_3, hl683_1, hi683_1⟩ := at_T30 (Kd.N_reads' HO680.out).2.2 (rd t661 x6_2) p683 q683
                                    cases e683
                                    obtain ⟨ce683, hce683, hMe683, hcc683⟩ := Kd.N_get HO680.out z30 (rd t661 x6_2) p683 (by first | exact q683 | exact of_decide_eq_true (by first | (with_reducible assumption) | assumption) | (have e_ := (Kd.N_reads' HO680.out).1; omega))
                                    obtain ⟨ua683_1, uc683_1, rfl, ul683_1, ge683_1⟩ := k30_openF hMe683
                                    have hv683_1 := hcc683 1 _ rfl
                                    rw [add_field _ _ 1 (by omega)] at hv683_1
                                    replace hv683_1 := Option.some.inj (hv683_1.symm.trans hx683_1)
                                    injection hv683_1 with hva_ hvn_ hvc_
                                    rw [hva_] at ge683_1
                                    rw [hvc_] at ul683_1
                                    have HL683_1 := Aside0.mk (show Kd.V (Kd.int .i64) 3 _ w.heap.size _ _ ((rd_T30 y678 (rd t661 x6_2)).f1) from Kd.V_mk ul683_1 ge683_1)
                                    clear hva_ hvn_ hvc_ ge683_1 ul683_1
                                    clear hcc683 hce683
                                    have HR683_1 := Aside0.mk hi683_1
                                    have HC683_1 := Aside0.mk hl683_1
                                    clear hi683_1 hl683_1
                                    replace p683 := eq_true p683
                                    replace q683 := eq_true q683
                                    have p37 : 0 ≤ ((rd t661 x6_2) : Int) := of_decide_eq_true (by first | (with_reducible assumption) | assumption)
                                    have q37 : ((rd t661 x6_2) : Int) < ((y678.length : Int) : Int) := of_decide_eq_true (by first | (with_reducible assumption) | assumption)
                                    obtain ⟨go37, co37, eo37, gb37, gl37, cl37, HG37⟩ := Kd.N_form HO680.out (by omega)
                                    (first | cases eo37 | (injection eo37 with ea_ en_ ec_; (first | subst ea_ | (injection ea_ with ea_; subst ea_)); subst ec_; clear en_))
                                    have GB37 := Aside0.mk gb37
                                    have GG37 := Aside0.mk HG37
                                    clear gb37 gl37 HG37
                                    (first | simp only [add_plain] at hx683_0 | skip)
                                    (first | simp only [add_plain] at hx683_1 | skip)
                                    (first | simp only [add_plain] at hx683_2 | skip)
                                    (first | simp only [add_plain] at hx683_3 | skip)
                                    obtain ⟨ce37, hcl37, hM37, hcc37, hfr37⟩ := Kd.N_elem HO680.out z30 ((rd t661 x6_2) : Int) p37 q37
                                    obtain ⟨ua37_1, uc37_1, rfl, ul37_1, ge37_1⟩ := k30_openF hM37
                                    have hx37_0 : World.cell? _ ⟨go37, ((rd t661 x6_2) : Int).toNat * 4, none⟩ = some (.int .i64 ((rd_T30 y678 (rd t661 x6_2)).f0)) := hcc37 0 _ rfl
                                    have hx37_1 : World.cell? _ ⟨go37, ((rd t661 x6_2) : Int).toNat * 4 + 1, none⟩ = some (.slice ua37_1 ((rd_T30 y678 (rd t661 x6_2)).f1).length uc37_1) := hcc37 1 _ rfl
                                    have hx37_2 : World.cell? _ ⟨go37, ((rd t661 x6_2) : Int).toNat * 4 + 2, none⟩ = some (.int .i64 ((rd_T30 y678 (rd t661 x6_2)).f2)) := hcc37 2 _ rfl
                                    have hx37_3 : World.cell? _ ⟨go37, ((rd t661 x6_2) : Int).toNat * 4 + 3, none⟩ = some (.int .i64 ((rd_T30 y678 (rd t661 x6_2)).f3)) := hcc37 3 _ rfl
                                    have hf37_0 : World.frozen? _ ⟨go37, ((rd t661 x6_2) : Int).toNat * 4, none⟩ = false := hfr37 0
                                    have hf37_1 : World.frozen? _ ⟨go37, ((rd t661 x6_2) : Int).toNat * 4 + 1, none⟩ = false := hfr37 1
                                    have hf37_2 : World.frozen? _ ⟨go37, ((rd t661 x6_2) : Int).toNat * 4 + 2, none⟩ = false := hfr37 2
                                    have hf37_3 : World.frozen? _ ⟨go37, ((rd t661 x6_2) : Int).toNat * 4 + 3, none⟩ = false := hfr37 3
                                    clear hcl37 hcc37 hfr37 hM37
                                    replace p37 := eq_true p37
                                    replace q37 := eq_true q37
                                    have HX55 := Aside0.mk (show Kd.N k30 30 _ w.heap.size (fun k_ => some k_ ≠ (.slice (some ad681) t661.length co28 : Value).ownBlock) (.slice (some ⟨go37, 0, none⟩) y678.length co54) y678 from (Kd.N_mono (HO680.out) (fun k_ hk => hk)))
                                    obtain ⟨ce55, hcl55, hM55, hcc55, hfr55⟩ := Kd.N_elem HX55.out z30 ((rd t661 x6_2) : Int) (of_decide_eq_true (by first | (with_reducible assumption) | assumption)) (by have h_ : ((rd t661 x6_2) : Int) < ((y678.length : Int) : Int) := of_decide_eq_true (by first | (with_reducible assumption) | assumption); first | exact h_ | (have e_ := (Kd.N_reads' HO680.out).1; omega) | simpa using h_)
                                    obtain ⟨ua55_1, uc55_1, rfl, ul55_1, ge55_1⟩ := k30_openF hM55
                                    have HP55 := (Kd.N_seg HX55.out ((rd t661 x6_2) : Int) (of_decide_eq_true (by first | (with_reducible assumption) | assumption)) (by have h_ : ((rd t661 x6_2) : Int) < ((y678.length : Int) : Int) := of_decide_eq_true (by first | (with_reducible assumption) | assumption); first | exact h_ | (have e_ := (Kd.N_reads' HO680.out).1; omega) | simpa using h_) (seg := [.int .i64 (wrap64 (((rd_T30 y678 (rd t661 x6_2)).f0) + 1))]) (j := 0) hcl55 hcc55 (show 1 ≤ 4 from by decide) (x' := (⟨wrap64 (((rd_T30 y678 (rd t661 x6_2)).f0) + 1), (rd_T30 y678 (rd t661 x6_2)).f1, (rd_T30 y678 (rd t661 x6_2)).f2, (rd_T30 y678 (rd t661 x6_2)).f3⟩ : S30)) (k30_mkF _ _ (⟨wrap64 (((rd_T30 y678 (rd t661 x6_2)).f0) + 1), (rd_T30 y678 (rd t661 x6_2)).f1, (rd_T30 y678 (rd t661 x6_2)).f2, (rd_T30 y678 (rd t661 x6_2)).f3⟩ : S30) ul55_1 ge55_1) (fun _ hk => hk)).1
                                    rw [← Ny684.out] at HP55
                                    have HQ55 := Aside0.mk HP55
                                    clear hcl55 hcc55 hfr55 hM55 HP55
                                    refine start_ (n := 17) (S := fun w' => w'.cell? (ad681.add (x6_2).toNat) = some (.int .i64 (rd t661 x6_2)) ∧ w'.cell? (ad681.add (x6_2).toNat) = some (.int .i64 (rd t661 x6_2)) ∧ w'.cell? ⟨go37, (((rd t661 x6_2)).toNat * 4), none⟩ = some (.int .i64 ((rd_T30 y678 (rd t661 x6_2)).f0)) ∧ w'.cell? ⟨go37, (((rd t661 x6_2)).toNat * 4) + 1, none⟩ = some (.slice A683_1 ((rd_T30 y678 (rd t661 x6_2)).f1).length c683_1) ∧ w'.cell? ⟨go37, (((rd t661 x6_2)).toNat * 4) + 2, none⟩ = some (.int .i64 ((rd_T30 y678 (rd t661 x6_2)).f2)) ∧ w'.cell? ⟨go37, (((rd t661 x6_2)).toNat * 4) + 3, none⟩ = some (.int .i64 ((rd_T30 y678 (rd t661 x6_2)).f3))) (ds := [16]) #[false, false, false, false, false, false, false, false, false, false, false, false, false, false, false, false, false] (by kernel_rfl) rfl rfl ⟨hx681_0, hx682_0, hx683_0, hx683_1, hx683_2, hx683_3⟩ (fun hHeld => ?_); refine with_tabW laws_FnCriticalChainLonger.tab14 laws_FnCriticalChainLonger.bits14 (fun HT_ HW_ => ?_)
                                    generalize w52.drew = w53 at HO_3 HO_4 HO680 HB GG37 HL683_1 HQ55 HR683_1 hf37_0 hf37_1 hf37_2 hf37_3 hx37_0 hx37_1 hx37_2 hx37_3 hx681_0 hx682_0 hx683_0 hx683_1 hx683_2 hx683_3 hHeld ⊢
                                    refine pure_ (i := 0) (N := some 54) (v := ?_) (a' := ?_) #[true, false, false, false, false, false, false, false, false, false, false, false, false, false, false, false, false] rfl rfl (any_of HT_.out (by kernel_rfl)) (fun _ _ _ h => h) (Or.inl ⟨by rfl, ?_⟩) ?_ ?_
                                    rotate_left
                                    · intro w'
                                      go_simp
                                      with_reducible rfl
                                    rotate_left
                                    · simp only [Act.put, List.setIfInBounds_toArray, List.set_cons_zero, List.set_cons_succ, i64_w, i32_w]
                                      rfl
                                    refine pure_ (i := 1) (N := some 55) (v := ?_) (a' := ?_) #[true, true, false, false, false, false, false, false, false, false, false, false, false, false, false, false, false] rfl rfl (any_of HT_.out (by kernel_rfl)) (fun _ _ _ h => h) (Or.inl ⟨by rfl, ?_⟩) ?_ ?_
                                    rotate_left
                                    · intro w'
                                      go_simp
                                      with_reducible rfl
                                    rotate_left
                                    · simp only [Act.put, List.setIfInBounds_toArray, List.set_cons_zero, List.set_cons_succ, i64_w, i32_w]
                                      rfl
                                    refine pure_ (i := 2) (N := some 56) (v := ?_) (a' := ?_) #[true, true, true, false, false, false, false, false, false, false, false, false, false, false, false, false, false] rfl rfl (any_of HT_.out (by kernel_rfl)) (fun _ _ _ h => h) (Or.inl ⟨by rfl, ?_⟩) ?_ ?_
                                    rotate_left
                                    · intro w'
                                      go_simp
                                      with_reducible rfl
                                    rotate_left
                                    · simp only [Act.put, List.setIfInBounds_toArray, List.set_cons_zero, List.set_cons_succ, i64_w, i32_w]
                                      rfl
                                    refine pure_ (i := 3) (N := some 57) (v := ?_) (a' := ?_) #[true, true, true, true, false, false, false, false, false, false, false, false, false, false, false, false, false] rfl rfl (any_of HT_.out (by kernel_rfl)) (fun _ _ _ h => h) (Or.inl ⟨by rfl, ?_⟩) ?_ ?_
                                    rotate_left
                                    · intro w'
                                      go_simp
                                      with_reducible rfl
                                    rotate_left
                                    · simp only [Act.put, List.setIfInBounds_toArray, List.set_cons_zero, List.set_cons_succ, i64_w, i32_w]
                                      rfl
                                    refine pure_ (i := 5) (N := some 59) (v := ?_) (a' := ?_) #[true, true, true, true, false, true, false, false, false, false, false, false, false, false, false, false, false] rfl rfl (any_of HT_.out (by kernel_rfl)) (fun _ _ _ h => h) (Or.inl ⟨by rfl, ?_⟩) ?_ ?_
                                    rotate_left
                                    · intro w'
                                      go_simp
                                      with_reducible rfl
                                    rotate_left
                                    · simp only [Act.put, List.setIfInBounds_toArray, List.set_cons_zero, List.set_cons_succ, i64_w, i32_w]
                                      rfl
                                    refine pure_ (i := 6) (N := some 60) (v := ?_) (a' := ?_) #[true, true, true, true, false, true, true, false, false, false, false, false, false, false, false, false, false] rfl rfl (any_of HT_.out (by kernel_rfl)) (fun _ _ _ h => h) (Or.inl ⟨by rfl, ?_⟩) ?_ ?_
                                    rotate_left
                                    · intro w'
                                      go_simp
                                      with_reducible rfl
                                    rotate_left
                                    · simp only [Act.put, List.setIfInBounds_toArray, List.set_cons_zero, List.set_cons_succ, i64_w, i32_w]
                                      rfl
                                    refine pure_ (i := 7) (N := some 61) (v := ?_) (a' := ?_) #[true, true, true, true, false, true, true, true, false, false, false, false, false, false, false, false, false] rfl rfl (any_of HT_.out (by kernel_rfl)) (fun _ _ _ h => h) (Or.inl ⟨by rfl, ?_⟩) ?_ ?_
                                    rotate_left
                                    · intro w'
                                      go_simp
                                      with_reducible rfl
                                    rotate_left
                                    · simp only [Act.put, List.setIfInBounds_toArray, List.set_cons_zero, List.set_cons_succ, i64_w, i32_w]
                                      rfl
                                    refine pure_ (i := 8) (N := some 62) (v := ?_) (a' := ?_) #[true, true, true, true, false, true, true, true, true, false, false, false, false, false, false, false, false] rfl rfl (any_of HT_.out (by kernel_rfl)) (fun _ _ _ h => h) (Or.inl ⟨by rfl, ?_⟩) ?_ ?_
                                    rotate_left
                                    · intro w'
                                      go_simp
                                      with_reducible rfl
                                    rotate_left
                                    · simp only [Act.put, List.setIfInBounds_toArray, List.set_cons_zero, List.set_cons_succ, i64_w, i32_w]
                                      rfl
                                    refine take_ (i := 4) (N := some 58) (v := ?_) (a' := ?_) #[true, true, true, true, true, true, true, true, true, false, false, false, false, false, false, false, false] rfl rfl (take_ofW HT_.out HW_.out (by kernel_rfl)) (fun _ _ _ h => h) (Or.inl ⟨by rfl, ?_⟩) hHeld ?_ ?_
                                    rotate_left
                                    · rintro w' ⟨s0, s1, s2, s3, s4, s5⟩
                                      go_simp
                                      with_reducible rfl
                                    rotate_left
                                    · simp only [Act.put, List.setIfInBounds_toArray, List.set_cons_zero, List.set_cons_succ, i64_w, i32_w]
                                      rfl
                                    refine take_ (i := 9) (N := some 63) (v := ?_) (a' := ?_) #[true, true, true, true, true, true, true, true, true, true, false, false, false, false, false, false, false] rfl rfl (take_ofW HT_.out HW_.out (by kernel_rfl)) (fun _ _ _ h => h) (Or.inl ⟨by rfl, ?_⟩) hHeld ?_ ?_
                                    rotate_left
                                    · rintro w' ⟨s0, s1, s2, s3, s4, s5⟩
                                      go_simp
                                      with_reducible rfl
                                    rotate_left
                                    · simp only [Act.put, List.setIfInBounds_toArray, List.set_cons_zero, List.set_cons_succ, i64_w, i32_w]
                                      rfl
                                    refine pure_ (i := 10) (N := some 64) (v := ?_) (a' := ?_) #[true, true, true, true, true, true, true, true, true, true, true, false, false, false, false, false, false] rfl rfl (any_of HT_.out (by kernel_rfl)) (fun _ _ _ h => h) (Or.inl ⟨by rfl, ?_⟩) ?_ ?_
                                    rotate_left
                                    · intro w'
                                      go_simp
                                      with_reducible rfl
                                    rotate_left
                                    · simp only [Act.put, List.setIfInBounds_toArray, List.set_cons_zero, List.set_cons_succ, i64_w, i32_w]
                                      rfl
                                    refine pure_ (i := 11) (N := some 65) (v := ?_) (a' := ?_) #[true, true, true, true, true, true, true, true, true, true, true, true, false, false, false, false, false] rfl rfl (any_of HT_.out (by kernel_rfl)) (fun _ _ _ h => h) (Or.inl ⟨by rfl, ?_⟩) ?_ ?_
                                    rotate_left
                                    · intro w'
                                      go_simp
                                      with_reducible rfl
                                    rotate_left
                                    · simp only [Act.put, List.setIfInBounds_toArray, List.set_cons_zero, List.set_cons_succ, i64_w, i32_w]
                                      rfl
                                    refine take_ (i := 12) (N := some 66) (v := ?_) (a' := ?_) #[true, true, true, true, true, true, true, true, true, true, true, true, true, false, false, false, false] rfl rfl (take_ofW HT_.out HW_.out (by kernel_rfl)) (fun _ _ _ h => h) (Or.inl ⟨by rfl, ?_⟩) hHeld ?_ ?_
                                    rotate_left
                                    · rintro w' ⟨s0, s1, s2, s3, s4, s5⟩
                                      go_simp
                                      with_reducible rfl
                                    rotate_left
                                    · simp only [Act.put, List.setIfInBounds_toArray, List.set_cons_zero, List.set_cons_succ, i64_w, i32_w]
                                      rfl
                                    refine pure_ (i := 13) (N := some 67) (v := ?_) (a' := ?_) #[true, true, true, true, true, true, true, true, true, true, true, true, true, true, false, false, false] rfl rfl (any_of HT_.out (by kernel_rfl)) (fun _ _ _ h => h) (Or.inl ⟨by rfl, ?_⟩) ?_ ?_
                                    rotate_left
                                    · intro w'
                                      go_simp
                                      with_reducible rfl
                                    rotate_left
                                    · simp only [Act.put, List.setIfInBounds_toArray, List.set_cons_zero, List.set_cons_succ, i64_w, i32_w]
                                      rfl
                                    refine pure_ (i := 14) (N := some 68) (v := ?_) (a' := ?_) #[true, true, true, true, true, true, true, true, true, true, true, true, true, true, true, false, false] rfl rfl (any_of HT_.out (by kernel_rfl)) (fun _ _ _ h => h) (Or.inl ⟨by rfl, ?_⟩) ?_ ?_
                                    rotate_left
                                    · intro w'
                                      go_simp
                                      with_reducible rfl
                                    rotate_left
                                    · simp only [Act.put, List.setIfInBounds_toArray, List.set_cons_zero, List.set_cons_succ, i64_w, i32_w]
                                      rfl
                                    refine pure_ (i := 15) (N := some 69) (v := ?_) (a' := ?_) #[true, true, true, true, true, true, true, true, true, true, true, true, true, true, true, true, false] rfl rfl (any_of HT_.out (by kernel_rfl)) (fun _ _ _ h => h) (Or.inl ⟨by rfl, ?_⟩) ?_ ?_
                                    rotate_left
                                    · intro w'
                                      go_simp
                                      with_reducible rfl
                                    rotate_left
                                    · simp only [Act.put, List.setIfInBounds_toArray, List.set_cons_zero, List.set_cons_succ, i64_w, i32_w]
                                      rfl
                                    refine last_ (i := 16) (N := none) #[true, true, true, true, true, true, true, true, true, true, true, true, true, true, true, true, true] rfl rfl (one_of HT_.out (by kernel_rfl)) (by decide) (fun K hK => ?_)
                                    refine skip_ (w1 := ?_) (by rfl) rfl ?_ ?_
                                    rotate_left
                                    · go_simp
                                      rfl
                                    refine hK.out _ _ ?_
                                    clear hK K
                                    refine done_ (done_of HT_.out (by kernel_rfl)) ?_
                                    try go_wp2_with (first | ((with_reducible refine gate_callee (f := 34) rfl ?_); refine goesL_ (some 71) rfl rfl Tryd.func34 (by kernel_rfl) rfl #[.slice (some ⟨go37, 0, none⟩) y684.length co54] rfl (by (try simp only [List.map_toArray, List.map_cons, List.map_nil]); first | done | (rw [show y684.length = y678.length from (Kd.N_reads' HQ55.out).1.symm] <;> rfl) | rfl | (simp only [List.length_drop, List.length_take]; rfl)) ?_; (with_reducible refine (impl_ValidGraph.calls _ _ y684 true _ ?side1 ?side2 ?sideT A38.out).mono ?_); (case sideT => exact (HT.out.below (by repeat (first | (with_reducible first | exact HB.out | apply below_alloc | apply pw_below_drewN | apply below_drew1 | refine below_set ?_ GB37.out) | exact HB.out)))); (case side1 => refine (Kd.N_reads' (e := 30) (base := w.heap.size) (ok := fun k_ => some k_ ≠ (.slice (some ad681) t661.length co28 : Value).ownBlock) (n := y678.length) (c := co54) ?_).2.2; exact (by (with_reducible repeat (first | apply Kd.N_alloc | apply Kd.N_drewN | apply Kd.N_drew)); exact HQ55.out)); (case side2 => rw [show y684.length = y678.length from (Kd.N_reads' HQ55.out).1.symm]; exact (Kd.N_reads' HO680.out).2.1); rintro e w56 ⟨rfl, hb⟩; refine ⟨_, rfl, ?_⟩; have n0_ := Aside0.mk (Kd.N_below (by (with_reducible repeat (first | apply Kd.N_alloc | apply Kd.N_drewN | apply Kd.N_drew)); exact (Kd.N_mono (Kd.N_far (p := ⟨go37, ((rd t661 x6_2) : Int).toNat * 4, none⟩) (Kd.N_mono HO_3.out (fun k_ hk => (⟨hk, fun e_ => hk.2 (by rw [e_]; rfl)⟩ : _ ∧ k_ ≠ go37))) (fun _ hk => hk.2) (.int .i64 (wrap64 (((rd_T30 y678 (rd t661 x6_2)).f0) + 1)))) (fun _ h_ => h_.1))) hb); have n1_ := Aside0.mk (Kd.R_below (by (with_reducible repeat (first | apply Kd.R_alloc | apply Kd.R_drewN | apply Kd.R_drew)); exact (Kd.R_mono (Kd.R_far (p := ⟨go37, ((rd t661 x6_2) : Int).toNat * 4, none⟩) (Kd.R_types HO_4.out GG37.out (by decide)) (fun _ hk => hk.2) (.int .i64 (wrap64 (((rd_T30 y678 (rd t661 x6_2)).f0) + 1)))) (fun _ h_ => h_.1))) hb); have n2_ := Aside0.mk (Kd.N_below (by (with_reducible repeat (first | apply Kd.N_alloc | apply Kd.N_drewN | apply Kd.N_drew)); exact HQ55.out) hb); have n3_ := Aside0.mk (Kd.V_below (by (with_reducible repeat (first | apply Kd.V_alloc | apply Kd.V_drewN | apply Kd.V_drew)); exact (Kd.V_mono (Kd.V_far (p := ⟨go37, ((rd t661 x6_2) : Int).toNat * 4, none⟩) (Kd.V_mono HL683_1.out (fun k_ hk => (⟨hk, fun e_ => hk.2 (by rw [e_]; rfl)⟩ : _ ∧ k_ ≠ go37))) (fun _ hk => hk.2) (.int .i64 (wrap64 (((rd_T30 y678 (rd t661 x6_2)).f0) + 1)))) (fun _ h_ => h_.1))) hb); have n4_ := Aside0.mk (Kd.C_below ((Kd.V_reads' (by (with_reducible repeat (first | apply Kd.V_alloc | apply Kd.V_drewN | apply Kd.V_drew)); exact (Kd.V_mono (Kd.V_far (p := ⟨go37, ((rd t661 x6_2) : Int).toNat * 4, none⟩) (Kd.V_mono HL683_1.out (fun k_ hk => (⟨hk, fun e_ => hk.2 (by rw [e_]; rfl)⟩ : _ ∧ k_ ≠ go37))) (fun _ hk => hk.2) (.int .i64 (wrap64 (((rd_T30 y678 (rd t661 x6_2)).f0) + 1)))) (fun _ h_ => h_.1)))).2.2) hb); have n5_ := Aside0.mk (below_step (by repeat (first | (with_reducible first | exact HB.out | apply below_alloc | apply pw_below_drewN | apply below_drew1 | refine below_set ?_ GB37.out) | exact HB.out)) hb); clear HO_3; clear HO_4; clear HO680; clear HL683_1; clear HR683_1; clear HB; have HO_3 := n0_; have HO_4 := n1_; have HO680 := n2_; have HL683_1 := n3_; have HR683_1 := n4_; have HB := n5_; clear n0_ n1_ n2_ n3_ n4_ n5_; (try clear hb); (try clear hb2); (try clear hk); (try clear hi)) | (go_at_call 33; refine calls_of_args (args' := #[.slice (some ⟨go37, 0, none⟩) y684.length co54]) (by first | (rw [show y684.length = y678.length from (Kd.N_reads' HO680.out).1.symm] <;> rfl) | rfl) ?_; (with_reducible refine (impl_LongestTime.calls _ _ y684 t686 _ ?side1 ?side2 ?sideT A40.out).mono ?_); (case sideT => exact (HT.out.below (by repeat (first | (with_reducible first | exact HB.out | apply below_alloc | apply pw_below_drewN | apply below_drew1 | refine below_set ?_ GB37.out) | exact HB.out)))); (case side1 => repeat (first | exact (Kd.N_reads' HO680.out).2.2 | (with_reducible refine Kd.C_alloc ?_ _) | (with_reducible refine Kd.C_drewN ?_ _) | (with_reducible refine Kd.C_drew ?_))); (case side2 => rw [show y684.length = y678.length from (Kd.N_reads' HO680.out).1.symm]; exact (Kd.N_reads' HO680.out).2.1); rintro e w57 ⟨rfl, hb⟩; have n0_ := Aside0.mk (Kd.N_below (by (with_reducible repeat (first | apply Kd.N_alloc | apply Kd.N_drewN | apply Kd.N_drew)); exact HO_3.out) hb); have n1_ := Aside0.mk (Kd.R_below (by (with_reducible repeat (first | apply Kd.R_alloc | apply Kd.R_drewN | apply Kd.R_drew)); exact HO_4.out) hb); have n2_ := Aside0.mk (Kd.N_below (by (with_reducible repeat (first | apply Kd.N_alloc | apply Kd.N_drewN | apply Kd.N_drew)); exact HO680.out) hb); have n3_ := Aside0.mk (Kd.V_below (by (with_reducible repeat (first | apply Kd.V_alloc | apply Kd.V_drewN | apply Kd.V_drew)); exact HL683_1.out) hb); have n4_ := Aside0.mk (Kd.C_below (by repeat (first | (with_reducible exact HR683_1.out) | (with_reducible refine Kd.C_alloc ?_ _) | (with_reducible refine Kd.C_drewN ?_ _) | (with_reducible refine Kd.C_drew ?_) | exact HR683_1.out)) hb); have n5_ := Aside0.mk (below_step (by repeat (first | (with_reducible first | exact HB.out | apply below_alloc | apply pw_below_drewN | apply below_drew1) | exact HB.out)) hb); clear HO_3; clear HO_4; clear HO680; clear HL683_1; clear HR683_1; clear HB; have HO_3 := n0_; have HO_4 := n1_; have HO680 := n2_; have HL683_1 := n3_; have HR683_1 := n4_; have HB := n5_; clear n0_ n1_ n2_ n3_ n4_ n5_; (try clear hb); (try clear hb2); (try clear hk); (try clear hi)))
                                    go_ret
                                    exact ⟨by first | rfl | (simp [errW_none, errW_some] <;> rfl) | (simp [*, errW_none, errW_some] <;> rfl), by repeat (first | (with_reducible first | exact HB.out | apply below_alloc | apply pw_below_drewN | apply below_drew1) | exact HB.out)⟩
                                · replace c39 := Bool.eq_false_iff.mpr c39
                                  subst c39
                                  have H1 : (laws_FnCriticalChainLonger.l0 kj26 x3_2 t661 t672 (wrap64 (x6_2 + 1))) = some r := by rw [if_neg (show ¬ (false = true) by decide)] at H; exact H
                                  clear H
                                  have H := H1
                                  clear H1
                                  have H' := Aside0.mk H
                                  clear H
                                  try go_wp2_with (first | ((with_reducible refine gate_dst (N := 51) rfl ?_); (try (refine gate_guard (by rfl) ?_; dsimp only)); refine Kd.N_lit k30 _ 30 ?hg (N' := 51) ?hd (xs := ([] : List (S30))) (inner := []) (ok := (fun k_ => some k_ ≠ (.slice Ao7 x3_2.length co7 : Value).ownBlock ∧ some k_ ≠ (.slice Ao28 t661.length co28 : Value).ownBlock)) (okp := (fun k_ => some k_ ≠ (.slice Ao7 x3_2.length co7 : Value).ownBlock ∧ some k_ ≠ (.slice Ao28 t661.length co28 : Value).ownBlock)) ?hr ?hp (fun _ hk => hk) ((show ∀ k_, wc.heap.size ≤ k_ → (fun k_ => some k_ ≠ (.slice Ao7 x3_2.length co7 : Value).ownBlock ∧ some k_ ≠ (.slice Ao28 t661.length co28 : Value).ownBlock) k_ from fun k_ hk => ⟨Kd.fresh' (Kd.N_lt (by (with_reducible repeat (first | apply Kd.N_alloc | apply Kd.N_drewN | apply Kd.N_drew)); exact HO_3.out)) k_ hk, Kd.fresh' (Kd.R_lt (by (with_reducible repeat (first | apply Kd.R_alloc | apply Kd.R_drewN | apply Kd.R_drew)); exact HO_4.out)) k_ hk⟩) _ (Nat.le_refl _)) (Below.refl _ _) (Nat.le_refl _) (by simp) ?_; (case hd => rfl); (case hg => rfl); (case hr => first | (go_simp; done) | (go_simp; rfl)); (case hp => exact (Reps.none _ _)); intro v676 w58 ho59 hb hg_ hnew_; clear hg_ hnew_; (first | rw [← Ny675.out] at ho59 | (simp only [Int.reduceToNat] at ho59; rw [← Ny675.out] at ho59)); have n0_ := Aside0.mk (Kd.N_elder' (by (with_reducible repeat (first | apply Kd.N_alloc | apply Kd.N_drewN | apply Kd.N_drew)); exact HO_3.out) (Kd.N_base ho59) hb); have n1_ := Aside0.mk (Kd.R_below (by (with_reducible repeat (first | apply Kd.R_alloc | apply Kd.R_drewN | apply Kd.R_drew)); exact HO_4.out) hb); have n2_ := Aside0.mk (Kd.N_lower ho59 (below_size (by repeat (first | (with_reducible first | exact HB.out | apply below_alloc | apply pw_below_drewN | apply below_drew1) | exact HB.out)))); have n3_ := Aside0.mk (below_step (by repeat (first | (with_reducible first | exact HB.out | apply below_alloc | apply pw_below_drewN | apply below_drew1) | exact HB.out)) hb); clear HO_3; clear HO_4; clear HB; have HO_3 := n0_; have HO_4 := n1_; have HO677 := n2_; have HB := n3_; clear n0_ n1_ n2_ n3_; clear hb ho59) | ((with_reducible refine gate_builtin (b := .append) (xs := #[.tmp 51, .tmp 52]) rfl ?_); (try (refine gate_guard (by rfl) ?_; dsimp only)); at_builtin; refine Kd.N_append_rows k30 (w0 := w) w.heap.size rfl (.tmp 51) (.tmp 52) 23 30 (.agg #[(.int .i64 0), (.slice none 0 0), (.int .i64 0), (.int .i64 0)]) 48 rfl Tryd.underlying23 info30 rfl (by decide) (by omega) v676 y675 x3_2 _ _ _ (fun k_ => some k_ ≠ (.slice Ao28 t661.length co28 : Value).ownBlock) (fun k_ => ((fun k_ => some k_ ≠ (.slice Ao28 t661.length co28 : Value).ownBlock)) k_ ∧ some k_ ≠ (v676 : Value).ownBlock) rfl rfl ?aO ?aR (fun _ hk => hk) ?aF ?aB ?aS ?aL ?_; (case aR => exact (by skip; exact Kd.N_F (Kd.N_mono (ok' := (fun k_ => ((fun k_ => some k_ ≠ (.slice Ao28 t661.length co28 : Value).ownBlock)) k_ ∧ some k_ ≠ (v676 : Value).ownBlock)) (HO_3.out) (fun k_ hk => ⟨hk.1, hk.2⟩)))); (case aB => exact (by repeat (first | (with_reducible first | exact HB.out | apply below_alloc | apply pw_below_drewN | apply below_drew1) | exact HB.out))); (case aF => exact (fun k_ hk => Kd.fresh' (Kd.R_lt (by (with_reducible repeat (first | apply Kd.R_alloc | apply Kd.R_drewN | apply Kd.R_drew)); exact HO_4.out)) k_ hk)); (case aO => exact (by (with_reducible repeat (first | apply Kd.N_alloc | apply Kd.N_drewN | apply Kd.N_drew)); exact Kd.N_mono HO677.out (fun _ hk => hk.2))); (case aS => exact (below_size (by repeat (first | (with_reducible first | exact HB.out | apply below_alloc | apply pw_below_drewN | apply below_drew1) | exact HB.out)))); (case aL => have := LMc32.out; omega); intro v679 w60 ho hb hg hat; rw [← Ny678.out] at ho; have n0_ := Aside0.mk (Kd.N_afterv (ok := (fun k_ => some k_ ≠ (.slice Ao28 t661.length co28 : Value).ownBlock)) (by (with_reducible repeat (first | apply Kd.N_alloc | apply Kd.N_drewN | apply Kd.N_drew)); exact HO_3.out) hg hat); have n1_ := Aside0.mk (Kd.R_over' (by (with_reducible repeat (first | apply Kd.R_alloc | apply Kd.R_drewN | apply Kd.R_drew)); exact HO_4.out) (Kd.N_typed (by (with_reducible repeat (first | apply Kd.N_alloc | apply Kd.N_drewN | apply Kd.N_drew)); exact HO677.out)) (by decide) hg); have n2_ := Aside0.mk (hb); have n3_ := Aside0.mk (ho); clear HO_3; clear HO_4; clear HB; clear HO677; have HO_3 := n0_; have HO_4 := n1_; have HB := n2_; have HO680 := n3_; clear n0_ n1_ n2_ n3_; clear ho hb hg hat))
                                  have n0_ := Aside0.mk (Kd.N_drew HO_3.out)
                                  have n1_ := Aside0.mk (Kd.R_drew HO_4.out)
                                  have n2_ := Aside0.mk (Kd.N_drew HO680.out)
                                  have n3_ := Aside0.mk (below_drew1 HB.out)
                                  clear HO_3
                                  clear HO_4
                                  clear HO680
                                  clear HB
                                  have HO_3 := n0_
                                  have HO_4 := n1_
                                  have HO680 := n2_
                                  have HB := n3_
                                  clear n0_ n1_ n2_ n3_
                                  have p681 : 0 ≤ (x6_2 : Int) := of_decide_eq_true (by first | (with_reducible assumption) | assumption)
                                  have q681 : x6_2 < (t661.length : Int) := of_decide_eq_true (by first | (with_reducible assumption) | assumption)
                                  obtain ⟨ad681, e681, hx681_0⟩ := Kd.at_int (Kd.R_reads' HO_4.out).2.2 x6_2 p681 q681
                                  cases e681
                                  replace p681 := eq_true p681
                                  replace q681 := eq_true q681
                                  have p682 : 0 ≤ (x6_2 : Int) := of_decide_eq_true (by first | (with_reducible assumption) | assumption)
                                  have q682 : x6_2 < (t661.length : Int) := of_decide_eq_true (by first | (with_reducible assumption) | assumption)
                                  obtain ⟨ad682, e682, hx682_0⟩ := Kd.at_int (Kd.R_reads' HO_4.out).2.2 x6_2 p682 q682
                                  obtain rfl : ad681 = ad682 := (by injection e682)
                                  replace p682 := eq_true p682
                                  replace q682 := eq_true q682
                                  obtain ⟨Ao62, co62, eo62⟩ := Kd.N_slice HO680.out
                                  (first | subst eo62 | (injection eo62 with f1_ f2_ f3_; have f4_ := f1_.symm; have f5_ := f3_.symm; clear f1_ f2_ f3_; subst f4_; subst f5_))
                                  have p683 : 0 ≤ ((rd t661 x6_2) : Int) := of_decide_eq_true (by first | (with_reducible assumption) | assumption)
                                  have q683 : (rd t661 x6_2) < (y678.length : Int) := of_decide_eq_true (by first | (with_reducible assumption) | assumption)
                                  obtain ⟨ad683, A683_1, c683_1, e683, hx683_0, hx683_1, hx683_2, hx683_3, hl683_1, hi683_1⟩ := at_T30 (Kd.N_reads' HO680.out).2.2 (rd t661 x6_2) p683 q683
                                  cases e683
                                  obtain ⟨ce683, hce683, hMe683, hcc683⟩ := Kd.N_get HO680.out z30 (rd t661 x6_2) p683 (by first | exact q683 | exact of_decide_eq_true (by first | (with_reducible assumption) | assumption) | (have e_ := (Kd.N_reads' HO680.out).1; omega))
                                  obtain ⟨ua683_1, uc683_1, rfl, ul683_1, ge683_1⟩ := k30_openF hMe683
                                  have hv683_1 := hcc683 1 _ rfl
                                  rw [add_field _ _ 1 (by omega)] at hv683_1
                                  replace hv683_1 := Option.some.inj (hv683_1.symm.trans hx683_1)
                                  injection hv683_1 with hva_ hvn_ hvc_
                                  rw [hva_] at ge683_1
                                  rw [hvc_] at ul683_1
                                  have HL683_1 := Aside0.mk (show Kd.V (Kd.int .i64) 3 _ w.heap.size _ _ ((rd_T30 y678 (rd t661 x6_2)).f1) from Kd.V_mk ul683_1 ge683_1)
                                  clear hva_ hvn_ hvc_ ge683_1 ul683_1
                                  clear hcc683 hce683
                                  have HR683_1 := Aside0.mk hi683_1
                                  have HC683_1 := Aside0.mk hl683_1
                                  clear hi683_1 hl683_1
                                  replace p683 := eq_true p683
                                  replace q683 := eq_true q683
                                  have p37 : 0 ≤ ((rd t661 x6_2) : Int) := of_decide_eq_true (by first | (with_reducible assumption) | assumption)
                                  have q37 : ((rd t661 x6_2) : Int) < ((y678.length : Int) : Int) := of_decide_eq_true (by first | (with_reducible assumption) | assumption)
                                  obtain ⟨go37, co37, eo37, gb37, gl37, cl37, HG37⟩ := Kd.N_form HO680.out (by omega)
                                  (first | cases eo37 | (injection eo37 with ea_ en_ ec_; (first | subst ea_ | (injection ea_ with ea_; subst ea_)); subst ec_; clear en_))
                                  have GB37 := Aside0.mk gb37
                                  have GG37 := Aside0.mk HG37
                                  clear gb37 gl37 HG37
                                  (first | simp only [add_plain] at hx683_0 | skip)
                                  (first | simp only [add_plain] at hx683_1 | skip)
                                  (first | simp only [add_plain] at hx683_2 | skip)
                                  (first | simp only [add_plain] at hx683_3 | skip)
                                  obtain ⟨ce37, hcl37, hM37, hcc37, hfr37⟩ := Kd.N_elem HO680.out z30 ((rd t661 x6_2) : Int) p37 q37
                                  obtain ⟨ua37_1, uc37_1, rfl, ul37_1, ge37_1⟩ := k30_openF hM37
                                  have hx37_0 : World.cell? _ ⟨go37, ((rd t661 x6_2) : Int).toNat * 4, none⟩ = some (.int .i64 ((rd_T30 y678 (rd t661 x6_2)).f0)) := hcc37 0 _ rfl
                                  have hx37_1 : World.cell? _ ⟨go37, ((rd t661 x6_2) : Int).toNat * 4 + 1, none⟩ = some (.slice ua37_1 ((rd_T30 y678 (rd t661 x6_2)).f1).length uc37_1) := hcc37 1 _ rfl
                                  have hx37_2 : World.cell? _ ⟨go37, ((rd t661 x6_2) : Int).toNat * 4 + 2, none⟩ = some (.int .i64 ((rd_T30 y678 (rd t661 x6_2)).f2)) := hcc37 2 _ rfl
                                  have hx37_3 : World.cell? _ ⟨go37, ((rd t661 x6_2) : Int).toNat * 4 + 3, none⟩ = some (.int .i64 ((rd_T30 y678 (rd t661 x6_2)).f3)) := hcc37 3 _ rfl
                                  have hf37_0 : World.frozen? _ ⟨go37, ((rd t661 x6_2) : Int).toNat * 4, none⟩ = false := hfr37 0
                                  have hf37_1 : World.frozen? _ ⟨go37, ((rd t661 x6_2) : Int).toNat * 4 + 1, none⟩ = false := hfr37 1
                                  have hf37_2 : World.frozen? _ ⟨go37, ((rd t661 x6_2) : Int).toNat * 4 + 2, none⟩ = false := hfr37 2
                                  have hf37_3 : World.frozen? _ ⟨go37, ((rd t661 x6_2) : Int).toNat * 4 + 3, none⟩ = false := hfr37 3
                                  clear hcl37 hcc37 hfr37 hM37
                                  replace p37 := eq_true p37
                                  replace q37 := eq_true q37
                                  have HX63 := Aside0.mk (show Kd.N k30 30 _ w.heap.size (fun k_ => some k_ ≠ (.slice (some ad681) t661.length co28 : Value).ownBlock) (.slice (some ⟨go37, 0, none⟩) y678.length co62) y678 from (Kd.N_mono (HO680.out) (fun k_ hk => hk)))
                                  obtain ⟨ce63, hcl63, hM63, hcc63, hfr63⟩ := Kd.N_elem HX63.out z30 ((rd t661 x6_2) : Int) (of_decide_eq_true (by first | (with_reducible assumption) | assumption)) (by have h_ : ((rd t661 x6_2) : Int) < ((y678.length : Int) : Int) := of_decide_eq_true (by first | (with_reducible assumption) | assumption); first | exact h_ | (have e_ := (Kd.N_reads' HO680.out).1; omega) | simpa using h_)
                                  obtain ⟨ua63_1, uc63_1, rfl, ul63_1, ge63_1⟩ := k30_openF hM63
                                  have HP63 := (Kd.N_seg HX63.out ((rd t661 x6_2) : Int) (of_decide_eq_true (by first | (with_reducible assumption) | assumption)) (by have h_ : ((rd t661 x6_2) : Int) < ((y678.length : Int) : Int) := of_decide_eq_true (by first | (with_reducible assumption) | assumption); first | exact h_ | (have e_ := (Kd.N_reads' HO680.out).1; omega) | simpa using h_) (seg := [.int .i64 (wrap64 (((rd_T30 y678 (rd t661 x6_2)).f0) + 1))]) (j := 0) hcl63 hcc63 (show 1 ≤ 4 from by decide) (x' := (⟨wrap64 (((rd_T30 y678 (rd t661 x6_2)).f0) + 1), (rd_T30 y678 (rd t661 x6_2)).f1, (rd_T30 y678 (rd t661 x6_2)).f2, (rd_T30 y678 (rd t661 x6_2)).f3⟩ : S30)) (k30_mkF _ _ (⟨wrap64 (((rd_T30 y678 (rd t661 x6_2)).f0) + 1), (rd_T30 y678 (rd t661 x6_2)).f1, (rd_T30 y678 (rd t661 x6_2)).f2, (rd_T30 y678 (rd t661 x6_2)).f3⟩ : S30) ul63_1 ge63_1) (fun _ hk => hk)).1
                                  rw [← Ny684.out] at HP63
                                  have HQ63 := Aside0.mk HP63
                                  clear hcl63 hcc63 hfr63 hM63 HP63
                                  refine start_ (n := 17) (S := fun w' => w'.cell? (ad681.add (x6_2).toNat) = some (.int .i64 (rd t661 x6_2)) ∧ w'.cell? (ad681.add (x6_2).toNat) = some (.int .i64 (rd t661 x6_2)) ∧ w'.cell? ⟨go37, (((rd t661 x6_2)).toNat * 4), none⟩ = some (.int .i64 ((rd_T30 y678 (rd t661 x6_2)).f0)) ∧ w'.cell? ⟨go37, (((rd t661 x6_2)).toNat * 4) + 1, none⟩ = some (.slice A683_1 ((rd_T30 y678 (rd t661 x6_2)).f1).length c683_1) ∧ w'.cell? ⟨go37, (((rd t661 x6_2)).toNat * 4) + 2, none⟩ = some (.int .i64 ((rd_T30 y678 (rd t661 x6_2)).f2)) ∧ w'.cell? ⟨go37, (((rd t661 x6_2)).toNat * 4) + 3, none⟩ = some (.int .i64 ((rd_T30 y678 (rd t661 x6_2)).f3))) (ds := [16]) #[false, false, false, false, false, false, false, false, false, false, false, false, false, false, false, false, false] (by kernel_rfl) rfl rfl ⟨hx681_0, hx682_0, hx683_0, hx683_1, hx683_2, hx683_3⟩ (fun hHeld => ?_); refine with_tabW laws_FnCriticalChainLonger.tab14 laws_FnCriticalChainLonger.bits14 (fun HT_ HW_ => ?_)
                                  generalize w60.drew = w61 at HO_3 HO_4 HO680 HB GG37 HL683_1 HQ63 HR683_1 hf37_0 hf37_1 hf37_2 hf37_3 hx37_0 hx37_1 hx37_2 hx37_3 hx681_0 hx682_0 hx683_0 hx683_1 hx683_2 hx683_3 hHeld ⊢
                                  refine pure_ (i := 0) (N := some 54) (v := ?_) (a' := ?_) #[true, false, false, false, false, false, false, false, false, false, false, false, false, false, false, false, false] rfl rfl (any_of HT_.out (by kernel_rfl)) (fun _ _ _ h => h) (Or.inl ⟨by rfl, ?_⟩) ?_ ?_
                                  rotate_left
                                  · intro w'
                                    go_simp
                                    with_reducible rfl
                                  rotate_left
                                  · simp only [Act.put, List.setIfInBounds_toArray, List.set_cons_zero, List.set_cons_succ, i64_w, i32_w]
                                    rfl
                                  refine pure_ (i := 1) (N := some 55) (v := ?_) (a' := ?_) #[true, true, false, false, false, false, false, false, false, false, false, false, false, false, false, false, false] rfl rfl (any_of HT_.out (by kernel_rfl)) (fun _ _ _ h => h) (Or.inl ⟨by rfl, ?_⟩) ?_ ?_
                                  rotate_left
                                  · intro w'
                                    go_simp
                                    with_reducible rfl
                                  rotate_left
                                  · simp only [Act.put, List.setIfInBounds_toArray, List.set_cons_zero, List.set_cons_succ, i64_w, i32_w]
                                    rfl
                                  refine pure_ (i := 2) (N := some 56) (v := ?_) (a' := ?_) #[true, true, true, false, false, false, false, false, false, false, false, false, false, false, false, false, false] rfl rfl (any_of HT_.out (by kernel_rfl)) (fun _ _ _ h => h) (Or.inl ⟨by rfl, ?_⟩) ?_ ?_
                                  rotate_left
                                  · intro w'
                                    go_simp
                                    with_reducible rfl
                                  rotate_left
                                  · simp only [Act.put, List.setIfInBounds_toArray, List.set_cons_zero, List.set_cons_succ, i64_w, i32_w]
                                    rfl
                                  refine pure_ (i := 3) (N := some 57) (v := ?_) (a' := ?_) #[true, true, true, true, false, false, false, false, false, false, false, false, false, false, false, false, false] rfl rfl (any_of HT_.out (by kernel_rfl)) (fun _ _ _ h => h) (Or.inl ⟨by rfl, ?_⟩) ?_ ?_
                                  rotate_left
                                  · intro w'
                                    go_simp
                                    with_reducible rfl
                                  rotate_left
                                  · simp only [Act.put, List.setIfInBounds_toArray, List.set_cons_zero, List.set_cons_succ, i64_w, i32_w]
                                    rfl
                                  refine pure_ (i := 5) (N := some 59) (v := ?_) (a' := ?_) #[true, true, true, true, false, true, false, false, false, false, false, false, false, false, false, false, false] rfl rfl (any_of HT_.out (by kernel_rfl)) (fun _ _ _ h => h) (Or.inl ⟨by rfl, ?_⟩) ?_ ?_
                                  rotate_left
                                  · intro w'
                                    go_simp
                                    with_reducible rfl
                                  rotate_left
                                  · simp only [Act.put, List.setIfInBounds_toArray, List.set_cons_zero, List.set_cons_succ, i64_w, i32_w]
                                    rfl
                                  refine pure_ (i := 6) (N := some 60) (v := ?_) (a' := ?_) #[true, true, true, true, false, true, true, false, false, false, false, false, false, false, false, false, false] rfl rfl (any_of HT_.out (by kernel_rfl)) (fun _ _ _ h => h) (Or.inl ⟨by rfl, ?_⟩) ?_ ?_
                                  rotate_left
                                  · intro w'
                                    go_simp
                                    with_reducible rfl
                                  rotate_left
                                  · simp only [Act.put, List.setIfInBounds_toArray, List.set_cons_zero, List.set_cons_succ, i64_w, i32_w]
                                    rfl
                                  refine pure_ (i := 7) (N := some 61) (v := ?_) (a' := ?_) #[true, true, true, true, false, true, true, true, false, false, false, false, false, false, false, false, false] rfl rfl (any_of HT_.out (by kernel_rfl)) (fun _ _ _ h => h) (Or.inl ⟨by rfl, ?_⟩) ?_ ?_
                                  rotate_left
                                  · intro w'
                                    go_simp
                                    with_reducible rfl
                                  rotate_left
                                  · simp only [Act.put, List.setIfInBounds_toArray, List.set_cons_zero, List.set_cons_succ, i64_w, i32_w]
                                    rfl
                                  refine pure_ (i := 8) (N := some 62) (v := ?_) (a' := ?_) #[true, true, true, true, false, true, true, true, true, false, false, false, false, false, false, false, false] rfl rfl (any_of HT_.out (by kernel_rfl)) (fun _ _ _ h => h) (Or.inl ⟨by rfl, ?_⟩) ?_ ?_
                                  rotate_left
                                  · intro w'
                                    go_simp
                                    with_reducible rfl
                                  rotate_left
                                  · simp only [Act.put, List.setIfInBounds_toArray, List.set_cons_zero, List.set_cons_succ, i64_w, i32_w]
                                    rfl
                                  refine take_ (i := 4) (N := some 58) (v := ?_) (a' := ?_) #[true, true, true, true, true, true, true, true, true, false, false, false, false, false, false, false, false] rfl rfl (take_ofW HT_.out HW_.out (by kernel_rfl)) (fun _ _ _ h => h) (Or.inl ⟨by rfl, ?_⟩) hHeld ?_ ?_
                                  rotate_left
                                  · rintro w' ⟨s0, s1, s2, s3, s4, s5⟩
                                    go_simp
                                    with_reducible rfl
                                  rotate_left
                                  · simp only [Act.put, List.setIfInBounds_toArray, List.set_cons_zero, List.set_cons_succ, i64_w, i32_w]
                                    rfl
                                  refine take_ (i := 9) (N := some 63) (v := ?_) (a' := ?_) #[true, true, true, true, true, true, true, true, true, true, false, false, false, false, false, false, false] rfl rfl (take_ofW HT_.out HW_.out (by kernel_rfl)) (fun _ _ _ h => h) (Or.inl ⟨by rfl, ?_⟩) hHeld ?_ ?_
                                  rotate_left
                                  · rintro w' ⟨s0, s1, s2, s3, s4, s5⟩
                                    go_simp
                                    with_reducible rfl
                                  rotate_left
                                  · simp only [Act.put, List.setIfInBounds_toArray, List.set_cons_zero, List.set_cons_succ, i64_w, i32_w]
                                    rfl
                                  refine pure_ (i := 10) (N := some 64) (v := ?_) (a' := ?_) #[true, true, true, true, true, true, true, true, true, true, true, false, false, false, false, false, false] rfl rfl (any_of HT_.out (by kernel_rfl)) (fun _ _ _ h => h) (Or.inl ⟨by rfl, ?_⟩) ?_ ?_
                                  rotate_left
                                  · intro w'
                                    go_simp
                                    with_reducible rfl
                                  rotate_left
                                  · simp only [Act.put, List.setIfInBounds_toArray, List.set_cons_zero, List.set_cons_succ, i64_w, i32_w]
                                    rfl
                                  refine pure_ (i := 11) (N := some 65) (v := ?_) (a' := ?_) #[true, true, true, true, true, true, true, true, true, true, true, true, false, false, false, false, false] rfl rfl (any_of HT_.out (by kernel_rfl)) (fun _ _ _ h => h) (Or.inl ⟨by rfl, ?_⟩) ?_ ?_
                                  rotate_left
                                  · intro w'
                                    go_simp
                                    with_reducible rfl
                                  rotate_left
                                  · simp only [Act.put, List.setIfInBounds_toArray, List.set_cons_zero, List.set_cons_succ, i64_w, i32_w]
                                    rfl
                                  refine take_ (i := 12) (N := some 66) (v := ?_) (a' := ?_) #[true, true, true, true, true, true, true, true, true, true, true, true, true, false, false, false, false] rfl rfl (take_ofW HT_.out HW_.out (by kernel_rfl)) (fun _ _ _ h => h) (Or.inl ⟨by rfl, ?_⟩) hHeld ?_ ?_
                                  rotate_left
                                  · rintro w' ⟨s0, s1, s2, s3, s4, s5⟩
                                    go_simp
                                    with_reducible rfl
                                  rotate_left
                                  · simp only [Act.put, List.setIfInBounds_toArray, List.set_cons_zero, List.set_cons_succ, i64_w, i32_w]
                                    rfl
                                  refine pure_ (i := 13) (N := some 67) (v := ?_) (a' := ?_) #[true, true, true, true, true, true, true, true, true, true, true, true, true, true, false, false, false] rfl rfl (any_of HT_.out (by kernel_rfl)) (fun _ _ _ h => h) (Or.inl ⟨by rfl, ?_⟩) ?_ ?_
                                  rotate_left
                                  · intro w'
                                    go_simp
                                    with_reducible rfl
                                  rotate_left
                                  · simp only [Act.put, List.setIfInBounds_toArray, List.set_cons_zero, List.set_cons_succ, i64_w, i32_w]
                                    rfl
                                  refine pure_ (i := 14) (N := some 68) (v := ?_) (a' := ?_) #[true, true, true, true, true, true, true, true, true, true, true, true, true, true, true, false, false] rfl rfl (any_of HT_.out (by kernel_rfl)) (fun _ _ _ h => h) (Or.inl ⟨by rfl, ?_⟩) ?_ ?_
                                  rotate_left
                                  · intro w'
                                    go_simp
                                    with_reducible rfl
                                  rotate_left
                                  · simp only [Act.put, List.setIfInBounds_toArray, List.set_cons_zero, List.set_cons_succ, i64_w, i32_w]
                                    rfl
                                  refine pure_ (i := 15) (N := some 69) (v := ?_) (a' := ?_) #[true, true, true, true, true, true, true, true, true, true, true, true, true, true, true, true, false] rfl rfl (any_of HT_.out (by kernel_rfl)) (fun _ _ _ h => h) (Or.inl ⟨by rfl, ?_⟩) ?_ ?_
                                  rotate_left
                                  · intro w'
                                    go_simp
                                    with_reducible rfl
                                  rotate_left
                                  · simp only [Act.put, List.setIfInBounds_toArray, List.set_cons_zero, List.set_cons_succ, i64_w, i32_w]
                                    rfl
                                  refine last_ (i := 16) (N := none) #[true, true, true, true, true, true, true, true, true, true, true, true, true, true, true, true, true] rfl rfl (one_of HT_.out (by kernel_rfl)) (by decide) (fun K hK => ?_)
                                  refine skip_ (w1 := ?_) (by rfl) rfl ?_ ?_
                                  rotate_left
                                  · go_simp
                                    rfl
                                  refine hK.out _ _ ?_
                                  clear hK K
                                  refine done_ (done_of HT_.out (by kernel_rfl)) ?_
                                  try go_wp2_with (first | ((with_reducible refine gate_callee (f := 34) rfl ?_); refine goesL_ (some 71) rfl rfl Tryd.func34 (by kernel_rfl) rfl #[.slice (some ⟨go37, 0, none⟩) y684.length co62] rfl (by (try simp only [List.map_toArray, List.map_cons, List.map_nil]); first | done | (rw [show y684.length = y678.length from (Kd.N_reads' HQ63.out).1.symm] <;> rfl) | rfl | (simp only [List.length_drop, List.length_take]; rfl)) ?_; (with_reducible refine (impl_ValidGraph.calls _ _ y684 false _ ?side1 ?side2 ?sideT A38.out).mono ?_); (case sideT => exact (HT.out.below (by repeat (first | (with_reducible first | exact HB.out | apply below_alloc | apply pw_below_drewN | apply below_drew1 | refine below_set ?_ GB37.out) | exact HB.out)))); (case side1 => refine (Kd.N_reads' (e := 30) (base := w.heap.size) (ok := fun k_ => some k_ ≠ (.slice (some ad681) t661.length co28 : Value).ownBlock) (n := y678.length) (c := co62) ?_).2.2; exact (by (with_reducible repeat (first | apply Kd.N_alloc | apply Kd.N_drewN | apply Kd.N_drew)); exact HQ63.out)); (case side2 => rw [show y684.length = y678.length from (Kd.N_reads' HQ63.out).1.symm]; exact (Kd.N_reads' HO680.out).2.1); rintro e w64 ⟨rfl, hb⟩; refine ⟨_, rfl, ?_⟩; have n0_ := Aside0.mk (Kd.N_below (by (with_reducible repeat (first | apply Kd.N_alloc | apply Kd.N_drewN | apply Kd.N_drew)); exact (Kd.N_mono (Kd.N_far (p := ⟨go37, ((rd t661 x6_2) : Int).toNat * 4, none⟩) (Kd.N_mono HO_3.out (fun k_ hk => (⟨hk, fun e_ => hk.2 (by rw [e_]; rfl)⟩ : _ ∧ k_ ≠ go37))) (fun _ hk => hk.2) (.int .i64 (wrap64 (((rd_T30 y678 (rd t661 x6_2)).f0) + 1)))) (fun _ h_ => h_.1))) hb); have n1_ := Aside0.mk (Kd.R_below (by (with_reducible repeat (first | apply Kd.R_alloc | apply Kd.R_drewN | apply Kd.R_drew)); exact (Kd.R_mono (Kd.R_far (p := ⟨go37, ((rd t661 x6_2) : Int).toNat * 4, none⟩) (Kd.R_types HO_4.out GG37.out (by decide)) (fun _ hk => hk.2) (.int .i64 (wrap64 (((rd_T30 y678 (rd t661 x6_2)).f0) + 1)))) (fun _ h_ => h_.1))) hb); have n2_ := Aside0.mk (Kd.N_below (by (with_reducible repeat (first | apply Kd.N_alloc | apply Kd.N_drewN | apply Kd.N_drew)); exact HQ63.out) hb); have n3_ := Aside0.mk (Kd.V_below (by (with_reducible repeat (first | apply Kd.V_alloc | apply Kd.V_drewN | apply Kd.V_drew)); exact (Kd.V_mono (Kd.V_far (p := ⟨go37, ((rd t661 x6_2) : Int).toNat * 4, none⟩) (Kd.V_mono HL683_1.out (fun k_ hk => (⟨hk, fun e_ => hk.2 (by rw [e_]; rfl)⟩ : _ ∧ k_ ≠ go37))) (fun _ hk => hk.2) (.int .i64 (wrap64 (((rd_T30 y678 (rd t661 x6_2)).f0) + 1)))) (fun _ h_ => h_.1))) hb); have n4_ := Aside0.mk (Kd.C_below ((Kd.V_reads' (by (with_reducible repeat (first | apply Kd.V_alloc | apply Kd.V_drewN | apply Kd.V_drew)); exact (Kd.V_mono (Kd.V_far (p := ⟨go37, ((rd t661 x6_2) : Int).toNat * 4, none⟩) (Kd.V_mono HL683_1.out (fun k_ hk => (⟨hk, fun e_ => hk.2 (by rw [e_]; rfl)⟩ : _ ∧ k_ ≠ go37))) (fun _ hk => hk.2) (.int .i64 (wrap64 (((rd_T30 y678 (rd t661 x6_2)).f0) + 1)))) (fun _ h_ => h_.1)))).2.2) hb); have n5_ := Aside0.mk (below_step (by repeat (first | (with_reducible first | exact HB.out | apply below_alloc | apply pw_below_drewN | apply below_drew1 | refine below_set ?_ GB37.out) | exact HB.out)) hb); clear HO_3; clear HO_4; clear HO680; clear HL683_1; clear HR683_1; clear HB; have HO_3 := n0_; have HO_4 := n1_; have HO680 := n2_; have HL683_1 := n3_; have HR683_1 := n4_; have HB := n5_; clear n0_ n1_ n2_ n3_ n4_ n5_; (try clear hb); (try clear hb2); (try clear hk); (try clear hi)))
                                  (try simp only [← hl3_2])
                                  go_roundg kj26
                                  case measure => have := HJ4.out; have := HK2.out; have := HJ26.out; omega
                                  case rel => exact ⟨(x3_2), (wrap64 (x6_2 + 1)), (by first | rfl | (simp; done) | (simp [*]; done)), H', ⟨by have := HJ4.out; have := HK2.out; have := HJ26.out; omega⟩, ⟨by (try simp only [hl3_2]); (with_reducible repeat (first | apply Kd.N_alloc | apply Kd.N_drewN | apply Kd.N_drew)); exact Kd.N_mono HO_3.out (fun _ hk => hk.1)⟩, ⟨by (try simp only [hl3_2]); (with_reducible repeat (first | apply Kd.R_alloc | apply Kd.R_drewN | apply Kd.R_drew)); exact HO_4.out⟩, ⟨by repeat (first | (with_reducible first | exact HB.out | apply below_alloc | apply pw_below_drewN | apply below_drew1) | exact HB.out)⟩⟩
                              · rw [if_neg c36] at H
                                exact absurd H (by simp)
                            · rw [if_neg c35] at H
                              exact absurd H (by simp)
                          · rw [if_neg c34] at H
                            exact absurd H (by simp)
                        · rw [if_neg c33] at H
                          exact absurd H (by simp)
                      · rw [if_neg c32] at H
                        exact absurd H (by simp)
              · rw [if_neg c26] at H
                have c26b0 : decide (x6_2 < (t661.length : Int)) = false := decide_eq_false c26
                clear c26
                obtain rfl := Option.some.inj H
                obtain ⟨Ao65, co65, eo65⟩ := Kd.R_slice HO_4.out
                subst eo65
                go_wp2
                go_ret
                exact ⟨by first | rfl | (simp [errW_none, errW_some] <;> rfl) | (simp [*, errW_none, errW_some] <;> rfl), by repeat (first | (with_reducible first | exact HB.out | apply below_alloc | apply pw_below_drewN | apply below_drew1) | exact HB.out)⟩

/-- THE ONE PURE STATEMENT of laws_FnCriticalChainLonger: yours. -/
def laws_FnCriticalChainLonger.Pure : Prop := ∀ (l0 : List Int), l0.length ≤ maxLen → l0.length * 1 ≤ 140737488351232 → (∀ x ∈ l0, (Lit.int .u8 x).wf = true) → ∃ k, laws_FnCriticalChainLonger.f k l0 = some true
theorem laws_FnCriticalChainLonger.walk (P : laws_FnCriticalChainLonger.Pure) (a0 : Option Addr) (len0 cap0 : Nat) (z0 : List Int) (w : World) (hT : Go.Proofs.YtgpnododcbkflaaDoor.H.Tab w) (w0 : (a0 = none ∧ len0 = 0 ∧ cap0 = 0 ∧ z0 = []) ∨ ∃ x, a0 = some x ∧ len0 ≤ cap0 ∧ cap0 ≤ maxLen ∧ z0.length = cap0 ∧ (∀ i, i < z0.length → w.cell? (x.add i) = some (.int .u8 (z0.getD i 0))) ∧ ∀ n ∈ z0, (Lit.int .u8 n).wf = true) (y0 : len0 * 1 ≤ 140737488351232) :
    Calls Tryd.prog 12 #[.slice a0 len0 cap0] w fun e w' => e = .returned (.bool true) ∧ Below w.heap.size w w' := by
  obtain ⟨l0, rfl, hr0, hm0, hw0, hc0⟩ := ReadsInt.ofRowC w0
  obtain ⟨k, h⟩ := P l0 hm0 y0 hw0
  refine (laws_FnCriticalChainLonger.calls k _ _ l0 true w hT (Kd.C_of_reads (d := (0 : Int)) (h1 := fun _ => rfl) hr0) hc0 h).mono ?_
  rintro e w' ⟨rfl, hd⟩
  exact ⟨rfl, hd⟩

end Go.Proofs.YtgpnododcbkflaaDoor.Q
