-- Written by a program of this session (wip/tools/myprint.py), by way of the kit's print, out of the translation of the seat. Lean checks it.
import Derived.Test.YtamomflollhofaaDoorQx0
import Derived.Test.YtamomflollhofaaDoorQx16
import Derived.Test.YtamomflollhofaaDoorQx18
import Derived.Test.YtamomflollhofaaDoorQx21
import Derived.Test.YtamomflollhofaaDoorQx30
import Derived.Test.YtamomflollhofaaDoorHNeeds
import Derived.Test.YtamomflollhofaaDoorHM
namespace Go.Proofs.YtamomflollhofaaDoor.Q
open Go.Proofs.YtamomflollhofaaDoor.H Go.RowKit Go.Proofs.YtamomflollhofaaDoorW.PrintWords Go.Proofs.YtamomflollhofaaDoorW.PrintLast Go.Proofs.YtamomflollhofaaDoorW.PrintMore
attribute [local go_sem] max2_int min2_int max_two min_two max_three min_three max_four min_four   -- for this text's walks alone
set_option linter.unusedVariables false
set_option linter.unusedSimpArgs false

/-! ### laws_FnAllNeeds: function 8 -/
mutual
def laws_FnAllNeeds.j0 : Nat → List (S32) → Int → List Int → Bool → Option (Bool)
  | 0, _, _, _, _ => none
  | k + 1, x3, x4, x5, x40 => if x40 = true then ((spec_AllNeeds.f k x3 x4).bind fun t553 => ((laws_equalInts.f k x5 t553).bind fun t556 => (some t556))) else (laws_FnAllNeeds.l0 k x3 x4 x5 0)
def laws_FnAllNeeds.l0 : Nat → List (S32) → Int → List Int → Int → Option (Bool)
  | 0, _, _, _, _ => none
  | k + 1, x3, x4, x5, x6 => if x6 < (x3.length : Int) then (if 0 ≤ x4 then (if x4 < (x3.length : Int) then ((laws_isIn.f k ((rd_T32 x3 x4).f1) x6).bind fun t559 => (laws_FnAllNeeds.l1 k x3 x4 x5 x6 t559 0)) else (none)) else (none)) else ((laws_isIn.f k x5 x4).bind fun t557 => (some (!t557)))
def laws_FnAllNeeds.l1 : Nat → List (S32) → Int → List Int → Int → Bool → Int → Option (Bool)
  | 0, _, _, _, _, _, _ => none
  | k + 1, x3, x4, x5, x6, x7, x8 => if 0 ≤ x4 then (if x4 < (x3.length : Int) then (if x8 < (((rd_T32 x3 x4).f1).length : Int) then (if x7 = true then (laws_FnAllNeeds.l1 k x3 x4 x5 x6 true (wrap64 (x8 + 1))) else (if 0 ≤ x8 then ((impl_AllNeeds.f x3 (rd ((rd_T32 x3 x4).f1) x8)).bind fun t563 => ((laws_isIn.f k t563 x6).bind fun t566 => (laws_FnAllNeeds.l1 k x3 x4 x5 x6 t566 (wrap64 (x8 + 1))))) else (none))) else ((laws_isIn.f k x5 x6).bind fun t567 => (if (x7 != t567) = true then (some false) else (laws_FnAllNeeds.l0 k x3 x4 x5 (wrap64 (x6 + 1)))))) else (none)) else (none)
end
def laws_FnAllNeeds.f (k : Nat) (l0 : List Int) : Option (Bool) := if (l0.length : Int) > 1048576 then (some true) else ((spec_DrawAllNeeds.f k l0).bind fun bt541 => ((impl_AllNeeds.f bt541.1 bt541.2).bind fun t545 => ((spec_AllNeeds.f k bt541.1 bt541.2).bind fun t548 => ((laws_equalInts.f k t545 t548).bind fun t551 => (if t551 = true then ((impl_ValidGraph.f bt541.1).bind fun t552 => (if t552 = true then (if bt541.2 < 0 then (laws_FnAllNeeds.j0 k bt541.1 bt541.2 t545 true) else (laws_FnAllNeeds.j0 k bt541.1 bt541.2 t545 (decide (bt541.2 ≥ (bt541.1.length : Int))))) else (laws_FnAllNeeds.j0 k bt541.1 bt541.2 t545 true))) else (laws_FnAllNeeds.j0 k bt541.1 bt541.2 t545 true))))))
theorem laws_FnAllNeeds.mono_l : ∀ k, (∀ y0 y1 y2 y3, LeO (laws_FnAllNeeds.j0 k y0 y1 y2 y3) (laws_FnAllNeeds.j0 (k + 1) y0 y1 y2 y3)) ∧ (∀ y0 y1 y2 y3, LeO (laws_FnAllNeeds.l0 k y0 y1 y2 y3) (laws_FnAllNeeds.l0 (k + 1) y0 y1 y2 y3)) ∧ (∀ y0 y1 y2 y3 y4 y5, LeO (laws_FnAllNeeds.l1 k y0 y1 y2 y3 y4 y5) (laws_FnAllNeeds.l1 (k + 1) y0 y1 y2 y3 y4 y5))
  | 0 => ⟨fun _ _ _ _ r h => by simp [laws_FnAllNeeds.j0] at h, fun _ _ _ _ r h => by simp [laws_FnAllNeeds.l0] at h, fun _ _ _ _ _ _ r h => by simp [laws_FnAllNeeds.l1] at h⟩
  | k + 1 => by
    obtain ⟨ih0, ih1, ih2⟩ := laws_FnAllNeeds.mono_l k
    refine ⟨?_, ?_, ?_⟩
    · intro y0 y1 y2 y3
      unfold laws_FnAllNeeds.j0
      repeat' first
      | (with_reducible exact ih0 _ _ _ _)
      | (with_reducible exact ih1 _ _ _ _)
      | (with_reducible exact ih2 _ _ _ _ _ _)
      | (with_reducible exact laws_equalInts.mono _ _ _)
      | (with_reducible exact laws_isIn.mono _ _ _)
      | (with_reducible exact spec_AllNeeds.mono _ _ _)
      | (with_reducible exact spec_DrawAllNeeds.mono _ _)
      | (with_reducible exact LeO.refl _)
      | (with_reducible exact LeO.none _)
      | (with_reducible refine LeO.ite ?_ ?_)
      | (with_reducible refine LeO.bind ?_ (fun _ => ?_))
      | exact ih0 _ _ _ _
      | exact ih1 _ _ _ _
      | exact ih2 _ _ _ _ _ _
      | exact laws_equalInts.mono _ _ _
      | exact laws_isIn.mono _ _ _
      | exact spec_AllNeeds.mono _ _ _
      | exact spec_DrawAllNeeds.mono _ _
      | exact LeO.none _
      | refine LeO.ite ?_ ?_
      | refine LeO.bind ?_ (fun _ => ?_)
    · intro y0 y1 y2 y3
      unfold laws_FnAllNeeds.l0
      repeat' first
      | (with_reducible exact ih0 _ _ _ _)
      | (with_reducible exact ih1 _ _ _ _)
      | (with_reducible exact ih2 _ _ _ _ _ _)
      | (with_reducible exact laws_equalInts.mono _ _ _)
      | (with_reducible exact laws_isIn.mono _ _ _)
      | (with_reducible exact spec_AllNeeds.mono _ _ _)
      | (with_reducible exact spec_DrawAllNeeds.mono _ _)
      | (with_reducible exact LeO.refl _)
      | (with_reducible exact LeO.none _)
      | (with_reducible refine LeO.ite ?_ ?_)
      | (with_reducible refine LeO.bind ?_ (fun _ => ?_))
      | exact ih0 _ _ _ _
      | exact ih1 _ _ _ _
      | exact ih2 _ _ _ _ _ _
      | exact laws_equalInts.mono _ _ _
      | exact laws_isIn.mono _ _ _
      | exact spec_AllNeeds.mono _ _ _
      | exact spec_DrawAllNeeds.mono _ _
      | exact LeO.none _
      | refine LeO.ite ?_ ?_
      | refine LeO.bind ?_ (fun _ => ?_)
    · intro y0 y1 y2 y3 y4 y5
      unfold laws_FnAllNeeds.l1
      repeat' first
      | (with_reducible exact ih0 _ _ _ _)
      | (with_reducible exact ih1 _ _ _ _)
      | (with_reducible exact ih2 _ _ _ _ _ _)
      | (with_reducible exact laws_equalInts.mono _ _ _)
      | (with_reducible exact laws_isIn.mono _ _ _)
      | (with_reducible exact spec_AllNeeds.mono _ _ _)
      | (with_reducible exact spec_DrawAllNeeds.mono _ _)
      | (with_reducible exact LeO.refl _)
      | (with_reducible exact LeO.none _)
      | (with_reducible refine LeO.ite ?_ ?_)
      | (with_reducible refine LeO.bind ?_ (fun _ => ?_))
      | exact ih0 _ _ _ _
      | exact ih1 _ _ _ _
      | exact ih2 _ _ _ _ _ _
      | exact laws_equalInts.mono _ _ _
      | exact laws_isIn.mono _ _ _
      | exact spec_AllNeeds.mono _ _ _
      | exact spec_DrawAllNeeds.mono _ _
      | exact LeO.none _
      | refine LeO.ite ?_ ?_
      | refine LeO.bind ?_ (fun _ => ?_)
theorem laws_FnAllNeeds.mono : ∀ a0 k, LeO (laws_FnAllNeeds.f k a0) (laws_FnAllNeeds.f (k + 1) a0) := by
  intro a0 k
  obtain ⟨ih0, ih1, ih2⟩ := laws_FnAllNeeds.mono_l k
  unfold laws_FnAllNeeds.f
  repeat' first
      | (with_reducible exact ih0 _ _ _ _)
      | (with_reducible exact ih1 _ _ _ _)
      | (with_reducible exact ih2 _ _ _ _ _ _)
      | (with_reducible exact laws_equalInts.mono _ _ _)
      | (with_reducible exact laws_isIn.mono _ _ _)
      | (with_reducible exact spec_AllNeeds.mono _ _ _)
      | (with_reducible exact spec_DrawAllNeeds.mono _ _)
      | (with_reducible exact LeO.refl _)
      | (with_reducible exact LeO.none _)
      | (with_reducible refine LeO.ite ?_ ?_)
      | (with_reducible refine LeO.bind ?_ (fun _ => ?_))
      | exact ih0 _ _ _ _
      | exact ih1 _ _ _ _
      | exact ih2 _ _ _ _ _ _
      | exact laws_equalInts.mono _ _ _
      | exact laws_isIn.mono _ _ _
      | exact spec_AllNeeds.mono _ _ _
      | exact spec_DrawAllNeeds.mono _ _
      | exact LeO.none _
      | refine LeO.ite ?_ ?_
      | refine LeO.bind ?_ (fun _ => ?_)
set_option maxHeartbeats 8000000 in
set_option maxRecDepth 100000 in
theorem laws_FnAllNeeds.calls (k : Nat) (A0 : Option Addr) (c0 : Nat) (l0 : List Int) (r : Bool) (w : World) (hT : Go.Proofs.YtamomflollhofaaDoor.H.Tab w) (hr0 : Kd.C (Kd.int .u8) w A0 l0.length l0) (hc0 : l0.length ≤ c0) (h : laws_FnAllNeeds.f k l0 = some r) :
    Calls Tryd.prog 8 #[.slice A0 l0.length c0] w fun e w' => e = .returned (.bool r) ∧ Below w.heap.size w w' := by
  have HT := Aside0.mk hT
  clear hT
  have HR0 := Aside0.mk hr0
  have HC0 := Aside0.mk hc0
  clear hr0 hc0
  have HB := Aside0.mk (Below.refl w.heap.size w)
  have H : (if (l0.length : Int) > 1048576 then (some true) else ((spec_DrawAllNeeds.f k l0).bind fun bt541 => ((impl_AllNeeds.f bt541.1 bt541.2).bind fun t545 => ((spec_AllNeeds.f k bt541.1 bt541.2).bind fun t548 => ((laws_equalInts.f k t545 t548).bind fun t551 => (if t551 = true then ((impl_ValidGraph.f bt541.1).bind fun t552 => (if t552 = true then (if bt541.2 < 0 then (laws_FnAllNeeds.j0 k bt541.1 bt541.2 t545 true) else (laws_FnAllNeeds.j0 k bt541.1 bt541.2 t545 (decide (bt541.2 ≥ (bt541.1.length : Int))))) else (laws_FnAllNeeds.j0 k bt541.1 bt541.2 t545 true))) else (laws_FnAllNeeds.j0 k bt541.1 bt541.2 t545 true))))))) = some r := h
  clear h
  by_cases c2 : (l0.length : Int) > 1048576
  · rw [if_pos c2] at H
    have c2b0 : decide (1048576 < (l0.length : Int)) = true := decide_eq_true c2
    have c2b1 : decide (1048576 < l0.length) = true := decide_eq_true (by omega)
    clear c2
    obtain rfl := Option.some.inj H
    go_enter Tryd.func8, Tryd.ntmps8
    go_wp2
    go_ret
    exact ⟨by first | rfl | (simp [errW_none, errW_some] <;> rfl) | (simp [*, errW_none, errW_some] <;> rfl), by repeat (first | (with_reducible first | exact HB.out | apply below_alloc | apply pw_below_drewN | apply below_drew1) | exact HB.out)⟩
  · rw [if_neg c2] at H
    have c2b0 : decide (1048576 < (l0.length : Int)) = false := decide_eq_false c2
    have c2b1 : decide (1048576 < l0.length) = false := decide_eq_false (by omega)
    clear c2
    replace H := Option.bind_eq_some_iff.mp H
    obtain ⟨⟨t541, t544⟩, A30, H⟩ := H
    replace H : ((impl_AllNeeds.f t541 t544).bind fun t545 => ((spec_AllNeeds.f k t541 t544).bind fun t548 => ((laws_equalInts.f k t545 t548).bind fun t551 => (if t551 = true then ((impl_ValidGraph.f t541).bind fun t552 => (if t552 = true then (if t544 < 0 then (laws_FnAllNeeds.j0 k t541 t544 t545 true) else (laws_FnAllNeeds.j0 k t541 t544 t545 (decide (t544 ≥ (t541.length : Int))))) else (laws_FnAllNeeds.j0 k t541 t544 t545 true))) else (laws_FnAllNeeds.j0 k t541 t544 t545 true))))) = some r := H
    have A3 := Aside0.mk A30
    clear A30
    replace H := Option.bind_eq_some_iff.mp H
    obtain ⟨t545, A40, H⟩ := H
    replace H : ((spec_AllNeeds.f k t541 t544).bind fun t548 => ((laws_equalInts.f k t545 t548).bind fun t551 => (if t551 = true then ((impl_ValidGraph.f t541).bind fun t552 => (if t552 = true then (if t544 < 0 then (laws_FnAllNeeds.j0 k t541 t544 t545 true) else (laws_FnAllNeeds.j0 k t541 t544 t545 (decide (t544 ≥ (t541.length : Int))))) else (laws_FnAllNeeds.j0 k t541 t544 t545 true))) else (laws_FnAllNeeds.j0 k t541 t544 t545 true)))) = some r := H
    have A4 := Aside0.mk A40
    clear A40
    have HC5 := Aside0.mk H
    clear H
    go_enter Tryd.func8, Tryd.ntmps8
    go_upto_region 5 with (first | ((with_reducible refine gate_callee (f := 34) rfl ?_); refine goesL_ (some 14) rfl rfl Tryd.func34 (by kernel_rfl) rfl #[.slice A0 l0.length c0] rfl (by (try simp only [List.map_toArray, List.map_cons, List.map_nil]); first | done | rfl | (simp only [List.length_drop, List.length_take]; rfl)) ?_; (with_reducible refine (spec_DrawAllNeeds.calls k _ _ l0 t541 t544 _ ?side1 ?side2 A3.out).mono ?_); (case side1 => repeat (first | exact HR0.out | (with_reducible refine Kd.C_alloc ?_ _) | (with_reducible refine Kd.C_drewN ?_ _) | (with_reducible refine Kd.C_drew ?_))); (case side2 => exact HC0.out); rintro e w6 ⟨v542, rfl, ho0, hb⟩; refine ⟨_, rfl, ?_⟩; have n0_ := Aside0.mk (Kd.N_lower (Kd.N_mono (ok' := fun k_ => True) ho0 (fun k_ hk_ => trivial)) (below_size (by repeat (first | (with_reducible first | exact HB.out | apply below_alloc | apply pw_below_drewN | apply below_drew1) | exact HB.out)))); have n1_ := Aside0.mk (below_step (by repeat (first | (with_reducible first | exact HB.out | apply below_alloc | apply pw_below_drewN | apply below_drew1) | exact HB.out)) hb); clear HB; have HO543 := n0_; have HB := n1_; clear n0_ n1_; (try clear hb); (try clear hb2); (try clear hk); (try clear hi); (try clear ho0); obtain ⟨Ao7, co7, eo7⟩ := Kd.N_slice HO543.out; subst eo7) | ((with_reducible refine gate_callee (f := 27) rfl ?_); refine goesL_ (some 19) rfl rfl Tryd.func27 (by kernel_rfl) rfl #[.slice Ao7 t541.length co7, .int .i64 t544] rfl (by (try simp only [List.map_toArray, List.map_cons, List.map_nil]); first | done | rfl | (simp only [List.length_drop, List.length_take]; rfl)) ?_; (with_reducible refine (impl_AllNeeds.calls _ _ t541 t544 t545 _ ?side1 ?side2 ?sideT A4.out).mono ?_); (case sideT => exact (HT.out.below (by repeat (first | (with_reducible first | exact HB.out | apply below_alloc | apply pw_below_drewN | apply below_drew1) | exact HB.out)))); (case side1 => repeat (first | exact (Kd.N_reads' HO543.out).2.2 | (with_reducible refine Kd.C_alloc ?_ _) | (with_reducible refine Kd.C_drewN ?_ _) | (with_reducible refine Kd.C_drew ?_))); (case side2 => exact (Kd.N_reads' HO543.out).2.1); rintro e w8 ⟨v546, rfl, ho0, hb⟩; refine ⟨_, rfl, ?_⟩; have n0_ := Aside0.mk (Kd.N_elder' (by (with_reducible repeat (first | apply Kd.N_alloc | apply Kd.N_drewN | apply Kd.N_drew)); exact HO543.out) (Kd.R_base ho0) hb); have n1_ := Aside0.mk (Kd.R_lower ho0 (below_size (by repeat (first | (with_reducible first | exact HB.out | apply below_alloc | apply pw_below_drewN | apply below_drew1) | exact HB.out)))); have n2_ := Aside0.mk (below_step (by repeat (first | (with_reducible first | exact HB.out | apply below_alloc | apply pw_below_drewN | apply below_drew1) | exact HB.out)) hb); clear HO543; clear HB; have HO543 := n0_; have HO547 := n1_; have HB := n2_; clear n0_ n1_ n2_; (try clear hb); (try clear hb2); (try clear hk); (try clear hi); (try clear ho0)))
    (try simp only [Act.put, List.setIfInBounds_toArray, List.set_cons_zero, List.set_cons_succ])
    go_cut [40] (fun v40 wc => ∃ (kq : Nat) (x40_4 : Bool), v40 = .bool x40_4 ∧ Aside0 (laws_FnAllNeeds.j0 kq t541 t544 t545 x40_4 = some r) ∧ Aside0 (kq ≤ k) ∧ Aside0 (Kd.N k32 32 wc w.heap.size (fun k_ => some k_ ≠ (v546 : Value).ownBlock) (.slice Ao7 t541.length co7) t541) ∧ Aside0 (Kd.R (Kd.int .i64) 3 wc w.heap.size (fun _ => True) v546 t545) ∧ Aside0 (Below w.heap.size w wc))
    case first =>
      have H := HC5.out
      clear HC5
      replace H := Option.bind_eq_some_iff.mp H
      obtain ⟨t548, A90, H⟩ := H
      replace H : ((laws_equalInts.f k t545 t548).bind fun t551 => (if t551 = true then ((impl_ValidGraph.f t541).bind fun t552 => (if t552 = true then (if t544 < 0 then (laws_FnAllNeeds.j0 k t541 t544 t545 true) else (laws_FnAllNeeds.j0 k t541 t544 t545 (decide (t544 ≥ (t541.length : Int))))) else (laws_FnAllNeeds.j0 k t541 t544 t545 true))) else (laws_FnAllNeeds.j0 k t541 t544 t545 true))) = some r := H
      have A9 := Aside0.mk A90
      clear A90
      replace H := Option.bind_eq_some_iff.mp H
      obtain ⟨t551, A100, H⟩ := H
      replace H : (if t551 = true then ((impl_ValidGraph.f t541).bind fun t552 => (if t552 = true then (if t544 < 0 then (laws_FnAllNeeds.j0 k t541 t544 t545 true) else (laws_FnAllNeeds.j0 k t541 t544 t545 (decide (t544 ≥ (t541.length : Int))))) else (laws_FnAllNeeds.j0 k t541 t544 t545 true))) else (laws_FnAllNeeds.j0 k t541 t544 t545 true)) = some r := H
      have A10 := Aside0.mk A100
      clear A100
      by_cases c11 : t551 = true
      · subst c11
        have H1 : ((impl_ValidGraph.f t541).bind fun t552 => (if t552 = true then (if t544 < 0 then (laws_FnAllNeeds.j0 k t541 t544 t545 true) else (laws_FnAllNeeds.j0 k t541 t544 t545 (decide (t544 ≥ (t541.length : Int))))) else (laws_FnAllNeeds.j0 k t541 t544 t545 true))) = some r := by rw [if_pos rfl] at H; exact H
        clear H
        have H := H1
        clear H1
        replace H := Option.bind_eq_some_iff.mp H
        obtain ⟨t552, A120, H⟩ := H
        replace H : (if t552 = true then (if t544 < 0 then (laws_FnAllNeeds.j0 k t541 t544 t545 true) else (laws_FnAllNeeds.j0 k t541 t544 t545 (decide (t544 ≥ (t541.length : Int))))) else (laws_FnAllNeeds.j0 k t541 t544 t545 true)) = some r := H
        have A12 := Aside0.mk A120
        clear A120
        by_cases c13 : t552 = true
        · subst c13
          have H1 : (if t544 < 0 then (laws_FnAllNeeds.j0 k t541 t544 t545 true) else (laws_FnAllNeeds.j0 k t541 t544 t545 (decide (t544 ≥ (t541.length : Int))))) = some r := by rw [if_pos rfl] at H; exact H
          clear H
          have H := H1
          clear H1
          by_cases c14 : t544 < 0
          · rw [if_pos c14] at H
            have c14b0 : decide (t544 < 0) = true := decide_eq_true c14
            clear c14
            (first | rw [c14b0] | (simp only [i64_w, i32_w]; rw [c14b0]) | skip)
            have H' := Aside0.mk H
            clear H
            go_wp2_with (first | ((with_reducible refine gate_callee (f := 25) rfl ?_); refine goesL_ (some 23) rfl rfl Tryd.func25 (by kernel_rfl) rfl #[.slice Ao7 t541.length co7, .int .i64 t544] rfl (by (try simp only [List.map_toArray, List.map_cons, List.map_nil]); first | done | rfl | (simp only [List.length_drop, List.length_take]; rfl)) ?_; (with_reducible refine (spec_AllNeeds.calls k _ _ t541 t544 t548 _ ?side1 ?side2 A9.out).mono ?_); (case side1 => repeat (first | exact (Kd.N_reads' HO543.out).2.2 | (with_reducible refine Kd.C_alloc ?_ _) | (with_reducible refine Kd.C_drewN ?_ _) | (with_reducible refine Kd.C_drew ?_))); (case side2 => exact (Kd.N_reads' HO543.out).2.1); rintro e w15 ⟨v549, rfl, ho0, hb⟩; refine ⟨_, rfl, ?_⟩; have n0_ := Aside0.mk (Kd.N_elder' (by (with_reducible repeat (first | apply Kd.N_alloc | apply Kd.N_drewN | apply Kd.N_drew)); exact HO543.out) (Kd.R_base ho0) hb); have n1_ := Aside0.mk (Kd.R_elder' (by (with_reducible repeat (first | apply Kd.R_alloc | apply Kd.R_drewN | apply Kd.R_drew)); exact HO547.out) (Kd.R_base ho0) hb); have n2_ := Aside0.mk (Kd.R_lower (Kd.R_new' ho0 (Kd.R_lt (by (with_reducible repeat (first | apply Kd.R_alloc | apply Kd.R_drewN | apply Kd.R_drew)); exact HO547.out))) (below_size (by repeat (first | (with_reducible first | exact HB.out | apply below_alloc | apply pw_below_drewN | apply below_drew1) | exact HB.out)))); have n3_ := Aside0.mk (below_step (by repeat (first | (with_reducible first | exact HB.out | apply below_alloc | apply pw_below_drewN | apply below_drew1) | exact HB.out)) hb); clear HO543; clear HO547; clear HB; have HO543 := n0_; have HO547 := n1_; have HO550 := n2_; have HB := n3_; clear n0_ n1_ n2_ n3_; (try clear hb); (try clear hb2); (try clear hk); (try clear hi); (try clear ho0); obtain ⟨Ao16, co16, eo16⟩ := Kd.R_slice HO547.out; subst eo16; obtain ⟨Ao17, co17, eo17⟩ := Kd.R_slice HO550.out; subst eo17) | ((with_reducible refine gate_callee (f := 21) rfl ?_); refine goesL_ (some 24) rfl rfl Tryd.func21 (by kernel_rfl) rfl #[.slice Ao16 t545.length co16, .slice Ao17 t548.length co17] rfl (by (try simp only [List.map_toArray, List.map_cons, List.map_nil]); first | done | rfl | (simp only [List.length_drop, List.length_take]; rfl)) ?_; (with_reducible refine (laws_equalInts.calls k _ _ t545 _ _ t548 true _ ?side1 ?side2 ?side3 ?side4 A10.out).mono ?_); (case side1 => repeat (first | exact (Kd.R_reads' HO547.out).2.2 | (with_reducible refine Kd.C_alloc ?_ _) | (with_reducible refine Kd.C_drewN ?_ _) | (with_reducible refine Kd.C_drew ?_))); (case side2 => exact (Kd.R_reads' HO547.out).2.1); (case side3 => repeat (first | exact (Kd.R_reads' HO550.out).2.2 | (with_reducible refine Kd.C_alloc ?_ _) | (with_reducible refine Kd.C_drewN ?_ _) | (with_reducible refine Kd.C_drew ?_))); (case side4 => exact (Kd.R_reads' HO550.out).2.1); rintro e w' ⟨rfl, ⟨nd, rfl⟩⟩; refine ⟨_, rfl, ?_⟩) | (go_at_call 16; (with_reducible refine (impl_ValidGraph.calls _ _ t541 true _ ?side1 ?side2 ?sideT A12.out).mono ?_); (case sideT => exact (HT.out.below (by repeat (first | (with_reducible first | exact HB.out | apply below_alloc | apply pw_below_drewN | apply below_drew1) | exact HB.out)))); (case side1 => repeat (first | exact (Kd.N_reads' HO543.out).2.2 | (with_reducible refine Kd.C_alloc ?_ _) | (with_reducible refine Kd.C_drewN ?_ _) | (with_reducible refine Kd.C_drew ?_))); (case side2 => exact (Kd.N_reads' HO543.out).2.1); rintro e w18 ⟨rfl, hb⟩; have n0_ := Aside0.mk (Kd.N_below (by (with_reducible repeat (first | apply Kd.N_alloc | apply Kd.N_drewN | apply Kd.N_drew)); exact HO543.out) hb); have n1_ := Aside0.mk (Kd.R_below (by (with_reducible repeat (first | apply Kd.R_alloc | apply Kd.R_drewN | apply Kd.R_drew)); exact HO547.out) hb); have n2_ := Aside0.mk (Kd.R_below (by (with_reducible repeat (first | apply Kd.R_alloc | apply Kd.R_drewN | apply Kd.R_drew)); exact HO550.out) hb); have n3_ := Aside0.mk (below_step (by repeat (first | (with_reducible first | exact HB.out | apply below_alloc | apply pw_below_drewN | apply below_drew1) | exact HB.out)) hb); clear HO543; clear HO547; clear HO550; clear HB; have HO543 := n0_; have HO547 := n1_; have HO550 := n2_; have HB := n3_; clear n0_ n1_ n2_ n3_; (try clear hb); (try clear hb2); (try clear hk); (try clear hi)))
            go_meet
            case rel => exact ⟨_, (true), (by first | rfl | (simp; done) | (simp [*]; done)), H', ⟨by first | omega | exact Nat.le_refl _⟩, ⟨by (with_reducible repeat (first | apply Kd.N_alloc | apply Kd.N_drewN | apply Kd.N_drew)); exact Kd.N_mono HO543.out (fun _ hk => hk.1.2)⟩, ⟨by (with_reducible repeat (first | apply Kd.R_alloc | apply Kd.R_drewN | apply Kd.R_drew)); exact Kd.R_mono HO547.out (fun _ hk => trivial)⟩, ⟨by repeat (first | (with_reducible first | exact HB.out | apply below_alloc | apply pw_below_drewN | apply below_drew1) | exact HB.out)⟩⟩
          · rw [if_neg c14] at H
            have c14b0 : decide (t544 < 0) = false := decide_eq_false c14
            clear c14
            (first | rw [c14b0] | (simp only [i64_w, i32_w]; rw [c14b0]) | skip)
            have H' := Aside0.mk H
            clear H
            go_wp2_with (first | ((with_reducible refine gate_callee (f := 25) rfl ?_); refine goesL_ (some 23) rfl rfl Tryd.func25 (by kernel_rfl) rfl #[.slice Ao7 t541.length co7, .int .i64 t544] rfl (by (try simp only [List.map_toArray, List.map_cons, List.map_nil]); first | done | rfl | (simp only [List.length_drop, List.length_take]; rfl)) ?_; (with_reducible refine (spec_AllNeeds.calls k _ _ t541 t544 t548 _ ?side1 ?side2 A9.out).mono ?_); (case side1 => repeat (first | exact (Kd.N_reads' HO543.out).2.2 | (with_reducible refine Kd.C_alloc ?_ _) | (with_reducible refine Kd.C_drewN ?_ _) | (with_reducible refine Kd.C_drew ?_))); (case side2 => exact (Kd.N_reads' HO543.out).2.1); rintro e w19 ⟨v549, rfl, ho0, hb⟩; refine ⟨_, rfl, ?_⟩; have n0_ := Aside0.mk (Kd.N_elder' (by (with_reducible repeat (first | apply Kd.N_alloc | apply Kd.N_drewN | apply Kd.N_drew)); exact HO543.out) (Kd.R_base ho0) hb); have n1_ := Aside0.mk (Kd.R_elder' (by (with_reducible repeat (first | apply Kd.R_alloc | apply Kd.R_drewN | apply Kd.R_drew)); exact HO547.out) (Kd.R_base ho0) hb); have n2_ := Aside0.mk (Kd.R_lower (Kd.R_new' ho0 (Kd.R_lt (by (with_reducible repeat (first | apply Kd.R_alloc | apply Kd.R_drewN | apply Kd.R_drew)); exact HO547.out))) (below_size (by repeat (first | (with_reducible first | exact HB.out | apply below_alloc | apply pw_below_drewN | apply below_drew1) | exact HB.out)))); have n3_ := Aside0.mk (below_step (by repeat (first | (with_reducible first | exact HB.out | apply below_alloc | apply pw_below_drewN | apply below_drew1) | exact HB.out)) hb); clear HO543; clear HO547; clear HB; have HO543 := n0_; have HO547 := n1_; have HO550 := n2_; have HB := n3_; clear n0_ n1_ n2_ n3_; (try clear hb); (try clear hb2); (try clear hk); (try clear hi); (try clear ho0); obtain ⟨Ao20, co20, eo20⟩ := Kd.R_slice HO547.out; subst eo20; obtain ⟨Ao21, co21, eo21⟩ := Kd.R_slice HO550.out; subst eo21) | ((with_reducible refine gate_callee (f := 21) rfl ?_); refine goesL_ (some 24) rfl rfl Tryd.func21 (by kernel_rfl) rfl #[.slice Ao20 t545.length co20, .slice Ao21 t548.length co21] rfl (by (try simp only [List.map_toArray, List.map_cons, List.map_nil]); first | done | rfl | (simp only [List.length_drop, List.length_take]; rfl)) ?_; (with_reducible refine (laws_equalInts.calls k _ _ t545 _ _ t548 true _ ?side1 ?side2 ?side3 ?side4 A10.out).mono ?_); (case side1 => repeat (first | exact (Kd.R_reads' HO547.out).2.2 | (with_reducible refine Kd.C_alloc ?_ _) | (with_reducible refine Kd.C_drewN ?_ _) | (with_reducible refine Kd.C_drew ?_))); (case side2 => exact (Kd.R_reads' HO547.out).2.1); (case side3 => repeat (first | exact (Kd.R_reads' HO550.out).2.2 | (with_reducible refine Kd.C_alloc ?_ _) | (with_reducible refine Kd.C_drewN ?_ _) | (with_reducible refine Kd.C_drew ?_))); (case side4 => exact (Kd.R_reads' HO550.out).2.1); rintro e w' ⟨rfl, ⟨nd, rfl⟩⟩; refine ⟨_, rfl, ?_⟩) | (go_at_call 16; (with_reducible refine (impl_ValidGraph.calls _ _ t541 true _ ?side1 ?side2 ?sideT A12.out).mono ?_); (case sideT => exact (HT.out.below (by repeat (first | (with_reducible first | exact HB.out | apply below_alloc | apply pw_below_drewN | apply below_drew1) | exact HB.out)))); (case side1 => repeat (first | exact (Kd.N_reads' HO543.out).2.2 | (with_reducible refine Kd.C_alloc ?_ _) | (with_reducible refine Kd.C_drewN ?_ _) | (with_reducible refine Kd.C_drew ?_))); (case side2 => exact (Kd.N_reads' HO543.out).2.1); rintro e w22 ⟨rfl, hb⟩; have n0_ := Aside0.mk (Kd.N_below (by (with_reducible repeat (first | apply Kd.N_alloc | apply Kd.N_drewN | apply Kd.N_drew)); exact HO543.out) hb); have n1_ := Aside0.mk (Kd.R_below (by (with_reducible repeat (first | apply Kd.R_alloc | apply Kd.R_drewN | apply Kd.R_drew)); exact HO547.out) hb); have n2_ := Aside0.mk (Kd.R_below (by (with_reducible repeat (first | apply Kd.R_alloc | apply Kd.R_drewN | apply Kd.R_drew)); exact HO550.out) hb); have n3_ := Aside0.mk (below_step (by repeat (first | (with_reducible first | exact HB.out | apply below_alloc | apply pw_below_drewN | apply below_drew1) | exact HB.out)) hb); clear HO543; clear HO547; clear HO550; clear HB; have HO543 := n0_; have HO547 := n1_; have HO550 := n2_; have HB := n3_; clear n0_ n1_ n2_ n3_; (try clear hb); (try clear hb2); (try clear hk); (try clear hi)))
            go_meet
            case rel => exact ⟨_, (decide (t544 ≥ (t541.length : Int))), (by first | rfl | (simp; done) | (simp [*]; done)), H', ⟨by first | omega | exact Nat.le_refl _⟩, ⟨by (with_reducible repeat (first | apply Kd.N_alloc | apply Kd.N_drewN | apply Kd.N_drew)); exact Kd.N_mono HO543.out (fun _ hk => hk.1.2)⟩, ⟨by (with_reducible repeat (first | apply Kd.R_alloc | apply Kd.R_drewN | apply Kd.R_drew)); exact Kd.R_mono HO547.out (fun _ hk => trivial)⟩, ⟨by repeat (first | (with_reducible first | exact HB.out | apply below_alloc | apply pw_below_drewN | apply below_drew1) | exact HB.out)⟩⟩
        · replace c13 := Bool.eq_false_iff.mpr c13
          subst c13
          have H1 : (laws_FnAllNeeds.j0 k t541 t544 t545 true) = some r := by rw [if_neg (show ¬ (false = true) by decide)] at H; exact H
          clear H
          have H := H1
          clear H1
          have H' := Aside0.mk H
          clear H
          go_wp2_with (first | ((with_reducible refine gate_callee (f := 25) rfl ?_); refine goesL_ (some 23) rfl rfl Tryd.func25 (by kernel_rfl) rfl #[.slice Ao7 t541.length co7, .int .i64 t544] rfl (by (try simp only [List.map_toArray, List.map_cons, List.map_nil]); first | done | rfl | (simp only [List.length_drop, List.length_take]; rfl)) ?_; (with_reducible refine (spec_AllNeeds.calls k _ _ t541 t544 t548 _ ?side1 ?side2 A9.out).mono ?_); (case side1 => repeat (first | exact (Kd.N_reads' HO543.out).2.2 | (with_reducible refine Kd.C_alloc ?_ _) | (with_reducible refine Kd.C_drewN ?_ _) | (with_reducible refine Kd.C_drew ?_))); (case side2 => exact (Kd.N_reads' HO543.out).2.1); rintro e w23 ⟨v549, rfl, ho0, hb⟩; refine ⟨_, rfl, ?_⟩; have n0_ := Aside0.mk (Kd.N_elder' (by (with_reducible repeat (first | apply Kd.N_alloc | apply Kd.N_drewN | apply Kd.N_drew)); exact HO543.out) (Kd.R_base ho0) hb); have n1_ := Aside0.mk (Kd.R_elder' (by (with_reducible repeat (first | apply Kd.R_alloc | apply Kd.R_drewN | apply Kd.R_drew)); exact HO547.out) (Kd.R_base ho0) hb); have n2_ := Aside0.mk (Kd.R_lower (Kd.R_new' ho0 (Kd.R_lt (by (with_reducible repeat (first | apply Kd.R_alloc | apply Kd.R_drewN | apply Kd.R_drew)); exact HO547.out))) (below_size (by repeat (first | (with_reducible first | exact HB.out | apply below_alloc | apply pw_below_drewN | apply below_drew1) | exact HB.out)))); have n3_ := Aside0.mk (below_step (by repeat (first | (with_reducible first | exact HB.out | apply below_alloc | apply pw_below_drewN | apply below_drew1) | exact HB.out)) hb); clear HO543; clear HO547; clear HB; have HO543 := n0_; have HO547 := n1_; have HO550 := n2_; have HB := n3_; clear n0_ n1_ n2_ n3_; (try clear hb); (try clear hb2); (try clear hk); (try clear hi); (try clear ho0); obtain ⟨Ao24, co24, eo24⟩ := Kd.R_slice HO547.out; subst eo24; obtain ⟨Ao25, co25, eo25⟩ := Kd.R_slice HO550.out; subst eo25) | ((with_reducible refine gate_callee (f := 21) rfl ?_); refine goesL_ (some 24) rfl rfl Tryd.func21 (by kernel_rfl) rfl #[.slice Ao24 t545.length co24, .slice Ao25 t548.length co25] rfl (by (try simp only [List.map_toArray, List.map_cons, List.map_nil]); first | done | rfl | (simp only [List.length_drop, List.length_take]; rfl)) ?_; (with_reducible refine (laws_equalInts.calls k _ _ t545 _ _ t548 true _ ?side1 ?side2 ?side3 ?side4 A10.out).mono ?_); (case side1 => repeat (first | exact (Kd.R_reads' HO547.out).2.2 | (with_reducible refine Kd.C_alloc ?_ _) | (with_reducible refine Kd.C_drewN ?_ _) | (with_reducible refine Kd.C_drew ?_))); (case side2 => exact (Kd.R_reads' HO547.out).2.1); (case side3 => repeat (first | exact (Kd.R_reads' HO550.out).2.2 | (with_reducible refine Kd.C_alloc ?_ _) | (with_reducible refine Kd.C_drewN ?_ _) | (with_reducible refine Kd.C_drew ?_))); (case side4 => exact (Kd.R_reads' HO550.out).2.1); rintro e w' ⟨rfl, ⟨nd, rfl⟩⟩; refine ⟨_, rfl, ?_⟩) | (go_at_call 16; (with_reducible refine (impl_ValidGraph.calls _ _ t541 false _ ?side1 ?side2 ?sideT A12.out).mono ?_); (case sideT => exact (HT.out.below (by repeat (first | (with_reducible first | exact HB.out | apply below_alloc | apply pw_below_drewN | apply below_drew1) | exact HB.out)))); (case side1 => repeat (first | exact (Kd.N_reads' HO543.out).2.2 | (with_reducible refine Kd.C_alloc ?_ _) | (with_reducible refine Kd.C_drewN ?_ _) | (with_reducible refine Kd.C_drew ?_))); (case side2 => exact (Kd.N_reads' HO543.out).2.1); rintro e w26 ⟨rfl, hb⟩; have n0_ := Aside0.mk (Kd.N_below (by (with_reducible repeat (first | apply Kd.N_alloc | apply Kd.N_drewN | apply Kd.N_drew)); exact HO543.out) hb); have n1_ := Aside0.mk (Kd.R_below (by (with_reducible repeat (first | apply Kd.R_alloc | apply Kd.R_drewN | apply Kd.R_drew)); exact HO547.out) hb); have n2_ := Aside0.mk (Kd.R_below (by (with_reducible repeat (first | apply Kd.R_alloc | apply Kd.R_drewN | apply Kd.R_drew)); exact HO550.out) hb); have n3_ := Aside0.mk (below_step (by repeat (first | (with_reducible first | exact HB.out | apply below_alloc | apply pw_below_drewN | apply below_drew1) | exact HB.out)) hb); clear HO543; clear HO547; clear HO550; clear HB; have HO543 := n0_; have HO547 := n1_; have HO550 := n2_; have HB := n3_; clear n0_ n1_ n2_ n3_; (try clear hb); (try clear hb2); (try clear hk); (try clear hi)))
          go_meet
          case rel => exact ⟨_, (true), (by first | rfl | (simp; done) | (simp [*]; done)), H', ⟨by first | omega | exact Nat.le_refl _⟩, ⟨by (with_reducible repeat (first | apply Kd.N_alloc | apply Kd.N_drewN | apply Kd.N_drew)); exact Kd.N_mono HO543.out (fun _ hk => hk.1.2)⟩, ⟨by (with_reducible repeat (first | apply Kd.R_alloc | apply Kd.R_drewN | apply Kd.R_drew)); exact Kd.R_mono HO547.out (fun _ hk => trivial)⟩, ⟨by repeat (first | (with_reducible first | exact HB.out | apply below_alloc | apply pw_below_drewN | apply below_drew1) | exact HB.out)⟩⟩
      · replace c11 := Bool.eq_false_iff.mpr c11
        subst c11
        have H1 : (laws_FnAllNeeds.j0 k t541 t544 t545 true) = some r := by rw [if_neg (show ¬ (false = true) by decide)] at H; exact H
        clear H
        have H := H1
        clear H1
        have H' := Aside0.mk H
        clear H
        go_wp2_with (first | ((with_reducible refine gate_callee (f := 25) rfl ?_); refine goesL_ (some 23) rfl rfl Tryd.func25 (by kernel_rfl) rfl #[.slice Ao7 t541.length co7, .int .i64 t544] rfl (by (try simp only [List.map_toArray, List.map_cons, List.map_nil]); first | done | rfl | (simp only [List.length_drop, List.length_take]; rfl)) ?_; (with_reducible refine (spec_AllNeeds.calls k _ _ t541 t544 t548 _ ?side1 ?side2 A9.out).mono ?_); (case side1 => repeat (first | exact (Kd.N_reads' HO543.out).2.2 | (with_reducible refine Kd.C_alloc ?_ _) | (with_reducible refine Kd.C_drewN ?_ _) | (with_reducible refine Kd.C_drew ?_))); (case side2 => exact (Kd.N_reads' HO543.out).2.1); rintro e w27 ⟨v549, rfl, ho0, hb⟩; refine ⟨_, rfl, ?_⟩; have n0_ := Aside0.mk (Kd.N_elder' (by (with_reducible repeat (first | apply Kd.N_alloc | apply Kd.N_drewN | apply Kd.N_drew)); exact HO543.out) (Kd.R_base ho0) hb); have n1_ := Aside0.mk (Kd.R_elder' (by (with_reducible repeat (first | apply Kd.R_alloc | apply Kd.R_drewN | apply Kd.R_drew)); exact HO547.out) (Kd.R_base ho0) hb); have n2_ := Aside0.mk (Kd.R_lower (Kd.R_new' ho0 (Kd.R_lt (by (with_reducible repeat (first | apply Kd.R_alloc | apply Kd.R_drewN | apply Kd.R_drew)); exact HO547.out))) (below_size (by repeat (first | (with_reducible first | exact HB.out | apply below_alloc | apply pw_below_drewN | apply below_drew1) | exact HB.out)))); have n3_ := Aside0.mk (below_step (by repeat (first | (with_reducible first | exact HB.out | apply below_alloc | apply pw_below_drewN | apply below_drew1) | exact HB.out)) hb); clear HO543; clear HO547; clear HB; have HO543 := n0_; have HO547 := n1_; have HO550 := n2_; have HB := n3_; clear n0_ n1_ n2_ n3_; (try clear hb); (try clear hb2); (try clear hk); (try clear hi); (try clear ho0); obtain ⟨Ao28, co28, eo28⟩ := Kd.R_slice HO547.out; subst eo28; obtain ⟨Ao29, co29, eo29⟩ := Kd.R_slice HO550.out; subst eo29) | ((with_reducible refine gate_callee (f := 21) rfl ?_); refine goesL_ (some 24) rfl rfl Tryd.func21 (by kernel_rfl) rfl #[.slice Ao28 t545.length co28, .slice Ao29 t548.length co29] rfl (by (try simp only [List.map_toArray, List.map_cons, List.map_nil]); first | done | rfl | (simp only [List.length_drop, List.length_take]; rfl)) ?_; (with_reducible refine (laws_equalInts.calls k _ _ t545 _ _ t548 false _ ?side1 ?side2 ?side3 ?side4 A10.out).mono ?_); (case side1 => repeat (first | exact (Kd.R_reads' HO547.out).2.2 | (with_reducible refine Kd.C_alloc ?_ _) | (with_reducible refine Kd.C_drewN ?_ _) | (with_reducible refine Kd.C_drew ?_))); (case side2 => exact (Kd.R_reads' HO547.out).2.1); (case side3 => repeat (first | exact (Kd.R_reads' HO550.out).2.2 | (with_reducible refine Kd.C_alloc ?_ _) | (with_reducible refine Kd.C_drewN ?_ _) | (with_reducible refine Kd.C_drew ?_))); (case side4 => exact (Kd.R_reads' HO550.out).2.1); rintro e w' ⟨rfl, ⟨nd, rfl⟩⟩; refine ⟨_, rfl, ?_⟩))
        go_meet
        case rel => exact ⟨_, (true), (by first | rfl | (simp; done) | (simp [*]; done)), H', ⟨by first | omega | exact Nat.le_refl _⟩, ⟨by (with_reducible repeat (first | apply Kd.N_alloc | apply Kd.N_drewN | apply Kd.N_drew)); exact Kd.N_mono HO543.out (fun _ hk => hk.1.2)⟩, ⟨by (with_reducible repeat (first | apply Kd.R_alloc | apply Kd.R_drewN | apply Kd.R_drew)); exact Kd.R_mono HO547.out (fun _ hk => trivial)⟩, ⟨by repeat (first | (with_reducible first | exact HB.out | apply below_alloc | apply pw_below_drewN | apply below_drew1) | exact HB.out)⟩⟩
    case rest =>
      clear HC5
      try clear c1
      try clear c2
      try clear c2b0
      try clear c2b1
      try clear p2
      try clear c3
      try clear c8
      try clear c11
      try clear c13
      try clear c14
      try clear c14b0
      try clear c21
      try clear c25
      try clear c27
      obtain ⟨kq, x40_4, rfl, HA, HJ4, HO_3, HO_5, HB⟩ := hcut
      cases kq with
      | zero => exact absurd HA.out (by simp [laws_FnAllNeeds.j0])
      | succ kj4 =>
        have H := HA.out
        clear HA
        simp only [laws_FnAllNeeds.j0] at H
        by_cases c30 : x40_4 = true
        · subst c30
          have H1 : ((spec_AllNeeds.f kj4 t541 t544).bind fun t553 => ((laws_equalInts.f kj4 t545 t553).bind fun t556 => (some t556))) = some r := by rw [if_pos rfl] at H; exact H
          clear H
          have H := H1
          clear H1
          replace H := Option.bind_eq_some_iff.mp H
          obtain ⟨t553, A310, H⟩ := H
          replace H : ((laws_equalInts.f kj4 t545 t553).bind fun t556 => (some t556)) = some r := H
          have A31 := Aside0.mk A310
          clear A310
          replace H := Option.bind_eq_some_iff.mp H
          obtain ⟨t556, A320, H⟩ := H
          replace H : (some t556) = some r := H
          have A32 := Aside0.mk A320
          clear A320
          obtain rfl := Option.some.inj H
          go_wp2_with (first | ((with_reducible refine gate_callee (f := 25) rfl ?_); refine goesL_ (some 44) rfl rfl Tryd.func25 (by kernel_rfl) rfl #[.slice Ao7 t541.length co7, .int .i64 t544] rfl (by (try simp only [List.map_toArray, List.map_cons, List.map_nil]); first | done | rfl | (simp only [List.length_drop, List.length_take]; rfl)) ?_; (with_reducible refine (spec_AllNeeds.calls kj4 _ _ t541 t544 t553 _ ?side1 ?side2 A31.out).mono ?_); (case side1 => repeat (first | exact (Kd.N_reads' HO_3.out).2.2 | (with_reducible refine Kd.C_alloc ?_ _) | (with_reducible refine Kd.C_drewN ?_ _) | (with_reducible refine Kd.C_drew ?_))); (case side2 => exact (Kd.N_reads' HO_3.out).2.1); rintro e w33 ⟨v554, rfl, ho0, hb⟩; refine ⟨_, rfl, ?_⟩; have n0_ := Aside0.mk (Kd.N_elder' (by (with_reducible repeat (first | apply Kd.N_alloc | apply Kd.N_drewN | apply Kd.N_drew)); exact HO_3.out) (Kd.R_base ho0) hb); have n1_ := Aside0.mk (Kd.R_elder' (by (with_reducible repeat (first | apply Kd.R_alloc | apply Kd.R_drewN | apply Kd.R_drew)); exact HO_5.out) (Kd.R_base ho0) hb); have n2_ := Aside0.mk (Kd.R_lower (Kd.R_new' ho0 (Kd.R_lt (by (with_reducible repeat (first | apply Kd.R_alloc | apply Kd.R_drewN | apply Kd.R_drew)); exact HO_5.out))) (below_size (by repeat (first | (with_reducible first | exact HB.out | apply below_alloc | apply pw_below_drewN | apply below_drew1) | exact HB.out)))); have n3_ := Aside0.mk (below_step (by repeat (first | (with_reducible first | exact HB.out | apply below_alloc | apply pw_below_drewN | apply below_drew1) | exact HB.out)) hb); clear HO_3; clear HO_5; clear HB; have HO_3 := n0_; have HO_5 := n1_; have HO555 := n2_; have HB := n3_; clear n0_ n1_ n2_ n3_; (try clear hb); (try clear hb2); (try clear hk); (try clear hi); (try clear ho0); obtain ⟨Ao34, co34, eo34⟩ := Kd.R_slice HO_5.out; subst eo34; obtain ⟨Ao35, co35, eo35⟩ := Kd.R_slice HO555.out; subst eo35) | ((with_reducible refine gate_callee (f := 21) rfl ?_); refine goesL_ (some 45) rfl rfl Tryd.func21 (by kernel_rfl) rfl #[.slice Ao34 t545.length co34, .slice Ao35 t553.length co35] rfl (by (try simp only [List.map_toArray, List.map_cons, List.map_nil]); first | done | rfl | (simp only [List.length_drop, List.length_take]; rfl)) ?_; (with_reducible refine (laws_equalInts.calls kj4 _ _ t545 _ _ t553 t556 _ ?side1 ?side2 ?side3 ?side4 A32.out).mono ?_); (case side1 => repeat (first | exact (Kd.R_reads' HO_5.out).2.2 | (with_reducible refine Kd.C_alloc ?_ _) | (with_reducible refine Kd.C_drewN ?_ _) | (with_reducible refine Kd.C_drew ?_))); (case side2 => exact (Kd.R_reads' HO_5.out).2.1); (case side3 => repeat (first | exact (Kd.R_reads' HO555.out).2.2 | (with_reducible refine Kd.C_alloc ?_ _) | (with_reducible refine Kd.C_drewN ?_ _) | (with_reducible refine Kd.C_drew ?_))); (case side4 => exact (Kd.R_reads' HO555.out).2.1); rintro e w' ⟨rfl, ⟨nd, rfl⟩⟩; refine ⟨_, rfl, ?_⟩))
          go_ret
          exact ⟨by first | rfl | (simp [errW_none, errW_some] <;> rfl) | (simp [*, errW_none, errW_some] <;> rfl), by repeat (first | (with_reducible first | exact HB.out | apply below_alloc | apply pw_below_drewN | apply below_drew1) | exact HB.out)⟩
        · replace c30 := Bool.eq_false_iff.mpr c30
          subst c30
          have H1 : (laws_FnAllNeeds.l0 kj4 t541 t544 t545 0) = some r := by rw [if_neg (show ¬ (false = true) by decide)] at H; exact H
          clear H
          have H := H1
          clear H1
          have H' := Aside0.mk H
          clear H
          go_wp2
          go_loopg [6] kj4 (fun kq v6 w' => ∃ (x6_2 : Int), v6 = .int .i64 x6_2 ∧ Aside0 (laws_FnAllNeeds.l0 kq t541 t544 t545 x6_2 = some r) ∧ Aside0 (kq ≤ kj4) ∧ Aside0 (Kd.N k32 32 w' w.heap.size (fun k_ => some k_ ≠ (v546 : Value).ownBlock) (.slice Ao7 t541.length co7) t541) ∧ Aside0 (Kd.R (Kd.int .i64) 3 w' w.heap.size (fun _ => True) v546 t545) ∧ Aside0 (Below w.heap.size w w'))
          case atStart => exact ⟨(0), (by first | rfl | (simp; done) | (simp [*]; done)), H', ⟨Nat.le_refl _⟩, ⟨by (with_reducible repeat (first | apply Kd.N_alloc | apply Kd.N_drewN | apply Kd.N_drew)); exact HO_3.out⟩, ⟨by (with_reducible repeat (first | apply Kd.R_alloc | apply Kd.R_drewN | apply Kd.R_drew)); exact HO_5.out⟩, ⟨by repeat (first | (with_reducible first | exact HB.out | apply below_alloc | apply pw_below_drewN | apply below_drew1) | exact HB.out)⟩⟩
          case round =>
            clear H'
            try clear c1
            try clear c2
            try clear c2b0
            try clear c2b1
            try clear p2
            try clear c3
            try clear c8
            try clear c11
            try clear c13
            try clear c14
            try clear c14b0
            try clear c21
            try clear c25
            try clear c27
            try clear c30
            try clear c34
            try clear p2
            obtain ⟨x6_2, rfl, HA, HK2, HO_3, HO_5, HB⟩ := hrel
            cases gk with
            | zero => exact absurd HA.out (by simp [laws_FnAllNeeds.l0])
            | succ k2 =>
              have H := HA.out
              clear HA
              simp only [laws_FnAllNeeds.l0] at H
              by_cases c36 : x6_2 < (t541.length : Int)
              · rw [if_pos c36] at H
                have c36b0 : decide (x6_2 < (t541.length : Int)) = true := decide_eq_true c36
                clear c36
                by_cases c37 : 0 ≤ t544
                · rw [if_pos c37] at H
                  have c37b0 : decide (0 ≤ t544) = true := decide_eq_true c37
                  clear c37
                  by_cases c38 : t544 < (t541.length : Int)
                  · rw [if_pos c38] at H
                    have c38b0 : decide (t544 < (t541.length : Int)) = true := decide_eq_true c38
                    clear c38
                    replace H := Option.bind_eq_some_iff.mp H
                    obtain ⟨t559, A390, H⟩ := H
                    replace H : (laws_FnAllNeeds.l1 k2 t541 t544 t545 x6_2 t559 0) = some r := H
                    have A39 := Aside0.mk A390
                    clear A390
                    have H' := Aside0.mk H
                    clear H
                    have p558 : 0 ≤ (t544 : Int) := of_decide_eq_true (by first | (with_reducible assumption) | assumption)
                    have q558 : t544 < (t541.length : Int) := of_decide_eq_true (by first | (with_reducible assumption) | assumption)
                    obtain ⟨ad558, A558_1, c558_1, e558, hx558_0, hx558_1, hx558_2, hx558_3, hl558_1, hi558_1⟩ := at_T32 (Kd.N_reads' HO_3.out).2.2 t544 p558 q558
                    cases e558
                    obtain ⟨ce558, hce558, hMe558, hcc558⟩ := Kd.N_get HO_3.out z32 t544 p558 (by first | exact q558 | exact of_decide_eq_true (by first | (with_reducible assumption) | assumption) | (have e_ := (Kd.N_reads' HO_3.out).1; omega))
                    obtain ⟨ua558_1, uc558_1, rfl, ul558_1, ge558_1⟩ := k32_openF hMe558
                    have hv558_1 := hcc558 1 _ rfl
                    rw [add_field _ _ 1 (by omega)] at hv558_1
                    replace hv558_1 := Option.some.inj (hv558_1.symm.trans hx558_1)
                    injection hv558_1 with hva_ hvn_ hvc_
                    rw [hva_] at ge558_1
                    rw [hvc_] at ul558_1
                    have HL558_1 := Aside0.mk (show Kd.V (Kd.int .i64) 3 _ w.heap.size _ _ ((rd_T32 t541 t544).f1) from Kd.V_mk ul558_1 ge558_1)
                    clear hva_ hvn_ hvc_ ge558_1 ul558_1
                    clear hcc558 hce558
                    have HR558_1 := Aside0.mk hi558_1
                    have HC558_1 := Aside0.mk hl558_1
                    clear hi558_1 hl558_1
                    replace p558 := eq_true p558
                    replace q558 := eq_true q558
                    go_wp2_with (first | ((with_reducible refine gate_callee (f := 23) rfl ?_); refine goesL_ (some 58) rfl rfl Tryd.func23 (by kernel_rfl) rfl #[.slice A558_1 ((rd_T32 t541 t544).f1).length c558_1, .int .i64 x6_2] rfl (by (try simp only [List.map_toArray, List.map_cons, List.map_nil]); first | done | rfl | (simp only [List.length_drop, List.length_take]; rfl)) ?_; (with_reducible refine (laws_isIn.calls k2 _ _ ((rd_T32 t541 t544).f1) x6_2 t559 _ ?side1 ?side2 A39.out).mono ?_); (case side1 => repeat (first | exact (by repeat (first | (with_reducible exact HR558_1.out) | (with_reducible refine Kd.C_alloc ?_ _) | (with_reducible refine Kd.C_drewN ?_ _) | (with_reducible refine Kd.C_drew ?_) | exact HR558_1.out)) | (with_reducible refine Kd.C_alloc ?_ _) | (with_reducible refine Kd.C_drewN ?_ _) | (with_reducible refine Kd.C_drew ?_))); (case side2 => exact HC558_1.out); rintro e w' ⟨rfl, ⟨nd, rfl⟩⟩; refine ⟨_, rfl, ?_⟩))
                    go_loopg [7, 8] k2 (fun kq v7 v8 w' => ∃ (x7_3 : Bool) (x8_3 : Int), v7 = .bool x7_3 ∧ v8 = .int .i64 x8_3 ∧ Aside0 (laws_FnAllNeeds.l1 kq t541 t544 t545 x6_2 x7_3 x8_3 = some r) ∧ Aside0 (kq ≤ k2) ∧ Aside0 (Kd.N k32 32 w' w.heap.size (fun k_ => some k_ ≠ (v546 : Value).ownBlock) (.slice (some ad558) t541.length co7) t541) ∧ Aside0 (Kd.R (Kd.int .i64) 3 w' w.heap.size (fun _ => True) v546 t545) ∧ Aside0 (Kd.C (Kd.int .i64) w' A558_1 ((rd_T32 t541 t544).f1).length ((rd_T32 t541 t544).f1)) ∧ Aside0 (Below w.heap.size w w'))
                    case atStart => exact ⟨(t559), (0), (by first | rfl | (simp; done) | (simp [*]; done)), (by first | rfl | (simp; done) | (simp [*]; done)), H', ⟨Nat.le_refl _⟩, ⟨by (with_reducible repeat (first | apply Kd.N_alloc | apply Kd.N_drewN | apply Kd.N_drew)); exact HO_3.out⟩, ⟨by (with_reducible repeat (first | apply Kd.R_alloc | apply Kd.R_drewN | apply Kd.R_drew)); exact HO_5.out⟩, ⟨by repeat (first | (with_reducible exact HR558_1.out) | (with_reducible refine Kd.C_alloc ?_ _) | (with_reducible refine Kd.C_drewN ?_ _) | (with_reducible refine Kd.C_drew ?_) | exact HR558_1.out)⟩, ⟨by repeat (first | (with_reducible first | exact HB.out | apply below_alloc | apply pw_below_drewN | apply below_drew1) | exact HB.out)⟩⟩
                    case round =>
                      clear H'
                      try clear c1
                      try clear c2
                      try clear c2b0
                      try clear c2b1
                      try clear p2
                      try clear c3
                      try clear c5
                      try clear p5
                      try clear q5
                      try clear hx5
                      try clear c8
                      try clear c11
                      try clear c13
                      try clear c14
                      try clear c14b0
                      try clear c21
                      try clear c23
                      try clear c25
                      try clear c27
                      try clear c30
                      try clear c34
                      try clear c36
                      try clear c36b0
                      try clear c37
                      try clear c37b0
                      try clear c38
                      try clear c38b0
                      try clear hx558_0
                      try clear hx558_1
                      try clear hx558_2
                      try clear hx558_3
                      try clear p2
                      try clear p558
                      try clear q558
                      obtain ⟨x7_3, x8_3, rfl, rfl, HA, HK3, HO_3, HO_5, HR558_1, HB⟩ := hrel
                      cases gk with
                      | zero => exact absurd HA.out (by simp [laws_FnAllNeeds.l1])
                      | succ k3 =>
                        have H := HA.out
                        clear HA
                        simp only [laws_FnAllNeeds.l1] at H
                        by_cases c40 : 0 ≤ t544
                        · rw [if_pos c40] at H
                          have c40b0 : decide (0 ≤ t544) = true := decide_eq_true c40
                          clear c40
                          by_cases c41 : t544 < (t541.length : Int)
                          · rw [if_pos c41] at H
                            have c41b0 : decide (t544 < (t541.length : Int)) = true := decide_eq_true c41
                            clear c41
                            by_cases c42 : x8_3 < (((rd_T32 t541 t544).f1).length : Int)
                            · rw [if_pos c42] at H
                              have c42b0 : decide (x8_3 < (((rd_T32 t541 t544).f1).length : Int)) = true := decide_eq_true c42
                              clear c42
                              by_cases c43 : x7_3 = true
                              · subst c43
                                have H1 : (laws_FnAllNeeds.l1 k3 t541 t544 t545 x6_2 true (wrap64 (x8_3 + 1))) = some r := by rw [if_pos rfl] at H; exact H
                                clear H
                                have H := H1
                                clear H1
                                have H' := Aside0.mk H
                                clear H
                                have p560 : 0 ≤ (t544 : Int) := of_decide_eq_true (by first | (with_reducible assumption) | assumption)
                                have q560 : t544 < (t541.length : Int) := of_decide_eq_true (by first | (with_reducible assumption) | assumption)
                                obtain ⟨ad560, A560_1, c560_1, e560, hx560_0, hx560_1, hx560_2, hx560_3, hl560_1, hi560_1⟩ := at_T32 (Kd.N_reads' HO_3.out).2.2 t544 p560 q560
                                obtain rfl : ad558 = ad560 := (by injection e560)
                                obtain ⟨ce560, hce560, hMe560, hcc560⟩ := Kd.N_get HO_3.out z32 t544 p560 (by first | exact q560 | exact of_decide_eq_true (by first | (with_reducible assumption) | assumption) | (have e_ := (Kd.N_reads' HO_3.out).1; omega))
                                obtain ⟨ua560_1, uc560_1, rfl, ul560_1, ge560_1⟩ := k32_openF hMe560
                                have hv560_1 := hcc560 1 _ rfl
                                rw [add_field _ _ 1 (by omega)] at hv560_1
                                replace hv560_1 := Option.some.inj (hv560_1.symm.trans hx560_1)
                                injection hv560_1 with hva_ hvn_ hvc_
                                rw [hva_] at ge560_1
                                rw [hvc_] at ul560_1
                                have HL560_1 := Aside0.mk (show Kd.V (Kd.int .i64) 3 _ w.heap.size _ _ ((rd_T32 t541 t544).f1) from Kd.V_mk ul560_1 ge560_1)
                                clear hva_ hvn_ hvc_ ge560_1 ul560_1
                                clear hcc560 hce560
                                have HR560_1 := Aside0.mk hi560_1
                                have HC560_1 := Aside0.mk hl560_1
                                clear hi560_1 hl560_1
                                replace p560 := eq_true p560
                                replace q560 := eq_true q560
                                go_wp2
                                go_roundg k3
                                case measure => have := HJ4.out; have := HK2.out; have := HK3.out; omega
                                case rel => exact ⟨(true), (wrap64 (x8_3 + 1)), (by first | rfl | (simp; done) | (simp [*]; done)), (by first | rfl | (simp; done) | (simp [*]; done)), H', ⟨by have := HJ4.out; have := HK2.out; have := HK3.out; omega⟩, ⟨by (with_reducible repeat (first | apply Kd.N_alloc | apply Kd.N_drewN | apply Kd.N_drew)); exact HO_3.out⟩, ⟨by (with_reducible repeat (first | apply Kd.R_alloc | apply Kd.R_drewN | apply Kd.R_drew)); exact HO_5.out⟩, ⟨by repeat (first | (with_reducible exact HR558_1.out) | (with_reducible refine Kd.C_alloc ?_ _) | (with_reducible refine Kd.C_drewN ?_ _) | (with_reducible refine Kd.C_drew ?_) | exact HR558_1.out)⟩, ⟨by repeat (first | (with_reducible first | exact HB.out | apply below_alloc | apply pw_below_drewN | apply below_drew1) | exact HB.out)⟩⟩
                              · replace c43 := Bool.eq_false_iff.mpr c43
                                subst c43
                                have H1 : (if 0 ≤ x8_3 then ((impl_AllNeeds.f t541 (rd ((rd_T32 t541 t544).f1) x8_3)).bind fun t563 => ((laws_isIn.f k3 t563 x6_2).bind fun t566 => (laws_FnAllNeeds.l1 k3 t541 t544 t545 x6_2 t566 (wrap64 (x8_3 + 1))))) else (none)) = some r := by rw [if_neg (show ¬ (false = true) by decide)] at H; exact H
                                clear H
                                have H := H1
                                clear H1
                                by_cases c44 : 0 ≤ x8_3
                                · rw [if_pos c44] at H
                                  have c44b0 : decide (0 ≤ x8_3) = true := decide_eq_true c44
                                  clear c44
                                  replace H := Option.bind_eq_some_iff.mp H
                                  obtain ⟨t563, A450, H⟩ := H
                                  replace H : ((laws_isIn.f k3 t563 x6_2).bind fun t566 => (laws_FnAllNeeds.l1 k3 t541 t544 t545 x6_2 t566 (wrap64 (x8_3 + 1)))) = some r := H
                                  have A45 := Aside0.mk A450
                                  clear A450
                                  replace H := Option.bind_eq_some_iff.mp H
                                  obtain ⟨t566, A460, H⟩ := H
                                  replace H : (laws_FnAllNeeds.l1 k3 t541 t544 t545 x6_2 t566 (wrap64 (x8_3 + 1))) = some r := H
                                  have A46 := Aside0.mk A460
                                  clear A460
                                  have H' := Aside0.mk H
                                  clear H
                                  have p560 : 0 ≤ (t544 : Int) := of_decide_eq_true (by first | (with_reducible assumption) | assumption)
                                  have q560 : t544 < (t541.length : Int) := of_decide_eq_true (by first | (with_reducible assumption) | assumption)
                                  obtain ⟨ad560, A560_1, c560_1, e560, hx560_0, hx560_1, hx560_2, hx560_3, hl560_1, hi560_1⟩ := at_T32 (Kd.N_reads' HO_3.out).2.2 t544 p560 q560
                                  obtain rfl : ad558 = ad560 := (by injection e560)
                                  obtain ⟨ce560, hce560, hMe560, hcc560⟩ := Kd.N_get HO_3.out z32 t544 p560 (by first | exact q560 | exact of_decide_eq_true (by first | (with_reducible assumption) | assumption) | (have e_ := (Kd.N_reads' HO_3.out).1; omega))
                                  obtain ⟨ua560_1, uc560_1, rfl, ul560_1, ge560_1⟩ := k32_openF hMe560
                                  have hv560_1 := hcc560 1 _ rfl
                                  rw [add_field _ _ 1 (by omega)] at hv560_1
                                  replace hv560_1 := Option.some.inj (hv560_1.symm.trans hx560_1)
                                  injection hv560_1 with hva_ hvn_ hvc_
                                  rw [hva_] at ge560_1
                                  rw [hvc_] at ul560_1
                                  have HL560_1 := Aside0.mk (show Kd.V (Kd.int .i64) 3 _ w.heap.size _ _ ((rd_T32 t541 t544).f1) from Kd.V_mk ul560_1 ge560_1)
                                  clear hva_ hvn_ hvc_ ge560_1 ul560_1
                                  clear hcc560 hce560
                                  have HR560_1 := Aside0.mk hi560_1
                                  have HC560_1 := Aside0.mk hl560_1
                                  clear hi560_1 hl560_1
                                  replace p560 := eq_true p560
                                  replace q560 := eq_true q560
                                  have p561 : 0 ≤ (t544 : Int) := of_decide_eq_true (by first | (with_reducible assumption) | assumption)
                                  have q561 : t544 < (t541.length : Int) := of_decide_eq_true (by first | (with_reducible assumption) | assumption)
                                  obtain ⟨ad561, A561_1, c561_1, e561, hx561_0, hx561_1, hx561_2, hx561_3, hl561_1, hi561_1⟩ := at_T32 (Kd.N_reads' HO_3.out).2.2 t544 p561 q561
                                  obtain rfl : ad558 = ad561 := (by injection e561)
                                  obtain ⟨ce561, hce561, hMe561, hcc561⟩ := Kd.N_get HO_3.out z32 t544 p561 (by first | exact q561 | exact of_decide_eq_true (by first | (with_reducible assumption) | assumption) | (have e_ := (Kd.N_reads' HO_3.out).1; omega))
                                  obtain ⟨ua561_1, uc561_1, rfl, ul561_1, ge561_1⟩ := k32_openF hMe561
                                  have hv561_1 := hcc561 1 _ rfl
                                  rw [add_field _ _ 1 (by omega)] at hv561_1
                                  replace hv561_1 := Option.some.inj (hv561_1.symm.trans hx561_1)
                                  injection hv561_1 with hva_ hvn_ hvc_
                                  rw [hva_] at ge561_1
                                  rw [hvc_] at ul561_1
                                  have HL561_1 := Aside0.mk (show Kd.V (Kd.int .i64) 3 _ w.heap.size _ _ ((rd_T32 t541 t544).f1) from Kd.V_mk ul561_1 ge561_1)
                                  clear hva_ hvn_ hvc_ ge561_1 ul561_1
                                  clear hcc561 hce561
                                  have HR561_1 := Aside0.mk hi561_1
                                  have HC561_1 := Aside0.mk hl561_1
                                  clear hi561_1 hl561_1
                                  replace p561 := eq_true p561
                                  replace q561 := eq_true q561
                                  have ea_ := Option.some.inj (hx560_1.symm.trans hx561_1)
                                  injection ea_ with ea_ en_ ec_
                                  subst ea_
                                  subst ec_
                                  clear en_
                                  have p562 : 0 ≤ (x8_3 : Int) := of_decide_eq_true (by first | (with_reducible assumption) | assumption)
                                  have q562 : x8_3 < (((rd_T32 t541 t544).f1).length : Int) := of_decide_eq_true (by first | (with_reducible assumption) | assumption)
                                  obtain ⟨ad562, e562, hx562_0⟩ := Kd.at_int (by repeat (first | (with_reducible exact HR561_1.out) | (with_reducible refine Kd.C_alloc ?_ _) | (with_reducible refine Kd.C_drewN ?_ _) | (with_reducible refine Kd.C_drew ?_) | exact HR561_1.out)) x8_3 p562 q562
                                  cases e562
                                  replace p562 := eq_true p562
                                  replace q562 := eq_true q562
                                  go_wp2_with (first | (go_at_call 27; (with_reducible refine (impl_AllNeeds.calls _ _ t541 (rd ((rd_T32 t541 t544).f1) x8_3) t563 _ ?side1 ?side2 ?sideT A45.out).mono ?_); (case sideT => exact (HT.out.below (by repeat (first | (with_reducible first | exact HB.out | apply below_alloc | apply pw_below_drewN | apply below_drew1) | exact HB.out)))); (case side1 => repeat (first | exact (Kd.N_reads' HO_3.out).2.2 | (with_reducible refine Kd.C_alloc ?_ _) | (with_reducible refine Kd.C_drewN ?_ _) | (with_reducible refine Kd.C_drew ?_))); (case side2 => exact (Kd.N_reads' HO_3.out).2.1); rintro e w47 ⟨v564, rfl, ho0, hb⟩; have n0_ := Aside0.mk (Kd.N_elder' (by (with_reducible repeat (first | apply Kd.N_alloc | apply Kd.N_drewN | apply Kd.N_drew)); exact HO_3.out) (Kd.R_base ho0) hb); have n1_ := Aside0.mk (Kd.R_elder' (by (with_reducible repeat (first | apply Kd.R_alloc | apply Kd.R_drewN | apply Kd.R_drew)); exact HO_5.out) (Kd.R_base ho0) hb); have n2_ := Aside0.mk (Kd.V_elder' (by (with_reducible repeat (first | apply Kd.V_alloc | apply Kd.V_drewN | apply Kd.V_drew)); exact HL560_1.out) (Kd.R_base ho0) hb); have n3_ := Aside0.mk (Kd.V_elder' (by (with_reducible repeat (first | apply Kd.V_alloc | apply Kd.V_drewN | apply Kd.V_drew)); exact HL561_1.out) (Kd.R_base ho0) hb); have n4_ := Aside0.mk (Kd.R_lower (Kd.R_new' ho0 (Kd.R_lt (by (with_reducible repeat (first | apply Kd.R_alloc | apply Kd.R_drewN | apply Kd.R_drew)); exact HO_5.out))) (below_size (by repeat (first | (with_reducible first | exact HB.out | apply below_alloc | apply pw_below_drewN | apply below_drew1) | exact HB.out)))); have n5_ := Aside0.mk (Kd.C_below (by repeat (first | (with_reducible exact HR558_1.out) | (with_reducible refine Kd.C_alloc ?_ _) | (with_reducible refine Kd.C_drewN ?_ _) | (with_reducible refine Kd.C_drew ?_) | exact HR558_1.out)) hb); have n6_ := Aside0.mk (Kd.C_below (by repeat (first | (with_reducible exact HR560_1.out) | (with_reducible refine Kd.C_alloc ?_ _) | (with_reducible refine Kd.C_drewN ?_ _) | (with_reducible refine Kd.C_drew ?_) | exact HR560_1.out)) hb); have n7_ := Aside0.mk (Kd.C_below (by repeat (first | (with_reducible exact HR561_1.out) | (with_reducible refine Kd.C_alloc ?_ _) | (with_reducible refine Kd.C_drewN ?_ _) | (with_reducible refine Kd.C_drew ?_) | exact HR561_1.out)) hb); have n8_ := Aside0.mk (below_step (by repeat (first | (with_reducible first | exact HB.out | apply below_alloc | apply pw_below_drewN | apply below_drew1) | exact HB.out)) hb); clear HO_3; clear HO_5; clear HL560_1; clear HL561_1; clear HR558_1; clear HR560_1; clear HR561_1; clear HB; have HO_3 := n0_; have HO_5 := n1_; have HL560_1 := n2_; have HL561_1 := n3_; have HO565 := n4_; have HR558_1 := n5_; have HR560_1 := n6_; have HR561_1 := n7_; have HB := n8_; clear n0_ n1_ n2_ n3_ n4_ n5_ n6_ n7_ n8_; (try clear hb); (try clear hb2); (try clear hk); (try clear hi); (try clear ho0); obtain ⟨Ao48, co48, eo48⟩ := Kd.R_slice HO565.out; subst eo48) | (go_at_call 23; (with_reducible refine (laws_isIn.calls k3 _ _ t563 x6_2 t566 _ ?side1 ?side2 A46.out).mono ?_); (case side1 => repeat (first | exact (Kd.R_reads' HO565.out).2.2 | (with_reducible refine Kd.C_alloc ?_ _) | (with_reducible refine Kd.C_drewN ?_ _) | (with_reducible refine Kd.C_drew ?_))); (case side2 => exact (Kd.R_reads' HO565.out).2.1); rintro e w' ⟨rfl, ⟨nd, rfl⟩⟩))
                                  go_roundg k3
                                  case measure => have := HJ4.out; have := HK2.out; have := HK3.out; omega
                                  case rel => exact ⟨(t566), (wrap64 (x8_3 + 1)), (by first | rfl | (simp; done) | (simp [*]; done)), (by first | rfl | (simp; done) | (simp [*]; done)), H', ⟨by have := HJ4.out; have := HK2.out; have := HK3.out; omega⟩, ⟨by (with_reducible repeat (first | apply Kd.N_alloc | apply Kd.N_drewN | apply Kd.N_drew)); exact Kd.N_mono HO_3.out (fun _ hk => hk.1)⟩, ⟨by (with_reducible repeat (first | apply Kd.R_alloc | apply Kd.R_drewN | apply Kd.R_drew)); exact Kd.R_mono HO_5.out (fun _ hk => trivial)⟩, ⟨by repeat (first | (with_reducible exact HR558_1.out) | (with_reducible refine Kd.C_alloc ?_ _) | (with_reducible refine Kd.C_drewN ?_ _) | (with_reducible refine Kd.C_drew ?_) | exact HR558_1.out)⟩, ⟨by repeat (first | (with_reducible first | exact HB.out | apply below_alloc | apply pw_below_drewN | apply below_drew1) | exact HB.out)⟩⟩
                                · rw [if_neg c44] at H
                                  exact absurd H (by simp)
                            · rw [if_neg c42] at H
                              have c42b0 : decide (x8_3 < (((rd_T32 t541 t544).f1).length : Int)) = false := decide_eq_false c42
                              clear c42
                              replace H := Option.bind_eq_some_iff.mp H
                              obtain ⟨t567, A490, H⟩ := H
                              replace H : (if (x7_3 != t567) = true then (some false) else (laws_FnAllNeeds.l0 k3 t541 t544 t545 (wrap64 (x6_2 + 1)))) = some r := H
                              have A49 := Aside0.mk A490
                              clear A490
                              by_cases c50 : (x7_3 != t567) = true
                              · rw [if_pos c50] at H
                                have c50b0 : (x7_3 != t567) = true := c50
                                (try (have c50b1 : decide (x7_3 = t567) = false := by simpa using c50))
                                (try (have c50b2 : (x7_3 == t567) = false := by simpa using c50))
                                (try (have c50b3 : ¬ (x7_3 = t567) := by simpa using c50))
                                clear c50
                                obtain rfl := Option.some.inj H
                                have p560 : 0 ≤ (t544 : Int) := of_decide_eq_true (by first | (with_reducible assumption) | assumption)
                                have q560 : t544 < (t541.length : Int) := of_decide_eq_true (by first | (with_reducible assumption) | assumption)
                                obtain ⟨ad560, A560_1, c560_1, e560, hx560_0, hx560_1, hx560_2, hx560_3, hl560_1, hi560_1⟩ := at_T32 (Kd.N_reads' HO_3.out).2.2 t544 p560 q560
                                obtain rfl : ad558 = ad560 := (by injection e560)
                                obtain ⟨ce560, hce560, hMe560, hcc560⟩ := Kd.N_get HO_3.out z32 t544 p560 (by first | exact q560 | exact of_decide_eq_true (by first | (with_reducible assumption) | assumption) | (have e_ := (Kd.N_reads' HO_3.out).1; omega))
                                obtain ⟨ua560_1, uc560_1, rfl, ul560_1, ge560_1⟩ := k32_openF hMe560
                                have hv560_1 := hcc560 1 _ rfl
                                rw [add_field _ _ 1 (by omega)] at hv560_1
                                replace hv560_1 := Option.some.inj (hv560_1.symm.trans hx560_1)
                                injection hv560_1 with hva_ hvn_ hvc_
                                rw [hva_] at ge560_1
                                rw [hvc_] at ul560_1
                                have HL560_1 := Aside0.mk (show Kd.V (Kd.int .i64) 3 _ w.heap.size _ _ ((rd_T32 t541 t544).f1) from Kd.V_mk ul560_1 ge560_1)
                                clear hva_ hvn_ hvc_ ge560_1 ul560_1
                                clear hcc560 hce560
                                have HR560_1 := Aside0.mk hi560_1
                                have HC560_1 := Aside0.mk hl560_1
                                clear hi560_1 hl560_1
                                replace p560 := eq_true p560
                                replace q560 := eq_true q560
                                obtain ⟨Ao51, co51, eo51⟩ := Kd.R_slice HO_5.out
                                subst eo51
                                go_wp2_with (first | ((with_reducible refine gate_callee (f := 23) rfl ?_); refine goesL_ (some 87) rfl rfl Tryd.func23 (by kernel_rfl) rfl #[.slice Ao51 t545.length co51, .int .i64 x6_2] rfl (by (try simp only [List.map_toArray, List.map_cons, List.map_nil]); first | done | rfl | (simp only [List.length_drop, List.length_take]; rfl)) ?_; (with_reducible refine (laws_isIn.calls k3 _ _ t545 x6_2 t567 _ ?side1 ?side2 A49.out).mono ?_); (case side1 => repeat (first | exact (Kd.R_reads' HO_5.out).2.2 | (with_reducible refine Kd.C_alloc ?_ _) | (with_reducible refine Kd.C_drewN ?_ _) | (with_reducible refine Kd.C_drew ?_))); (case side2 => exact (Kd.R_reads' HO_5.out).2.1); rintro e w' ⟨rfl, ⟨nd, rfl⟩⟩; refine ⟨_, rfl, ?_⟩))
                                go_ret
                                exact ⟨by first | rfl | (simp [errW_none, errW_some] <;> rfl) | (simp [*, errW_none, errW_some] <;> rfl), by repeat (first | (with_reducible first | exact HB.out | apply below_alloc | apply pw_below_drewN | apply below_drew1) | exact HB.out)⟩
                              · rw [if_neg c50] at H
                                have c50b0 : (x7_3 != t567) = false := by simpa using c50
                                (try (have c50b1 : decide (x7_3 = t567) = true := by simpa using c50))
                                (try (have c50b2 : (x7_3 == t567) = true := by simpa using c50))
                                clear c50
                                have H' := Aside0.mk H
                                clear H
                                have p560 : 0 ≤ (t544 : Int) := of_decide_eq_true (by first | (with_reducible assumption) | assumption)
                                have q560 : t544 < (t541.length : Int) := of_decide_eq_true (by first | (with_reducible assumption) | assumption)
                                obtain ⟨ad560, A560_1, c560_1, e560, hx560_0, hx560_1, hx560_2, hx560_3, hl560_1, hi560_1⟩ := at_T32 (Kd.N_reads' HO_3.out).2.2 t544 p560 q560
                                obtain rfl : ad558 = ad560 := (by injection e560)
                                obtain ⟨ce560, hce560, hMe560, hcc560⟩ := Kd.N_get HO_3.out z32 t544 p560 (by first | exact q560 | exact of_decide_eq_true (by first | (with_reducible assumption) | assumption) | (have e_ := (Kd.N_reads' HO_3.out).1; omega))
                                obtain ⟨ua560_1, uc560_1, rfl, ul560_1, ge560_1⟩ := k32_openF hMe560
                                have hv560_1 := hcc560 1 _ rfl
                                rw [add_field _ _ 1 (by omega)] at hv560_1
                                replace hv560_1 := Option.some.inj (hv560_1.symm.trans hx560_1)
                                injection hv560_1 with hva_ hvn_ hvc_
                                rw [hva_] at ge560_1
                                rw [hvc_] at ul560_1
                                have HL560_1 := Aside0.mk (show Kd.V (Kd.int .i64) 3 _ w.heap.size _ _ ((rd_T32 t541 t544).f1) from Kd.V_mk ul560_1 ge560_1)
                                clear hva_ hvn_ hvc_ ge560_1 ul560_1
                                clear hcc560 hce560
                                have HR560_1 := Aside0.mk hi560_1
                                have HC560_1 := Aside0.mk hl560_1
                                clear hi560_1 hl560_1
                                replace p560 := eq_true p560
                                replace q560 := eq_true q560
                                obtain ⟨Ao52, co52, eo52⟩ := Kd.R_slice HO_5.out
                                subst eo52
                                go_wp2_with (first | ((with_reducible refine gate_callee (f := 23) rfl ?_); refine goesL_ (some 87) rfl rfl Tryd.func23 (by kernel_rfl) rfl #[.slice Ao52 t545.length co52, .int .i64 x6_2] rfl (by (try simp only [List.map_toArray, List.map_cons, List.map_nil]); first | done | rfl | (simp only [List.length_drop, List.length_take]; rfl)) ?_; (with_reducible refine (laws_isIn.calls k3 _ _ t545 x6_2 t567 _ ?side1 ?side2 A49.out).mono ?_); (case side1 => repeat (first | exact (Kd.R_reads' HO_5.out).2.2 | (with_reducible refine Kd.C_alloc ?_ _) | (with_reducible refine Kd.C_drewN ?_ _) | (with_reducible refine Kd.C_drew ?_))); (case side2 => exact (Kd.R_reads' HO_5.out).2.1); rintro e w' ⟨rfl, ⟨nd, rfl⟩⟩; refine ⟨_, rfl, ?_⟩))
                                go_roundg k3
                                case measure => have := HJ4.out; have := HK2.out; have := HK3.out; omega
                                case rel => exact ⟨(wrap64 (x6_2 + 1)), (by first | rfl | (simp; done) | (simp [*]; done)), H', ⟨by have := HJ4.out; have := HK2.out; have := HK3.out; omega⟩, ⟨by (with_reducible repeat (first | apply Kd.N_alloc | apply Kd.N_drewN | apply Kd.N_drew)); exact HO_3.out⟩, ⟨by (with_reducible repeat (first | apply Kd.R_alloc | apply Kd.R_drewN | apply Kd.R_drew)); exact HO_5.out⟩, ⟨by repeat (first | (with_reducible first | exact HB.out | apply below_alloc | apply pw_below_drewN | apply below_drew1) | exact HB.out)⟩⟩
                          · rw [if_neg c41] at H
                            exact absurd H (by simp)
                        · rw [if_neg c40] at H
                          exact absurd H (by simp)
                  · rw [if_neg c38] at H
                    exact absurd H (by simp)
                · rw [if_neg c37] at H
                  exact absurd H (by simp)
              · rw [if_neg c36] at H
                have c36b0 : decide (x6_2 < (t541.length : Int)) = false := decide_eq_false c36
                clear c36
                replace H := Option.bind_eq_some_iff.mp H
                obtain ⟨t557, A530, H⟩ := H
                replace H : (some (!t557)) = some r := H
                have A53 := Aside0.mk A530
                clear A530
                obtain rfl := Option.some.inj H
                obtain ⟨Ao54, co54, eo54⟩ := Kd.R_slice HO_5.out
                subst eo54
                go_wp2_with (first | ((with_reducible refine gate_callee (f := 23) rfl ?_); refine goesL_ (some 91) rfl rfl Tryd.func23 (by kernel_rfl) rfl #[.slice Ao54 t545.length co54, .int .i64 t544] rfl (by (try simp only [List.map_toArray, List.map_cons, List.map_nil]); first | done | rfl | (simp only [List.length_drop, List.length_take]; rfl)) ?_; (with_reducible refine (laws_isIn.calls k2 _ _ t545 t544 t557 _ ?side1 ?side2 A53.out).mono ?_); (case side1 => repeat (first | exact (Kd.R_reads' HO_5.out).2.2 | (with_reducible refine Kd.C_alloc ?_ _) | (with_reducible refine Kd.C_drewN ?_ _) | (with_reducible refine Kd.C_drew ?_))); (case side2 => exact (Kd.R_reads' HO_5.out).2.1); rintro e w' ⟨rfl, ⟨nd, rfl⟩⟩; refine ⟨_, rfl, ?_⟩))
                go_ret
                exact ⟨by first | rfl | (simp [errW_none, errW_some] <;> rfl) | (simp [*, errW_none, errW_some] <;> rfl), by repeat (first | (with_reducible first | exact HB.out | apply below_alloc | apply pw_below_drewN | apply below_drew1) | exact HB.out)⟩

/-- THE ONE PURE STATEMENT of laws_FnAllNeeds: yours. -/
def laws_FnAllNeeds.Pure : Prop := ∀ (l0 : List Int), l0.length ≤ maxLen → l0.length * 1 ≤ 140737488351232 → (∀ x ∈ l0, (Lit.int .u8 x).wf = true) → ∃ k, laws_FnAllNeeds.f k l0 = some true
theorem laws_FnAllNeeds.walk (P : laws_FnAllNeeds.Pure) (a0 : Option Addr) (len0 cap0 : Nat) (z0 : List Int) (w : World) (hT : Go.Proofs.YtamomflollhofaaDoor.H.Tab w) (w0 : (a0 = none ∧ len0 = 0 ∧ cap0 = 0 ∧ z0 = []) ∨ ∃ x, a0 = some x ∧ len0 ≤ cap0 ∧ cap0 ≤ maxLen ∧ z0.length = cap0 ∧ (∀ i, i < z0.length → w.cell? (x.add i) = some (.int .u8 (z0.getD i 0))) ∧ ∀ n ∈ z0, (Lit.int .u8 n).wf = true) (y0 : len0 * 1 ≤ 140737488351232) :
    Calls Tryd.prog 8 #[.slice a0 len0 cap0] w fun e w' => e = .returned (.bool true) ∧ Below w.heap.size w w' := by
  obtain ⟨l0, rfl, hr0, hm0, hw0, hc0⟩ := ReadsInt.ofRowC w0
  obtain ⟨k, h⟩ := P l0 hm0 y0 hw0
  refine (laws_FnAllNeeds.calls k _ _ l0 true w hT (Kd.C_of_reads (d := (0 : Int)) (h1 := fun _ => rfl) hr0) hc0 h).mono ?_
  rintro e w' ⟨rfl, hd⟩
  exact ⟨rfl, hd⟩

end Go.Proofs.YtamomflollhofaaDoor.Q
