-- Written by a program of this session (wip/tools/myprint.py), by way of the kit's print, out of the translation of the seat. Lean checks it.
import Derived.Test.YtegogaokcafpjaaDoorQx0
import Derived.Test.YtegogaokcafpjaaDoorQx3
import Derived.Test.YtegogaokcafpjaaDoorQx11
import Derived.Test.YtegogaokcafpjaaDoorHM
namespace Go.Proofs.YtegogaokcafpjaaDoor.Q
open Go.Proofs.YtegogaokcafpjaaDoor.H Go.RowKit Go.Proofs.YtegogaokcafpjaaDoorW.PrintWords Go.Proofs.YtegogaokcafpjaaDoorW.PrintLast Go.Proofs.YtegogaokcafpjaaDoorW.PrintMore
attribute [local go_sem] max2_int min2_int max_two min_two max_three min_three max_four min_four   -- for this text's walks alone
set_option linter.unusedVariables false
set_option linter.unusedSimpArgs false

/-! ### laws_FnValidGraph: function 4 -/
mutual
def laws_FnValidGraph.j0 : Nat → List (S33) → Bool → Bool → Option (Bool)
  | 0, _, _, _ => none
  | k + 1, x3, x4, x27 => if x27 = true then ((spec_ValidGraph.f k x3).bind fun t340 => (some (x4 == t340))) else (laws_FnValidGraph.l0 k x3 (([] : List (S33))) 0)
def laws_FnValidGraph.l0 : Nat → List (S33) → List (S33) → Int → Option (Bool)
  | 0, _, _, _ => none
  | k + 1, x3, x5, x6 => if x6 < (x3.length : Int) then (if 0 ≤ x6 then (if x5.length < 2932031007402 then (laws_FnValidGraph.l0 k x3 (x5 ++ [(⟨(rd_T33 x3 x6).f0, ([] : List Int), (rd_T33 x3 x6).f2, (rd_T33 x3 x6).f3⟩ : S33)]) (wrap64 (x6 + 1))) else (none)) else (none)) else ((some (([] : List (S33)) : List (S33))).bind fun y350 => (if y350.length + x5.length < 2932031007402 then ((some (y350 ++ x5 : List (S33))).bind fun y353 => (if 0 < (y353.length : Int) then ((impl_ValidGraph.f x5).bind fun t360 => (if t360 = true then ((impl_ValidGraph.f (y353.set (0 : Int).toNat (⟨(rd_T33 y353 0).f0, (([0] : List Int)), (rd_T33 y353 0).f2, (rd_T33 y353 0).f3⟩ : S33))).bind fun t361 => (some (!t361))) else (some false))) else (none))) else (none)))
end
def laws_FnValidGraph.f (k : Nat) (l0 : List Int) : Option (Bool) := if (l0.length : Int) > 1048576 then (some true) else ((spec_DrawValidGraph.f k l0).bind fun t335 => ((impl_ValidGraph.f t335).bind fun t338 => ((spec_ValidGraph.f k t335).bind fun t339 => (if (t338 != t339) = true then (laws_FnValidGraph.j0 k t335 t338 true) else (if t338 = true then (laws_FnValidGraph.j0 k t335 t338 ((t335.length : Int) == 0)) else (laws_FnValidGraph.j0 k t335 t338 true))))))
theorem laws_FnValidGraph.mono_l : ∀ k, (∀ y0 y1 y2, LeO (laws_FnValidGraph.j0 k y0 y1 y2) (laws_FnValidGraph.j0 (k + 1) y0 y1 y2)) ∧ (∀ y0 y1 y2, LeO (laws_FnValidGraph.l0 k y0 y1 y2) (laws_FnValidGraph.l0 (k + 1) y0 y1 y2))
  | 0 => ⟨fun _ _ _ r h => by simp [laws_FnValidGraph.j0] at h, fun _ _ _ r h => by simp [laws_FnValidGraph.l0] at h⟩
  | k + 1 => by
    obtain ⟨ih0, ih1⟩ := laws_FnValidGraph.mono_l k
    refine ⟨?_, ?_⟩
    · intro y0 y1 y2
      unfold laws_FnValidGraph.j0
      repeat' first
      | (with_reducible exact ih0 _ _ _)
      | (with_reducible exact ih1 _ _ _)
      | (with_reducible exact spec_DrawValidGraph.mono _ _)
      | (with_reducible exact spec_ValidGraph.mono _ _)
      | (with_reducible exact LeO.refl _)
      | (with_reducible exact LeO.none _)
      | (with_reducible refine LeO.ite ?_ ?_)
      | (with_reducible refine LeO.bind ?_ (fun _ => ?_))
      | exact ih0 _ _ _
      | exact ih1 _ _ _
      | exact spec_DrawValidGraph.mono _ _
      | exact spec_ValidGraph.mono _ _
      | exact LeO.none _
      | refine LeO.ite ?_ ?_
      | refine LeO.bind ?_ (fun _ => ?_)
    · intro y0 y1 y2
      unfold laws_FnValidGraph.l0
      repeat' first
      | (with_reducible exact ih0 _ _ _)
      | (with_reducible exact ih1 _ _ _)
      | (with_reducible exact spec_DrawValidGraph.mono _ _)
      | (with_reducible exact spec_ValidGraph.mono _ _)
      | (with_reducible exact LeO.refl _)
      | (with_reducible exact LeO.none _)
      | (with_reducible refine LeO.ite ?_ ?_)
      | (with_reducible refine LeO.bind ?_ (fun _ => ?_))
      | exact ih0 _ _ _
      | exact ih1 _ _ _
      | exact spec_DrawValidGraph.mono _ _
      | exact spec_ValidGraph.mono _ _
      | exact LeO.none _
      | refine LeO.ite ?_ ?_
      | refine LeO.bind ?_ (fun _ => ?_)
theorem laws_FnValidGraph.mono : ∀ a0 k, LeO (laws_FnValidGraph.f k a0) (laws_FnValidGraph.f (k + 1) a0) := by
  intro a0 k
  obtain ⟨ih0, ih1⟩ := laws_FnValidGraph.mono_l k
  unfold laws_FnValidGraph.f
  repeat' first
      | (with_reducible exact ih0 _ _ _)
      | (with_reducible exact ih1 _ _ _)
      | (with_reducible exact spec_DrawValidGraph.mono _ _)
      | (with_reducible exact spec_ValidGraph.mono _ _)
      | (with_reducible exact LeO.refl _)
      | (with_reducible exact LeO.none _)
      | (with_reducible refine LeO.ite ?_ ?_)
      | (with_reducible refine LeO.bind ?_ (fun _ => ?_))
      | exact ih0 _ _ _
      | exact ih1 _ _ _
      | exact spec_DrawValidGraph.mono _ _
      | exact spec_ValidGraph.mono _ _
      | exact LeO.none _
      | refine LeO.ite ?_ ?_
      | refine LeO.bind ?_ (fun _ => ?_)
def laws_FnValidGraph.T11 : Bool × List (List Nat × List Nat) := (true, [([], []), ([], []), ([], []), ([1, 2], [1, 2]), ([3], [3]), ([4], [4]), ([], []), ([], []), ([6, 7], [6, 7]), ([8], [8]), ([9], [9]), ([], []), ([], []), ([11, 12], [11, 12]), ([13], [13]), ([14], [14]), ([5, 10, 15], [5, 10, 15]), ([16], [16]), ([0, 17], [0, 17]), ([18, 18, 0, 1, 2, 3, 4, 5, 6, 7, 8, 9, 10, 11, 12, 13, 14, 15, 16, 17, 18], [0, 18])])
def laws_FnValidGraph.B11 : List Nat := [0, 0, 0, 6, 14, 30, 0, 0, 192, 448, 960, 0, 0, 6144, 14336, 30720, 65534, 131070, 262143, 524287]
theorem laws_FnValidGraph.tab11 : rtab .any (opsOf Tryd.f4 11) = laws_FnValidGraph.T11 := by kernel_rfl
theorem laws_FnValidGraph.bits11 : waitsOk laws_FnValidGraph.T11.2 laws_FnValidGraph.B11 = true := by kernel_rfl
set_option maxHeartbeats 8000000 in
set_option maxRecDepth 100000 in
theorem laws_FnValidGraph.calls (k : Nat) (A0 : Option Addr) (c0 : Nat) (l0 : List Int) (r : Bool) (w : World) (hT : Go.Proofs.YtegogaokcafpjaaDoor.H.Tab w) (hr0 : Kd.C (Kd.int .u8) w A0 l0.length l0) (hc0 : l0.length ≤ c0) (h : laws_FnValidGraph.f k l0 = some r) :
    Calls Tryd.prog 4 #[.slice A0 l0.length c0] w fun e w' => e = .returned (.bool r) ∧ Below w.heap.size w w' := by
  have HT := Aside0.mk hT
  clear hT
  have hu33 := Tryd.underlying33
  have HR0 := Aside0.mk hr0
  have HC0 := Aside0.mk hc0
  clear hr0 hc0
  have HB := Aside0.mk (Below.refl w.heap.size w)
  have H : (if (l0.length : Int) > 1048576 then (some true) else ((spec_DrawValidGraph.f k l0).bind fun t335 => ((impl_ValidGraph.f t335).bind fun t338 => ((spec_ValidGraph.f k t335).bind fun t339 => (if (t338 != t339) = true then (laws_FnValidGraph.j0 k t335 t338 true) else (if t338 = true then (laws_FnValidGraph.j0 k t335 t338 ((t335.length : Int) == 0)) else (laws_FnValidGraph.j0 k t335 t338 true))))))) = some r := h
  clear h
  by_cases c2 : (l0.length : Int) > 1048576
  · rw [if_pos c2] at H
    have c2b0 : decide (1048576 < (l0.length : Int)) = true := decide_eq_true c2
    have c2b1 : decide (1048576 < l0.length) = true := decide_eq_true (by omega)
    clear c2
    obtain rfl := Option.some.inj H
    go_enter Tryd.func4, Tryd.ntmps4
    go_wp2
    go_ret
    exact ⟨by first | rfl | (simp [errW_none, errW_some] <;> rfl) | (simp [*, errW_none, errW_some] <;> rfl), by repeat (first | (with_reducible first | exact HB.out | apply below_alloc | apply pw_below_drewN | apply below_drew1) | exact HB.out)⟩
  · rw [if_neg c2] at H
    have c2b0 : decide (1048576 < (l0.length : Int)) = false := decide_eq_false c2
    have c2b1 : decide (1048576 < l0.length) = false := decide_eq_false (by omega)
    clear c2
    replace H := Option.bind_eq_some_iff.mp H
    obtain ⟨t335, A30, H⟩ := H
    replace H : ((impl_ValidGraph.f t335).bind fun t338 => ((spec_ValidGraph.f k t335).bind fun t339 => (if (t338 != t339) = true then (laws_FnValidGraph.j0 k t335 t338 true) else (if t338 = true then (laws_FnValidGraph.j0 k t335 t338 ((t335.length : Int) == 0)) else (laws_FnValidGraph.j0 k t335 t338 true))))) = some r := H
    have A3 := Aside0.mk A30
    clear A30
    replace H := Option.bind_eq_some_iff.mp H
    obtain ⟨t338, A40, H⟩ := H
    replace H : ((spec_ValidGraph.f k t335).bind fun t339 => (if (t338 != t339) = true then (laws_FnValidGraph.j0 k t335 t338 true) else (if t338 = true then (laws_FnValidGraph.j0 k t335 t338 ((t335.length : Int) == 0)) else (laws_FnValidGraph.j0 k t335 t338 true)))) = some r := H
    have A4 := Aside0.mk A40
    clear A40
    have HC5 := Aside0.mk H
    clear H
    go_enter Tryd.func4, Tryd.ntmps4
    go_upto_region 5 with (first | ((with_reducible refine gate_callee (f := 20) rfl ?_); refine goesL_ (some 12) rfl rfl Tryd.func20 (by kernel_rfl) rfl #[.slice A0 l0.length c0] rfl (by (try simp only [List.map_toArray, List.map_cons, List.map_nil]); first | done | rfl | (simp only [List.length_drop, List.length_take]; rfl)) ?_; (with_reducible refine (spec_DrawValidGraph.calls k _ _ l0 t335 _ ?side1 ?side2 A3.out).mono ?_); (case side1 => repeat (first | exact HR0.out | (with_reducible refine Kd.C_alloc ?_ _) | (with_reducible refine Kd.C_drewN ?_ _) | (with_reducible refine Kd.C_drew ?_))); (case side2 => exact HC0.out); rintro e w6 ⟨v336, rfl, ho0, hb⟩; refine ⟨_, rfl, ?_⟩; have n0_ := Aside0.mk (Kd.N_lower (Kd.N_mono (ok' := fun k_ => True) ho0 (fun k_ hk_ => trivial)) (below_size (by repeat (first | (with_reducible first | exact HB.out | apply below_alloc | apply pw_below_drewN | apply below_drew1) | exact HB.out)))); have n1_ := Aside0.mk (below_step (by repeat (first | (with_reducible first | exact HB.out | apply below_alloc | apply pw_below_drewN | apply below_drew1) | exact HB.out)) hb); clear HB; have HO337 := n0_; have HB := n1_; clear n0_ n1_; (try clear hb); (try clear hb2); (try clear hk); (try clear hi); (try clear ho0); obtain ⟨Ao7, co7, eo7⟩ := Kd.N_slice HO337.out; subst eo7) | ((with_reducible refine gate_callee (f := 18) rfl ?_); refine goesL_ (some 14) rfl rfl Tryd.func18 (by kernel_rfl) rfl #[.slice Ao7 t335.length co7] rfl (by (try simp only [List.map_toArray, List.map_cons, List.map_nil]); first | done | rfl | (simp only [List.length_drop, List.length_take]; rfl)) ?_; (with_reducible refine (impl_ValidGraph.calls _ _ t335 t338 _ ?side1 ?side2 ?sideT A4.out).mono ?_); (case sideT => exact (HT.out.below (by repeat (first | (with_reducible first | exact HB.out | apply below_alloc | apply pw_below_drewN | apply below_drew1) | exact HB.out)))); (case side1 => repeat (first | exact (Kd.N_reads' HO337.out).2.2 | (with_reducible refine Kd.C_alloc ?_ _) | (with_reducible refine Kd.C_drewN ?_ _) | (with_reducible refine Kd.C_drew ?_))); (case side2 => exact (Kd.N_reads' HO337.out).2.1); rintro e w8 ⟨rfl, hb⟩; refine ⟨_, rfl, ?_⟩; have n0_ := Aside0.mk (Kd.N_below (by (with_reducible repeat (first | apply Kd.N_alloc | apply Kd.N_drewN | apply Kd.N_drew)); exact HO337.out) hb); have n1_ := Aside0.mk (below_step (by repeat (first | (with_reducible first | exact HB.out | apply below_alloc | apply pw_below_drewN | apply below_drew1) | exact HB.out)) hb); clear HO337; clear HB; have HO337 := n0_; have HB := n1_; clear n0_ n1_; (try clear hb); (try clear hb2); (try clear hk); (try clear hi)))
    (try simp only [Act.put, List.setIfInBounds_toArray, List.set_cons_zero, List.set_cons_succ])
    go_cut [27] (fun v27 wc => ∃ (kq : Nat) (x27_4 : Bool), v27 = .bool x27_4 ∧ Aside0 (laws_FnValidGraph.j0 kq t335 t338 x27_4 = some r) ∧ Aside0 (kq ≤ k) ∧ Aside0 (Kd.N k33 33 wc w.heap.size (fun _ => True) (.slice Ao7 t335.length co7) t335) ∧ Aside0 (Below w.heap.size w wc))
    case first =>
      have H := HC5.out
      clear HC5
      replace H := Option.bind_eq_some_iff.mp H
      obtain ⟨t339, A90, H⟩ := H
      replace H : (if (t338 != t339) = true then (laws_FnValidGraph.j0 k t335 t338 true) else (if t338 = true then (laws_FnValidGraph.j0 k t335 t338 ((t335.length : Int) == 0)) else (laws_FnValidGraph.j0 k t335 t338 true))) = some r := H
      have A9 := Aside0.mk A90
      clear A90
      by_cases c10 : (t338 != t339) = true
      · rw [if_pos c10] at H
        have c10b0 : (t338 != t339) = true := c10
        (try (have c10b1 : decide (t338 = t339) = false := by simpa using c10))
        (try (have c10b2 : (t338 == t339) = false := by simpa using c10))
        (try (have c10b3 : ¬ (t338 = t339) := by simpa using c10))
        clear c10
        (first | rw [c10b0] | (simp only [i64_w, i32_w]; rw [c10b0]) | skip)
        have H' := Aside0.mk H
        clear H
        go_wp2_with (first | ((with_reducible refine gate_callee (f := 16) rfl ?_); refine goesL_ (some 17) rfl rfl Tryd.func16 (by kernel_rfl) rfl #[.slice Ao7 t335.length co7] rfl (by (try simp only [List.map_toArray, List.map_cons, List.map_nil]); first | done | rfl | (simp only [List.length_drop, List.length_take]; rfl)) ?_; (with_reducible refine (spec_ValidGraph.calls k _ _ t335 t339 _ ?side1 ?side2 A9.out).mono ?_); (case side1 => repeat (first | exact (Kd.N_reads' HO337.out).2.2 | (with_reducible refine Kd.C_alloc ?_ _) | (with_reducible refine Kd.C_drewN ?_ _) | (with_reducible refine Kd.C_drew ?_))); (case side2 => exact (Kd.N_reads' HO337.out).2.1); rintro e w11 ⟨rfl, hb⟩; refine ⟨_, rfl, ?_⟩; have n0_ := Aside0.mk (Kd.N_below (by (with_reducible repeat (first | apply Kd.N_alloc | apply Kd.N_drewN | apply Kd.N_drew)); exact HO337.out) hb); have n1_ := Aside0.mk (below_step (by repeat (first | (with_reducible first | exact HB.out | apply below_alloc | apply pw_below_drewN | apply below_drew1) | exact HB.out)) hb); clear HO337; clear HB; have HO337 := n0_; have HB := n1_; clear n0_ n1_; (try clear hb); (try clear hb2); (try clear hk); (try clear hi)))
        go_meet
        case rel => exact ⟨_, (true), (by first | rfl | (simp; done) | (simp [*]; done)), H', ⟨by first | omega | exact Nat.le_refl _⟩, ⟨by (with_reducible repeat (first | apply Kd.N_alloc | apply Kd.N_drewN | apply Kd.N_drew)); exact HO337.out⟩, ⟨by repeat (first | (with_reducible first | exact HB.out | apply below_alloc | apply pw_below_drewN | apply below_drew1) | exact HB.out)⟩⟩
      · rw [if_neg c10] at H
        have c10b0 : (t338 != t339) = false := by simpa using c10
        (try (have c10b1 : decide (t338 = t339) = true := by simpa using c10))
        (try (have c10b2 : (t338 == t339) = true := by simpa using c10))
        clear c10
        (first | rw [c10b0] | (simp only [i64_w, i32_w]; rw [c10b0]) | skip)
        by_cases c12 : t338 = true
        · subst c12
          have H1 : (laws_FnValidGraph.j0 k t335 true ((t335.length : Int) == 0)) = some r := by rw [if_pos rfl] at H; exact H
          clear H
          have H := H1
          clear H1
          have H' := Aside0.mk H
          clear H
          go_wp2_with (first | ((with_reducible refine gate_callee (f := 16) rfl ?_); refine goesL_ (some 17) rfl rfl Tryd.func16 (by kernel_rfl) rfl #[.slice Ao7 t335.length co7] rfl (by (try simp only [List.map_toArray, List.map_cons, List.map_nil]); first | done | rfl | (simp only [List.length_drop, List.length_take]; rfl)) ?_; (with_reducible refine (spec_ValidGraph.calls k _ _ t335 t339 _ ?side1 ?side2 A9.out).mono ?_); (case side1 => repeat (first | exact (Kd.N_reads' HO337.out).2.2 | (with_reducible refine Kd.C_alloc ?_ _) | (with_reducible refine Kd.C_drewN ?_ _) | (with_reducible refine Kd.C_drew ?_))); (case side2 => exact (Kd.N_reads' HO337.out).2.1); rintro e w13 ⟨rfl, hb⟩; refine ⟨_, rfl, ?_⟩; have n0_ := Aside0.mk (Kd.N_below (by (with_reducible repeat (first | apply Kd.N_alloc | apply Kd.N_drewN | apply Kd.N_drew)); exact HO337.out) hb); have n1_ := Aside0.mk (below_step (by repeat (first | (with_reducible first | exact HB.out | apply below_alloc | apply pw_below_drewN | apply below_drew1) | exact HB.out)) hb); clear HO337; clear HB; have HO337 := n0_; have HB := n1_; clear n0_ n1_; (try clear hb); (try clear hb2); (try clear hk); (try clear hi)))
          go_meet
          case rel => exact ⟨_, (((t335.length : Int) == 0)), (by first | rfl | (simp; done) | (simp [*]; done)), H', ⟨by first | omega | exact Nat.le_refl _⟩, ⟨by (with_reducible repeat (first | apply Kd.N_alloc | apply Kd.N_drewN | apply Kd.N_drew)); exact HO337.out⟩, ⟨by repeat (first | (with_reducible first | exact HB.out | apply below_alloc | apply pw_below_drewN | apply below_drew1) | exact HB.out)⟩⟩
        · replace c12 := Bool.eq_false_iff.mpr c12
          subst c12
          have H1 : (laws_FnValidGraph.j0 k t335 false true) = some r := by rw [if_neg (show ¬ (false = true) by decide)] at H; exact H
          clear H
          have H := H1
          clear H1
          have H' := Aside0.mk H
          clear H
          go_wp2_with (first | ((with_reducible refine gate_callee (f := 16) rfl ?_); refine goesL_ (some 17) rfl rfl Tryd.func16 (by kernel_rfl) rfl #[.slice Ao7 t335.length co7] rfl (by (try simp only [List.map_toArray, List.map_cons, List.map_nil]); first | done | rfl | (simp only [List.length_drop, List.length_take]; rfl)) ?_; (with_reducible refine (spec_ValidGraph.calls k _ _ t335 t339 _ ?side1 ?side2 A9.out).mono ?_); (case side1 => repeat (first | exact (Kd.N_reads' HO337.out).2.2 | (with_reducible refine Kd.C_alloc ?_ _) | (with_reducible refine Kd.C_drewN ?_ _) | (with_reducible refine Kd.C_drew ?_))); (case side2 => exact (Kd.N_reads' HO337.out).2.1); rintro e w14 ⟨rfl, hb⟩; refine ⟨_, rfl, ?_⟩; have n0_ := Aside0.mk (Kd.N_below (by (with_reducible repeat (first | apply Kd.N_alloc | apply Kd.N_drewN | apply Kd.N_drew)); exact HO337.out) hb); have n1_ := Aside0.mk (below_step (by repeat (first | (with_reducible first | exact HB.out | apply below_alloc | apply pw_below_drewN | apply below_drew1) | exact HB.out)) hb); clear HO337; clear HB; have HO337 := n0_; have HB := n1_; clear n0_ n1_; (try clear hb); (try clear hb2); (try clear hk); (try clear hi)))
          go_meet
          case rel => exact ⟨_, (true), (by first | rfl | (simp; done) | (simp [*]; done)), H', ⟨by first | omega | exact Nat.le_refl _⟩, ⟨by (with_reducible repeat (first | apply Kd.N_alloc | apply Kd.N_drewN | apply Kd.N_drew)); exact HO337.out⟩, ⟨by repeat (first | (with_reducible first | exact HB.out | apply below_alloc | apply pw_below_drewN | apply below_drew1) | exact HB.out)⟩⟩
    case rest =>
      clear HC5
      try clear c1
      try clear c2
      try clear c2b0
      try clear c2b1
      try clear p2
      try clear c4
      try clear c10
      try clear c10b0
      try clear c10b1
      try clear c10b2
      try clear c12
      obtain ⟨kq, x27_4, rfl, HA, HJ4, HO_3, HB⟩ := hcut
      cases kq with
      | zero => exact absurd HA.out (by simp [laws_FnValidGraph.j0])
      | succ kj4 =>
        have H := HA.out
        clear HA
        simp only [laws_FnValidGraph.j0] at H
        by_cases c15 : x27_4 = true
        · subst c15
          have H1 : ((spec_ValidGraph.f kj4 t335).bind fun t340 => (some (t338 == t340))) = some r := by rw [if_pos rfl] at H; exact H
          clear H
          have H := H1
          clear H1
          replace H := Option.bind_eq_some_iff.mp H
          obtain ⟨t340, A160, H⟩ := H
          replace H : (some (t338 == t340)) = some r := H
          have A16 := Aside0.mk A160
          clear A160
          obtain rfl := Option.some.inj H
          go_wp2_with (first | ((with_reducible refine gate_callee (f := 16) rfl ?_); refine goesL_ (some 30) rfl rfl Tryd.func16 (by kernel_rfl) rfl #[.slice Ao7 t335.length co7] rfl (by (try simp only [List.map_toArray, List.map_cons, List.map_nil]); first | done | rfl | (simp only [List.length_drop, List.length_take]; rfl)) ?_; (with_reducible refine (spec_ValidGraph.calls kj4 _ _ t335 t340 _ ?side1 ?side2 A16.out).mono ?_); (case side1 => repeat (first | exact (Kd.N_reads' HO_3.out).2.2 | (with_reducible refine Kd.C_alloc ?_ _) | (with_reducible refine Kd.C_drewN ?_ _) | (with_reducible refine Kd.C_drew ?_))); (case side2 => exact (Kd.N_reads' HO_3.out).2.1); rintro e w17 ⟨rfl, hb⟩; refine ⟨_, rfl, ?_⟩; have n0_ := Aside0.mk (Kd.N_below (by (with_reducible repeat (first | apply Kd.N_alloc | apply Kd.N_drewN | apply Kd.N_drew)); exact HO_3.out) hb); have n1_ := Aside0.mk (below_step (by repeat (first | (with_reducible first | exact HB.out | apply below_alloc | apply pw_below_drewN | apply below_drew1) | exact HB.out)) hb); clear HO_3; clear HB; have HO_3 := n0_; have HB := n1_; clear n0_ n1_; (try clear hb); (try clear hb2); (try clear hk); (try clear hi)))
          go_ret
          exact ⟨by first | rfl | (simp [errW_none, errW_some] <;> rfl) | (simp [*, errW_none, errW_some] <;> rfl), by repeat (first | (with_reducible first | exact HB.out | apply below_alloc | apply pw_below_drewN | apply below_drew1) | exact HB.out)⟩
        · replace c15 := Bool.eq_false_iff.mpr c15
          subst c15
          have H1 : (laws_FnValidGraph.l0 kj4 t335 (([] : List (S33))) 0) = some r := by rw [if_neg (show ¬ (false = true) by decide)] at H; exact H
          clear H
          have H := H1
          clear H1
          obtain ⟨y341, hy341⟩ : ∃ y_ : List (S33), y_ = (([] : List (S33))) := ⟨_, rfl⟩
          replace H : (laws_FnValidGraph.l0 kj4 t335 y341 0) = some r := by first | (rw [hy341]; with_reducible exact H) | (have H2_ := (Option.bind_some _ _).symm.trans H; rw [hy341]; with_reducible exact H2_) | (have H2_ := (Option.bind_some _ _).symm.trans H; with_reducible exact H2_) | with_reducible exact H | (rw [hy341]; exact H) | exact H
          have Ny341 := Aside0.mk hy341
          clear hy341
          have H' := Aside0.mk H
          clear H
          go_wp2_with (first | ((with_reducible refine gate_dst (N := 32) rfl ?_); (try (refine gate_guard (by rfl) ?_; dsimp only)); refine Kd.N_lit k33 _ 33 ?hg (N' := 32) ?hd (xs := ([] : List (S33))) (inner := []) (ok := (fun k_ => some k_ ≠ (.slice Ao7 t335.length co7 : Value).ownBlock)) (okp := (fun k_ => some k_ ≠ (.slice Ao7 t335.length co7 : Value).ownBlock)) ?hr ?hp (fun _ hk => hk) ((show ∀ k_, wc.heap.size ≤ k_ → (fun k_ => some k_ ≠ (.slice Ao7 t335.length co7 : Value).ownBlock) k_ from fun k_ hk => Kd.fresh' (Kd.N_lt (by (with_reducible repeat (first | apply Kd.N_alloc | apply Kd.N_drewN | apply Kd.N_drew)); exact HO_3.out)) k_ hk) _ (Nat.le_refl _)) (Below.refl _ _) (Nat.le_refl _) (by simp) ?_; (case hd => rfl); (case hg => rfl); (case hr => first | (go_simp; done) | (go_simp; rfl)); (case hp => exact (Reps.none _ _)); intro v342 w18 ho19 hb hg_ hnew_; clear hg_ hnew_; (first | rw [← Ny341.out] at ho19 | (simp only [Int.reduceToNat] at ho19; rw [← Ny341.out] at ho19)); have n0_ := Aside0.mk (Kd.N_elder' (by (with_reducible repeat (first | apply Kd.N_alloc | apply Kd.N_drewN | apply Kd.N_drew)); exact HO_3.out) (Kd.N_base ho19) hb); have n1_ := Aside0.mk (Kd.N_lower ho19 (below_size (by repeat (first | (with_reducible first | exact HB.out | apply below_alloc | apply pw_below_drewN | apply below_drew1) | exact HB.out)))); have n2_ := Aside0.mk (below_step (by repeat (first | (with_reducible first | exact HB.out | apply below_alloc | apply pw_below_drewN | apply below_drew1) | exact HB.out)) hb); clear HO_3; clear HB; have HO_3 := n0_; have HO343 := n1_; have HB := n2_; clear n0_ n1_ n2_; clear hb ho19))
          go_loopg [5, 6] kj4 (fun kq v5 v6 w' => ∃ (x5_2 : List (S33)) (x6_2 : Int), v6 = .int .i64 x6_2 ∧ Aside0 (laws_FnValidGraph.l0 kq t335 x5_2 x6_2 = some r) ∧ Aside0 (kq ≤ kj4) ∧ Aside0 (Kd.N k33 33 w' w.heap.size (fun k_ => some k_ ≠ (v5 : Value).ownBlock) (.slice Ao7 t335.length co7) t335) ∧ Aside0 (Kd.N k33 33 w' w.heap.size (fun k_ => some k_ ≠ ((.slice Ao7 t335.length co7) : Value).ownBlock) v5 x5_2) ∧ Aside0 (Below w.heap.size w w'))
          case atStart => exact ⟨(y341), (0), (by first | rfl | (simp; done) | (simp [*]; done)), H', ⟨Nat.le_refl _⟩, ⟨by (with_reducible repeat (first | apply Kd.N_alloc | apply Kd.N_drewN | apply Kd.N_drew)); exact Kd.N_mono HO_3.out (fun _ hk => hk.2)⟩, ⟨by (with_reducible repeat (first | apply Kd.N_alloc | apply Kd.N_drewN | apply Kd.N_drew)); exact HO343.out⟩, ⟨by repeat (first | (with_reducible first | exact HB.out | apply below_alloc | apply pw_below_drewN | apply below_drew1) | exact HB.out)⟩⟩
          case round =>
            clear H'
            try clear c1
            try clear c2
            try clear c2b0
            try clear c2b1
            try clear p2
            try clear c4
            try clear c10
            try clear c10b0
            try clear c10b1
            try clear c10b2
            try clear c12
            try clear c15
            try clear c16
            try clear c18
            try clear p2
            obtain ⟨x5_2, x6_2, rfl, HA, HK2, HO_3, HO_5, HB⟩ := hrel
            cases gk with
            | zero => exact absurd HA.out (by simp [laws_FnValidGraph.l0])
            | succ k2 =>
              have H := HA.out
              clear HA
              simp only [laws_FnValidGraph.l0] at H
              by_cases c20 : x6_2 < (t335.length : Int)
              · rw [if_pos c20] at H
                have c20b0 : decide (x6_2 < (t335.length : Int)) = true := decide_eq_true c20
                clear c20
                by_cases c21 : 0 ≤ x6_2
                · rw [if_pos c21] at H
                  have c21b0 : decide (0 ≤ x6_2) = true := decide_eq_true c21
                  clear c21
                  by_cases c22 : x5_2.length < 2932031007402
                  · rw [if_pos c22] at H
                    have LMc22 := Aside0.mk c22
                    clear c22
                    obtain ⟨y347, hy347⟩ : ∃ y_ : List (S33), y_ = (x5_2 ++ [(⟨(rd_T33 t335 x6_2).f0, ([] : List Int), (rd_T33 t335 x6_2).f2, (rd_T33 t335 x6_2).f3⟩ : S33)]) := ⟨_, rfl⟩
                    replace H : (laws_FnValidGraph.l0 k2 t335 y347 (wrap64 (x6_2 + 1))) = some r := by first | (rw [hy347]; with_reducible exact H) | (have H2_ := (Option.bind_some _ _).symm.trans H; rw [hy347]; with_reducible exact H2_) | (have H2_ := (Option.bind_some _ _).symm.trans H; with_reducible exact H2_) | with_reducible exact H | (rw [hy347]; exact H) | exact H
                    have Ny347 := Aside0.mk hy347
                    clear hy347
                    have H' := Aside0.mk H
                    clear H
                    try go_wp2
                    have n0_ := Aside0.mk (Kd.N_drew HO_3.out)
                    have n1_ := Aside0.mk (Kd.N_drew HO_5.out)
                    have n2_ := Aside0.mk (below_drew1 HB.out)
                    clear HO_3
                    clear HO_5
                    clear HB
                    have HO_3 := n0_
                    have HO_5 := n1_
                    have HB := n2_
                    clear n0_ n1_ n2_
                    have p344 : 0 ≤ (x6_2 : Int) := of_decide_eq_true (by first | (with_reducible assumption) | assumption)
                    have q344 : x6_2 < (t335.length : Int) := of_decide_eq_true (by first | (with_reducible assumption) | assumption)
                    obtain ⟨ad344, A344_1, c344_1, e344, hx344_0, hx344_1, hx344_2, hx344_3, hl344_1, hi344_1⟩ := at_T33 (Kd.N_reads' HO_3.out).2.2 x6_2 p344 q344
                    cases e344
                    obtain ⟨ce344, hce344, hMe344, hcc344⟩ := Kd.N_get HO_3.out z33 x6_2 p344 (by first | exact q344 | exact of_decide_eq_true (by first | (with_reducible assumption) | assumption) | (have e_ := (Kd.N_reads' HO_3.out).1; omega))
                    obtain ⟨ua344_1, uc344_1, rfl, ul344_1, ge344_1⟩ := k33_openF hMe344
                    have hv344_1 := hcc344 1 _ rfl
                    rw [add_field _ _ 1 (by omega)] at hv344_1
                    replace hv344_1 := Option.some.inj (hv344_1.symm.trans hx344_1)
                    injection hv344_1 with hva_ hvn_ hvc_
                    rw [hva_] at ge344_1
                    rw [hvc_] at ul344_1
                    have HL344_1 := Aside0.mk (show Kd.V (Kd.int .i64) 3 _ w.heap.size _ _ ((rd_T33 t335 x6_2).f1) from Kd.V_mk ul344_1 ge344_1)
                    clear hva_ hvn_ hvc_ ge344_1 ul344_1
                    clear hcc344 hce344
                    have HR344_1 := Aside0.mk hi344_1
                    have HC344_1 := Aside0.mk hl344_1
                    clear hi344_1 hl344_1
                    replace p344 := eq_true p344
                    replace q344 := eq_true q344
                    have p345 : 0 ≤ (x6_2 : Int) := of_decide_eq_true (by first | (with_reducible assumption) | assumption)
                    have q345 : x6_2 < (t335.length : Int) := of_decide_eq_true (by first | (with_reducible assumption) | assumption)
                    obtain ⟨ad345, A345_1, c345_1, e345, hx345_0, hx345_1, hx345_2, hx345_3, hl345_1, hi345_1⟩ := at_T33 (Kd.N_reads' HO_3.out).2.2 x6_2 p345 q345
                    obtain rfl : ad344 = ad345 := (by injection e345)
                    obtain ⟨ce345, hce345, hMe345, hcc345⟩ := Kd.N_get HO_3.out z33 x6_2 p345 (by first | exact q345 | exact of_decide_eq_true (by first | (with_reducible assumption) | assumption) | (have e_ := (Kd.N_reads' HO_3.out).1; omega))
                    obtain ⟨ua345_1, uc345_1, rfl, ul345_1, ge345_1⟩ := k33_openF hMe345
                    have hv345_1 := hcc345 1 _ rfl
                    rw [add_field _ _ 1 (by omega)] at hv345_1
                    replace hv345_1 := Option.some.inj (hv345_1.symm.trans hx345_1)
                    injection hv345_1 with hva_ hvn_ hvc_
                    rw [hva_] at ge345_1
                    rw [hvc_] at ul345_1
                    have HL345_1 := Aside0.mk (show Kd.V (Kd.int .i64) 3 _ w.heap.size _ _ ((rd_T33 t335 x6_2).f1) from Kd.V_mk ul345_1 ge345_1)
                    clear hva_ hvn_ hvc_ ge345_1 ul345_1
                    clear hcc345 hce345
                    have HR345_1 := Aside0.mk hi345_1
                    have HC345_1 := Aside0.mk hl345_1
                    clear hi345_1 hl345_1
                    replace p345 := eq_true p345
                    replace q345 := eq_true q345
                    have ea_ := Option.some.inj (hx344_1.symm.trans hx345_1)
                    injection ea_ with ea_ en_ ec_
                    subst ea_
                    subst ec_
                    clear en_
                    have p346 : 0 ≤ (x6_2 : Int) := of_decide_eq_true (by first | (with_reducible assumption) | assumption)
                    have q346 : x6_2 < (t335.length : Int) := of_decide_eq_true (by first | (with_reducible assumption) | assumption)
                    obtain ⟨ad346, A346_1, c346_1, e346, hx346_0, hx346_1, hx346_2, hx346_3, hl346_1, hi346_1⟩ := at_T33 (Kd.N_reads' HO_3.out).2.2 x6_2 p346 q346
                    obtain rfl : ad344 = ad346 := (by injection e346)
                    obtain ⟨ce346, hce346, hMe346, hcc346⟩ := Kd.N_get HO_3.out z33 x6_2 p346 (by first | exact q346 | exact of_decide_eq_true (by first | (with_reducible assumption) | assumption) | (have e_ := (Kd.N_reads' HO_3.out).1; omega))
                    obtain ⟨ua346_1, uc346_1, rfl, ul346_1, ge346_1⟩ := k33_openF hMe346
                    have hv346_1 := hcc346 1 _ rfl
                    rw [add_field _ _ 1 (by omega)] at hv346_1
                    replace hv346_1 := Option.some.inj (hv346_1.symm.trans hx346_1)
                    injection hv346_1 with hva_ hvn_ hvc_
                    rw [hva_] at ge346_1
                    rw [hvc_] at ul346_1
                    have HL346_1 := Aside0.mk (show Kd.V (Kd.int .i64) 3 _ w.heap.size _ _ ((rd_T33 t335 x6_2).f1) from Kd.V_mk ul346_1 ge346_1)
                    clear hva_ hvn_ hvc_ ge346_1 ul346_1
                    clear hcc346 hce346
                    have HR346_1 := Aside0.mk hi346_1
                    have HC346_1 := Aside0.mk hl346_1
                    clear hi346_1 hl346_1
                    replace p346 := eq_true p346
                    replace q346 := eq_true q346
                    have ea_ := Option.some.inj (hx344_1.symm.trans hx346_1)
                    injection ea_ with ea_ en_ ec_
                    subst ea_
                    subst ec_
                    clear en_
                    refine start_ (n := 20) (S := fun w' => w'.cell? (ad344.add ((x6_2).toNat * 4)) = some (.int .i64 ((rd_T33 t335 x6_2).f0)) ∧ w'.cell? ⟨(ad344.add ((x6_2).toNat * 4)).block, (ad344.add ((x6_2).toNat * 4)).off + 1, none⟩ = some (.slice A344_1 ((rd_T33 t335 x6_2).f1).length c344_1) ∧ w'.cell? ⟨(ad344.add ((x6_2).toNat * 4)).block, (ad344.add ((x6_2).toNat * 4)).off + 2, none⟩ = some (.int .i64 ((rd_T33 t335 x6_2).f2)) ∧ w'.cell? ⟨(ad344.add ((x6_2).toNat * 4)).block, (ad344.add ((x6_2).toNat * 4)).off + 3, none⟩ = some (.int .i64 ((rd_T33 t335 x6_2).f3)) ∧ w'.cell? (ad344.add ((x6_2).toNat * 4)) = some (.int .i64 ((rd_T33 t335 x6_2).f0)) ∧ w'.cell? ⟨(ad344.add ((x6_2).toNat * 4)).block, (ad344.add ((x6_2).toNat * 4)).off + 1, none⟩ = some (.slice A344_1 ((rd_T33 t335 x6_2).f1).length c344_1) ∧ w'.cell? ⟨(ad344.add ((x6_2).toNat * 4)).block, (ad344.add ((x6_2).toNat * 4)).off + 2, none⟩ = some (.int .i64 ((rd_T33 t335 x6_2).f2)) ∧ w'.cell? ⟨(ad344.add ((x6_2).toNat * 4)).block, (ad344.add ((x6_2).toNat * 4)).off + 3, none⟩ = some (.int .i64 ((rd_T33 t335 x6_2).f3)) ∧ w'.cell? (ad344.add ((x6_2).toNat * 4)) = some (.int .i64 ((rd_T33 t335 x6_2).f0)) ∧ w'.cell? ⟨(ad344.add ((x6_2).toNat * 4)).block, (ad344.add ((x6_2).toNat * 4)).off + 1, none⟩ = some (.slice A344_1 ((rd_T33 t335 x6_2).f1).length c344_1) ∧ w'.cell? ⟨(ad344.add ((x6_2).toNat * 4)).block, (ad344.add ((x6_2).toNat * 4)).off + 2, none⟩ = some (.int .i64 ((rd_T33 t335 x6_2).f2)) ∧ w'.cell? ⟨(ad344.add ((x6_2).toNat * 4)).block, (ad344.add ((x6_2).toNat * 4)).off + 3, none⟩ = some (.int .i64 ((rd_T33 t335 x6_2).f3))) (ds := [17, 18]) #[false, false, false, false, false, false, false, false, false, false, false, false, false, false, false, false, false, false, false, false] (by kernel_rfl) rfl rfl ⟨hx344_0, hx344_1, hx344_2, hx344_3, hx345_0, hx345_1, hx345_2, hx345_3, hx346_0, hx346_1, hx346_2, hx346_3⟩ (fun hHeld => ?_); refine with_tabW laws_FnValidGraph.tab11 laws_FnValidGraph.bits11 (fun HT_ HW_ => ?_)
                    generalize wr.drew = w23 at HO_3 HO_5 HB HL344_1 HL345_1 HL346_1 HR344_1 HR345_1 HR346_1 hx344_0 hx344_1 hx344_2 hx344_3 hx345_0 hx345_1 hx345_2 hx345_3 hx346_0 hx346_1 hx346_2 hx346_3 hHeld ⊢
                    refine pure_ (i := 0) (N := some 39) (v := ?_) (a' := ?_) #[true, false, false, false, false, false, false, false, false, false, false, false, false, false, false, false, false, false, false, false] rfl rfl (any_of HT_.out (by kernel_rfl)) (fun _ _ _ h => h) (Or.inl ⟨by rfl, ?_⟩) ?_ ?_
                    rotate_left
                    · intro w'
                      go_simp
                      with_reducible rfl
                    rotate_left
                    · simp only [Act.put, List.setIfInBounds_toArray, List.set_cons_zero, List.set_cons_succ, i64_w, i32_w]
                      rfl
                    refine pure_ (i := 1) (N := some 40) (v := ?_) (a' := ?_) #[true, true, false, false, false, false, false, false, false, false, false, false, false, false, false, false, false, false, false, false] rfl rfl (any_of HT_.out (by kernel_rfl)) (fun _ _ _ h => h) (Or.inl ⟨by rfl, ?_⟩) ?_ ?_
                    rotate_left
                    · intro w'
                      go_simp
                      with_reducible rfl
                    rotate_left
                    · simp only [Act.put, List.setIfInBounds_toArray, List.set_cons_zero, List.set_cons_succ, i64_w, i32_w]
                      rfl
                    refine pure_ (i := 2) (N := some 41) (v := ?_) (a' := ?_) #[true, true, true, false, false, false, false, false, false, false, false, false, false, false, false, false, false, false, false, false] rfl rfl (any_of HT_.out (by kernel_rfl)) (fun _ _ _ h => h) (Or.inl ⟨by rfl, ?_⟩) ?_ ?_
                    rotate_left
                    · intro w'
                      go_simp
                      with_reducible rfl
                    rotate_left
                    · simp only [Act.put, List.setIfInBounds_toArray, List.set_cons_zero, List.set_cons_succ, i64_w, i32_w]
                      rfl
                    refine pure_ (i := 3) (N := some 42) (v := ?_) (a' := ?_) #[true, true, true, true, false, false, false, false, false, false, false, false, false, false, false, false, false, false, false, false] rfl rfl (any_of HT_.out (by kernel_rfl)) (fun _ _ _ h => h) (Or.inl ⟨by rfl, ?_⟩) ?_ ?_
                    rotate_left
                    · intro w'
                      go_simp
                      with_reducible rfl
                    rotate_left
                    · simp only [Act.put, List.setIfInBounds_toArray, List.set_cons_zero, List.set_cons_succ, i64_w, i32_w]
                      rfl
                    refine pure_ (i := 4) (N := some 43) (v := ?_) (a' := ?_) #[true, true, true, true, true, false, false, false, false, false, false, false, false, false, false, false, false, false, false, false] rfl rfl (any_of HT_.out (by kernel_rfl)) (fun _ _ _ h => h) (Or.inl ⟨by rfl, ?_⟩) ?_ ?_
                    rotate_left
                    · intro w'
                      go_simp
                      with_reducible rfl
                    rotate_left
                    · simp only [Act.put, List.setIfInBounds_toArray, List.set_cons_zero, List.set_cons_succ, i64_w, i32_w]
                      rfl
                    refine pure_ (i := 6) (N := some 45) (v := ?_) (a' := ?_) #[true, true, true, true, true, false, true, false, false, false, false, false, false, false, false, false, false, false, false, false] rfl rfl (any_of HT_.out (by kernel_rfl)) (fun _ _ _ h => h) (Or.inl ⟨by rfl, ?_⟩) ?_ ?_
                    rotate_left
                    · intro w'
                      go_simp
                      with_reducible rfl
                    rotate_left
                    · simp only [Act.put, List.setIfInBounds_toArray, List.set_cons_zero, List.set_cons_succ, i64_w, i32_w]
                      rfl
                    refine pure_ (i := 7) (N := some 46) (v := ?_) (a' := ?_) #[true, true, true, true, true, false, true, true, false, false, false, false, false, false, false, false, false, false, false, false] rfl rfl (any_of HT_.out (by kernel_rfl)) (fun _ _ _ h => h) (Or.inl ⟨by rfl, ?_⟩) ?_ ?_
                    rotate_left
                    · intro w'
                      go_simp
                      with_reducible rfl
                    rotate_left
                    · simp only [Act.put, List.setIfInBounds_toArray, List.set_cons_zero, List.set_cons_succ, i64_w, i32_w]
                      rfl
                    refine pure_ (i := 8) (N := some 47) (v := ?_) (a' := ?_) #[true, true, true, true, true, false, true, true, true, false, false, false, false, false, false, false, false, false, false, false] rfl rfl (any_of HT_.out (by kernel_rfl)) (fun _ _ _ h => h) (Or.inl ⟨by rfl, ?_⟩) ?_ ?_
                    rotate_left
                    · intro w'
                      go_simp
                      with_reducible rfl
                    rotate_left
                    · simp only [Act.put, List.setIfInBounds_toArray, List.set_cons_zero, List.set_cons_succ, i64_w, i32_w]
                      rfl
                    refine pure_ (i := 9) (N := some 48) (v := ?_) (a' := ?_) #[true, true, true, true, true, false, true, true, true, true, false, false, false, false, false, false, false, false, false, false] rfl rfl (any_of HT_.out (by kernel_rfl)) (fun _ _ _ h => h) (Or.inl ⟨by rfl, ?_⟩) ?_ ?_
                    rotate_left
                    · intro w'
                      go_simp
                      with_reducible rfl
                    rotate_left
                    · simp only [Act.put, List.setIfInBounds_toArray, List.set_cons_zero, List.set_cons_succ, i64_w, i32_w]
                      rfl
                    refine pure_ (i := 11) (N := some 50) (v := ?_) (a' := ?_) #[true, true, true, true, true, false, true, true, true, true, false, true, false, false, false, false, false, false, false, false] rfl rfl (any_of HT_.out (by kernel_rfl)) (fun _ _ _ h => h) (Or.inl ⟨by rfl, ?_⟩) ?_ ?_
                    rotate_left
                    · intro w'
                      go_simp
                      with_reducible rfl
                    rotate_left
                    · simp only [Act.put, List.setIfInBounds_toArray, List.set_cons_zero, List.set_cons_succ, i64_w, i32_w]
                      rfl
                    refine pure_ (i := 12) (N := some 51) (v := ?_) (a' := ?_) #[true, true, true, true, true, false, true, true, true, true, false, true, true, false, false, false, false, false, false, false] rfl rfl (any_of HT_.out (by kernel_rfl)) (fun _ _ _ h => h) (Or.inl ⟨by rfl, ?_⟩) ?_ ?_
                    rotate_left
                    · intro w'
                      go_simp
                      with_reducible rfl
                    rotate_left
                    · simp only [Act.put, List.setIfInBounds_toArray, List.set_cons_zero, List.set_cons_succ, i64_w, i32_w]
                      rfl
                    refine pure_ (i := 13) (N := some 52) (v := ?_) (a' := ?_) #[true, true, true, true, true, false, true, true, true, true, false, true, true, true, false, false, false, false, false, false] rfl rfl (any_of HT_.out (by kernel_rfl)) (fun _ _ _ h => h) (Or.inl ⟨by rfl, ?_⟩) ?_ ?_
                    rotate_left
                    · intro w'
                      go_simp
                      with_reducible rfl
                    rotate_left
                    · simp only [Act.put, List.setIfInBounds_toArray, List.set_cons_zero, List.set_cons_succ, i64_w, i32_w]
                      rfl
                    refine pure_ (i := 14) (N := some 53) (v := ?_) (a' := ?_) #[true, true, true, true, true, false, true, true, true, true, false, true, true, true, true, false, false, false, false, false] rfl rfl (any_of HT_.out (by kernel_rfl)) (fun _ _ _ h => h) (Or.inl ⟨by rfl, ?_⟩) ?_ ?_
                    rotate_left
                    · intro w'
                      go_simp
                      with_reducible rfl
                    rotate_left
                    · simp only [Act.put, List.setIfInBounds_toArray, List.set_cons_zero, List.set_cons_succ, i64_w, i32_w]
                      rfl
                    refine take_ (i := 5) (N := some 44) (v := ?_) (a' := ?_) #[true, true, true, true, true, true, true, true, true, true, false, true, true, true, true, false, false, false, false, false] rfl rfl (take_ofW HT_.out HW_.out (by kernel_rfl)) (fun _ _ _ h => h) (Or.inl ⟨by rfl, ?_⟩) hHeld ?_ ?_
                    rotate_left
                    · rintro w' ⟨s0, s1, s2, s3, s4, s5, s6, s7, s8, s9, s10, s11⟩
                      go_simp
                      with_reducible rfl
                    rotate_left
                    · simp only [Act.put, List.setIfInBounds_toArray, List.set_cons_zero, List.set_cons_succ, i64_w, i32_w]
                      rfl
                    refine take_ (i := 10) (N := some 49) (v := ?_) (a' := ?_) #[true, true, true, true, true, true, true, true, true, true, true, true, true, true, true, false, false, false, false, false] rfl rfl (take_ofW HT_.out HW_.out (by kernel_rfl)) (fun _ _ _ h => h) (Or.inl ⟨by rfl, ?_⟩) hHeld ?_ ?_
                    rotate_left
                    · rintro w' ⟨s0, s1, s2, s3, s4, s5, s6, s7, s8, s9, s10, s11⟩
                      go_simp
                      with_reducible rfl
                    rotate_left
                    · simp only [Act.put, List.setIfInBounds_toArray, List.set_cons_zero, List.set_cons_succ, i64_w, i32_w]
                      rfl
                    refine take_ (i := 15) (N := some 54) (v := ?_) (a' := ?_) #[true, true, true, true, true, true, true, true, true, true, true, true, true, true, true, true, false, false, false, false] rfl rfl (take_ofW HT_.out HW_.out (by kernel_rfl)) (fun _ _ _ h => h) (Or.inl ⟨by rfl, ?_⟩) hHeld ?_ ?_
                    rotate_left
                    · rintro w' ⟨s0, s1, s2, s3, s4, s5, s6, s7, s8, s9, s10, s11⟩
                      go_simp
                      with_reducible rfl
                    rotate_left
                    · simp only [Act.put, List.setIfInBounds_toArray, List.set_cons_zero, List.set_cons_succ, i64_w, i32_w]
                      rfl
                    refine pure_ (i := 16) (N := some 55) (v := ?_) (a' := ?_) #[true, true, true, true, true, true, true, true, true, true, true, true, true, true, true, true, true, false, false, false] rfl rfl (any_of HT_.out (by kernel_rfl)) (fun _ _ _ h => h) (Or.inl ⟨by rfl, ?_⟩) ?_ ?_
                    rotate_left
                    · intro w'
                      go_simp
                      with_reducible rfl
                    rotate_left
                    · simp only [Act.put, List.setIfInBounds_toArray, List.set_cons_zero, List.set_cons_succ, i64_w, i32_w]
                      rfl
                    refine last_ (i := 17) (N := some 56) #[true, true, true, true, true, true, true, true, true, true, true, true, true, true, true, true, true, true, false, false] rfl rfl (one_of HT_.out (by kernel_rfl)) (by decide) (fun K hK => ?_)
                    refine value_ (w1 := ?_) (v := ?_) (by rfl) rfl ?_ ?_
                    rotate_left 2
                    · go_simp
                      constructor
                      · rfl
                      · rfl
                    refine hK.out _ _ ?_
                    clear hK K
                    refine norm_ (a' := ?_) ?_ ?_
                    rotate_left
                    · show Act.put _ (some 56) _ = _
                      simp only [Act.put, List.setIfInBounds_toArray, List.set_cons_zero, List.set_cons_succ, i64_w, i32_w]
                      rfl
                    refine last_ (i := 18) (N := some 57) #[true, true, true, true, true, true, true, true, true, true, true, true, true, true, true, true, true, true, true, false] rfl rfl (one_of HT_.out (by kernel_rfl)) (by decide) (fun K hK => ?_)
                    refine Kd.N_append_step k33 (w0 := w) w.heap.size (by rfl) (.tmp 39) (.tmp 56) 25 33 (.agg #[(.int .i64 0), (.slice none 0 0), (.int .i64 0), (.int .i64 0)]) 48 rfl Tryd.underlying25 info33 rfl (by decide) (by omega) u5 x5_2 (⟨(rd_T33 t335 x6_2).f0, ([] : List Int), (rd_T33 t335 x6_2).f2, (rd_T33 t335 x6_2).f3⟩ : S33) [.int .i64 ((rd_T33 t335 x6_2).f0), .slice none 0 0, .int .i64 ((rd_T33 t335 x6_2).f2), .int .i64 ((rd_T33 t335 x6_2).f3)] (fun k_ => some k_ ≠ (.slice (some ad344) t335.length co7 : Value).ownBlock) (fun k_ => ((fun k_ => some k_ ≠ (.slice (some ad344) t335.length co7 : Value).ownBlock)) k_ ∧ some k_ ≠ (u5 : Value).ownBlock) rfl rfl ?aP (fun _ hk => hk) ?aF ?aO ?aB ?aS ?aL ?_
                    (case aP => exact (k33_mkF _ _ (⟨(rd_T33 t335 x6_2).f0, ([] : List Int), (rd_T33 t335 x6_2).f2, (rd_T33 t335 x6_2).f3⟩ : S33) (Nat.le_refl _) (Kd.F_nil _ _ _)))
                    (case aB => exact (by repeat (first | (with_reducible first | exact HB.out | apply below_alloc | apply pw_below_drewN | apply below_drew1) | exact HB.out)))
                    (case aF => exact (fun k_ hk => Kd.fresh' (Kd.N_lt (by (with_reducible repeat (first | apply Kd.N_alloc | apply Kd.N_drewN | apply Kd.N_drew)); exact HO_3.out)) k_ hk))
                    (case aO => exact (by (with_reducible repeat (first | apply Kd.N_alloc | apply Kd.N_drewN | apply Kd.N_drew)); exact HO_5.out))
                    (case aS => exact (below_size (by repeat (first | (with_reducible first | exact HB.out | apply below_alloc | apply pw_below_drewN | apply below_drew1) | exact HB.out))))
                    (case aL => have := LMc22.out; omega)
                    intro v348 w24 ho hb hg hat
                    rw [← Ny347.out] at ho
                    have n0_ := Aside0.mk (Kd.N_afterv (ok := (fun _ => True)) (by (with_reducible repeat (first | apply Kd.N_alloc | apply Kd.N_drewN | apply Kd.N_drew)); exact Kd.N_mono HO_3.out (fun _ hk => ⟨trivial, hk⟩)) hg hat)
                    have n1_ := Aside0.mk (Kd.V_afterv (ok := (fun k_ => some k_ ≠ (.slice (some ad344) t335.length co7 : Value).ownBlock)) (by (with_reducible repeat (first | apply Kd.V_alloc | apply Kd.V_drewN | apply Kd.V_drew)); exact Kd.V_mono HL344_1.out (fun _ hk => ⟨hk.2, hk.1⟩)) hg hat)
                    have n2_ := Aside0.mk (Kd.V_afterv (ok := (fun k_ => some k_ ≠ (.slice (some ad344) t335.length co7 : Value).ownBlock)) (by (with_reducible repeat (first | apply Kd.V_alloc | apply Kd.V_drewN | apply Kd.V_drew)); exact Kd.V_mono HL345_1.out (fun _ hk => ⟨hk.2, hk.1⟩)) hg hat)
                    have n3_ := Aside0.mk (Kd.V_afterv (ok := (fun k_ => some k_ ≠ (.slice (some ad344) t335.length co7 : Value).ownBlock)) (by (with_reducible repeat (first | apply Kd.V_alloc | apply Kd.V_drewN | apply Kd.V_drew)); exact Kd.V_mono HL346_1.out (fun _ hk => ⟨hk.2, hk.1⟩)) hg hat)
                    have n4_ := Aside0.mk (hb)
                    have n5_ := Aside0.mk (ho)
                    clear HO_3
                    clear HL344_1
                    clear HL345_1
                    clear HL346_1
                    clear HB
                    clear HO_5
                    have HO_3 := n0_
                    have HL344_1 := n1_
                    have HL345_1 := n2_
                    have HL346_1 := n3_
                    have HB := n4_
                    have HO349 := n5_
                    clear n0_ n1_ n2_ n3_ n4_ n5_
                    clear ho hb hg hat
                    refine hK.out _ _ ?_
                    clear hK K
                    refine norm_ (a' := ?_) ?_ ?_
                    rotate_left
                    · show Act.put _ (some 57) _ = _
                      simp only [Act.put, List.setIfInBounds_toArray, List.set_cons_zero, List.set_cons_succ, i64_w, i32_w]
                      rfl
                    refine pure_ (i := 19) (N := some 5) (v := ?_) (a' := ?_) #[true, true, true, true, true, true, true, true, true, true, true, true, true, true, true, true, true, true, true, true] rfl rfl (any_of HT_.out (by kernel_rfl)) (fun _ _ _ h => h) (Or.inl ⟨by rfl, ?_⟩) ?_ ?_
                    rotate_left
                    · intro w'
                      go_simp
                      with_reducible rfl
                    rotate_left
                    · simp only [Act.put, List.setIfInBounds_toArray, List.set_cons_zero, List.set_cons_succ, i64_w, i32_w]
                      rfl
                    refine done_ (done_of HT_.out (by kernel_rfl)) ?_
                    try go_wp2
                    go_roundg k2
                    case measure => have := HJ4.out; have := HK2.out; omega
                    case rel => exact ⟨(y347), (wrap64 (x6_2 + 1)), (by first | rfl | (simp; done) | (simp [*]; done)), H', ⟨by have := HJ4.out; have := HK2.out; omega⟩, ⟨by (with_reducible repeat (first | apply Kd.N_alloc | apply Kd.N_drewN | apply Kd.N_drew)); exact Kd.N_mono HO_3.out (fun _ hk => hk.2)⟩, ⟨by (with_reducible repeat (first | apply Kd.N_alloc | apply Kd.N_drewN | apply Kd.N_drew)); exact HO349.out⟩, ⟨by repeat (first | (with_reducible first | exact HB.out | apply below_alloc | apply pw_below_drewN | apply below_drew1) | exact HB.out)⟩⟩
                  · rw [if_neg c22] at H
                    exact absurd H (by simp)
                · rw [if_neg c21] at H
                  exact absurd H (by simp)
              · rw [if_neg c20] at H
                have c20b0 : decide (x6_2 < (t335.length : Int)) = false := decide_eq_false c20
                clear c20
                obtain ⟨y350, hy350⟩ : ∃ y_ : List (S33), y_ = (([] : List (S33))) := ⟨_, rfl⟩
                replace H : (if y350.length + x5_2.length < 2932031007402 then ((some (y350 ++ x5_2 : List (S33))).bind fun y353 => (if 0 < (y353.length : Int) then ((impl_ValidGraph.f x5_2).bind fun t360 => (if t360 = true then ((impl_ValidGraph.f (y353.set (0 : Int).toNat (⟨(rd_T33 y353 0).f0, (([0] : List Int)), (rd_T33 y353 0).f2, (rd_T33 y353 0).f3⟩ : S33))).bind fun t361 => (some (!t361))) else (some false))) else (none))) else (none)) = some r := by first | (rw [hy350]; with_reducible exact H) | (have H2_ := (Option.bind_some _ _).symm.trans H; rw [hy350]; with_reducible exact H2_) | (have H2_ := (Option.bind_some _ _).symm.trans H; with_reducible exact H2_) | with_reducible exact H | (rw [hy350]; exact H) | exact H
                have Ny350 := Aside0.mk hy350
                clear hy350
                by_cases c25 : y350.length + x5_2.length < 2932031007402
                · rw [if_pos c25] at H
                  have LMc25 := Aside0.mk c25
                  clear c25
                  obtain ⟨y353, hy353⟩ : ∃ y_ : List (S33), y_ = (y350 ++ x5_2) := ⟨_, rfl⟩
                  replace H : (if 0 < (y353.length : Int) then ((impl_ValidGraph.f x5_2).bind fun t360 => (if t360 = true then ((impl_ValidGraph.f (y353.set (0 : Int).toNat (⟨(rd_T33 y353 0).f0, (([0] : List Int)), (rd_T33 y353 0).f2, (rd_T33 y353 0).f3⟩ : S33))).bind fun t361 => (some (!t361))) else (some false))) else (none)) = some r := by first | (rw [hy353]; with_reducible exact H) | (have H2_ := (Option.bind_some _ _).symm.trans H; rw [hy353]; with_reducible exact H2_) | (have H2_ := (Option.bind_some _ _).symm.trans H; with_reducible exact H2_) | with_reducible exact H | (rw [hy353]; exact H) | exact H
                  have Ny353 := Aside0.mk hy353
                  clear hy353
                  obtain ⟨y356, hy356⟩ : ∃ y_ : List Int, y_ = (([0] : List Int)) := ⟨_, rfl⟩
                  replace H : (if 0 < (y353.length : Int) then ((impl_ValidGraph.f x5_2).bind fun t360 => (if t360 = true then ((impl_ValidGraph.f (y353.set (0 : Int).toNat (⟨(rd_T33 y353 0).f0, y356, (rd_T33 y353 0).f2, (rd_T33 y353 0).f3⟩ : S33))).bind fun t361 => (some (!t361))) else (some false))) else (none)) = some r := by first | (rw [hy356]; with_reducible exact H) | (have H2_ := (Option.bind_some _ _).symm.trans H; rw [hy356]; with_reducible exact H2_) | (have H2_ := (Option.bind_some _ _).symm.trans H; with_reducible exact H2_) | with_reducible exact H | (rw [hy356]; exact H) | exact H
                  have Ny356 := Aside0.mk hy356
                  clear hy356
                  by_cases c26 : 0 < (y353.length : Int)
                  · rw [if_pos c26] at H
                    have c26b0 : decide (0 < (y353.length : Int)) = true := decide_eq_true c26
                    have c26b1 : decide (0 < y353.length) = true := decide_eq_true (by omega)
                    clear c26
                    obtain ⟨y359, hy359⟩ : ∃ y_ : List (S33), y_ = (y353.set (0 : Int).toNat (⟨(rd_T33 y353 0).f0, y356, (rd_T33 y353 0).f2, (rd_T33 y353 0).f3⟩ : S33)) := ⟨_, rfl⟩
                    replace H : ((impl_ValidGraph.f x5_2).bind fun t360 => (if t360 = true then ((impl_ValidGraph.f y359).bind fun t361 => (some (!t361))) else (some false))) = some r := by first | (rw [hy359]; with_reducible exact H) | (have H2_ := (Option.bind_some _ _).symm.trans H; rw [hy359]; with_reducible exact H2_) | (have H2_ := (Option.bind_some _ _).symm.trans H; with_reducible exact H2_) | with_reducible exact H | (rw [hy359]; exact H) | exact H
                    have Ny359 := Aside0.mk hy359
                    clear hy359
                    replace H := Option.bind_eq_some_iff.mp H
                    obtain ⟨t360, A280, H⟩ := H
                    replace H : (if t360 = true then ((impl_ValidGraph.f y359).bind fun t361 => (some (!t361))) else (some false)) = some r := H
                    have A28 := Aside0.mk A280
                    clear A280
                    by_cases c29 : t360 = true
                    · subst c29
                      have H1 : ((impl_ValidGraph.f y359).bind fun t361 => (some (!t361))) = some r := by rw [if_pos rfl] at H; exact H
                      clear H
                      have H := H1
                      clear H1
                      replace H := Option.bind_eq_some_iff.mp H
                      obtain ⟨t361, A300, H⟩ := H
                      replace H : (some (!t361)) = some r := H
                      have A30 := Aside0.mk A300
                      clear A300
                      obtain rfl := Option.some.inj H
                      go_wp2_with (first | ((with_reducible refine gate_dst (N := 58) rfl ?_); (try (refine gate_guard (by rfl) ?_; dsimp only)); refine Kd.N_lit k33 _ 33 ?hg (N' := 58) ?hd (xs := ([] : List (S33))) (inner := []) (ok := (fun k_ => some k_ ≠ (.slice Ao7 t335.length co7 : Value).ownBlock ∧ some k_ ≠ (u5 : Value).ownBlock)) (okp := (fun k_ => some k_ ≠ (.slice Ao7 t335.length co7 : Value).ownBlock ∧ some k_ ≠ (u5 : Value).ownBlock)) ?hr ?hp (fun _ hk => hk) ((show ∀ k_, wr.heap.size ≤ k_ → (fun k_ => some k_ ≠ (.slice Ao7 t335.length co7 : Value).ownBlock ∧ some k_ ≠ (u5 : Value).ownBlock) k_ from fun k_ hk => ⟨Kd.fresh' (Kd.N_lt (by (with_reducible repeat (first | apply Kd.N_alloc | apply Kd.N_drewN | apply Kd.N_drew)); exact HO_3.out)) k_ hk, Kd.fresh' (Kd.N_lt (by (with_reducible repeat (first | apply Kd.N_alloc | apply Kd.N_drewN | apply Kd.N_drew)); exact HO_5.out)) k_ hk⟩) _ (Nat.le_refl _)) (Below.refl _ _) (Nat.le_refl _) (by simp) ?_; (case hd => rfl); (case hg => rfl); (case hr => first | (go_simp; done) | (go_simp; rfl)); (case hp => exact (Reps.none _ _)); intro v351 w31 ho32 hb hg_ hnew_; clear hg_ hnew_; (first | rw [← Ny350.out] at ho32 | (simp only [Int.reduceToNat] at ho32; rw [← Ny350.out] at ho32)); have n0_ := Aside0.mk (Kd.N_elder' (by (with_reducible repeat (first | apply Kd.N_alloc | apply Kd.N_drewN | apply Kd.N_drew)); exact HO_3.out) (Kd.N_base ho32) hb); have n1_ := Aside0.mk (Kd.N_elder' (by (with_reducible repeat (first | apply Kd.N_alloc | apply Kd.N_drewN | apply Kd.N_drew)); exact HO_5.out) (Kd.N_base ho32) hb); have n2_ := Aside0.mk (Kd.N_lower ho32 (below_size (by repeat (first | (with_reducible first | exact HB.out | apply below_alloc | apply pw_below_drewN | apply below_drew1) | exact HB.out)))); have n3_ := Aside0.mk (below_step (by repeat (first | (with_reducible first | exact HB.out | apply below_alloc | apply pw_below_drewN | apply below_drew1) | exact HB.out)) hb); clear HO_3; clear HO_5; clear HB; have HO_3 := n0_; have HO_5 := n1_; have HO352 := n2_; have HB := n3_; clear n0_ n1_ n2_ n3_; clear hb ho32; obtain ⟨Ao34, co34, eo34⟩ := Kd.N_slice HO_5.out; subst eo34) | ((with_reducible refine gate_builtin (b := .append) (xs := #[.tmp 58, .tmp 59]) rfl ?_); (try (refine gate_guard (by rfl) ?_; dsimp only)); at_builtin; refine Kd.N_append_rows k33 (w0 := w) w.heap.size rfl (.tmp 58) (.tmp 59) 25 33 (.agg #[(.int .i64 0), (.slice none 0 0), (.int .i64 0), (.int .i64 0)]) 48 rfl Tryd.underlying25 info33 rfl (by decide) (by omega) v351 y350 x5_2 _ _ _ (fun k_ => some k_ ≠ (.slice Ao7 t335.length co7 : Value).ownBlock) (fun k_ => ((fun k_ => some k_ ≠ (.slice Ao7 t335.length co7 : Value).ownBlock)) k_ ∧ some k_ ≠ (v351 : Value).ownBlock) rfl rfl ?aO ?aR (fun _ hk => hk) ?aF ?aB ?aS ?aL ?_; (case aR => exact (by skip; exact Kd.N_F (Kd.N_mono (ok' := (fun k_ => ((fun k_ => some k_ ≠ (.slice Ao7 t335.length co7 : Value).ownBlock)) k_ ∧ some k_ ≠ (v351 : Value).ownBlock)) (HO_5.out) (fun k_ hk => ⟨hk.1, hk.2⟩)))); (case aB => exact (by repeat (first | (with_reducible first | exact HB.out | apply below_alloc | apply pw_below_drewN | apply below_drew1) | exact HB.out))); (case aF => exact (fun k_ hk => Kd.fresh' (Kd.N_lt (by (with_reducible repeat (first | apply Kd.N_alloc | apply Kd.N_drewN | apply Kd.N_drew)); exact HO_3.out)) k_ hk)); (case aO => exact (by (with_reducible repeat (first | apply Kd.N_alloc | apply Kd.N_drewN | apply Kd.N_drew)); exact Kd.N_mono HO352.out (fun _ hk => hk.1))); (case aS => exact (below_size (by repeat (first | (with_reducible first | exact HB.out | apply below_alloc | apply pw_below_drewN | apply below_drew1) | exact HB.out)))); (case aL => have := LMc25.out; omega); intro v354 w33 ho hb hg hat; rw [← Ny353.out] at ho; have n0_ := Aside0.mk (Kd.N_afterv (ok := (fun k_ => some k_ ≠ (.slice Ao34 x5_2.length co34 : Value).ownBlock)) (by (with_reducible repeat (first | apply Kd.N_alloc | apply Kd.N_drewN | apply Kd.N_drew)); exact HO_3.out) hg hat); have n1_ := Aside0.mk (Kd.N_afterv (ok := (fun k_ => some k_ ≠ (.slice Ao7 t335.length co7 : Value).ownBlock)) (by (with_reducible repeat (first | apply Kd.N_alloc | apply Kd.N_drewN | apply Kd.N_drew)); exact HO_5.out) hg hat); have n2_ := Aside0.mk (hb); have n3_ := Aside0.mk (ho); clear HO_3; clear HO_5; clear HB; clear HO352; have HO_3 := n0_; have HO_5 := n1_; have HB := n2_; have HO355 := n3_; clear n0_ n1_ n2_ n3_; clear ho hb hg hat) | ((with_reducible refine gate_dst (N := 62) rfl ?_); (try (refine gate_guard (by rfl) ?_; dsimp only)); refine Kd.R_lit (Kd.int .i64) _ 3 ?hg (N := 62) ?hd (xs := ([0] : List Int)) (inner := [.int .i64 0]) (ok := fun _ => True) (okp := fun _ => True) ?hr ?hp (fun _ hk => hk) trivial (Below.refl _ _) (Nat.le_refl _) (by simp) ?_; (case hd => rfl); (case hg => rfl); (case hr => first | (go_simp; done) | (go_simp; rfl)); (case hp => exact (Reps.one (show Kd.M (Kd.int .i64) _ _ _ 0 [.int .i64 0] from rfl) (Reps.none _ _))); intro v357 w35 ho36 hb hg_ hnew_; clear hg_ hnew_; (first | rw [← Ny356.out] at ho36 | (simp only [Int.reduceToNat] at ho36; rw [← Ny356.out] at ho36)); have n0_ := Aside0.mk (Kd.N_elder' (by (with_reducible repeat (first | apply Kd.N_alloc | apply Kd.N_drewN | apply Kd.N_drew)); exact HO_3.out) (Kd.R_base ho36) hb); have n1_ := Aside0.mk (Kd.N_elder' (by (with_reducible repeat (first | apply Kd.N_alloc | apply Kd.N_drewN | apply Kd.N_drew)); exact HO_5.out) (Kd.R_base ho36) hb); have n2_ := Aside0.mk (Kd.N_elder' (by (with_reducible repeat (first | apply Kd.N_alloc | apply Kd.N_drewN | apply Kd.N_drew)); exact HO355.out) (Kd.R_base ho36) hb); have n3_ := Aside0.mk (Kd.R_lower ho36 (below_size (by repeat (first | (with_reducible first | exact HB.out | apply below_alloc | apply pw_below_drewN | apply below_drew1) | exact HB.out)))); have n4_ := Aside0.mk (below_step (by repeat (first | (with_reducible first | exact HB.out | apply below_alloc | apply pw_below_drewN | apply below_drew1) | exact HB.out)) hb); clear HO_3; clear HO_5; clear HO355; clear HB; have HO_3 := n0_; have HO_5 := n1_; have HO355 := n2_; have HO358 := n3_; have HB := n4_; clear n0_ n1_ n2_ n3_ n4_; clear hb ho36; have p27 : 0 ≤ (0 : Int) := (by omega); have q27 : (0 : Int) < ((y353.length : Int) : Int) := of_decide_eq_true (by first | (with_reducible assumption) | assumption); have qi27 : (0 < y353.length) = True := eq_true (by omega); obtain ⟨go27, co27, eo27, gb27, gl27, cl27, HG27⟩ := Kd.N_form HO355.out (by omega); (first | cases eo27 | (injection eo27 with ea_ en_ ec_; (first | subst ea_ | (injection ea_ with ea_; subst ea_)); subst ec_; clear en_)); have GB27 := Aside0.mk gb27; have GG27 := Aside0.mk HG27; clear gb27 gl27 HG27; obtain ⟨ce27, hcl27, hM27, hcc27, hfr27⟩ := Kd.N_elem HO355.out z33 (0 : Int) p27 q27; obtain ⟨ua27_1, uc27_1, rfl, ul27_1, ge27_1⟩ := k33_openF hM27; have hx27_0 : w35.cell? ⟨go27, (0 : Int).toNat * 4, none⟩ = some (.int .i64 ((rd_T33 y353 0).f0)) := hcc27 0 _ rfl; have hx27_1 : w35.cell? ⟨go27, (0 : Int).toNat * 4 + 1, none⟩ = some (.slice ua27_1 ((rd_T33 y353 0).f1).length uc27_1) := hcc27 1 _ rfl; have hx27_2 : w35.cell? ⟨go27, (0 : Int).toNat * 4 + 2, none⟩ = some (.int .i64 ((rd_T33 y353 0).f2)) := hcc27 2 _ rfl; have hx27_3 : w35.cell? ⟨go27, (0 : Int).toNat * 4 + 3, none⟩ = some (.int .i64 ((rd_T33 y353 0).f3)) := hcc27 3 _ rfl; have hf27_0 : w35.frozen? ⟨go27, (0 : Int).toNat * 4, none⟩ = false := hfr27 0; have hf27_1 : w35.frozen? ⟨go27, (0 : Int).toNat * 4 + 1, none⟩ = false := hfr27 1; have hf27_2 : w35.frozen? ⟨go27, (0 : Int).toNat * 4 + 2, none⟩ = false := hfr27 2; have hf27_3 : w35.frozen? ⟨go27, (0 : Int).toNat * 4 + 3, none⟩ = false := hfr27 3; clear hcl27 hcc27 hfr27 hM27; (try rw [show ((0 : Int)).toNat = 0 from rfl] at hx27_0); (try simp only [Nat.reduceMul, Nat.zero_mul, Nat.zero_add, Nat.reduceAdd] at hx27_0); (try rw [show ((0 : Int)).toNat = 0 from rfl] at hf27_0); (try simp only [Nat.reduceMul, Nat.zero_mul, Nat.zero_add, Nat.reduceAdd] at hf27_0); (try rw [show ((0 : Int)).toNat = 0 from rfl] at hx27_1); (try simp only [Nat.reduceMul, Nat.zero_mul, Nat.zero_add, Nat.reduceAdd] at hx27_1); (try rw [show ((0 : Int)).toNat = 0 from rfl] at hf27_1); (try simp only [Nat.reduceMul, Nat.zero_mul, Nat.zero_add, Nat.reduceAdd] at hf27_1); (try rw [show ((0 : Int)).toNat = 0 from rfl] at hx27_2); (try simp only [Nat.reduceMul, Nat.zero_mul, Nat.zero_add, Nat.reduceAdd] at hx27_2); (try rw [show ((0 : Int)).toNat = 0 from rfl] at hf27_2); (try simp only [Nat.reduceMul, Nat.zero_mul, Nat.zero_add, Nat.reduceAdd] at hf27_2); (try rw [show ((0 : Int)).toNat = 0 from rfl] at hx27_3); (try simp only [Nat.reduceMul, Nat.zero_mul, Nat.zero_add, Nat.reduceAdd] at hx27_3); (try rw [show ((0 : Int)).toNat = 0 from rfl] at hf27_3); (try simp only [Nat.reduceMul, Nat.zero_mul, Nat.zero_add, Nat.reduceAdd] at hf27_3); replace p27 := eq_true p27; replace q27 := eq_true q27; obtain ⟨Ao37, co37, eo37⟩ := Kd.R_slice HO358.out; subst eo37; have HX38 := Aside0.mk (show Kd.N k33 33 w35 w.heap.size (fun k_ => some k_ ≠ (.slice Ao7 t335.length co7 : Value).ownBlock) (.slice (some ⟨go27, 0, none⟩) y353.length co27) y353 from (by (with_reducible repeat (first | apply Kd.N_alloc | apply Kd.N_drewN | apply Kd.N_drew)); exact Kd.N_mono HO355.out (fun _ hk => hk.1))); obtain ⟨ce38, hcl38, hM38, hcc38, hfr38⟩ := Kd.N_elem HX38.out z33 (0 : Int) (by omega) (by have h_ : (0 : Int) < ((y353.length : Int) : Int) := of_decide_eq_true (by first | (with_reducible assumption) | assumption); first | exact h_ | (have e_ := (Kd.N_reads' HO355.out).1; omega) | simpa using h_); obtain ⟨ua38_1, uc38_1, rfl, ul38_1, ge38_1⟩ := k33_openF hM38; have HP38 := Kd.N_seg HX38.out (0 : Int) (by omega) (by have h_ : (0 : Int) < ((y353.length : Int) : Int) := of_decide_eq_true (by first | (with_reducible assumption) | assumption); first | exact h_ | (have e_ := (Kd.N_reads' HO355.out).1; omega) | simpa using h_) (seg := [.slice Ao37 y356.length co37]) (j := 1) hcl38 hcc38 (show 2 ≤ 4 from by decide) (x' := (⟨(rd_T33 y353 0).f0, y356, (rd_T33 y353 0).f2, (rd_T33 y353 0).f3⟩ : S33)) (k33_mkF _ _ (⟨(rd_T33 y353 0).f0, y356, (rd_T33 y353 0).f2, (rd_T33 y353 0).f3⟩ : S33) (Kd.R_reads' (Kd.R_mono (ok' := (fun k_ => ((fun k_ => some k_ ≠ (.slice Ao7 t335.length co7 : Value).ownBlock)) k_ ∧ k_ ≠ go27)) (Kd.R_apart' (Kd.R_apart' (HO358.out) (Kd.N_typed HO_3.out) (by decide)) (Kd.N_typed HO355.out) (by decide)) (fun k_ hk => ⟨hk.1.2, fun e_ => (hk.2) (by rw [e_]; rfl)⟩))).2.1 (Kd.R_F (Kd.R_mono (ok' := (fun k_ => ((fun k_ => some k_ ≠ (.slice Ao7 t335.length co7 : Value).ownBlock)) k_ ∧ k_ ≠ go27)) (Kd.R_apart' (Kd.R_apart' (HO358.out) (Kd.N_typed HO_3.out) (by decide)) (Kd.N_typed HO355.out) (by decide)) (fun k_ hk => ⟨hk.1.2, fun e_ => (hk.2) (by rw [e_]; rfl)⟩)))) (fun _ hk => hk); have hx38_1 := hcc38 1 _ rfl; (try simp only [show (k33).sz = 4 from rfl, Nat.mul_one, Nat.add_zero] at hx38_1); (try rw [show ((0 : Int)).toNat = 0 from rfl] at hx38_1); (try simp only [Nat.reduceMul, Nat.zero_mul, Nat.zero_add, Nat.reduceAdd] at hx38_1); have hf38_1 := hfr38 1; (try simp only [show (k33).sz = 4 from rfl, Nat.mul_one, Nat.add_zero] at hf38_1); (try rw [show ((0 : Int)).toNat = 0 from rfl] at hf38_1); (try simp only [Nat.reduceMul, Nat.zero_mul, Nat.zero_add, Nat.reduceAdd] at hf38_1); clear hcl38 hcc38 hfr38 hM38) | ((with_reducible refine gate_store (t := 31) (p := 64) rfl ?_); refine store_event (t := 31) (p := 64) (v := ?vo_w39) (w1 := (w35.setCell ⟨go27, 1, none⟩ (.slice Ao37 y356.length co37))) ?hg ?ho ?hn ?hr ?_; (case ho => rfl); (case hg => rfl); (case hn => rfl); (case hr => first | (go_simp; done) | (go_simp; rfl)); intro w39 hw; have hg : w35.grownBy w39 (some go27) := (by rw [hw]; exact HP38.2); have hp_ : Kd.N k33 33 w39 w.heap.size (fun k_ => some k_ ≠ (.slice Ao7 t335.length co7 : Value).ownBlock) (.slice (some ⟨go27, 0, none⟩) y353.length co27) y359 := (by rw [hw, Ny359.out]; exact HP38.1); clear HP38; have n0_ := Aside0.mk (Kd.N_afterv (v := (.slice (some ⟨go27, 0, none⟩) y353.length co27)) (v1 := (.slice (some ⟨go27, 0, none⟩) y353.length co27)) (ok := (fun k_ => some k_ ≠ (.slice Ao34 x5_2.length co34 : Value).ownBlock ∧ some k_ ≠ (.slice Ao37 y356.length co37 : Value).ownBlock)) (by (with_reducible repeat (first | apply Kd.N_alloc | apply Kd.N_drewN | apply Kd.N_drew)); exact Kd.N_mono HO_3.out (fun _ hk => ⟨⟨hk.1.1, hk.2⟩, hk.1.2⟩)) hg (.inl rfl)); have n1_ := Aside0.mk (Kd.N_afterv (v := (.slice (some ⟨go27, 0, none⟩) y353.length co27)) (v1 := (.slice (some ⟨go27, 0, none⟩) y353.length co27)) (ok := (fun k_ => some k_ ≠ (.slice Ao7 t335.length co7 : Value).ownBlock ∧ some k_ ≠ (.slice Ao37 y356.length co37 : Value).ownBlock)) (by (with_reducible repeat (first | apply Kd.N_alloc | apply Kd.N_drewN | apply Kd.N_drew)); exact Kd.N_mono HO_5.out (fun _ hk => ⟨⟨hk.1.1, hk.2⟩, hk.1.2⟩)) hg (.inl rfl)); have n2_ := Aside0.mk (hp_); have n3_ := Aside0.mk ((by rw [hw]; exact below_set (HB.out) GB27.out : Below w.heap.size w w39)); clear HO_3; clear HO_5; clear HO355; clear HB; clear HO358; have HO_3 := n0_; have HO_5 := n1_; have HO355 := n2_; have HB := n3_; clear n0_ n1_ n2_ n3_; clear hg hw hp_) | ((with_reducible refine gate_callee (f := 18) rfl ?_); refine goesL_ (some 66) rfl rfl Tryd.func18 (by kernel_rfl) rfl #[.slice Ao34 x5_2.length co34] rfl (by (try simp only [List.map_toArray, List.map_cons, List.map_nil]); first | done | rfl | (simp only [List.length_drop, List.length_take]; rfl)) ?_; (with_reducible refine (impl_ValidGraph.calls _ _ x5_2 true _ ?side1 ?side2 ?sideT A28.out).mono ?_); (case sideT => exact (HT.out.below (by repeat (first | (with_reducible first | exact HB.out | apply below_alloc | apply pw_below_drewN | apply below_drew1) | exact HB.out)))); (case side1 => repeat (first | exact (Kd.N_reads' HO_5.out).2.2 | (with_reducible refine Kd.C_alloc ?_ _) | (with_reducible refine Kd.C_drewN ?_ _) | (with_reducible refine Kd.C_drew ?_))); (case side2 => exact (Kd.N_reads' HO_5.out).2.1); rintro e w40 ⟨rfl, hb⟩; refine ⟨_, rfl, ?_⟩; have n0_ := Aside0.mk (Kd.N_below (by (with_reducible repeat (first | apply Kd.N_alloc | apply Kd.N_drewN | apply Kd.N_drew)); exact HO_3.out) hb); have n1_ := Aside0.mk (Kd.N_below (by (with_reducible repeat (first | apply Kd.N_alloc | apply Kd.N_drewN | apply Kd.N_drew)); exact HO_5.out) hb); have n2_ := Aside0.mk (Kd.N_below (by (with_reducible repeat (first | apply Kd.N_alloc | apply Kd.N_drewN | apply Kd.N_drew)); exact HO355.out) hb); have n3_ := Aside0.mk (below_step (by repeat (first | (with_reducible first | exact HB.out | apply below_alloc | apply pw_below_drewN | apply below_drew1) | exact HB.out)) hb); clear HO_3; clear HO_5; clear HO355; clear HB; have HO_3 := n0_; have HO_5 := n1_; have HO355 := n2_; have HB := n3_; clear n0_ n1_ n2_ n3_; (try clear hb); (try clear hb2); (try clear hk); (try clear hi)) | (go_at_call 18; refine calls_of_args (args' := #[.slice (some ⟨go27, 0, none⟩) y359.length co27]) (by first | (rw [show y359.length = y353.length from (Kd.N_reads' HO355.out).1.symm] <;> rfl) | rfl) ?_; (with_reducible refine (impl_ValidGraph.calls _ _ y359 t361 _ ?side1 ?side2 ?sideT A30.out).mono ?_); (case sideT => exact (HT.out.below (by repeat (first | (with_reducible first | exact HB.out | apply below_alloc | apply pw_below_drewN | apply below_drew1) | exact HB.out)))); (case side1 => repeat (first | exact (Kd.N_reads' HO355.out).2.2 | (with_reducible refine Kd.C_alloc ?_ _) | (with_reducible refine Kd.C_drewN ?_ _) | (with_reducible refine Kd.C_drew ?_))); (case side2 => rw [show y359.length = y353.length from (Kd.N_reads' HO355.out).1.symm]; exact (Kd.N_reads' HO355.out).2.1); rintro e w41 ⟨rfl, hb⟩; have n0_ := Aside0.mk (Kd.N_below (by (with_reducible repeat (first | apply Kd.N_alloc | apply Kd.N_drewN | apply Kd.N_drew)); exact HO_3.out) hb); have n1_ := Aside0.mk (Kd.N_below (by (with_reducible repeat (first | apply Kd.N_alloc | apply Kd.N_drewN | apply Kd.N_drew)); exact HO_5.out) hb); have n2_ := Aside0.mk (Kd.N_below (by (with_reducible repeat (first | apply Kd.N_alloc | apply Kd.N_drewN | apply Kd.N_drew)); exact HO355.out) hb); have n3_ := Aside0.mk (below_step (by repeat (first | (with_reducible first | exact HB.out | apply below_alloc | apply pw_below_drewN | apply below_drew1) | exact HB.out)) hb); clear HO_3; clear HO_5; clear HO355; clear HB; have HO_3 := n0_; have HO_5 := n1_; have HO355 := n2_; have HB := n3_; clear n0_ n1_ n2_ n3_; (try clear hb); (try clear hb2); (try clear hk); (try clear hi)))
                      go_ret
                      exact ⟨by first | rfl | (simp [errW_none, errW_some] <;> rfl) | (simp [*, errW_none, errW_some] <;> rfl), by repeat (first | (with_reducible first | exact HB.out | apply below_alloc | apply pw_below_drewN | apply below_drew1) | exact HB.out)⟩
                    · replace c29 := Bool.eq_false_iff.mpr c29
                      subst c29
                      have H1 : (some false) = some r := by rw [if_neg (show ¬ (false = true) by decide)] at H; exact H
                      clear H
                      have H := H1
                      clear H1
                      obtain rfl := Option.some.inj H
                      go_wp2_with (first | ((with_reducible refine gate_dst (N := 58) rfl ?_); (try (refine gate_guard (by rfl) ?_; dsimp only)); refine Kd.N_lit k33 _ 33 ?hg (N' := 58) ?hd (xs := ([] : List (S33))) (inner := []) (ok := (fun k_ => some k_ ≠ (.slice Ao7 t335.length co7 : Value).ownBlock ∧ some k_ ≠ (u5 : Value).ownBlock)) (okp := (fun k_ => some k_ ≠ (.slice Ao7 t335.length co7 : Value).ownBlock ∧ some k_ ≠ (u5 : Value).ownBlock)) ?hr ?hp (fun _ hk => hk) ((show ∀ k_, wr.heap.size ≤ k_ → (fun k_ => some k_ ≠ (.slice Ao7 t335.length co7 : Value).ownBlock ∧ some k_ ≠ (u5 : Value).ownBlock) k_ from fun k_ hk => ⟨Kd.fresh' (Kd.N_lt (by (with_reducible repeat (first | apply Kd.N_alloc | apply Kd.N_drewN | apply Kd.N_drew)); exact HO_3.out)) k_ hk, Kd.fresh' (Kd.N_lt (by (with_reducible repeat (first | apply Kd.N_alloc | apply Kd.N_drewN | apply Kd.N_drew)); exact HO_5.out)) k_ hk⟩) _ (Nat.le_refl _)) (Below.refl _ _) (Nat.le_refl _) (by simp) ?_; (case hd => rfl); (case hg => rfl); (case hr => first | (go_simp; done) | (go_simp; rfl)); (case hp => exact (Reps.none _ _)); intro v351 w42 ho43 hb hg_ hnew_; clear hg_ hnew_; (first | rw [← Ny350.out] at ho43 | (simp only [Int.reduceToNat] at ho43; rw [← Ny350.out] at ho43)); have n0_ := Aside0.mk (Kd.N_elder' (by (with_reducible repeat (first | apply Kd.N_alloc | apply Kd.N_drewN | apply Kd.N_drew)); exact HO_3.out) (Kd.N_base ho43) hb); have n1_ := Aside0.mk (Kd.N_elder' (by (with_reducible repeat (first | apply Kd.N_alloc | apply Kd.N_drewN | apply Kd.N_drew)); exact HO_5.out) (Kd.N_base ho43) hb); have n2_ := Aside0.mk (Kd.N_lower ho43 (below_size (by repeat (first | (with_reducible first | exact HB.out | apply below_alloc | apply pw_below_drewN | apply below_drew1) | exact HB.out)))); have n3_ := Aside0.mk (below_step (by repeat (first | (with_reducible first | exact HB.out | apply below_alloc | apply pw_below_drewN | apply below_drew1) | exact HB.out)) hb); clear HO_3; clear HO_5; clear HB; have HO_3 := n0_; have HO_5 := n1_; have HO352 := n2_; have HB := n3_; clear n0_ n1_ n2_ n3_; clear hb ho43; obtain ⟨Ao45, co45, eo45⟩ := Kd.N_slice HO_5.out; subst eo45) | ((with_reducible refine gate_builtin (b := .append) (xs := #[.tmp 58, .tmp 59]) rfl ?_); (try (refine gate_guard (by rfl) ?_; dsimp only)); at_builtin; refine Kd.N_append_rows k33 (w0 := w) w.heap.size rfl (.tmp 58) (.tmp 59) 25 33 (.agg #[(.int .i64 0), (.slice none 0 0), (.int .i64 0), (.int .i64 0)]) 48 rfl Tryd.underlying25 info33 rfl (by decide) (by omega) v351 y350 x5_2 _ _ _ (fun k_ => some k_ ≠ (.slice Ao7 t335.length co7 : Value).ownBlock) (fun k_ => ((fun k_ => some k_ ≠ (.slice Ao7 t335.length co7 : Value).ownBlock)) k_ ∧ some k_ ≠ (v351 : Value).ownBlock) rfl rfl ?aO ?aR (fun _ hk => hk) ?aF ?aB ?aS ?aL ?_; (case aR => exact (by skip; exact Kd.N_F (Kd.N_mono (ok' := (fun k_ => ((fun k_ => some k_ ≠ (.slice Ao7 t335.length co7 : Value).ownBlock)) k_ ∧ some k_ ≠ (v351 : Value).ownBlock)) (HO_5.out) (fun k_ hk => ⟨hk.1, hk.2⟩)))); (case aB => exact (by repeat (first | (with_reducible first | exact HB.out | apply below_alloc | apply pw_below_drewN | apply below_drew1) | exact HB.out))); (case aF => exact (fun k_ hk => Kd.fresh' (Kd.N_lt (by (with_reducible repeat (first | apply Kd.N_alloc | apply Kd.N_drewN | apply Kd.N_drew)); exact HO_3.out)) k_ hk)); (case aO => exact (by (with_reducible repeat (first | apply Kd.N_alloc | apply Kd.N_drewN | apply Kd.N_drew)); exact Kd.N_mono HO352.out (fun _ hk => hk.1))); (case aS => exact (below_size (by repeat (first | (with_reducible first | exact HB.out | apply below_alloc | apply pw_below_drewN | apply below_drew1) | exact HB.out)))); (case aL => have := LMc25.out; omega); intro v354 w44 ho hb hg hat; rw [← Ny353.out] at ho; have n0_ := Aside0.mk (Kd.N_afterv (ok := (fun k_ => some k_ ≠ (.slice Ao45 x5_2.length co45 : Value).ownBlock)) (by (with_reducible repeat (first | apply Kd.N_alloc | apply Kd.N_drewN | apply Kd.N_drew)); exact HO_3.out) hg hat); have n1_ := Aside0.mk (Kd.N_afterv (ok := (fun k_ => some k_ ≠ (.slice Ao7 t335.length co7 : Value).ownBlock)) (by (with_reducible repeat (first | apply Kd.N_alloc | apply Kd.N_drewN | apply Kd.N_drew)); exact HO_5.out) hg hat); have n2_ := Aside0.mk (hb); have n3_ := Aside0.mk (ho); clear HO_3; clear HO_5; clear HB; clear HO352; have HO_3 := n0_; have HO_5 := n1_; have HB := n2_; have HO355 := n3_; clear n0_ n1_ n2_ n3_; clear ho hb hg hat) | ((with_reducible refine gate_dst (N := 62) rfl ?_); (try (refine gate_guard (by rfl) ?_; dsimp only)); refine Kd.R_lit (Kd.int .i64) _ 3 ?hg (N := 62) ?hd (xs := ([0] : List Int)) (inner := [.int .i64 0]) (ok := fun _ => True) (okp := fun _ => True) ?hr ?hp (fun _ hk => hk) trivial (Below.refl _ _) (Nat.le_refl _) (by simp) ?_; (case hd => rfl); (case hg => rfl); (case hr => first | (go_simp; done) | (go_simp; rfl)); (case hp => exact (Reps.one (show Kd.M (Kd.int .i64) _ _ _ 0 [.int .i64 0] from rfl) (Reps.none _ _))); intro v357 w46 ho47 hb hg_ hnew_; clear hg_ hnew_; (first | rw [← Ny356.out] at ho47 | (simp only [Int.reduceToNat] at ho47; rw [← Ny356.out] at ho47)); have n0_ := Aside0.mk (Kd.N_elder' (by (with_reducible repeat (first | apply Kd.N_alloc | apply Kd.N_drewN | apply Kd.N_drew)); exact HO_3.out) (Kd.R_base ho47) hb); have n1_ := Aside0.mk (Kd.N_elder' (by (with_reducible repeat (first | apply Kd.N_alloc | apply Kd.N_drewN | apply Kd.N_drew)); exact HO_5.out) (Kd.R_base ho47) hb); have n2_ := Aside0.mk (Kd.N_elder' (by (with_reducible repeat (first | apply Kd.N_alloc | apply Kd.N_drewN | apply Kd.N_drew)); exact HO355.out) (Kd.R_base ho47) hb); have n3_ := Aside0.mk (Kd.R_lower ho47 (below_size (by repeat (first | (with_reducible first | exact HB.out | apply below_alloc | apply pw_below_drewN | apply below_drew1) | exact HB.out)))); have n4_ := Aside0.mk (below_step (by repeat (first | (with_reducible first | exact HB.out | apply below_alloc | apply pw_below_drewN | apply below_drew1) | exact HB.out)) hb); clear HO_3; clear HO_5; clear HO355; clear HB; have HO_3 := n0_; have HO_5 := n1_; have HO355 := n2_; have HO358 := n3_; have HB := n4_; clear n0_ n1_ n2_ n3_ n4_; clear hb ho47; have p27 : 0 ≤ (0 : Int) := (by omega); have q27 : (0 : Int) < ((y353.length : Int) : Int) := of_decide_eq_true (by first | (with_reducible assumption) | assumption); have qi27 : (0 < y353.length) = True := eq_true (by omega); obtain ⟨go27, co27, eo27, gb27, gl27, cl27, HG27⟩ := Kd.N_form HO355.out (by omega); (first | cases eo27 | (injection eo27 with ea_ en_ ec_; (first | subst ea_ | (injection ea_ with ea_; subst ea_)); subst ec_; clear en_)); have GB27 := Aside0.mk gb27; have GG27 := Aside0.mk HG27; clear gb27 gl27 HG27; obtain ⟨ce27, hcl27, hM27, hcc27, hfr27⟩ := Kd.N_elem HO355.out z33 (0 : Int) p27 q27; obtain ⟨ua27_1, uc27_1, rfl, ul27_1, ge27_1⟩ := k33_openF hM27; have hx27_0 : w46.cell? ⟨go27, (0 : Int).toNat * 4, none⟩ = some (.int .i64 ((rd_T33 y353 0).f0)) := hcc27 0 _ rfl; have hx27_1 : w46.cell? ⟨go27, (0 : Int).toNat * 4 + 1, none⟩ = some (.slice ua27_1 ((rd_T33 y353 0).f1).length uc27_1) := hcc27 1 _ rfl; have hx27_2 : w46.cell? ⟨go27, (0 : Int).toNat * 4 + 2, none⟩ = some (.int .i64 ((rd_T33 y353 0).f2)) := hcc27 2 _ rfl; have hx27_3 : w46.cell? ⟨go27, (0 : Int).toNat * 4 + 3, none⟩ = some (.int .i64 ((rd_T33 y353 0).f3)) := hcc27 3 _ rfl; have hf27_0 : w46.frozen? ⟨go27, (0 : Int).toNat * 4, none⟩ = false := hfr27 0; have hf27_1 : w46.frozen? ⟨go27, (0 : Int).toNat * 4 + 1, none⟩ = false := hfr27 1; have hf27_2 : w46.frozen? ⟨go27, (0 : Int).toNat * 4 + 2, none⟩ = false := hfr27 2; have hf27_3 : w46.frozen? ⟨go27, (0 : Int).toNat * 4 + 3, none⟩ = false := hfr27 3; clear hcl27 hcc27 hfr27 hM27; (try rw [show ((0 : Int)).toNat = 0 from rfl] at hx27_0); (try simp only [Nat.reduceMul, Nat.zero_mul, Nat.zero_add, Nat.reduceAdd] at hx27_0); (try rw [show ((0 : Int)).toNat = 0 from rfl] at hf27_0); (try simp only [Nat.reduceMul, Nat.zero_mul, Nat.zero_add, Nat.reduceAdd] at hf27_0); (try rw [show ((0 : Int)).toNat = 0 from rfl] at hx27_1); (try simp only [Nat.reduceMul, Nat.zero_mul, Nat.zero_add, Nat.reduceAdd] at hx27_1); (try rw [show ((0 : Int)).toNat = 0 from rfl] at hf27_1); (try simp only [Nat.reduceMul, Nat.zero_mul, Nat.zero_add, Nat.reduceAdd] at hf27_1); (try rw [show ((0 : Int)).toNat = 0 from rfl] at hx27_2); (try simp only [Nat.reduceMul, Nat.zero_mul, Nat.zero_add, Nat.reduceAdd] at hx27_2); (try rw [show ((0 : Int)).toNat = 0 from rfl] at hf27_2); (try simp only [Nat.reduceMul, Nat.zero_mul, Nat.zero_add, Nat.reduceAdd] at hf27_2); (try rw [show ((0 : Int)).toNat = 0 from rfl] at hx27_3); (try simp only [Nat.reduceMul, Nat.zero_mul, Nat.zero_add, Nat.reduceAdd] at hx27_3); (try rw [show ((0 : Int)).toNat = 0 from rfl] at hf27_3); (try simp only [Nat.reduceMul, Nat.zero_mul, Nat.zero_add, Nat.reduceAdd] at hf27_3); replace p27 := eq_true p27; replace q27 := eq_true q27; obtain ⟨Ao48, co48, eo48⟩ := Kd.R_slice HO358.out; subst eo48; have HX49 := Aside0.mk (show Kd.N k33 33 w46 w.heap.size (fun k_ => some k_ ≠ (.slice Ao7 t335.length co7 : Value).ownBlock) (.slice (some ⟨go27, 0, none⟩) y353.length co27) y353 from (by (with_reducible repeat (first | apply Kd.N_alloc | apply Kd.N_drewN | apply Kd.N_drew)); exact Kd.N_mono HO355.out (fun _ hk => hk.1))); obtain ⟨ce49, hcl49, hM49, hcc49, hfr49⟩ := Kd.N_elem HX49.out z33 (0 : Int) (by omega) (by have h_ : (0 : Int) < ((y353.length : Int) : Int) := of_decide_eq_true (by first | (with_reducible assumption) | assumption); first | exact h_ | (have e_ := (Kd.N_reads' HO355.out).1; omega) | simpa using h_); obtain ⟨ua49_1, uc49_1, rfl, ul49_1, ge49_1⟩ := k33_openF hM49; have HP49 := Kd.N_seg HX49.out (0 : Int) (by omega) (by have h_ : (0 : Int) < ((y353.length : Int) : Int) := of_decide_eq_true (by first | (with_reducible assumption) | assumption); first | exact h_ | (have e_ := (Kd.N_reads' HO355.out).1; omega) | simpa using h_) (seg := [.slice Ao48 y356.length co48]) (j := 1) hcl49 hcc49 (show 2 ≤ 4 from by decide) (x' := (⟨(rd_T33 y353 0).f0, y356, (rd_T33 y353 0).f2, (rd_T33 y353 0).f3⟩ : S33)) (k33_mkF _ _ (⟨(rd_T33 y353 0).f0, y356, (rd_T33 y353 0).f2, (rd_T33 y353 0).f3⟩ : S33) (Kd.R_reads' (Kd.R_mono (ok' := (fun k_ => ((fun k_ => some k_ ≠ (.slice Ao7 t335.length co7 : Value).ownBlock)) k_ ∧ k_ ≠ go27)) (Kd.R_apart' (Kd.R_apart' (HO358.out) (Kd.N_typed HO_3.out) (by decide)) (Kd.N_typed HO355.out) (by decide)) (fun k_ hk => ⟨hk.1.2, fun e_ => (hk.2) (by rw [e_]; rfl)⟩))).2.1 (Kd.R_F (Kd.R_mono (ok' := (fun k_ => ((fun k_ => some k_ ≠ (.slice Ao7 t335.length co7 : Value).ownBlock)) k_ ∧ k_ ≠ go27)) (Kd.R_apart' (Kd.R_apart' (HO358.out) (Kd.N_typed HO_3.out) (by decide)) (Kd.N_typed HO355.out) (by decide)) (fun k_ hk => ⟨hk.1.2, fun e_ => (hk.2) (by rw [e_]; rfl)⟩)))) (fun _ hk => hk); have hx49_1 := hcc49 1 _ rfl; (try simp only [show (k33).sz = 4 from rfl, Nat.mul_one, Nat.add_zero] at hx49_1); (try rw [show ((0 : Int)).toNat = 0 from rfl] at hx49_1); (try simp only [Nat.reduceMul, Nat.zero_mul, Nat.zero_add, Nat.reduceAdd] at hx49_1); have hf49_1 := hfr49 1; (try simp only [show (k33).sz = 4 from rfl, Nat.mul_one, Nat.add_zero] at hf49_1); (try rw [show ((0 : Int)).toNat = 0 from rfl] at hf49_1); (try simp only [Nat.reduceMul, Nat.zero_mul, Nat.zero_add, Nat.reduceAdd] at hf49_1); clear hcl49 hcc49 hfr49 hM49) | ((with_reducible refine gate_store (t := 31) (p := 64) rfl ?_); refine store_event (t := 31) (p := 64) (v := ?vo_w50) (w1 := (w46.setCell ⟨go27, 1, none⟩ (.slice Ao48 y356.length co48))) ?hg ?ho ?hn ?hr ?_; (case ho => rfl); (case hg => rfl); (case hn => rfl); (case hr => first | (go_simp; done) | (go_simp; rfl)); intro w50 hw; have hg : w46.grownBy w50 (some go27) := (by rw [hw]; exact HP49.2); have hp_ : Kd.N k33 33 w50 w.heap.size (fun k_ => some k_ ≠ (.slice Ao7 t335.length co7 : Value).ownBlock) (.slice (some ⟨go27, 0, none⟩) y353.length co27) y359 := (by rw [hw, Ny359.out]; exact HP49.1); clear HP49; have n0_ := Aside0.mk (Kd.N_afterv (v := (.slice (some ⟨go27, 0, none⟩) y353.length co27)) (v1 := (.slice (some ⟨go27, 0, none⟩) y353.length co27)) (ok := (fun k_ => some k_ ≠ (.slice Ao45 x5_2.length co45 : Value).ownBlock ∧ some k_ ≠ (.slice Ao48 y356.length co48 : Value).ownBlock)) (by (with_reducible repeat (first | apply Kd.N_alloc | apply Kd.N_drewN | apply Kd.N_drew)); exact Kd.N_mono HO_3.out (fun _ hk => ⟨⟨hk.1.1, hk.2⟩, hk.1.2⟩)) hg (.inl rfl)); have n1_ := Aside0.mk (Kd.N_afterv (v := (.slice (some ⟨go27, 0, none⟩) y353.length co27)) (v1 := (.slice (some ⟨go27, 0, none⟩) y353.length co27)) (ok := (fun k_ => some k_ ≠ (.slice Ao7 t335.length co7 : Value).ownBlock ∧ some k_ ≠ (.slice Ao48 y356.length co48 : Value).ownBlock)) (by (with_reducible repeat (first | apply Kd.N_alloc | apply Kd.N_drewN | apply Kd.N_drew)); exact Kd.N_mono HO_5.out (fun _ hk => ⟨⟨hk.1.1, hk.2⟩, hk.1.2⟩)) hg (.inl rfl)); have n2_ := Aside0.mk (hp_); have n3_ := Aside0.mk ((by rw [hw]; exact below_set (HB.out) GB27.out : Below w.heap.size w w50)); clear HO_3; clear HO_5; clear HO355; clear HB; clear HO358; have HO_3 := n0_; have HO_5 := n1_; have HO355 := n2_; have HB := n3_; clear n0_ n1_ n2_ n3_; clear hg hw hp_) | ((with_reducible refine gate_callee (f := 18) rfl ?_); refine goesL_ (some 66) rfl rfl Tryd.func18 (by kernel_rfl) rfl #[.slice Ao45 x5_2.length co45] rfl (by (try simp only [List.map_toArray, List.map_cons, List.map_nil]); first | done | rfl | (simp only [List.length_drop, List.length_take]; rfl)) ?_; (with_reducible refine (impl_ValidGraph.calls _ _ x5_2 false _ ?side1 ?side2 ?sideT A28.out).mono ?_); (case sideT => exact (HT.out.below (by repeat (first | (with_reducible first | exact HB.out | apply below_alloc | apply pw_below_drewN | apply below_drew1) | exact HB.out)))); (case side1 => repeat (first | exact (Kd.N_reads' HO_5.out).2.2 | (with_reducible refine Kd.C_alloc ?_ _) | (with_reducible refine Kd.C_drewN ?_ _) | (with_reducible refine Kd.C_drew ?_))); (case side2 => exact (Kd.N_reads' HO_5.out).2.1); rintro e w51 ⟨rfl, hb⟩; refine ⟨_, rfl, ?_⟩; have n0_ := Aside0.mk (Kd.N_below (by (with_reducible repeat (first | apply Kd.N_alloc | apply Kd.N_drewN | apply Kd.N_drew)); exact HO_3.out) hb); have n1_ := Aside0.mk (Kd.N_below (by (with_reducible repeat (first | apply Kd.N_alloc | apply Kd.N_drewN | apply Kd.N_drew)); exact HO_5.out) hb); have n2_ := Aside0.mk (Kd.N_below (by (with_reducible repeat (first | apply Kd.N_alloc | apply Kd.N_drewN | apply Kd.N_drew)); exact HO355.out) hb); have n3_ := Aside0.mk (below_step (by repeat (first | (with_reducible first | exact HB.out | apply below_alloc | apply pw_below_drewN | apply below_drew1) | exact HB.out)) hb); clear HO_3; clear HO_5; clear HO355; clear HB; have HO_3 := n0_; have HO_5 := n1_; have HO355 := n2_; have HB := n3_; clear n0_ n1_ n2_ n3_; (try clear hb); (try clear hb2); (try clear hk); (try clear hi)))
                      go_ret
                      exact ⟨by first | rfl | (simp [errW_none, errW_some] <;> rfl) | (simp [*, errW_none, errW_some] <;> rfl), by repeat (first | (with_reducible first | exact HB.out | apply below_alloc | apply pw_below_drewN | apply below_drew1) | exact HB.out)⟩
                  · rw [if_neg c26] at H
                    exact absurd H (by simp)
                · rw [if_neg c25] at H
                  exact absurd H (by simp)

/-- THE ONE PURE STATEMENT of laws_FnValidGraph: yours. -/
def laws_FnValidGraph.Pure : Prop := ∀ (l0 : List Int), l0.length ≤ maxLen → l0.length * 1 ≤ 140737488351232 → (∀ x ∈ l0, (Lit.int .u8 x).wf = true) → ∃ k, laws_FnValidGraph.f k l0 = some true
theorem laws_FnValidGraph.walk (P : laws_FnValidGraph.Pure) (a0 : Option Addr) (len0 cap0 : Nat) (z0 : List Int) (w : World) (hT : Go.Proofs.YtegogaokcafpjaaDoor.H.Tab w) (w0 : (a0 = none ∧ len0 = 0 ∧ cap0 = 0 ∧ z0 = []) ∨ ∃ x, a0 = some x ∧ len0 ≤ cap0 ∧ cap0 ≤ maxLen ∧ z0.length = cap0 ∧ (∀ i, i < z0.length → w.cell? (x.add i) = some (.int .u8 (z0.getD i 0))) ∧ ∀ n ∈ z0, (Lit.int .u8 n).wf = true) (y0 : len0 * 1 ≤ 140737488351232) :
    Calls Tryd.prog 4 #[.slice a0 len0 cap0] w fun e w' => e = .returned (.bool true) ∧ Below w.heap.size w w' := by
  obtain ⟨l0, rfl, hr0, hm0, hw0, hc0⟩ := ReadsInt.ofRowC w0
  obtain ⟨k, h⟩ := P l0 hm0 y0 hw0
  refine (laws_FnValidGraph.calls k _ _ l0 true w hT (Kd.C_of_reads (d := (0 : Int)) (h1 := fun _ => rfl) hr0) hc0 h).mono ?_
  rintro e w' ⟨rfl, hd⟩
  exact ⟨rfl, hd⟩

end Go.Proofs.YtegogaokcafpjaaDoor.Q
