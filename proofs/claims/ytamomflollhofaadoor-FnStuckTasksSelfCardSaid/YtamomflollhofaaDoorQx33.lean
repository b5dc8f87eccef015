-- Written by a program of this session (wip/tools/myprint.py), by way of the kit's print, out of the translation of the seat. Lean checks it.
import Derived.Test.YtamomflollhofaaDoorQx0
import Derived.Test.YtamomflollhofaaDoorQx13
import Derived.Test.YtamomflollhofaaDoorQx14
import Derived.Test.YtamomflollhofaaDoorQx29
namespace Go.Proofs.YtamomflollhofaaDoor.Q
open Go.RowKit Go.Proofs.YtamomflollhofaaDoorW.PrintWords Go.Proofs.YtamomflollhofaaDoorW.PrintLast Go.Proofs.YtamomflollhofaaDoorW.PrintMore
attribute [local go_sem] max2_int min2_int max_two min_two max_three min_three max_four min_four   -- for this text's walks alone
set_option linter.unusedVariables false
set_option linter.unusedSimpArgs false

/-! ### spec_DrawStuckTasks: function 19 -/
def spec_DrawStuckTasks.j0 : Nat → List (S32) → Bool → List Int → Int → Option ((List (S32)))
  | 0, _, _, _, _ => none
  | k + 1, x4, x17, x309000, x309001 => if x17 = true then ((spec_reader_pick.f k x309000 x309001 (x4.length : Int)).bind fun bt315 => (if 0 ≤ bt315.1 then (if bt315.1 < (x4.length : Int) then (if (((rd_T32 x4 bt315.1).f1).length : Int) = 0 then ((spec_reader_pick.f k x309000 bt315.2 (x4.length : Int)).bind fun bt318 => (some (x4.set (bt315.1 : Int).toNat (⟨(rd_T32 x4 bt315.1).f0, (([bt318.1] : List Int)), (rd_T32 x4 bt315.1).f2, (rd_T32 x4 bt315.1).f3⟩ : S32)))) else (some x4)) else (none)) else (none))) else (some x4)
def spec_DrawStuckTasks.f (k : Nat) (l0 : List Int) : Option ((List (S32))) := (spec_newReader.f l0).bind fun bt306 => ((spec_anyGraph.f k bt306.1 bt306.2).bind fun bt309 => (if (bt309.1.length : Int) > 0 then ((spec_reader_pick.f k bt306.1 bt309.2 3).bind fun bt313 => (spec_DrawStuckTasks.j0 k bt309.1 (decide (bt313.1 > 0)) bt306.1 bt313.2)) else (spec_DrawStuckTasks.j0 k bt309.1 false bt306.1 bt309.2)))
theorem spec_DrawStuckTasks.mono_l : ∀ k, (∀ y0 y1 y2 y3, LeO (spec_DrawStuckTasks.j0 k y0 y1 y2 y3) (spec_DrawStuckTasks.j0 (k + 1) y0 y1 y2 y3))
  | 0 => fun _ _ _ _ r h => by simp [spec_DrawStuckTasks.j0] at h
  | k + 1 => by
    have ih0 := spec_DrawStuckTasks.mono_l k
    · intro y0 y1 y2 y3
      unfold spec_DrawStuckTasks.j0
      repeat' first
      | (with_reducible exact ih0 _ _ _ _)
      | (with_reducible exact spec_anyGraph.mono _ _ _)
      | (with_reducible exact spec_reader_pick.mono _ _ _ _)
      | (with_reducible exact LeO.refl _)
      | (with_reducible exact LeO.none _)
      | (with_reducible refine LeO.ite ?_ ?_)
      | (with_reducible refine LeO.bind ?_ (fun _ => ?_))
      | exact ih0 _ _ _ _
      | exact spec_anyGraph.mono _ _ _
      | exact spec_reader_pick.mono _ _ _ _
      | exact LeO.none _
      | refine LeO.ite ?_ ?_
      | refine LeO.bind ?_ (fun _ => ?_)
theorem spec_DrawStuckTasks.mono : ∀ a0 k, LeO (spec_DrawStuckTasks.f k a0) (spec_DrawStuckTasks.f (k + 1) a0) := by
  intro a0 k
  have ih0 := spec_DrawStuckTasks.mono_l k
  unfold spec_DrawStuckTasks.f
  repeat' first
      | (with_reducible exact ih0 _ _ _ _)
      | (with_reducible exact spec_anyGraph.mono _ _ _)
      | (with_reducible exact spec_reader_pick.mono _ _ _ _)
      | (with_reducible exact LeO.refl _)
      | (with_reducible exact LeO.none _)
      | (with_reducible refine LeO.ite ?_ ?_)
      | (with_reducible refine LeO.bind ?_ (fun _ => ?_))
      | exact ih0 _ _ _ _
      | exact spec_anyGraph.mono _ _ _
      | exact spec_reader_pick.mono _ _ _ _
      | exact LeO.none _
      | refine LeO.ite ?_ ?_
      | refine LeO.bind ?_ (fun _ => ?_)
set_option maxHeartbeats 8000000 in
set_option maxRecDepth 100000 in
theorem spec_DrawStuckTasks.calls (k : Nat) (A0 : Option Addr) (c0 : Nat) (l0 : List Int) (r : List (S32)) (w : World) (hr0 : Kd.C (Kd.int .u8) w A0 l0.length l0) (hc0 : l0.length ≤ c0) (h : spec_DrawStuckTasks.f k l0 = some r) :
    Calls Tryd.prog 19 #[.slice A0 l0.length c0] w fun e w' => ∃ v0_ : Value, e = .returned (v0_) ∧ Kd.N k32 32 w' w.heap.size (fun k_ => (w.heap.size ≤ k_)) v0_ r ∧ Below w.heap.size w w' := by
  have HR0 := Aside0.mk hr0
  have HC0 := Aside0.mk hc0
  clear hr0 hc0
  have HB := Aside0.mk (Below.refl w.heap.size w)
  have H : ((spec_newReader.f l0).bind fun bt306 => ((spec_anyGraph.f k bt306.1 bt306.2).bind fun bt309 => (if (bt309.1.length : Int) > 0 then ((spec_reader_pick.f k bt306.1 bt309.2 3).bind fun bt313 => (spec_DrawStuckTasks.j0 k bt309.1 (decide (bt313.1 > 0)) bt306.1 bt313.2)) else (spec_DrawStuckTasks.j0 k bt309.1 false bt306.1 bt309.2)))) = some r := h
  clear h
  replace H := Option.bind_eq_some_iff.mp H
  obtain ⟨⟨t306, t307⟩, A20, H⟩ := H
  replace H : ((spec_anyGraph.f k t306 t307).bind fun bt309 => (if (bt309.1.length : Int) > 0 then ((spec_reader_pick.f k t306 bt309.2 3).bind fun bt313 => (spec_DrawStuckTasks.j0 k bt309.1 (decide (bt313.1 > 0)) t306 bt313.2)) else (spec_DrawStuckTasks.j0 k bt309.1 false t306 bt309.2))) = some r := H
  have A2 := Aside0.mk A20
  clear A20
  replace H := Option.bind_eq_some_iff.mp H
  obtain ⟨⟨t309, t312⟩, A30, H⟩ := H
  replace H : (if (t309.length : Int) > 0 then ((spec_reader_pick.f k t306 t312 3).bind fun bt313 => (spec_DrawStuckTasks.j0 k t309 (decide (bt313.1 > 0)) t306 bt313.2)) else (spec_DrawStuckTasks.j0 k t309 false t306 t312)) = some r := H
  have A3 := Aside0.mk A30
  clear A30
  have HC4 := Aside0.mk H
  clear H
  go_enter Tryd.func19, Tryd.ntmps19
  go_upto_region 3 with (first | ((with_reducible refine gate_callee (f := 44) rfl ?_); refine goesL_ (some 7) rfl rfl Tryd.func44 (by kernel_rfl) rfl #[.slice A0 l0.length c0] rfl (by (try simp only [List.map_toArray, List.map_cons, List.map_nil]); first | done | rfl | (simp only [List.length_drop, List.length_take]; rfl)) ?_; (with_reducible refine (spec_newReader.calls _ _ l0 t306 t307 w _ ?side1 ?side2 ?side3 A2.out).mono ?_); (case side1 => repeat (first | (with_reducible first | exact HB.out | apply below_alloc | apply pw_below_drewN | apply below_drew1) | exact HB.out)); (case side2 => exact HR0.out); (case side3 => exact HC0.out); rintro e w5 ⟨g308, rfl, hi, hb, hb2⟩; refine ⟨_, rfl, ?_⟩; have n0_ := Aside0.mk (hb); have n1_ := Aside0.mk (hi); clear HB; have HB := n0_; have HI308 := n1_; clear n0_ n1_; (try clear hb); (try clear hb2); (try clear hk); (try clear hi)) | ((with_reducible refine gate_callee (f := 43) rfl ?_); refine goesL_ (some 9) rfl rfl Tryd.func43 (by kernel_rfl) rfl #[.pointer (some ⟨g308, 0, none⟩)] rfl (by (try simp only [List.map_toArray, List.map_cons, List.map_nil]); first | done | rfl | (simp only [List.length_drop, List.length_take]; rfl)) ?_; (with_reducible refine (spec_anyGraph.calls k g308 t306 t307 t309 t312 w _ ?side1 ?side2 A3.out).mono ?_); (case side1 => repeat (first | (with_reducible first | exact HI308.out | apply IsS83.alloc | apply IsS83.drewN | apply IsS83.drew | apply IsS83.set_1) | exact HI308.out)); (case side2 => repeat (first | (with_reducible first | exact HB.out | apply below_alloc | apply pw_below_drewN | apply below_drew1 | refine below_set ?_ (IsS83.ge HI308.out)) | exact HB.out)); rintro e w6 ⟨v310, rfl, ho0, hi, hb, hk⟩; refine ⟨_, rfl, ?_⟩; have n0_ := Aside0.mk (Kd.N_lower (Kd.N_mono (ok' := fun k_ => (w.heap.size ≤ k_) ∧ k_ ≠ g308) ho0 (fun k_ hk_ => ⟨(Nat.le_trans (below_size (by repeat (first | (with_reducible first | exact HB.out | apply below_alloc | apply pw_below_drewN | apply below_drew1 | refine below_set ?_ (IsS83.ge HI308.out)) | exact HB.out))) hk_), (IsS83.fresh (by repeat (first | (with_reducible first | exact HI308.out | apply IsS83.alloc | apply IsS83.drewN | apply IsS83.drew | apply IsS83.set_1) | exact HI308.out)) k_ hk_)⟩)) (below_size (by repeat (first | (with_reducible first | exact HB.out | apply below_alloc | apply pw_below_drewN | apply below_drew1 | refine below_set ?_ (IsS83.ge HI308.out)) | exact HB.out)))); have n1_ := Aside0.mk (hb); have n2_ := Aside0.mk (hi); clear HB; clear HI308; have HO311 := n0_; have HB := n1_; have HI308 := n2_; clear n0_ n1_ n2_; (try clear hb); (try clear hb2); (try clear hk); (try clear hi); (try clear ho0)))
  (try simp only [Act.put, List.setIfInBounds_toArray, List.set_cons_zero, List.set_cons_succ])
  go_cut [17] (fun v17 wc => ∃ (kq : Nat) (x17_3 : Bool) (x309001_3 : Int), v17 = .bool x17_3 ∧ Aside0 (spec_DrawStuckTasks.j0 kq t309 x17_3 t306 x309001_3 = some r) ∧ Aside0 (kq ≤ k) ∧ Aside0 (Kd.N k32 32 wc w.heap.size (fun k_ => (w.heap.size ≤ k_) ∧ k_ ≠ g308) v310 t309) ∧ Aside0 (IsS83 w wc g308 t306 x309001_3) ∧ Aside0 (Below w.heap.size w wc))
  case first =>
    have H := HC4.out
    clear HC4
    by_cases c7 : (t309.length : Int) > 0
    · rw [if_pos c7] at H
      have c7b0 : decide (0 < (t309.length : Int)) = true := decide_eq_true c7
      have c7b1 : decide (0 < t309.length) = true := decide_eq_true (by omega)
      clear c7
      (first | rw [c7b0] | (simp only [i64_w, i32_w]; rw [c7b0]) | skip)
      replace H := Option.bind_eq_some_iff.mp H
      obtain ⟨⟨t313, t314⟩, A80, H⟩ := H
      replace H : (spec_DrawStuckTasks.j0 k t309 (decide (t313 > 0)) t306 t314) = some r := H
      have A8 := Aside0.mk A80
      clear A80
      have H' := Aside0.mk H
      clear H
      obtain ⟨Ao9, co9, eo9⟩ := Kd.N_slice HO311.out
      subst eo9
      go_wp2_with (first | (go_at_call 49; (with_reducible refine (spec_reader_pick.calls k g308 t306 t312 3 t313 t314 w _ ?side1 ?side2 A8.out).mono ?_); (case side1 => repeat (first | (with_reducible first | exact HI308.out | apply IsS83.alloc | apply IsS83.drewN | apply IsS83.drew | apply IsS83.set_1) | exact HI308.out)); (case side2 => repeat (first | (with_reducible first | exact HB.out | apply below_alloc | apply pw_below_drewN | apply below_drew1 | refine below_set ?_ (IsS83.ge HI308.out)) | exact HB.out)); rintro e w10 ⟨rfl, hi, hb, hk⟩; have n0_ := Aside0.mk (Kd.N_mono (Kd.N_keep (Kd.N_mono (ok := fun k_ => (((w.heap.size ≤ k_)) ∧ k_ ≠ g308)) (by (with_reducible repeat (first | apply Kd.N_alloc | apply Kd.N_drewN | apply Kd.N_drew)); exact HO311.out) (fun k_ hk_ => (⟨hk_, hk_.2⟩ : _ ∧ k_ ≠ g308))) hk (fun _ h => h.2)) (fun _ h => h.1)); have n1_ := Aside0.mk (hb); have n2_ := Aside0.mk (hi); clear HO311; clear HB; clear HI308; have HO311 := n0_; have HB := n1_; have HI308 := n2_; clear n0_ n1_ n2_; (try clear hb); (try clear hb2); (try clear hk); (try clear hi)))
      go_meet
      case rel => exact ⟨_, (decide (t313 > 0)), (t314), (by first | rfl | (simp; done) | (simp [*]; done)), H', ⟨by first | omega | exact Nat.le_refl _⟩, ⟨by (with_reducible repeat (first | apply Kd.N_alloc | apply Kd.N_drewN | apply Kd.N_drew)); exact HO311.out⟩, ⟨by repeat (first | (with_reducible first | exact HI308.out | apply IsS83.alloc | apply IsS83.drewN | apply IsS83.drew | apply IsS83.set_1) | exact HI308.out)⟩, ⟨by repeat (first | (with_reducible first | exact HB.out | apply below_alloc | apply pw_below_drewN | apply below_drew1 | refine below_set ?_ (IsS83.ge HI308.out)) | exact HB.out)⟩⟩
    · rw [if_neg c7] at H
      have c7b0 : decide (0 < (t309.length : Int)) = false := decide_eq_false c7
      have c7b1 : decide (0 < t309.length) = false := decide_eq_false (by omega)
      clear c7
      (first | rw [c7b0] | (simp only [i64_w, i32_w]; rw [c7b0]) | skip)
      have H' := Aside0.mk H
      clear H
      obtain ⟨Ao11, co11, eo11⟩ := Kd.N_slice HO311.out
      subst eo11
      go_wp2
      go_meet
      case rel => exact ⟨_, (false), (t312), (by first | rfl | (simp; done) | (simp [*]; done)), H', ⟨by first | omega | exact Nat.le_refl _⟩, ⟨by (with_reducible repeat (first | apply Kd.N_alloc | apply Kd.N_drewN | apply Kd.N_drew)); exact HO311.out⟩, ⟨by repeat (first | (with_reducible first | exact HI308.out | apply IsS83.alloc | apply IsS83.drewN | apply IsS83.drew | apply IsS83.set_1) | exact HI308.out)⟩, ⟨by repeat (first | (with_reducible first | exact HB.out | apply below_alloc | apply pw_below_drewN | apply below_drew1 | refine below_set ?_ (IsS83.ge HI308.out)) | exact HB.out)⟩⟩
  case rest =>
    clear HC4
    try clear c1
    try clear p2
    try clear c4
    try clear c7
    try clear c7b0
    try clear c7b1
    obtain ⟨kq, x17_3, x309001_3, rfl, HA, HJ3, HO_4, HI308, HB⟩ := hcut
    cases kq with
    | zero => exact absurd HA.out (by simp [spec_DrawStuckTasks.j0])
    | succ kj3 =>
      have H := HA.out
      clear HA
      simp only [spec_DrawStuckTasks.j0] at H
      by_cases c12 : x17_3 = true
      · subst c12
        have H1 : ((spec_reader_pick.f kj3 t306 x309001_3 (t309.length : Int)).bind fun bt315 => (if 0 ≤ bt315.1 then (if bt315.1 < (t309.length : Int) then (if (((rd_T32 t309 bt315.1).f1).length : Int) = 0 then ((spec_reader_pick.f kj3 t306 bt315.2 (t309.length : Int)).bind fun bt318 => (some (t309.set (bt315.1 : Int).toNat (⟨(rd_T32 t309 bt315.1).f0, (([bt318.1] : List Int)), (rd_T32 t309 bt315.1).f2, (rd_T32 t309 bt315.1).f3⟩ : S32)))) else (some t309)) else (none)) else (none))) = some r := by rw [if_pos rfl] at H; exact H
        clear H
        have H := H1
        clear H1
        replace H := Option.bind_eq_some_iff.mp H
        obtain ⟨⟨t315, t316⟩, A130, H⟩ := H
        replace H : (if 0 ≤ t315 then (if t315 < (t309.length : Int) then (if (((rd_T32 t309 t315).f1).length : Int) = 0 then ((spec_reader_pick.f kj3 t306 t316 (t309.length : Int)).bind fun bt318 => (some (t309.set (t315 : Int).toNat (⟨(rd_T32 t309 t315).f0, (([bt318.1] : List Int)), (rd_T32 t309 t315).f2, (rd_T32 t309 t315).f3⟩ : S32)))) else (some t309)) else (none)) else (none)) = some r := H
        have A13 := Aside0.mk A130
        clear A130
        by_cases c14 : 0 ≤ t315
        · rw [if_pos c14] at H
          have c14b0 : decide (0 ≤ t315) = true := decide_eq_true c14
          clear c14
          by_cases c15 : t315 < (t309.length : Int)
          · rw [if_pos c15] at H
            have c15b0 : decide (t315 < (t309.length : Int)) = true := decide_eq_true c15
            clear c15
            by_cases c16 : (((rd_T32 t309 t315).f1).length : Int) = 0
            · rw [if_pos c16] at H
              have c16b0 : ((((rd_T32 t309 t315).f1).length : Int) == 0) = true := beq_iff_eq.mpr c16
              have c16b1 : ((((rd_T32 t309 t315).f1).length : Int) != 0) = false := bne_eq_false_iff_eq.mpr c16
              clear c16
              replace H := Option.bind_eq_some_iff.mp H
              obtain ⟨⟨t318, t319⟩, A170, H⟩ := H
              replace H : (some (t309.set (t315 : Int).toNat (⟨(rd_T32 t309 t315).f0, (([t318] : List Int)), (rd_T32 t309 t315).f2, (rd_T32 t309 t315).f3⟩ : S32))) = some r := H
              have A17 := Aside0.mk A170
              clear A170
              obtain ⟨y320, hy320⟩ : ∃ y_ : List Int, y_ = (([t318] : List Int)) := ⟨_, rfl⟩
              replace H : (some (t309.set (t315 : Int).toNat (⟨(rd_T32 t309 t315).f0, y320, (rd_T32 t309 t315).f2, (rd_T32 t309 t315).f3⟩ : S32))) = some r := by first | (rw [hy320]; with_reducible exact H) | (have H2_ := (Option.bind_some _ _).symm.trans H; rw [hy320]; with_reducible exact H2_) | (have H2_ := (Option.bind_some _ _).symm.trans H; with_reducible exact H2_) | with_reducible exact H | (rw [hy320]; exact H) | exact H
              have Ny320 := Aside0.mk hy320
              clear hy320
              obtain ⟨y323, hy323⟩ : ∃ y_ : List (S32), y_ = (t309.set (t315 : Int).toNat (⟨(rd_T32 t309 t315).f0, y320, (rd_T32 t309 t315).f2, (rd_T32 t309 t315).f3⟩ : S32)) := ⟨_, rfl⟩
              replace H : (some y323) = some r := by first | (rw [hy323]; with_reducible exact H) | (have H2_ := (Option.bind_some _ _).symm.trans H; rw [hy323]; with_reducible exact H2_) | (have H2_ := (Option.bind_some _ _).symm.trans H; with_reducible exact H2_) | with_reducible exact H | (rw [hy323]; exact H) | exact H
              have Ny323 := Aside0.mk hy323
              clear hy323
              obtain rfl := Option.some.inj H
              obtain ⟨Ao19, co19, eo19⟩ := Kd.N_slice HO_4.out
              subst eo19
              go_wp2_with (first | ((with_reducible refine gate_callee (f := 49) rfl ?_); refine goesL_ (some 21) rfl rfl Tryd.func49 (by kernel_rfl) rfl #[.pointer (some ⟨g308, 0, none⟩), .int .i64 (t309.length : Int)] rfl (by (try simp only [List.map_toArray, List.map_cons, List.map_nil]); first | done | rfl | (simp only [List.length_drop, List.length_take]; rfl)) ?_; (with_reducible refine (spec_reader_pick.calls kj3 g308 t306 x309001_3 (t309.length : Int) t315 t316 w _ ?side1 ?side2 A13.out).mono ?_); (case side1 => repeat (first | (with_reducible first | exact HI308.out | apply IsS83.alloc | apply IsS83.drewN | apply IsS83.drew | apply IsS83.set_1) | exact HI308.out)); (case side2 => repeat (first | (with_reducible first | exact HB.out | apply below_alloc | apply pw_below_drewN | apply below_drew1 | refine below_set ?_ (IsS83.ge HI308.out)) | exact HB.out)); rintro e w20 ⟨rfl, hi, hb, hk⟩; refine ⟨_, rfl, ?_⟩; have n0_ := Aside0.mk (Kd.N_mono (Kd.N_keep (Kd.N_mono (ok := fun k_ => (((w.heap.size ≤ k_)) ∧ k_ ≠ g308)) (by (with_reducible repeat (first | apply Kd.N_alloc | apply Kd.N_drewN | apply Kd.N_drew)); exact HO_4.out) (fun k_ hk_ => (⟨hk_, hk_.2⟩ : _ ∧ k_ ≠ g308))) hk (fun _ h => h.2)) (fun _ h => h.1)); have n1_ := Aside0.mk (hb); have n2_ := Aside0.mk (hi); clear HO_4; clear HB; clear HI308; have HO_4 := n0_; have HB := n1_; have HI308 := n2_; clear n0_ n1_ n2_; (try clear hb); (try clear hb2); (try clear hk); (try clear hi); have p317 : 0 ≤ (t315 : Int) := of_decide_eq_true (by first | (with_reducible assumption) | assumption); have q317 : t315 < (t309.length : Int) := of_decide_eq_true (by first | (with_reducible assumption) | assumption); obtain ⟨ad317, A317_1, c317_1, e317, hx317_0, hx317_1, hx317_2, hx317_3, hl317_1, hi317_1⟩ := at_T32 (Kd.N_reads' HO_4.out).2.2 t315 p317 q317; cases e317; obtain ⟨ce317, hce317, hMe317, hcc317⟩ := Kd.N_get HO_4.out z32 t315 p317 (by first | exact q317 | exact of_decide_eq_true (by first | (with_reducible assumption) | assumption) | (have e_ := (Kd.N_reads' HO_4.out).1; omega)); obtain ⟨ua317_1, uc317_1, rfl, ul317_1, ge317_1⟩ := k32_openF hMe317; have hv317_1 := hcc317 1 _ rfl; rw [add_field _ _ 1 (by omega)] at hv317_1; replace hv317_1 := Option.some.inj (hv317_1.symm.trans hx317_1); injection hv317_1 with hva_ hvn_ hvc_; rw [hva_] at ge317_1; rw [hvc_] at ul317_1; have HL317_1 := Aside0.mk (show Kd.V (Kd.int .i64) 3 _ w.heap.size _ _ ((rd_T32 t309 t315).f1) from Kd.V_mk ul317_1 ge317_1); clear hva_ hvn_ hvc_ ge317_1 ul317_1; clear hcc317 hce317; have HR317_1 := Aside0.mk hi317_1; have HC317_1 := Aside0.mk hl317_1; clear hi317_1 hl317_1; replace p317 := eq_true p317; replace q317 := eq_true q317) | ((with_reducible refine gate_callee (f := 49) rfl ?_); refine goesL_ (some 34) rfl rfl Tryd.func49 (by kernel_rfl) rfl #[.pointer (some ⟨g308, 0, none⟩), .int .i64 (t309.length : Int)] rfl (by (try simp only [List.map_toArray, List.map_cons, List.map_nil]); first | done | rfl | (simp only [List.length_drop, List.length_take]; rfl)) ?_; (with_reducible refine (spec_reader_pick.calls kj3 g308 t306 t316 (t309.length : Int) t318 t319 w _ ?side1 ?side2 A17.out).mono ?_); (case side1 => repeat (first | (with_reducible first | exact HI308.out | apply IsS83.alloc | apply IsS83.drewN | apply IsS83.drew | apply IsS83.set_1) | exact HI308.out)); (case side2 => repeat (first | (with_reducible first | exact HB.out | apply below_alloc | apply pw_below_drewN | apply below_drew1 | refine below_set ?_ (IsS83.ge HI308.out)) | exact HB.out)); rintro e w21 ⟨rfl, hi, hb, hk⟩; refine ⟨_, rfl, ?_⟩; have n0_ := Aside0.mk (Kd.N_mono (Kd.N_keep (Kd.N_mono (ok := fun k_ => (((w.heap.size ≤ k_)) ∧ k_ ≠ g308)) (by (with_reducible repeat (first | apply Kd.N_alloc | apply Kd.N_drewN | apply Kd.N_drew)); exact HO_4.out) (fun k_ hk_ => (⟨hk_, hk_.2⟩ : _ ∧ k_ ≠ g308))) hk (fun _ h => h.2)) (fun _ h => h.1)); have n1_ := Aside0.mk (Kd.V_mono (Kd.V_keep (Kd.V_mono (ok := fun k_ => ((((w.heap.size ≤ k_)) ∧ k_ ≠ g308) ∧ some k_ ≠ (.slice (some ad317) t309.length co19 : Value).ownBlock)) (by (with_reducible repeat (first | apply Kd.V_alloc | apply Kd.V_drewN | apply Kd.V_drew)); exact HL317_1.out) (fun k_ hk_ => (⟨hk_, hk_.1.2⟩ : _ ∧ k_ ≠ g308))) hk (fun _ h => h.2)) (fun _ h => h.1)); have n2_ := Aside0.mk (hb); have n3_ := Aside0.mk (hi); clear HO_4; clear HL317_1; clear HB; clear HI308; have HO_4 := n0_; have HL317_1 := n1_; have HB := n2_; have HI308 := n3_; clear n0_ n1_ n2_ n3_; (try clear hb); (try clear hb2); (try clear hk); (try clear hi)) | ((with_reducible refine gate_dst (N := 35) rfl ?_); refine Kd.R_lit (Kd.int .i64) _ 3 ?hg (N := 35) ?hd (xs := ([t318] : List Int)) (inner := [.int .i64 t318]) (ok := fun _ => True) (okp := fun _ => True) ?hr ?hp (fun _ hk => hk) trivial (Below.refl _ _) (Nat.le_refl _) (by simp) ?_; (case hd => rfl); (case hg => rfl); (case hr => first | (go_simp; done) | (go_simp; rfl)); (case hp => exact (Reps.one (show Kd.M (Kd.int .i64) _ _ _ t318 [.int .i64 t318] from rfl) (Reps.none _ _))); intro v321 w22 ho23 hb hg_ hnew_; clear hg_ hnew_; (first | rw [← Ny320.out] at ho23 | (simp only [Int.reduceToNat] at ho23; rw [← Ny320.out] at ho23)); have n0_ := Aside0.mk (Kd.N_elder' (by (with_reducible repeat (first | apply Kd.N_alloc | apply Kd.N_drewN | apply Kd.N_drew)); exact HO_4.out) (Kd.R_base ho23) hb); have n1_ := Aside0.mk (Kd.V_elder' (by (with_reducible repeat (first | apply Kd.V_alloc | apply Kd.V_drewN | apply Kd.V_drew)); exact HL317_1.out) (Kd.R_base ho23) hb); have n2_ := Aside0.mk (Kd.R_lower (Kd.R_newM (M := fun k_ => (w.heap.size ≤ k_)) ho23 (below_size (by repeat (first | (with_reducible first | exact HB.out | apply below_alloc | apply pw_below_drewN | apply below_drew1 | refine below_set ?_ (IsS83.ge HI308.out)) | exact HB.out))) (fun k_ h_ => h_)) (below_size (by repeat (first | (with_reducible first | exact HB.out | apply below_alloc | apply pw_below_drewN | apply below_drew1 | refine below_set ?_ (IsS83.ge HI308.out)) | exact HB.out)))); have n3_ := Aside0.mk (IsS83.below (by repeat (first | (with_reducible first | exact HI308.out | apply IsS83.alloc | apply IsS83.drewN | apply IsS83.drew | apply IsS83.set_1) | exact HI308.out)) hb); have n4_ := Aside0.mk (below_step (by repeat (first | (with_reducible first | exact HB.out | apply below_alloc | apply pw_below_drewN | apply below_drew1 | refine below_set ?_ (IsS83.ge HI308.out)) | exact HB.out)) hb); clear HO_4; clear HL317_1; clear HI308; clear HB; have HO_4 := n0_; have HL317_1 := n1_; have HO322 := n2_; have HI308 := n3_; have HB := n4_; clear n0_ n1_ n2_ n3_ n4_; clear hb ho23; have p18 : 0 ≤ (t315 : Int) := of_decide_eq_true (by first | (with_reducible assumption) | assumption); have q18 : (t315 : Int) < ((t309.length : Int) : Int) := of_decide_eq_true (by first | (with_reducible assumption) | assumption); obtain ⟨go18, co18, eo18, gb18, gl18, cl18, HG18⟩ := Kd.N_form HO_4.out (by omega); (first | cases eo18 | (injection eo18 with ea_ en_ ec_; (first | subst ea_ | (injection ea_ with ea_; subst ea_)); subst ec_; clear en_)); have GB18 := Aside0.mk gb18; have GG18 := Aside0.mk HG18; clear gb18 gl18 HG18; (first | simp only [add_plain] at hx317_0 | skip); (first | simp only [add_plain] at hx317_1 | skip); (first | simp only [add_plain] at hx317_2 | skip); (first | simp only [add_plain] at hx317_3 | skip); obtain ⟨ce18, hcl18, hM18, hcc18, hfr18⟩ := Kd.N_elem HO_4.out z32 (t315 : Int) p18 q18; obtain ⟨ua18_1, uc18_1, rfl, ul18_1, ge18_1⟩ := k32_openF hM18; have hx18_0 : w22.cell? ⟨go18, (t315 : Int).toNat * 4, none⟩ = some (.int .i64 ((rd_T32 t309 t315).f0)) := hcc18 0 _ rfl; have hx18_1 : w22.cell? ⟨go18, (t315 : Int).toNat * 4 + 1, none⟩ = some (.slice ua18_1 ((rd_T32 t309 t315).f1).length uc18_1) := hcc18 1 _ rfl; have hx18_2 : w22.cell? ⟨go18, (t315 : Int).toNat * 4 + 2, none⟩ = some (.int .i64 ((rd_T32 t309 t315).f2)) := hcc18 2 _ rfl; have hx18_3 : w22.cell? ⟨go18, (t315 : Int).toNat * 4 + 3, none⟩ = some (.int .i64 ((rd_T32 t309 t315).f3)) := hcc18 3 _ rfl; have hf18_0 : w22.frozen? ⟨go18, (t315 : Int).toNat * 4, none⟩ = false := hfr18 0; have hf18_1 : w22.frozen? ⟨go18, (t315 : Int).toNat * 4 + 1, none⟩ = false := hfr18 1; have hf18_2 : w22.frozen? ⟨go18, (t315 : Int).toNat * 4 + 2, none⟩ = false := hfr18 2; have hf18_3 : w22.frozen? ⟨go18, (t315 : Int).toNat * 4 + 3, none⟩ = false := hfr18 3; clear hcl18 hcc18 hfr18 hM18; replace p18 := eq_true p18; replace q18 := eq_true q18; obtain ⟨Ao24, co24, eo24⟩ := Kd.R_slice HO322.out; subst eo24; have n_ := Aside0.mk (Kd.N_mono (ok' := (fun k_ => (w.heap.size ≤ k_) ∧ some k_ ≠ (.slice Ao24 y320.length co24 : Value).ownBlock)) HO_4.out (fun k_ hk => ⟨hk.1.1, hk.2⟩)); clear HO_4; have HO_4 := n_; clear n_; have HX25 := Aside0.mk (show Kd.N k32 32 w22 w.heap.size (fun k_ => (w.heap.size ≤ k_)) (.slice (some ⟨go18, 0, none⟩) t309.length co19) t309 from (by (with_reducible repeat (first | apply Kd.N_alloc | apply Kd.N_drewN | apply Kd.N_drew)); exact Kd.N_mono HO_4.out (fun _ hk => hk.1))); obtain ⟨ce25, hcl25, hM25, hcc25, hfr25⟩ := Kd.N_elem HX25.out z32 (t315 : Int) (of_decide_eq_true (by first | (with_reducible assumption) | assumption)) (by have h_ : (t315 : Int) < ((t309.length : Int) : Int) := of_decide_eq_true (by first | (with_reducible assumption) | assumption); first | exact h_ | (have e_ := (Kd.N_reads' HO_4.out).1; omega) | simpa using h_); obtain ⟨ua25_1, uc25_1, rfl, ul25_1, ge25_1⟩ := k32_openF hM25; have HP25 := Kd.N_seg HX25.out (t315 : Int) (of_decide_eq_true (by first | (with_reducible assumption) | assumption)) (by have h_ : (t315 : Int) < ((t309.length : Int) : Int) := of_decide_eq_true (by first | (with_reducible assumption) | assumption); first | exact h_ | (have e_ := (Kd.N_reads' HO_4.out).1; omega) | simpa using h_) (seg := [.slice Ao24 y320.length co24]) (j := 1) hcl25 hcc25 (show 2 ≤ 4 from by decide) (x' := (⟨(rd_T32 t309 t315).f0, y320, (rd_T32 t309 t315).f2, (rd_T32 t309 t315).f3⟩ : S32)) (k32_mkF _ _ (⟨(rd_T32 t309 t315).f0, y320, (rd_T32 t309 t315).f2, (rd_T32 t309 t315).f3⟩ : S32) (Kd.R_reads' (Kd.R_mono (ok' := (fun k_ => ((fun k_ => (w.heap.size ≤ k_))) k_ ∧ k_ ≠ go18)) (Kd.R_apart' (HO322.out) (Kd.N_typed HO_4.out) (by decide)) (fun k_ hk => ⟨hk.1.1, fun e_ => (hk.2) (by rw [e_]; rfl)⟩))).2.1 (Kd.R_F (Kd.R_mono (ok' := (fun k_ => ((fun k_ => (w.heap.size ≤ k_))) k_ ∧ k_ ≠ go18)) (Kd.R_apart' (HO322.out) (Kd.N_typed HO_4.out) (by decide)) (fun k_ hk => ⟨hk.1.1, fun e_ => (hk.2) (by rw [e_]; rfl)⟩)))) (fun _ hk => hk); have hx25_1 := hcc25 1 _ rfl; (try simp only [show (k32).sz = 4 from rfl, Nat.mul_one, Nat.add_zero] at hx25_1); have hf25_1 := hfr25 1; (try simp only [show (k32).sz = 4 from rfl, Nat.mul_one, Nat.add_zero] at hf25_1); clear hcl25 hcc25 hfr25 hM25) | ((with_reducible refine gate_store (t := 26) (p := 37) rfl ?_); refine store_event (t := 26) (p := 37) (v := ?vo_w26) (w1 := (w22.setCell ⟨go18, (t315 : Int).toNat * 4 + 1, none⟩ (.slice Ao24 y320.length co24))) ?hg ?ho ?hn ?hr ?_; (case ho => rfl); (case hg => rfl); (case hn => rfl); (case hr => first | (go_simp; done) | (go_simp; rfl)); intro w26 hw; have hg : w22.grownBy w26 (some go18) := (by rw [hw]; exact HP25.2); have hp_ : Kd.N k32 32 w26 w.heap.size (fun k_ => (w.heap.size ≤ k_)) (.slice (some ⟨go18, 0, none⟩) t309.length co19) y323 := (by rw [hw, Ny323.out]; exact HP25.1); clear HP25; have n0_ := Aside0.mk (hp_); have n1_ := Aside0.mk (IsS83.grown (by repeat (first | (with_reducible first | exact HI308.out | apply IsS83.alloc | apply IsS83.drewN | apply IsS83.drew | apply IsS83.set_1) | exact HI308.out)) hg (IsS83.own_neN HI308.out HO_4.out (by decide))); have n2_ := Aside0.mk (Kd.V_afterv (v := (.slice (some ⟨go18, 0, none⟩) t309.length co19)) (v1 := (.slice (some ⟨go18, 0, none⟩) t309.length co19)) (ok := (fun k_ => (w.heap.size ≤ k_) ∧ some k_ ≠ (.slice Ao24 y320.length co24 : Value).ownBlock ∧ k_ ≠ g308)) (by (with_reducible repeat (first | apply Kd.V_alloc | apply Kd.V_drewN | apply Kd.V_drew)); exact Kd.V_mono HL317_1.out (fun _ hk => ⟨⟨hk.1.1.1, ⟨hk.2, hk.1.1.2⟩⟩, hk.1.2⟩)) hg (.inl rfl)); have n3_ := Aside0.mk ((by rw [hw]; exact below_set (HB.out) GB18.out : Below w.heap.size w w26)); clear HO_4; clear HI308; clear HL317_1; clear HB; clear HO322; have HO_4 := n0_; have HI308 := n1_; have HL317_1 := n2_; have HB := n3_; clear n0_ n1_ n2_ n3_; clear hg hw hp_))
              go_ret
              exact ⟨_, by first | rfl | (simp [errW_none, errW_some] <;> rfl) | (simp [*, errW_none, errW_some] <;> rfl), by (with_reducible repeat (first | apply Kd.N_alloc | apply Kd.N_drewN | apply Kd.N_drew)); exact HO_4.out, by repeat (first | (with_reducible first | exact HB.out | apply below_alloc | apply pw_below_drewN | apply below_drew1 | refine below_set ?_ (IsS83.ge HI308.out)) | exact HB.out)⟩
            · rw [if_neg c16] at H
              have c16b0 : ((((rd_T32 t309 t315).f1).length : Int) == 0) = false := beq_eq_false_iff_ne.mpr c16
              have c16b1 : ((((rd_T32 t309 t315).f1).length : Int) != 0) = true := bne_iff_ne.mpr c16
              have c16b2 : ¬ (((rd_T32 t309 t315).f1) = []) := fun h_ => c16 (by rw [h_]; rfl)
              obtain rfl := Option.some.inj H
              obtain ⟨Ao27, co27, eo27⟩ := Kd.N_slice HO_4.out
              subst eo27
              go_wp2_with (first | ((with_reducible refine gate_callee (f := 49) rfl ?_); refine goesL_ (some 21) rfl rfl Tryd.func49 (by kernel_rfl) rfl #[.pointer (some ⟨g308, 0, none⟩), .int .i64 (t309.length : Int)] rfl (by (try simp only [List.map_toArray, List.map_cons, List.map_nil]); first | done | rfl | (simp only [List.length_drop, List.length_take]; rfl)) ?_; (with_reducible refine (spec_reader_pick.calls kj3 g308 t306 x309001_3 (t309.length : Int) t315 t316 w _ ?side1 ?side2 A13.out).mono ?_); (case side1 => repeat (first | (with_reducible first | exact HI308.out | apply IsS83.alloc | apply IsS83.drewN | apply IsS83.drew | apply IsS83.set_1) | exact HI308.out)); (case side2 => repeat (first | (with_reducible first | exact HB.out | apply below_alloc | apply pw_below_drewN | apply below_drew1 | refine below_set ?_ (IsS83.ge HI308.out)) | exact HB.out)); rintro e w28 ⟨rfl, hi, hb, hk⟩; refine ⟨_, rfl, ?_⟩; have n0_ := Aside0.mk (Kd.N_mono (Kd.N_keep (Kd.N_mono (ok := fun k_ => (((w.heap.size ≤ k_)) ∧ k_ ≠ g308)) (by (with_reducible repeat (first | apply Kd.N_alloc | apply Kd.N_drewN | apply Kd.N_drew)); exact HO_4.out) (fun k_ hk_ => (⟨hk_, hk_.2⟩ : _ ∧ k_ ≠ g308))) hk (fun _ h => h.2)) (fun _ h => h.1)); have n1_ := Aside0.mk (hb); have n2_ := Aside0.mk (hi); clear HO_4; clear HB; clear HI308; have HO_4 := n0_; have HB := n1_; have HI308 := n2_; clear n0_ n1_ n2_; (try clear hb); (try clear hb2); (try clear hk); (try clear hi); have p317 : 0 ≤ (t315 : Int) := of_decide_eq_true (by first | (with_reducible assumption) | assumption); have q317 : t315 < (t309.length : Int) := of_decide_eq_true (by first | (with_reducible assumption) | assumption); obtain ⟨ad317, A317_1, c317_1, e317, hx317_0, hx317_1, hx317_2, hx317_3, hl317_1, hi317_1⟩ := at_T32 (Kd.N_reads' HO_4.out).2.2 t315 p317 q317; cases e317; obtain ⟨ce317, hce317, hMe317, hcc317⟩ := Kd.N_get HO_4.out z32 t315 p317 (by first | exact q317 | exact of_decide_eq_true (by first | (with_reducible assumption) | assumption) | (have e_ := (Kd.N_reads' HO_4.out).1; omega)); obtain ⟨ua317_1, uc317_1, rfl, ul317_1, ge317_1⟩ := k32_openF hMe317; have hv317_1 := hcc317 1 _ rfl; rw [add_field _ _ 1 (by omega)] at hv317_1; replace hv317_1 := Option.some.inj (hv317_1.symm.trans hx317_1); injection hv317_1 with hva_ hvn_ hvc_; rw [hva_] at ge317_1; rw [hvc_] at ul317_1; have HL317_1 := Aside0.mk (show Kd.V (Kd.int .i64) 3 _ w.heap.size _ _ ((rd_T32 t309 t315).f1) from Kd.V_mk ul317_1 ge317_1); clear hva_ hvn_ hvc_ ge317_1 ul317_1; clear hcc317 hce317; have HR317_1 := Aside0.mk hi317_1; have HC317_1 := Aside0.mk hl317_1; clear hi317_1 hl317_1; replace p317 := eq_true p317; replace q317 := eq_true q317))
              go_ret
              exact ⟨_, by first | rfl | (simp [errW_none, errW_some] <;> rfl) | (simp [*, errW_none, errW_some] <;> rfl), by (with_reducible repeat (first | apply Kd.N_alloc | apply Kd.N_drewN | apply Kd.N_drew)); exact Kd.N_mono HO_4.out (fun _ hk => hk.1), by repeat (first | (with_reducible first | exact HB.out | apply below_alloc | apply pw_below_drewN | apply below_drew1 | refine below_set ?_ (IsS83.ge HI308.out)) | exact HB.out)⟩
          · rw [if_neg c15] at H
            exact absurd H (by simp)
        · rw [if_neg c14] at H
          exact absurd H (by simp)
      · replace c12 := Bool.eq_false_iff.mpr c12
        subst c12
        have H1 : (some t309) = some r := by rw [if_neg (show ¬ (false = true) by decide)] at H; exact H
        clear H
        have H := H1
        clear H1
        obtain rfl := Option.some.inj H
        go_wp2
        go_ret
        exact ⟨_, by first | rfl | (simp [errW_none, errW_some] <;> rfl) | (simp [*, errW_none, errW_some] <;> rfl), by (with_reducible repeat (first | apply Kd.N_alloc | apply Kd.N_drewN | apply Kd.N_drew)); exact Kd.N_mono HO_4.out (fun _ hk => hk.1), by repeat (first | (with_reducible first | exact HB.out | apply below_alloc | apply pw_below_drewN | apply below_drew1 | refine below_set ?_ (IsS83.ge HI308.out)) | exact HB.out)⟩

end Go.Proofs.YtamomflollhofaaDoor.Q
