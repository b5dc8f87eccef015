-- Written by a program of this session (wip/tools/myprint.py), by way of the kit's print, out of the translation of the seat. Lean checks it.
import Derived.Test.YtegogaokcafpjaaDoorQx0
import Derived.Test.YtegogaokcafpjaaDoorQx8
import Derived.Test.YtegogaokcafpjaaDoorQx10
import Derived.Test.YtegogaokcafpjaaDoorQx11
namespace Go.Proofs.YtegogaokcafpjaaDoor.Q
open Go.RowKit Go.Proofs.YtegogaokcafpjaaDoorW.PrintWords Go.Proofs.YtegogaokcafpjaaDoorW.PrintLast Go.Proofs.YtegogaokcafpjaaDoorW.PrintMore
attribute [local go_sem] max2_int min2_int max_two min_two max_three min_three max_four min_four   -- for this text's walks alone
set_option linter.unusedVariables false
set_option linter.unusedSimpArgs false

/-! ### spec_DrawStuckTasks: function 32 -/
def spec_DrawStuckTasks.j0 : Nat → List (S33) → Bool → List Int → Int → Option ((List (S33)))
  | 0, _, _, _, _ => none
  | k + 1, x4, x17, x528000, x528001 => if x17 = true then ((spec_reader_pick.f k x528000 x528001 (x4.length : Int)).bind fun bt534 => (if 0 ≤ bt534.1 then (if bt534.1 < (x4.length : Int) then (if (((rd_T33 x4 bt534.1).f1).length : Int) = 0 then ((spec_reader_pick.f k x528000 bt534.2 (x4.length : Int)).bind fun bt537 => (some (x4.set (bt534.1 : Int).toNat (⟨(rd_T33 x4 bt534.1).f0, (([bt537.1] : List Int)), (rd_T33 x4 bt534.1).f2, (rd_T33 x4 bt534.1).f3⟩ : S33)))) else (some x4)) else (none)) else (none))) else (some x4)
def spec_DrawStuckTasks.f (k : Nat) (l0 : List Int) : Option ((List (S33))) := (spec_newReader.f l0).bind fun bt525 => ((spec_anyGraph.f k bt525.1 bt525.2).bind fun bt528 => (if (bt528.1.length : Int) > 0 then ((spec_reader_pick.f k bt525.1 bt528.2 3).bind fun bt532 => (spec_DrawStuckTasks.j0 k bt528.1 (decide (bt532.1 > 0)) bt525.1 bt532.2)) else (spec_DrawStuckTasks.j0 k bt528.1 false bt525.1 bt528.2)))
theorem spec_DrawStuckTasks.mono_l : ∀ k, (∀ y0 y1 y2 y3, LeO (spec_DrawStuckTasks.j0 k y0 y1 y2 y3) (spec_DrawStuckTasks.j0 (k + 1) y0 y1 y2 y3))
  | 0 => fun _ _ _ _ r h => by simp [spec_DrawStuckTasks.j0] at h
  | k + 1 => by
    have ih0 := spec_DrawStuckTasks.mono_l k
    · intro y0 y1 y2 y3
      unfold spec_DrawStuckTasks.j0
      repeat' first
      | (with_reducible exact ih0 _ _ _ _)
      | (with_reducible exact spec_anyGraph.mono _ _ _)
      | (with_reducible exact spec_reader_pick.mono _ _ _ _)
      | (with_reducible exact LeO.refl _)
      | (with_reducible exact LeO.none _)
      | (with_reducible refine LeO.ite ?_ ?_)
      | (with_reducible refine LeO.bind ?_ (fun _ => ?_))
      | exact ih0 _ _ _ _
      | exact spec_anyGraph.mono _ _ _
      | exact spec_reader_pick.mono _ _ _ _
      | exact LeO.none _
      | refine LeO.ite ?_ ?_
      | refine LeO.bind ?_ (fun _ => ?_)
theorem spec_DrawStuckTasks.mono : ∀ a0 k, LeO (spec_DrawStuckTasks.f k a0) (spec_DrawStuckTasks.f (k + 1) a0) := by
  intro a0 k
  have ih0 := spec_DrawStuckTasks.mono_l k
  unfold spec_DrawStuckTasks.f
  repeat' first
      | (with_reducible exact ih0 _ _ _ _)
      | (with_reducible exact spec_anyGraph.mono _ _ _)
      | (with_reducible exact spec_reader_pick.mono _ _ _ _)
      | (with_reducible exact LeO.refl _)
      | (with_reducible exact LeO.none _)
      | (with_reducible refine LeO.ite ?_ ?_)
      | (with_reducible refine LeO.bind ?_ (fun _ => ?_))
      | exact ih0 _ _ _ _
      | exact spec_anyGraph.mono _ _ _
      | exact spec_reader_pick.mono _ _ _ _
      | exact LeO.none _
      | refine LeO.ite ?_ ?_
      | refine LeO.bind ?_ (fun _ => ?_)
set_option maxHeartbeats 8000000 in
set_option maxRecDepth 100000 in
theorem spec_DrawStuckTasks.calls (k : Nat) (A0 : Option Addr) (c0 : Nat) (l0 : List Int) (r : List (S33)) (w : World) (hr0 : Kd.C (Kd.int .u8) w A0 l0.length l0) (hc0 : l0.length ≤ c0) (h : spec_DrawStuckTasks.f k l0 = some r) :
    Calls Tryd.prog 32 #[.slice A0 l0.length c0] w fun e w' => ∃ v0_ : Value, e = .returned (v0_) ∧ Kd.N k33 33 w' w.heap.size (fun k_ => (w.heap.size ≤ k_)) v0_ r ∧ Below w.heap.size w w' := by
  have HR0 := Aside0.mk hr0
  have HC0 := Aside0.mk hc0
  clear hr0 hc0
  have HB := Aside0.mk (Below.refl w.heap.size w)
  have H : ((spec_newReader.f l0).bind fun bt525 => ((spec_anyGraph.f k bt525.1 bt525.2).bind fun bt528 => (if (bt528.1.length : Int) > 0 then ((spec_reader_pick.f k bt525.1 bt528.2 3).bind fun bt532 => (spec_DrawStuckTasks.j0 k bt528.1 (decide (bt532.1 > 0)) bt525.1 bt532.2)) else (spec_DrawStuckTasks.j0 k bt528.1 false bt525.1 bt528.2)))) = some r := h
  clear h
  replace H := Option.bind_eq_some_iff.mp H
  obtain ⟨⟨t525, t526⟩, A20, H⟩ := H
  replace H : ((spec_anyGraph.f k t525 t526).bind fun bt528 => (if (bt528.1.length : Int) > 0 then ((spec_reader_pick.f k t525 bt528.2 3).bind fun bt532 => (spec_DrawStuckTasks.j0 k bt528.1 (decide (bt532.1 > 0)) t525 bt532.2)) else (spec_DrawStuckTasks.j0 k bt528.1 false t525 bt528.2))) = some r := H
  have A2 := Aside0.mk A20
  clear A20
  replace H := Option.bind_eq_some_iff.mp H
  obtain ⟨⟨t528, t531⟩, A30, H⟩ := H
  replace H : (if (t528.length : Int) > 0 then ((spec_reader_pick.f k t525 t531 3).bind fun bt532 => (spec_DrawStuckTasks.j0 k t528 (decide (bt532.1 > 0)) t525 bt532.2)) else (spec_DrawStuckTasks.j0 k t528 false t525 t531)) = some r := H
  have A3 := Aside0.mk A30
  clear A30
  have HC4 := Aside0.mk H
  clear H
  go_enter Tryd.func32, Tryd.ntmps32
  go_upto_region 3 with (first | ((with_reducible refine gate_callee (f := 44) rfl ?_); refine goesL_ (some 7) rfl rfl Tryd.func44 (by kernel_rfl) rfl #[.slice A0 l0.length c0] rfl (by (try simp only [List.map_toArray, List.map_cons, List.map_nil]); first | done | rfl | (simp only [List.length_drop, List.length_take]; rfl)) ?_; (with_reducible refine (spec_newReader.calls _ _ l0 t525 t526 w _ ?side1 ?side2 ?side3 A2.out).mono ?_); (case side1 => repeat (first | (with_reducible first | exact HB.out | apply below_alloc | apply pw_below_drewN | apply below_drew1) | exact HB.out)); (case side2 => exact HR0.out); (case side3 => exact HC0.out); rintro e w5 ⟨g527, rfl, hi, hb, hb2⟩; refine ⟨_, rfl, ?_⟩; have n0_ := Aside0.mk (hb); have n1_ := Aside0.mk (hi); clear HB; have HB := n0_; have HI527 := n1_; clear n0_ n1_; (try clear hb); (try clear hb2); (try clear hk); (try clear hi)) | ((with_reducible refine gate_callee (f := 43) rfl ?_); refine goesL_ (some 9) rfl rfl Tryd.func43 (by kernel_rfl) rfl #[.pointer (some ⟨g527, 0, none⟩)] rfl (by (try simp only [List.map_toArray, List.map_cons, List.map_nil]); first | done | rfl | (simp only [List.length_drop, List.length_take]; rfl)) ?_; (with_reducible refine (spec_anyGraph.calls k g527 t525 t526 t528 t531 w _ ?side1 ?side2 A3.out).mono ?_); (case side1 => repeat (first | (with_reducible first | exact HI527.out | apply IsS78.alloc | apply IsS78.drewN | apply IsS78.drew | apply IsS78.set_1) | exact HI527.out)); (case side2 => repeat (first | (with_reducible first | exact HB.out | apply below_alloc | apply pw_below_drewN | apply below_drew1 | refine below_set ?_ (IsS78.ge HI527.out)) | exact HB.out)); rintro e w6 ⟨v529, rfl, ho0, hi, hb, hk⟩; refine ⟨_, rfl, ?_⟩; have n0_ := Aside0.mk (Kd.N_lower (Kd.N_mono (ok' := fun k_ => (w.heap.size ≤ k_) ∧ k_ ≠ g527) ho0 (fun k_ hk_ => ⟨(Nat.le_trans (below_size (by repeat (first | (with_reducible first | exact HB.out | apply below_alloc | apply pw_below_drewN | apply below_drew1 | refine below_set ?_ (IsS78.ge HI527.out)) | exact HB.out))) hk_), (IsS78.fresh (by repeat (first | (with_reducible first | exact HI527.out | apply IsS78.alloc | apply IsS78.drewN | apply IsS78.drew | apply IsS78.set_1) | exact HI527.out)) k_ hk_)⟩)) (below_size (by repeat (first | (with_reducible first | exact HB.out | apply below_alloc | apply pw_below_drewN | apply below_drew1 | refine below_set ?_ (IsS78.ge HI527.out)) | exact HB.out)))); have n1_ := Aside0.mk (hb); have n2_ := Aside0.mk (hi); clear HB; clear HI527; have HO530 := n0_; have HB := n1_; have HI527 := n2_; clear n0_ n1_ n2_; (try clear hb); (try clear hb2); (try clear hk); (try clear hi); (try clear ho0)))
  (try simp only [Act.put, List.setIfInBounds_toArray, List.set_cons_zero, List.set_cons_succ])
  go_cut [17] (fun v17 wc => ∃ (kq : Nat) (x17_3 : Bool) (x528001_3 : Int), v17 = .bool x17_3 ∧ Aside0 (spec_DrawStuckTasks.j0 kq t528 x17_3 t525 x528001_3 = some r) ∧ Aside0 (kq ≤ k) ∧ Aside0 (Kd.N k33 33 wc w.heap.size (fun k_ => (w.heap.size ≤ k_) ∧ k_ ≠ g527) v529 t528) ∧ Aside0 (IsS78 w wc g527 t525 x528001_3) ∧ Aside0 (Below w.heap.size w wc))
  case first =>
    have H := HC4.out
    clear HC4
    by_cases c7 : (t528.length : Int) > 0
    · rw [if_pos c7] at H
      have c7b0 : decide (0 < (t528.length : Int)) = true := decide_eq_true c7
      have c7b1 : decide (0 < t528.length) = true := decide_eq_true (by omega)
      clear c7
      (first | rw [c7b0] | (simp only [i64_w, i32_w]; rw [c7b0]) | skip)
      replace H := Option.bind_eq_some_iff.mp H
      obtain ⟨⟨t532, t533⟩, A80, H⟩ := H
      replace H : (spec_DrawStuckTasks.j0 k t528 (decide (t532 > 0)) t525 t533) = some r := H
      have A8 := Aside0.mk A80
      clear A80
      have H' := Aside0.mk H
      clear H
      obtain ⟨Ao9, co9, eo9⟩ := Kd.N_slice HO530.out
      subst eo9
      go_wp2_with (first | (go_at_call 52; (with_reducible refine (spec_reader_pick.calls k g527 t525 t531 3 t532 t533 w _ ?side1 ?side2 A8.out).mono ?_); (case side1 => repeat (first | (with_reducible first | exact HI527.out | apply IsS78.alloc | apply IsS78.drewN | apply IsS78.drew | apply IsS78.set_1) | exact HI527.out)); (case side2 => repeat (first | (with_reducible first | exact HB.out | apply below_alloc | apply pw_below_drewN | apply below_drew1 | refine below_set ?_ (IsS78.ge HI527.out)) | exact HB.out)); rintro e w10 ⟨rfl, hi, hb, hk⟩; have n0_ := Aside0.mk (Kd.N_mono (Kd.N_keep (Kd.N_mono (ok := fun k_ => (((w.heap.size ≤ k_)) ∧ k_ ≠ g527)) (by (with_reducible repeat (first | apply Kd.N_alloc | apply Kd.N_drewN | apply Kd.N_drew)); exact HO530.out) (fun k_ hk_ => (⟨hk_, hk_.2⟩ : _ ∧ k_ ≠ g527))) hk (fun _ h => h.2)) (fun _ h => h.1)); have n1_ := Aside0.mk (hb); have n2_ := Aside0.mk (hi); clear HO530; clear HB; clear HI527; have HO530 := n0_; have HB := n1_; have HI527 := n2_; clear n0_ n1_ n2_; (try clear hb); (try clear hb2); (try clear hk); (try clear hi)))
      go_meet
      case rel => exact ⟨_, (decide (t532 > 0)), (t533), (by first | rfl | (simp; done) | (simp [*]; done)), H', ⟨by first | omega | exact Nat.le_refl _⟩, ⟨by (with_reducible repeat (first | apply Kd.N_alloc | apply Kd.N_drewN | apply Kd.N_drew)); exact HO530.out⟩, ⟨by repeat (first | (with_reducible first | exact HI527.out | apply IsS78.alloc | apply IsS78.drewN | apply IsS78.drew | apply IsS78.set_1) | exact HI527.out)⟩, ⟨by repeat (first | (with_reducible first | exact HB.out | apply below_alloc | apply pw_below_drewN | apply below_drew1 | refine below_set ?_ (IsS78.ge HI527.out)) | exact HB.out)⟩⟩
    · rw [if_neg c7] at H
      have c7b0 : decide (0 < (t528.length : Int)) = false := decide_eq_false c7
      have c7b1 : decide (0 < t528.length) = false := decide_eq_false (by omega)
      clear c7
      (first | rw [c7b0] | (simp only [i64_w, i32_w]; rw [c7b0]) | skip)
      have H' := Aside0.mk H
      clear H
      obtain ⟨Ao11, co11, eo11⟩ := Kd.N_slice HO530.out
      subst eo11
      go_wp2
      go_meet
      case rel => exact ⟨_, (false), (t531), (by first | rfl | (simp; done) | (simp [*]; done)), H', ⟨by first | omega | exact Nat.le_refl _⟩, ⟨by (with_reducible repeat (first | apply Kd.N_alloc | apply Kd.N_drewN | apply Kd.N_drew)); exact HO530.out⟩, ⟨by repeat (first | (with_reducible first | exact HI527.out | apply IsS78.alloc | apply IsS78.drewN | apply IsS78.drew | apply IsS78.set_1) | exact HI527.out)⟩, ⟨by repeat (first | (with_reducible first | exact HB.out | apply below_alloc | apply pw_below_drewN | apply below_drew1 | refine below_set ?_ (IsS78.ge HI527.out)) | exact HB.out)⟩⟩
  case rest =>
    clear HC4
    try clear p2
    try clear c3
    try clear c4
    try clear c7
    try clear c7b0
    try clear c7b1
    obtain ⟨kq, x17_3, x528001_3, rfl, HA, HJ3, HO_4, HI527, HB⟩ := hcut
    cases kq with
    | zero => exact absurd HA.out (by simp [spec_DrawStuckTasks.j0])
    | succ kj3 =>
      have H := HA.out
      clear HA
      simp only [spec_DrawStuckTasks.j0] at H
      by_cases c12 : x17_3 = true
      · subst c12
        have H1 : ((spec_reader_pick.f kj3 t525 x528001_3 (t528.length : Int)).bind fun bt534 => (if 0 ≤ bt534.1 then (if bt534.1 < (t528.length : Int) then (if (((rd_T33 t528 bt534.1).f1).length : Int) = 0 then ((spec_reader_pick.f kj3 t525 bt534.2 (t528.length : Int)).bind fun bt537 => (some (t528.set (bt534.1 : Int).toNat (⟨(rd_T33 t528 bt534.1).f0, (([bt537.1] : List Int)), (rd_T33 t528 bt534.1).f2, (rd_T33 t528 bt534.1).f3⟩ : S33)))) else (some t528)) else (none)) else (none))) = some r := by rw [if_pos rfl] at H; exact H
        clear H
        have H := H1
        clear H1
        replace H := Option.bind_eq_some_iff.mp H
        obtain ⟨⟨t534, t535⟩, A130, H⟩ := H
        replace H : (if 0 ≤ t534 then (if t534 < (t528.length : Int) then (if (((rd_T33 t528 t534).f1).length : Int) = 0 then ((spec_reader_pick.f kj3 t525 t535 (t528.length : Int)).bind fun bt537 => (some (t528.set (t534 : Int).toNat (⟨(rd_T33 t528 t534).f0, (([bt537.1] : List Int)), (rd_T33 t528 t534).f2, (rd_T33 t528 t534).f3⟩ : S33)))) else (some t528)) else (none)) else (none)) = some r := H
        have A13 := Aside0.mk A130
        clear A130
        by_cases c14 : 0 ≤ t534
        · rw [if_pos c14] at H
          have c14b0 : decide (0 ≤ t534) = true := decide_eq_true c14
          clear c14
          by_cases c15 : t534 < (t528.length : Int)
          · rw [if_pos c15] at H
            have c15b0 : decide (t534 < (t528.length : Int)) = true := decide_eq_true c15
            clear c15
            by_cases c16 : (((rd_T33 t528 t534).f1).length : Int) = 0
            · rw [if_pos c16] at H
              have c16b0 : ((((rd_T33 t528 t534).f1).length : Int) == 0) = true := beq_iff_eq.mpr c16
              have c16b1 : ((((rd_T33 t528 t534).f1).length : Int) != 0) = false := bne_eq_false_iff_eq.mpr c16
              clear c16
              replace H := Option.bind_eq_some_iff.mp H
              obtain ⟨⟨t537, t538⟩, A170, H⟩ := H
              replace H : (some (t528.set (t534 : Int).toNat (⟨(rd_T33 t528 t534).f0, (([t537] : List Int)), (rd_T33 t528 t534).f2, (rd_T33 t528 t534).f3⟩ : S33))) = some r := H
              have A17 := Aside0.mk A170
              clear A170
              obtain ⟨y539, hy539⟩ : ∃ y_ : List Int, y_ = (([t537] : List Int)) := ⟨_, rfl⟩
              replace H : (some (t528.set (t534 : Int).toNat (⟨(rd_T33 t528 t534).f0, y539, (rd_T33 t528 t534).f2, (rd_T33 t528 t534).f3⟩ : S33))) = some r := by first | (rw [hy539]; with_reducible exact H) | (have H2_ := (Option.bind_some _ _).symm.trans H; rw [hy539]; with_reducible exact H2_) | (have H2_ := (Option.bind_some _ _).symm.trans H; with_reducible exact H2_) | with_reducible exact H | (rw [hy539]; exact H) | exact H
              have Ny539 := Aside0.mk hy539
              clear hy539
              obtain ⟨y542, hy542⟩ : ∃ y_ : List (S33), y_ = (t528.set (t534 : Int).toNat (⟨(rd_T33 t528 t534).f0, y539, (rd_T33 t528 t534).f2, (rd_T33 t528 t534).f3⟩ : S33)) := ⟨_, rfl⟩
              replace H : (some y542) = some r := by first | (rw [hy542]; with_reducible exact H) | (have H2_ := (Option.bind_some _ _).symm.trans H; rw [hy542]; with_reducible exact H2_) | (have H2_ := (Option.bind_some _ _).symm.trans H; with_reducible exact H2_) | with_reducible exact H | (rw [hy542]; exact H) | exact H
              have Ny542 := Aside0.mk hy542
              clear hy542
              obtain rfl := Option.some.inj H
              obtain ⟨Ao19, co19, eo19⟩ := Kd.N_slice HO_4.out
              subst eo19
              go_wp2_with (first | ((with_reducible refine gate_callee (f := 52) rfl ?_); refine goesL_ (some 21) rfl rfl Tryd.func52 (by kernel_rfl) rfl #[.pointer (some ⟨g527, 0, none⟩), .int .i64 (t528.length : Int)] rfl (by (try simp only [List.map_toArray, List.map_cons, List.map_nil]); first | done | rfl | (simp only [List.length_drop, List.length_take]; rfl)) ?_; (with_reducible refine (spec_reader_pick.calls kj3 g527 t525 x528001_3 (t528.length : Int) t534 t535 w _ ?side1 ?side2 A13.out).mono ?_); (case side1 => repeat (first | (with_reducible first | exact HI527.out | apply IsS78.alloc | apply IsS78.drewN | apply IsS78.drew | apply IsS78.set_1) | exact HI527.out)); (case side2 => repeat (first | (with_reducible first | exact HB.out | apply below_alloc | apply pw_below_drewN | apply below_drew1 | refine below_set ?_ (IsS78.ge HI527.out)) | exact HB.out)); rintro e w20 ⟨rfl, hi, hb, hk⟩; refine ⟨_, rfl, ?_⟩; have n0_ := Aside0.mk (Kd.N_mono (Kd.N_keep (Kd.N_mono (ok := fun k_ => (((w.heap.size ≤ k_)) ∧ k_ ≠ g527)) (by (with_reducible repeat (first | apply Kd.N_alloc | apply Kd.N_drewN | apply Kd.N_drew)); exact HO_4.out) (fun k_ hk_ => (⟨hk_, hk_.2⟩ : _ ∧ k_ ≠ g527))) hk (fun _ h => h.2)) (fun _ h => h.1)); have n1_ := Aside0.mk (hb); have n2_ := Aside0.mk (hi); clear HO_4; clear HB; clear HI527; have HO_4 := n0_; have HB := n1_; have HI527 := n2_; clear n0_ n1_ n2_; (try clear hb); (try clear hb2); (try clear hk); (try clear hi); have p536 : 0 ≤ (t534 : Int) := of_decide_eq_true (by first | (with_reducible assumption) | assumption); have q536 : t534 < (t528.length : Int) := of_decide_eq_true (by first | (with_reducible assumption) | assumption); obtain ⟨ad536, A536_1, c536_1, e536, hx536_0, hx536_1, hx536_2, hx536_3, hl536_1, hi536_1⟩ := at_T33 (Kd.N_reads' HO_4.out).2.2 t534 p536 q536; cases e536; obtain ⟨ce536, hce536, hMe536, hcc536⟩ := Kd.N_get HO_4.out z33 t534 p536 (by first | exact q536 | exact of_decide_eq_true (by first | (with_reducible assumption) | assumption) | (have e_ := (Kd.N_reads' HO_4.out).1; omega)); obtain ⟨ua536_1, uc536_1, rfl, ul536_1, ge536_1⟩ := k33_openF hMe536; have hv536_1 := hcc536 1 _ rfl; rw [add_field _ _ 1 (by omega)] at hv536_1; replace hv536_1 := Option.some.inj (hv536_1.symm.trans hx536_1); injection hv536_1 with hva_ hvn_ hvc_; rw [hva_] at ge536_1; rw [hvc_] at ul536_1; have HL536_1 := Aside0.mk (show Kd.V (Kd.int .i64) 3 _ w.heap.size _ _ ((rd_T33 t528 t534).f1) from Kd.V_mk ul536_1 ge536_1); clear hva_ hvn_ hvc_ ge536_1 ul536_1; clear hcc536 hce536; have HR536_1 := Aside0.mk hi536_1; have HC536_1 := Aside0.mk hl536_1; clear hi536_1 hl536_1; replace p536 := eq_true p536; replace q536 := eq_true q536) | ((with_reducible refine gate_callee (f := 52) rfl ?_); refine goesL_ (some 34) rfl rfl Tryd.func52 (by kernel_rfl) rfl #[.pointer (some ⟨g527, 0, none⟩), .int .i64 (t528.length : Int)] rfl (by (try simp only [List.map_toArray, List.map_cons, List.map_nil]); first | done | rfl | (simp only [List.length_drop, List.length_take]; rfl)) ?_; (with_reducible refine (spec_reader_pick.calls kj3 g527 t525 t535 (t528.length : Int) t537 t538 w _ ?side1 ?side2 A17.out).mono ?_); (case side1 => repeat (first | (with_reducible first | exact HI527.out | apply IsS78.alloc | apply IsS78.drewN | apply IsS78.drew | apply IsS78.set_1) | exact HI527.out)); (case side2 => repeat (first | (with_reducible first | exact HB.out | apply below_alloc | apply pw_below_drewN | apply below_drew1 | refine below_set ?_ (IsS78.ge HI527.out)) | exact HB.out)); rintro e w21 ⟨rfl, hi, hb, hk⟩; refine ⟨_, rfl, ?_⟩; have n0_ := Aside0.mk (Kd.N_mono (Kd.N_keep (Kd.N_mono (ok := fun k_ => (((w.heap.size ≤ k_)) ∧ k_ ≠ g527)) (by (with_reducible repeat (first | apply Kd.N_alloc | apply Kd.N_drewN | apply Kd.N_drew)); exact HO_4.out) (fun k_ hk_ => (⟨hk_, hk_.2⟩ : _ ∧ k_ ≠ g527))) hk (fun _ h => h.2)) (fun _ h => h.1)); have n1_ := Aside0.mk (Kd.V_mono (Kd.V_keep (Kd.V_mono (ok := fun k_ => ((((w.heap.size ≤ k_)) ∧ k_ ≠ g527) ∧ some k_ ≠ (.slice (some ad536) t528.length co19 : Value).ownBlock)) (by (with_reducible repeat (first | apply Kd.V_alloc | apply Kd.V_drewN | apply Kd.V_drew)); exact HL536_1.out) (fun k_ hk_ => (⟨hk_, hk_.1.2⟩ : _ ∧ k_ ≠ g527))) hk (fun _ h => h.2)) (fun _ h => h.1)); have n2_ := Aside0.mk (hb); have n3_ := Aside0.mk (hi); clear HO_4; clear HL536_1; clear HB; clear HI527; have HO_4 := n0_; have HL536_1 := n1_; have HB := n2_; have HI527 := n3_; clear n0_ n1_ n2_ n3_; (try clear hb); (try clear hb2); (try clear hk); (try clear hi)) | ((with_reducible refine gate_dst (N := 35) rfl ?_); refine Kd.R_lit (Kd.int .i64) _ 3 ?hg (N := 35) ?hd (xs := ([t537] : List Int)) (inner := [.int .i64 t537]) (ok := fun _ => True) (okp := fun _ => True) ?hr ?hp (fun _ hk => hk) trivial (Below.refl _ _) (Nat.le_refl _) (by simp) ?_; (case hd => rfl); (case hg => rfl); (case hr => first | (go_simp; done) | (go_simp; rfl)); (case hp => exact (Reps.one (show Kd.M (Kd.int .i64) _ _ _ t537 [.int .i64 t537] from rfl) (Reps.none _ _))); intro v540 w22 ho23 hb hg_ hnew_; clear hg_ hnew_; (first | rw [← Ny539.out] at ho23 | (simp only [Int.reduceToNat] at ho23; rw [← Ny539.out] at ho23)); have n0_ := Aside0.mk (Kd.N_elder' (by (with_reducible repeat (first | apply Kd.N_alloc | apply Kd.N_drewN | apply Kd.N_drew)); exact HO_4.out) (Kd.R_base ho23) hb); have n1_ := Aside0.mk (Kd.V_elder' (by (with_reducible repeat (first | apply Kd.V_alloc | apply Kd.V_drewN | apply Kd.V_drew)); exact HL536_1.out) (Kd.R_base ho23) hb); have n2_ := Aside0.mk (Kd.R_lower (Kd.R_newM (M := fun k_ => (w.heap.size ≤ k_)) ho23 (below_size (by repeat (first | (with_reducible first | exact HB.out | apply below_alloc | apply pw_below_drewN | apply below_drew1 | refine below_set ?_ (IsS78.ge HI527.out)) | exact HB.out))) (fun k_ h_ => h_)) (below_size (by repeat (first | (with_reducible first | exact HB.out | apply below_alloc | apply pw_below_drewN | apply below_drew1 | refine below_set ?_ (IsS78.ge HI527.out)) | exact HB.out)))); have n3_ := Aside0.mk (IsS78.below (by repeat (first | (with_reducible first | exact HI527.out | apply IsS78.alloc | apply IsS78.drewN | apply IsS78.drew | apply IsS78.set_1) | exact HI527.out)) hb); have n4_ := Aside0.mk (below_step (by repeat (first | (with_reducible first | exact HB.out | apply below_alloc | apply pw_below_drewN | apply below_drew1 | refine below_set ?_ (IsS78.ge HI527.out)) | exact HB.out)) hb); clear HO_4; clear HL536_1; clear HI527; clear HB; have HO_4 := n0_; have HL536_1 := n1_; have HO541 := n2_; have HI527 := n3_; have HB := n4_; clear n0_ n1_ n2_ n3_ n4_; clear hb ho23; have p18 : 0 ≤ (t534 : Int) := of_decide_eq_true (by first | (with_reducible assumption) | assumption); have q18 : (t534 : Int) < ((t528.length : Int) : Int) := of_decide_eq_true (by first | (with_reducible assumption) | assumption); obtain ⟨go18, co18, eo18, gb18, gl18, cl18, HG18⟩ := Kd.N_form HO_4.out (by omega); (first | cases eo18 | (injection eo18 with ea_ en_ ec_; (first | subst ea_ | (injection ea_ with ea_; subst ea_)); subst ec_; clear en_)); have GB18 := Aside0.mk gb18; have GG18 := Aside0.mk HG18; clear gb18 gl18 HG18; (first | simp only [add_plain] at hx536_0 | skip); (first | simp only [add_plain] at hx536_1 | skip); (first | simp only [add_plain] at hx536_2 | skip); (first | simp only [add_plain] at hx536_3 | skip); obtain ⟨ce18, hcl18, hM18, hcc18, hfr18⟩ := Kd.N_elem HO_4.out z33 (t534 : Int) p18 q18; obtain ⟨ua18_1, uc18_1, rfl, ul18_1, ge18_1⟩ := k33_openF hM18; have hx18_0 : w22.cell? ⟨go18, (t534 : Int).toNat * 4, none⟩ = some (.int .i64 ((rd_T33 t528 t534).f0)) := hcc18 0 _ rfl; have hx18_1 : w22.cell? ⟨go18, (t534 : Int).toNat * 4 + 1, none⟩ = some (.slice ua18_1 ((rd_T33 t528 t534).f1).length uc18_1) := hcc18 1 _ rfl; have hx18_2 : w22.cell? ⟨go18, (t534 : Int).toNat * 4 + 2, none⟩ = some (.int .i64 ((rd_T33 t528 t534).f2)) := hcc18 2 _ rfl; have hx18_3 : w22.cell? ⟨go18, (t534 : Int).toNat * 4 + 3, none⟩ = some (.int .i64 ((rd_T33 t528 t534).f3)) := hcc18 3 _ rfl; have hf18_0 : w22.frozen? ⟨go18, (t534 : Int).toNat * 4, none⟩ = false := hfr18 0; have hf18_1 : w22.frozen? ⟨go18, (t534 : Int).toNat * 4 + 1, none⟩ = false := hfr18 1; have hf18_2 : w22.frozen? ⟨go18, (t534 : Int).toNat * 4 + 2, none⟩ = false := hfr18 2; have hf18_3 : w22.frozen? ⟨go18, (t534 : Int).toNat * 4 + 3, none⟩ = false := hfr18 3; clear hcl18 hcc18 hfr18 hM18; replace p18 := eq_true p18; replace q18 := eq_true q18; obtain ⟨Ao24, co24, eo24⟩ := Kd.R_slice HO541.out; subst eo24; have n_ := Aside0.mk (Kd.N_mono (ok' := (fun k_ => (w.heap.size ≤ k_) ∧ some k_ ≠ (.slice Ao24 y539.length co24 : Value).ownBlock)) HO_4.out (fun k_ hk => ⟨hk.1.1, hk.2⟩)); clear HO_4; have HO_4 := n_; clear n_; have HX25 := Aside0.mk (show Kd.N k33 33 w22 w.heap.size (fun k_ => (w.heap.size ≤ k_)) (.slice (some ⟨go18, 0, none⟩) t528.length co19) t528 from (by (with_reducible repeat (first | apply Kd.N_alloc | apply Kd.N_drewN | apply Kd.N_drew)); exact Kd.N_mono HO_4.out (fun _ hk => hk.1))); obtain ⟨ce25, hcl25, hM25, hcc25, hfr25⟩ := Kd.N_elem HX25.out z33 (t534 : Int) (of_decide_eq_true (by first | (with_reducible assumption) | assumption)) (by have h_ : (t534 : Int) < ((t528.length : Int) : Int) := of_decide_eq_true (by first | (with_reducible assumption) | assumption); first | exact h_ | (have e_ := (Kd.N_reads' HO_4.out).1; omega) | simpa using h_); obtain ⟨ua25_1, uc25_1, rfl, ul25_1, ge25_1⟩ := k33_openF hM25; have HP25 := Kd.N_seg HX25.out (t534 : Int) (of_decide_eq_true (by first | (with_reducible assumption) | assumption)) (by have h_ : (t534 : Int) < ((t528.length : Int) : Int) := of_decide_eq_true (by first | (with_reducible assumption) | assumption); first | exact h_ | (have e_ := (Kd.N_reads' HO_4.out).1; omega) | simpa using h_) (seg := [.slice Ao24 y539.length co24]) (j := 1) hcl25 hcc25 (show 2 ≤ 4 from by decide) (x' := (⟨(rd_T33 t528 t534).f0, y539, (rd_T33 t528 t534).f2, (rd_T33 t528 t534).f3⟩ : S33)) (k33_mkF _ _ (⟨(rd_T33 t528 t534).f0, y539, (rd_T33 t528 t534).f2, (rd_T33 t528 t534).f3⟩ : S33) (Kd.R_reads' (Kd.R_mono (ok' := (fun k_ => ((fun k_ => (w.heap.size ≤ k_))) k_ ∧ k_ ≠ go18)) (Kd.R_apart' (HO541.out) (Kd.N_typed HO_4.out) (by decide)) (fun k_ hk => ⟨hk.1.1, fun e_ => (hk.2) (by rw [e_]; rfl)⟩))).2.1 (Kd.R_F (Kd.R_mono (ok' := (fun k_ => ((fun k_ => (w.heap.size ≤ k_))) k_ ∧ k_ ≠ go18)) (Kd.R_apart' (HO541.out) (Kd.N_typed HO_4.out) (by decide)) (fun k_ hk => ⟨hk.1.1, fun e_ => (hk.2) (by rw [e_]; rfl)⟩)))) (fun _ hk => hk); have hx25_1 := hcc25 1 _ rfl; (try simp only [show (k33).sz = 4 from rfl, Nat.mul_one, Nat.add_zero] at hx25_1); have hf25_1 := hfr25 1; (try simp only [show (k33).sz = 4 from rfl, Nat.mul_one, Nat.add_zero] at hf25_1); clear hcl25 hcc25 hfr25 hM25) | ((with_reducible refine gate_store (t := 31) (p := 37) rfl ?_); refine store_event (t := 31) (p := 37) (v := ?vo_w26) (w1 := (w22.setCell ⟨go18, (t534 : Int).toNat * 4 + 1, none⟩ (.slice Ao24 y539.length co24))) ?hg ?ho ?hn ?hr ?_; (case ho => rfl); (case hg => rfl); (case hn => rfl); (case hr => first | (go_simp; done) | (go_simp; rfl)); intro w26 hw; have hg : w22.grownBy w26 (some go18) := (by rw [hw]; exact HP25.2); have hp_ : Kd.N k33 33 w26 w.heap.size (fun k_ => (w.heap.size ≤ k_)) (.slice (some ⟨go18, 0, none⟩) t528.length co19) y542 := (by rw [hw, Ny542.out]; exact HP25.1); clear HP25; have n0_ := Aside0.mk (hp_); have n1_ := Aside0.mk (IsS78.grown (by repeat (first | (with_reducible first | exact HI527.out | apply IsS78.alloc | apply IsS78.drewN | apply IsS78.drew | apply IsS78.set_1) | exact HI527.out)) hg (IsS78.own_neN HI527.out HO_4.out (by decide))); have n2_ := Aside0.mk (Kd.V_afterv (v := (.slice (some ⟨go18, 0, none⟩) t528.length co19)) (v1 := (.slice (some ⟨go18, 0, none⟩) t528.length co19)) (ok := (fun k_ => (w.heap.size ≤ k_) ∧ some k_ ≠ (.slice Ao24 y539.length co24 : Value).ownBlock ∧ k_ ≠ g527)) (by (with_reducible repeat (first | apply Kd.V_alloc | apply Kd.V_drewN | apply Kd.V_drew)); exact Kd.V_mono HL536_1.out (fun _ hk => ⟨⟨hk.1.1.1, ⟨hk.2, hk.1.1.2⟩⟩, hk.1.2⟩)) hg (.inl rfl)); have n3_ := Aside0.mk ((by rw [hw]; exact below_set (HB.out) GB18.out : Below w.heap.size w w26)); clear HO_4; clear HI527; clear HL536_1; clear HB; clear HO541; have HO_4 := n0_; have HI527 := n1_; have HL536_1 := n2_; have HB := n3_; clear n0_ n1_ n2_ n3_; clear hg hw hp_))
              go_ret
              exact ⟨_, by first | rfl | (simp [errW_none, errW_some] <;> rfl) | (simp [*, errW_none, errW_some] <;> rfl), by (with_reducible repeat (first | apply Kd.N_alloc | apply Kd.N_drewN | apply Kd.N_drew)); exact HO_4.out, by repeat (first | (with_reducible first | exact HB.out | apply below_alloc | apply pw_below_drewN | apply below_drew1 | refine below_set ?_ (IsS78.ge HI527.out)) | exact HB.out)⟩
            · rw [if_neg c16] at H
              have c16b0 : ((((rd_T33 t528 t534).f1).length : Int) == 0) = false := beq_eq_false_iff_ne.mpr c16
              have c16b1 : ((((rd_T33 t528 t534).f1).length : Int) != 0) = true := bne_iff_ne.mpr c16
              have c16b2 : ¬ (((rd_T33 t528 t534).f1) = []) := fun h_ => c16 (by rw [h_]; rfl)
              obtain rfl := Option.some.inj H
              obtain ⟨Ao27, co27, eo27⟩ := Kd.N_slice HO_4.out
              subst eo27
              go_wp2_with (first | ((with_reducible refine gate_callee (f := 52) rfl ?_); refine goesL_ (some 21) rfl rfl Tryd.func52 (by kernel_rfl) rfl #[.pointer (some ⟨g527, 0, none⟩), .int .i64 (t528.length : Int)] rfl (by (try simp only [List.map_toArray, List.map_cons, List.map_nil]); first | done | rfl | (simp only [List.length_drop, List.length_take]; rfl)) ?_; (with_reducible refine (spec_reader_pick.calls kj3 g527 t525 x528001_3 (t528.length : Int) t534 t535 w _ ?side1 ?side2 A13.out).mono ?_); (case side1 => repeat (first | (with_reducible first | exact HI527.out | apply IsS78.alloc | apply IsS78.drewN | apply IsS78.drew | apply IsS78.set_1) | exact HI527.out)); (case side2 => repeat (first | (with_reducible first | exact HB.out | apply below_alloc | apply pw_below_drewN | apply below_drew1 | refine below_set ?_ (IsS78.ge HI527.out)) | exact HB.out)); rintro e w28 ⟨rfl, hi, hb, hk⟩; refine ⟨_, rfl, ?_⟩; have n0_ := Aside0.mk (Kd.N_mono (Kd.N_keep (Kd.N_mono (ok := fun k_ => (((w.heap.size ≤ k_)) ∧ k_ ≠ g527)) (by (with_reducible repeat (first | apply Kd.N_alloc | apply Kd.N_drewN | apply Kd.N_drew)); exact HO_4.out) (fun k_ hk_ => (⟨hk_, hk_.2⟩ : _ ∧ k_ ≠ g527))) hk (fun _ h => h.2)) (fun _ h => h.1)); have n1_ := Aside0.mk (hb); have n2_ := Aside0.mk (hi); clear HO_4; clear HB; clear HI527; have HO_4 := n0_; have HB := n1_; have HI527 := n2_; clear n0_ n1_ n2_; (try clear hb); (try clear hb2); (try clear hk); (try clear hi); have p536 : 0 ≤ (t534 : Int) := of_decide_eq_true (by first | (with_reducible assumption) | assumption); have q536 : t534 < (t528.length : Int) := of_decide_eq_true (by first | (with_reducible assumption) | assumption); obtain ⟨ad536, A536_1, c536_1, e536, hx536_0, hx536_1, hx536_2, hx536_3, hl536_1, hi536_1⟩ := at_T33 (Kd.N_reads' HO_4.out).2.2 t534 p536 q536; cases e536; obtain ⟨ce536, hce536, hMe536, hcc536⟩ := Kd.N_get HO_4.out z33 t534 p536 (by first | exact q536 | exact of_decide_eq_true (by first | (with_reducible assumption) | assumption) | (have e_ := (Kd.N_reads' HO_4.out).1; omega)); obtain ⟨ua536_1, uc536_1, rfl, ul536_1, ge536_1⟩ := k33_openF hMe536; have hv536_1 := hcc536 1 _ rfl; rw [add_field _ _ 1 (by omega)] at hv536_1; replace hv536_1 := Option.some.inj (hv536_1.symm.trans hx536_1); injection hv536_1 with hva_ hvn_ hvc_; rw [hva_] at ge536_1; rw [hvc_] at ul536_1; have HL536_1 := Aside0.mk (show Kd.V (Kd.int .i64) 3 _ w.heap.size _ _ ((rd_T33 t528 t534).f1) from Kd.V_mk ul536_1 ge536_1); clear hva_ hvn_ hvc_ ge536_1 ul536_1; clear hcc536 hce536; have HR536_1 := Aside0.mk hi536_1; have HC536_1 := Aside0.mk hl536_1; clear hi536_1 hl536_1; replace p536 := eq_true p536; replace q536 := eq_true q536))
              go_ret
              exact ⟨_, by first | rfl | (simp [errW_none, errW_some] <;> rfl) | (simp [*, errW_none, errW_some] <;> rfl), by (with_reducible repeat (first | apply Kd.N_alloc | apply Kd.N_drewN | apply Kd.N_drew)); exact Kd.N_mono HO_4.out (fun _ hk => hk.1), by repeat (first | (with_reducible first | exact HB.out | apply below_alloc | apply pw_below_drewN | apply below_drew1 | refine below_set ?_ (IsS78.ge HI527.out)) | exact HB.out)⟩
          · rw [if_neg c15] at H
            exact absurd H (by simp)
        · rw [if_neg c14] at H
          exact absurd H (by simp)
      · replace c12 := Bool.eq_false_iff.mpr c12
        subst c12
        have H1 : (some t528) = some r := by rw [if_neg (show ¬ (false = true) by decide)] at H; exact H
        clear H
        have H := H1
        clear H1
        obtain rfl := Option.some.inj H
        go_wp2
        go_ret
        exact ⟨_, by first | rfl | (simp [errW_none, errW_some] <;> rfl) | (simp [*, errW_none, errW_some] <;> rfl), by (with_reducible repeat (first | apply Kd.N_alloc | apply Kd.N_drewN | apply Kd.N_drew)); exact Kd.N_mono HO_4.out (fun _ hk => hk.1), by repeat (first | (with_reducible first | exact HB.out | apply below_alloc | apply pw_below_drewN | apply below_drew1 | refine below_set ?_ (IsS78.ge HI527.out)) | exact HB.out)⟩

end Go.Proofs.YtegogaokcafpjaaDoor.Q
