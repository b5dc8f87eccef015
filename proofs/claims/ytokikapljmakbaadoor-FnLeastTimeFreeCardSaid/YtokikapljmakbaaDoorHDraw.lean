/- spec.anyGraph, case 1: an element's row of needs is appended to and then replaced by what 'spoil' makes of it. -/
import Derived.Test.YtokikapljmakbaaDoorHT
import Derived.Test.YtokikapljmakbaaDoorQx16
import Derived.Test.YtokikapljmakbaaDoorQx15
namespace Go.Proofs.YtokikapljmakbaaDoor.Q
open Go.RowKit Go.Proofs.YtokikapljmakbaaDoorW.PrintWords Go.Proofs.YtokikapljmakbaaDoorW.PrintLast Go.Proofs.YtokikapljmakbaaDoorW.PrintMore
attribute [local go_sem] max2_int min2_int max_two min_two max_three min_three max_four min_four
set_option linter.unusedVariables false
set_option linter.unusedSimpArgs false
def draw_T9 : Bool × List (List Nat × List Nat) := (true, [([], []), ([], []), ([], []), ([], []), ([], []), ([3, 4], [3, 4]), ([5], [5]), ([6], [6]), ([], []), ([], []), ([9], [9]), ([8, 10], [8, 10]), ([11], [11]), ([7, 12, 11], [7, 12]), ([2, 13, 13], [2, 13]), ([0, 1, 0, 1, 2, 3, 4, 5, 6, 7, 8, 9, 10, 11, 12, 13, 14], [0, 1]), ([15, 0, 1, 2, 3, 4, 5, 6, 7, 8, 9, 10, 11, 12, 13, 14], [15]), ([16, 14, 14, 0, 1, 2, 3, 4, 5, 6, 7, 8, 9, 10, 11, 12, 13, 14], [14, 16])])
def draw_B9 : List Nat := [0, 0, 0, 0, 0, 24, 56, 120, 0, 0, 512, 1792, 3840, 8184, 16380, 32767, 65535, 131071]
theorem draw_tab9 : rtab .any (opsOf Tryd.f55 9) = draw_T9 := by kernel_rfl
theorem draw_bits9 : waitsOk draw_T9.2 draw_B9 = true := by kernel_rfl
set_option maxHeartbeats 8000000 in
set_option maxRecDepth 100000 in
theorem anyGraph_spoiled (k g : Nat) (s0_0 : List Int) (s0_1 : Int) (w0 w : World) (hI : IsS88 w0 w g s0_0 s0_1) (hB : Below w0.heap.size w0 w) {gr : List S29} {pa ix pb wh pc nx pd : Int} {nd : List Int} {pe : Int}
    (a2 : spec_someGraph.f k s0_0 s0_1 8 = some (gr, pa)) (a6 : spec_reader_pick.f k s0_0 pa (gr.length : Int) = some (ix, pb)) (a7 : spec_reader_pick.f k s0_0 pb 24 = some (wh, pc)) (hwh : wh = 1) (a26 : spec_reader_pick.f k s0_0 pc (gr.length : Int) = some (nx, pd))
    (hcap : (rd_T29 gr ix).f1.length < 17592186044416) (asp : spec_reader_spoil.f k s0_0 pd ((rd_T29 gr ix).f1 ++ [nx]) 8 = some (nd, pe)) (h0 : 0 ≤ ix) (h1 : ix < (gr.length : Int)) :
    Calls Tryd.prog 55 #[.pointer (some ⟨g, 0, none⟩)] w fun e w' => ∃ v0_ : Value, e = .returned (v0_) ∧ Kd.N k29 29 w' w.heap.size (fun k_ => (w.heap.size ≤ k_)) v0_ (gr.set (ix : Int).toNat (⟨(rd_T29 gr ix).f0, nd, (rd_T29 gr ix).f2, (rd_T29 gr ix).f3⟩ : S29)) ∧ IsS88 w0 w' g s0_0 pe ∧ Below w0.heap.size w0 w' ∧ KeepBut w w' g none := by
  have HI0 := Aside0.mk hI
  have HK := Aside0.mk (KeepBut.refl w g none)
  have HL := Aside0.mk hB.size
  have HW0 := Aside0.mk hB.size
  have HB := Aside0.mk hB
  have c3b0 : ((gr.length : Int) == 0) = false := beq_eq_false_iff_ne.mpr (by omega)
  have c3b1 : ((gr.length : Int) != 0) = true := bne_iff_ne.mpr (by omega)
  have c8b0 : (wh == 0) = false := beq_eq_false_iff_ne.mpr (by omega)
  have c8b1 : (wh != 0) = true := bne_iff_ne.mpr (by omega)
  have c23b0 : (wh == 1) = true := beq_iff_eq.mpr hwh
  have c23b1 : (wh != 1) = false := bne_eq_false_iff_eq.mpr hwh
  have c24b0 : decide (0 ≤ ix) = true := decide_eq_true h0
  have c25b0 : decide (ix < (gr.length : Int)) = true := decide_eq_true h1
  have LMc := Aside0.mk hcap
  obtain ⟨yr, hyr⟩ : ∃ y_ : List Int, y_ = (((rd_T29 gr ix).f1) ++ [nx]) := ⟨_, rfl⟩
  rw [← hyr] at asp
  have Nyr := Aside0.mk hyr
  have AS := Aside0.mk asp
  have A2 := Aside0.mk a2
  have A6 := Aside0.mk a6
  have A7 := Aside0.mk a7
  have A26 := Aside0.mk a26
  clear hI hB a2 a6 a7 hwh a26 hcap asp h0 h1 hyr
  go_enter Tryd.func55, Tryd.ntmps55
  try go_wp2_with (first | ((with_reducible refine gate_callee (f := 71) rfl ?_); refine goesL_ (some 6) rfl rfl Tryd.func71 (by kernel_rfl) rfl #[.pointer (some ⟨g, 0, none⟩), .int .i64 8] rfl (by (try simp only [List.map_toArray, List.map_cons, List.map_nil]); first | done | rfl | (simp only [List.length_drop, List.length_take]; rfl)) ?_; (with_reducible refine (spec_someGraph.calls k g s0_0 s0_1 8 gr pa w0 _ ?side1 ?side2 A2.out).mono ?_); (case side1 => repeat (first | (with_reducible first | exact HI0.out | apply IsS88.alloc | apply IsS88.drewN | apply IsS88.drew | apply IsS88.set_1) | exact HI0.out)); (case side2 => repeat (first | (with_reducible first | exact HB.out | apply below_alloc | apply pw_below_drewN | apply below_drew1 | refine below_set ?_ (IsS88.ge HI0.out)) | exact HB.out)); rintro e w29 ⟨v236, rfl, ho0, hi, hb, hk⟩; refine ⟨_, rfl, ?_⟩; have n0_ := Aside0.mk (Kd.S_lower ho0 (keep_size (w := w) (g := g) (row := none) (by repeat (first | (with_reducible first | exact HK.out | apply KeepBut.set_ | apply keep_drewN | apply keep_drew | apply keep_alloc) | exact HK.out)))); have n1_ := Aside0.mk (KeepBut.trans (by repeat (first | (with_reducible first | exact HK.out | apply KeepBut.set_ | apply keep_drewN | apply keep_drew | apply keep_alloc) | exact HK.out)) hk (.inl rfl)); have n2_ := Aside0.mk (hb); have n3_ := Aside0.mk (hi); clear HK; clear HB; clear HI0; have HO237 := n0_; have HK := n1_; have HB := n2_; have HI0 := n3_; clear n0_ n1_ n2_ n3_; (try clear hb); (try clear hb2); (try clear hk); (try clear hi); (try clear ho0); obtain ⟨Ao30, co30, eo30⟩ := Kd.S_slice HO237.out; subst eo30) | ((with_reducible refine gate_callee (f := 72) rfl ?_); refine goesL_ (some 14) rfl rfl Tryd.func72 (by kernel_rfl) rfl #[.pointer (some ⟨g, 0, none⟩), .int .i64 (gr.length : Int)] rfl (by (try simp only [List.map_toArray, List.map_cons, List.map_nil]); first | done | rfl | (simp only [List.length_drop, List.length_take]; rfl)) ?_; (with_reducible refine (spec_reader_pick.calls k g s0_0 pa (gr.length : Int) ix pb w0 _ ?side1 ?side2 A6.out).mono ?_); (case side1 => repeat (first | (with_reducible first | exact HI0.out | apply IsS88.alloc | apply IsS88.drewN | apply IsS88.drew | apply IsS88.set_1) | exact HI0.out)); (case side2 => repeat (first | (with_reducible first | exact HB.out | apply below_alloc | apply pw_below_drewN | apply below_drew1 | refine below_set ?_ (IsS88.ge HI0.out)) | exact HB.out)); rintro e w31 ⟨rfl, hi, hb, hk⟩; refine ⟨_, rfl, ?_⟩; have n0_ := Aside0.mk (Kd.S_mono (Kd.S_keep (IsS88.apartS (show IsS88 w0 _ g s0_0 pa from by repeat (first | (with_reducible first | exact HI0.out | apply IsS88.alloc | apply IsS88.drewN | apply IsS88.drew | apply IsS88.set_1) | exact HI0.out)) (by (with_reducible repeat (first | apply Kd.S_alloc | apply Kd.S_drewN | apply Kd.S_drew)); exact HO237.out) (by decide)) hk (fun _ h => h.2)) (fun _ h => h.1)); have n1_ := Aside0.mk (KeepBut.trans (by repeat (first | (with_reducible first | exact HK.out | apply KeepBut.set_ | apply keep_drewN | apply keep_drew | apply keep_alloc) | exact HK.out)) hk (.inl rfl)); have n2_ := Aside0.mk (hb); have n3_ := Aside0.mk (hi); clear HO237; clear HK; clear HB; clear HI0; have HO237 := n0_; have HK := n1_; have HB := n2_; have HI0 := n3_; clear n0_ n1_ n2_ n3_; (try clear hb); (try clear hb2); (try clear hk); (try clear hi)) | ((with_reducible refine gate_callee (f := 72) rfl ?_); refine goesL_ (some 16) rfl rfl Tryd.func72 (by kernel_rfl) rfl #[.pointer (some ⟨g, 0, none⟩), .int .i64 24] rfl (by (try simp only [List.map_toArray, List.map_cons, List.map_nil]); first | done | rfl | (simp only [List.length_drop, List.length_take]; rfl)) ?_; (with_reducible refine (spec_reader_pick.calls k g s0_0 pb 24 wh pc w0 _ ?side1 ?side2 A7.out).mono ?_); (case side1 => repeat (first | (with_reducible first | exact HI0.out | apply IsS88.alloc | apply IsS88.drewN | apply IsS88.drew | apply IsS88.set_1) | exact HI0.out)); (case side2 => repeat (first | (with_reducible first | exact HB.out | apply below_alloc | apply pw_below_drewN | apply below_drew1 | refine below_set ?_ (IsS88.ge HI0.out)) | exact HB.out)); rintro e w32 ⟨rfl, hi, hb, hk⟩; refine ⟨_, rfl, ?_⟩; have n0_ := Aside0.mk (Kd.S_mono (Kd.S_keep (IsS88.apartS (show IsS88 w0 _ g s0_0 pb from by repeat (first | (with_reducible first | exact HI0.out | apply IsS88.alloc | apply IsS88.drewN | apply IsS88.drew | apply IsS88.set_1) | exact HI0.out)) (by (with_reducible repeat (first | apply Kd.S_alloc | apply Kd.S_drewN | apply Kd.S_drew)); exact HO237.out) (by decide)) hk (fun _ h => h.2)) (fun _ h => h.1)); have n1_ := Aside0.mk (KeepBut.trans (by repeat (first | (with_reducible first | exact HK.out | apply KeepBut.set_ | apply keep_drewN | apply keep_drew | apply keep_alloc) | exact HK.out)) hk (.inl rfl)); have n2_ := Aside0.mk (hb); have n3_ := Aside0.mk (hi); clear HO237; clear HK; clear HB; clear HI0; have HO237 := n0_; have HK := n1_; have HB := n2_; have HI0 := n3_; clear n0_ n1_ n2_ n3_; (try clear hb); (try clear hb2); (try clear hk); (try clear hi)))
  have n0_ := Aside0.mk (Kd.S_drew HO237.out)
  have n1_ := Aside0.mk (IsS88.drew HI0.out)
  have n2_ := Aside0.mk (keep_drew HK.out)
  have n3_ := Aside0.mk (below_drew1 HB.out)
  clear HO237
  clear HI0
  clear HK
  clear HB
  have HO237 := n0_
  have HI0 := n1_
  have HK := n2_
  have HB := n3_
  clear n0_ n1_ n2_ n3_
  have p249 : 0 ≤ (ix : Int) := of_decide_eq_true (by first | (with_reducible assumption) | assumption)
  have q249 : ix < (gr.length : Int) := of_decide_eq_true (by first | (with_reducible assumption) | assumption)
  obtain ⟨ad249, A249_1, c249_1, e249, hx249_0, hx249_1, hx249_2, hx249_3, hl249_1, hi249_1⟩ := at_T29 (Kd.S_reads' HO237.out).2.2 ix p249 q249
  cases e249
  obtain ⟨ce249, hce249, hMe249, hcc249⟩ := Kd.S_get HO237.out z29 ix p249 (by first | exact q249 | exact of_decide_eq_true (by first | (with_reducible assumption) | assumption) | (have e_ := (Kd.S_reads' HO237.out).1; omega))
  obtain ⟨ve249_1, rfl, ge249_1⟩ := k29_openM hMe249
  have hv249_1 := hcc249 1 _ rfl
  rw [add_field _ _ 1 (by omega)] at hv249_1
  replace hv249_1 := Option.some.inj (hv249_1.symm.trans hx249_1)
  rw [hv249_1] at ge249_1
  have HL249_1 := Aside0.mk (show Kd.R (Kd.int .i64) 3 _ _ _ _ ((rd_T29 gr ix).f1) from ge249_1)
  clear hv249_1 ge249_1
  have HX249_1 := Aside0.mk hx249_1
  clear hcc249 hce249
  have HR249_1 := Aside0.mk hi249_1
  have HC249_1 := Aside0.mk hl249_1
  clear hi249_1 hl249_1
  replace p249 := eq_true p249
  replace q249 := eq_true q249
  refine start_ (n := 18) (S := fun w' => w'.cell? (ad249.add ((ix).toNat * 4)) = some (.int .i64 ((rd_T29 gr ix).f0)) ∧ w'.cell? ⟨(ad249.add ((ix).toNat * 4)).block, (ad249.add ((ix).toNat * 4)).off + 1, none⟩ = some (.slice A249_1 ((rd_T29 gr ix).f1).length c249_1) ∧ w'.cell? ⟨(ad249.add ((ix).toNat * 4)).block, (ad249.add ((ix).toNat * 4)).off + 2, none⟩ = some (.int .i64 ((rd_T29 gr ix).f2)) ∧ w'.cell? ⟨(ad249.add ((ix).toNat * 4)).block, (ad249.add ((ix).toNat * 4)).off + 3, none⟩ = some (.int .i64 ((rd_T29 gr ix).f3))) (ds := [17]) #[false, false, false, false, false, false, false, false, false, false, false, false, false, false, false, false, false, false] (by kernel_rfl) rfl rfl ⟨hx249_0, hx249_1, hx249_2, hx249_3⟩ (fun hHeld => ?_); refine with_tabW draw_tab9 draw_bits9 (fun HT_ HW_ => ?_)
  generalize w32.drew = w33 at HO237 HI0 HK HB HL249_1 HR249_1 HX249_1 hx249_0 hx249_1 hx249_2 hx249_3 hHeld ⊢
  refine pure_ (i := 0) (N := some 28) (v := ?_) (a' := ?_) #[true, false, false, false, false, false, false, false, false, false, false, false, false, false, false, false, false, false] rfl rfl (any_of HT_.out (by kernel_rfl)) (fun _ _ _ h => h) (Or.inl ⟨by rfl, ?_⟩) ?_ ?_
  rotate_left
  · intro w'
    go_simp
    with_reducible rfl
  rotate_left
  · simp only [Act.put, List.setIfInBounds_toArray, List.set_cons_zero, List.set_cons_succ, i64_w, i32_w]
    rfl
  refine pure_ (i := 1) (N := some 29) (v := ?_) (a' := ?_) #[true, true, false, false, false, false, false, false, false, false, false, false, false, false, false, false, false, false] rfl rfl (any_of HT_.out (by kernel_rfl)) (fun _ _ _ h => h) (Or.inl ⟨by rfl, ?_⟩) ?_ ?_
  rotate_left
  · intro w'
    go_simp
    with_reducible rfl
  rotate_left
  · simp only [Act.put, List.setIfInBounds_toArray, List.set_cons_zero, List.set_cons_succ, i64_w, i32_w]
    rfl
  refine pure_ (i := 2) (N := some 30) (v := ?_) (a' := ?_) #[true, true, true, false, false, false, false, false, false, false, false, false, false, false, false, false, false, false] rfl rfl (any_of HT_.out (by kernel_rfl)) (fun _ _ _ h => h) (Or.inl ⟨by rfl, ?_⟩) ?_ ?_
  rotate_left
  · intro w'
    go_simp
    with_reducible rfl
  rotate_left
  · simp only [Act.put, List.setIfInBounds_toArray, List.set_cons_zero, List.set_cons_succ, i64_w, i32_w]
    rfl
  refine pure_ (i := 3) (N := some 31) (v := ?_) (a' := ?_) #[true, true, true, true, false, false, false, false, false, false, false, false, false, false, false, false, false, false] rfl rfl (any_of HT_.out (by kernel_rfl)) (fun _ _ _ h => h) (Or.inl ⟨by rfl, ?_⟩) ?_ ?_
  rotate_left
  · intro w'
    go_simp
    with_reducible rfl
  rotate_left
  · simp only [Act.put, List.setIfInBounds_toArray, List.set_cons_zero, List.set_cons_succ, i64_w, i32_w]
    rfl
  refine pure_ (i := 4) (N := some 32) (v := ?_) (a' := ?_) #[true, true, true, true, true, false, false, false, false, false, false, false, false, false, false, false, false, false] rfl rfl (any_of HT_.out (by kernel_rfl)) (fun _ _ _ h => h) (Or.inl ⟨by rfl, ?_⟩) ?_ ?_
  rotate_left
  · intro w'
    go_simp
    with_reducible rfl
  rotate_left
  · simp only [Act.put, List.setIfInBounds_toArray, List.set_cons_zero, List.set_cons_succ, i64_w, i32_w]
    rfl
  refine pure_ (i := 5) (N := some 33) (v := ?_) (a' := ?_) #[true, true, true, true, true, true, false, false, false, false, false, false, false, false, false, false, false, false] rfl rfl (any_of HT_.out (by kernel_rfl)) (fun _ _ _ h => h) (Or.inl ⟨by rfl, ?_⟩) ?_ ?_
  rotate_left
  · intro w'
    go_simp
    with_reducible rfl
  rotate_left
  · simp only [Act.put, List.setIfInBounds_toArray, List.set_cons_zero, List.set_cons_succ, i64_w, i32_w]
    rfl
  refine pure_ (i := 6) (N := some 34) (v := ?_) (a' := ?_) #[true, true, true, true, true, true, true, false, false, false, false, false, false, false, false, false, false, false] rfl rfl (any_of HT_.out (by kernel_rfl)) (fun _ _ _ h => h) (Or.inl ⟨by rfl, ?_⟩) ?_ ?_
  rotate_left
  · intro w'
    go_simp
    with_reducible rfl
  rotate_left
  · simp only [Act.put, List.setIfInBounds_toArray, List.set_cons_zero, List.set_cons_succ, i64_w, i32_w]
    rfl
  refine pure_ (i := 8) (N := some 36) (v := ?_) (a' := ?_) #[true, true, true, true, true, true, true, false, true, false, false, false, false, false, false, false, false, false] rfl rfl (any_of HT_.out (by kernel_rfl)) (fun _ _ _ h => h) (Or.inl ⟨by rfl, ?_⟩) ?_ ?_
  rotate_left
  · intro w'
    go_simp
    with_reducible rfl
  rotate_left
  · simp only [Act.put, List.setIfInBounds_toArray, List.set_cons_zero, List.set_cons_succ, i64_w, i32_w]
    rfl
  refine pure_ (i := 9) (N := some 37) (v := ?_) (a' := ?_) #[true, true, true, true, true, true, true, false, true, true, false, false, false, false, false, false, false, false] rfl rfl (any_of HT_.out (by kernel_rfl)) (fun _ _ _ h => h) (Or.inl ⟨by rfl, ?_⟩) ?_ ?_
  rotate_left
  · intro w'
    go_simp
    with_reducible rfl
  rotate_left
  · simp only [Act.put, List.setIfInBounds_toArray, List.set_cons_zero, List.set_cons_succ, i64_w, i32_w]
    rfl
  refine pure_ (i := 10) (N := some 38) (v := ?_) (a' := ?_) #[true, true, true, true, true, true, true, false, true, true, true, false, false, false, false, false, false, false] rfl rfl (any_of HT_.out (by kernel_rfl)) (fun _ _ _ h => h) (Or.inl ⟨by rfl, ?_⟩) ?_ ?_
  rotate_left
  · intro w'
    go_simp
    with_reducible rfl
  rotate_left
  · simp only [Act.put, List.setIfInBounds_toArray, List.set_cons_zero, List.set_cons_succ, i64_w, i32_w]
    rfl
  refine take_ (i := 7) (N := some 35) (v := ?_) (a' := ?_) #[true, true, true, true, true, true, true, true, true, true, true, false, false, false, false, false, false, false] rfl rfl (take_ofW HT_.out HW_.out (by kernel_rfl)) (fun _ _ _ h => h) (Or.inl ⟨by rfl, ?_⟩) hHeld ?_ ?_
  rotate_left
  · rintro w' ⟨s0, s1, s2, s3⟩
    go_simp
    with_reducible rfl
  rotate_left
  · simp only [Act.put, List.setIfInBounds_toArray, List.set_cons_zero, List.set_cons_succ, i64_w, i32_w]
    rfl
  refine one_ (i := 11) (N := some 39) #[true, true, true, true, true, true, true, true, true, true, true, true, false, false, false, false, false, false] rfl rfl (one_of HT_.out (by kernel_rfl)) (by decide) (fun K hK => ?_)
  refine goes_ Tryd.func72 (by kernel_rfl) rfl #[.pointer (some ⟨g, 0, none⟩), .int .i64 (gr.length : Int)] (by rfl) rfl rfl (by (try simp only [List.map_toArray, List.map_cons, List.map_nil]); first | done | rfl | (simp only [List.length_drop, List.length_take]; rfl)) ?_
  with_reducible refine (spec_reader_pick.calls k g s0_0 pc (gr.length : Int) nx pd w0 _ ?side1 ?side2 A26.out).mono ?_
  (case side1 => repeat (first | (with_reducible first | exact HI0.out | apply IsS88.alloc | apply IsS88.drewN | apply IsS88.drew | apply IsS88.set_1) | exact HI0.out))
  (case side2 => repeat (first | (with_reducible first | exact HB.out | apply below_alloc | apply pw_below_drewN | apply below_drew1 | refine below_set ?_ (IsS88.ge HI0.out)) | exact HB.out))
  rintro e w34 ⟨rfl, hi, hb, hk⟩
  have HS0_ := keep_cell hk (hHeld.1) (by first | (rw [add_block]; exact Kd.own_blk (IsS88.own_neS HI0.out HO237.out (by decide))) | (show (Addr.add _ _).block ≠ _; rw [add_block]; exact Kd.own_blk (IsS88.own_neS HI0.out HO237.out (by decide))) | exact Kd.own_blk (IsS88.own_neS HI0.out HO237.out (by decide)))
  have HS1_ := keep_cell hk (hHeld.2.1) (by first | (rw [add_block]; exact Kd.own_blk (IsS88.own_neS HI0.out HO237.out (by decide))) | (show (Addr.add _ _).block ≠ _; rw [add_block]; exact Kd.own_blk (IsS88.own_neS HI0.out HO237.out (by decide))) | exact Kd.own_blk (IsS88.own_neS HI0.out HO237.out (by decide)))
  have HS2_ := keep_cell hk (hHeld.2.2.1) (by first | (rw [add_block]; exact Kd.own_blk (IsS88.own_neS HI0.out HO237.out (by decide))) | (show (Addr.add _ _).block ≠ _; rw [add_block]; exact Kd.own_blk (IsS88.own_neS HI0.out HO237.out (by decide))) | exact Kd.own_blk (IsS88.own_neS HI0.out HO237.out (by decide)))
  have HS3_ := keep_cell hk (hHeld.2.2.2) (by first | (rw [add_block]; exact Kd.own_blk (IsS88.own_neS HI0.out HO237.out (by decide))) | (show (Addr.add _ _).block ≠ _; rw [add_block]; exact Kd.own_blk (IsS88.own_neS HI0.out HO237.out (by decide))) | exact Kd.own_blk (IsS88.own_neS HI0.out HO237.out (by decide)))
  refine ⟨_, rfl, ?_⟩
  have n0_ := Aside0.mk (Kd.S_mono (Kd.S_keep (IsS88.apartS (show IsS88 w0 _ g s0_0 pc from by repeat (first | (with_reducible first | exact HI0.out | apply IsS88.alloc | apply IsS88.drewN | apply IsS88.drew | apply IsS88.set_1) | exact HI0.out)) (by (with_reducible repeat (first | apply Kd.S_alloc | apply Kd.S_drewN | apply Kd.S_drew)); exact HO237.out) (by decide)) hk (fun _ h => h.2)) (fun _ h => h.1))
  have n1_ := Aside0.mk (Kd.R_mono (Kd.R_keep (IsS88.apart (show IsS88 w0 _ g s0_0 pc from by repeat (first | (with_reducible first | exact HI0.out | apply IsS88.alloc | apply IsS88.drewN | apply IsS88.drew | apply IsS88.set_1) | exact HI0.out)) (by (with_reducible repeat (first | apply Kd.R_alloc | apply Kd.R_drewN | apply Kd.R_drew)); exact HL249_1.out) (by decide)) hk (fun _ h => h.2)) (fun _ h => h.1))
  have n2_ := Aside0.mk (keep_cell hk HX249_1.out (by first | (rw [add_block]; exact Kd.own_blk (IsS88.own_neS HI0.out HO237.out (by decide))) | (show (Addr.add _ _).block ≠ _; rw [add_block]; exact Kd.own_blk (IsS88.own_neS HI0.out HO237.out (by decide))) | exact Kd.own_blk (IsS88.own_neS HI0.out HO237.out (by decide)) | (dsimp only; exact Kd.own_blk (IsS88.own_neS HI0.out HO237.out (by decide)))))
  have n3_ := Aside0.mk (KeepBut.trans (by repeat (first | (with_reducible first | exact HK.out | apply KeepBut.set_ | apply keep_drewN | apply keep_drew | apply keep_alloc) | exact HK.out)) hk (.inl rfl))
  have n4_ := Aside0.mk (hb)
  have n5_ := Aside0.mk (hi)
  clear HO237
  clear HL249_1
  clear HX249_1
  clear HK
  clear HB
  clear HI0
  have HO237 := n0_
  have HL249_1 := n1_
  have HX249_1 := n2_
  have HK := n3_
  have HB := n4_
  have HI0 := n5_
  clear n0_ n1_ n2_ n3_ n4_ n5_
  (try clear hb)
  (try clear hb2)
  (try clear hk)
  (try clear hi)
  obtain ⟨go35, co35, eo35, gb35, gl35, cl35, HG35⟩ := Kd.S_form HO237.out (by have h_ : (ix : Int) < ((gr.length : Int) : Int) := of_decide_eq_true (by first | (with_reducible assumption) | assumption); have h2_ : 0 ≤ (ix : Int) := (of_decide_eq_true (by first | (with_reducible assumption) | assumption)); omega)
  (first | cases eo35 | (injection eo35 with ea_ en_ ec_; (first | subst ea_ | (injection ea_ with ea_; subst ea_)); subst ec_; clear en_))
  have GB35 := Aside0.mk gb35
  have GG35 := Aside0.mk HG35
  clear gb35 gl35 HG35
  (first | simp only [add_plain] at hx249_0 | skip)
  (first | simp only [add_plain] at hx249_1 | skip)
  (first | simp only [add_plain] at hx249_2 | skip)
  (first | simp only [add_plain] at hx249_3 | skip)
  replace HO237 := Aside0.mk (Kd.S_mono (ok' := fun k_ => k_ ≠ g) (IsS88.apartS (show IsS88 w0 _ g s0_0 pd from HI0.out) HO237.out (by decide)) (fun _ h => h.2))
  obtain ⟨oki35, ce35, hcl35, hM35, hcc35, _, _, hH35⟩ := Kd.S_elem HO237.out z29 (ix : Int) (of_decide_eq_true (by first | (with_reducible assumption) | assumption)) (by have h_ : (ix : Int) < ((gr.length : Int) : Int) := of_decide_eq_true (by first | (with_reducible assumption) | assumption); first | exact h_ | (have e_ := (Kd.S_reads' HO237.out).1; omega) | simpa using h_)
  obtain ⟨ve35_1, rfl, ge35_1⟩ := k29_openM hM35
  have hv35 := hcc35 1 _ rfl
  have hX35 := HX249_1.out
  (try simp only [add_plain] at hX35)
  (try simp only [Nat.add_zero] at hv35)
  replace hv35 := Option.some.inj (hv35.symm.trans hX35)
  subst hv35
  clear hX35 hcc35 hcl35
  have UU35 := Aside0.mk (show Kd.R (Kd.int .i64) 3 _ w.heap.size oki35 (.slice A249_1 ((rd_T29 gr ix).f1).length c249_1) ((rd_T29 gr ix).f1) from ge35_1)
  have HH35 := Aside0.mk hH35
  have HN35 := Aside0.mk (Kd.S_reads' HO237.out).1
  clear hH35 ge35_1
  refine hK.out _ _ ⟨HS0_, HS1_, HS2_, HS3_⟩ (fun hHeld => ?_)
  clear hK K
  refine norm_ (a' := ?_) ?_ ?_
  rotate_left
  · show Act.put _ (some 39) _ = _
    simp only [Act.put, List.setIfInBounds_toArray, List.set_cons_zero, List.set_cons_succ, i64_w, i32_w]
    rfl
  refine one_ (i := 12) (N := some 40) #[true, true, true, true, true, true, true, true, true, true, true, true, true, false, false, false, false, false] rfl rfl (one_of HT_.out (by kernel_rfl)) (by decide) (fun K hK => ?_)
  refine value_ (w1 := ?_) (v := ?_) (by rfl) rfl ?_ ?_
  rotate_left 2
  · go_simp
    constructor
    · rfl
    · rfl
  refine hK.out _ _ ⟨(World.cell?_alloc_lt _ _ _ (World.block_lt_of_cell? _ _ (hHeld.1))).trans (hHeld.1), (World.cell?_alloc_lt _ _ _ (World.block_lt_of_cell? _ _ (hHeld.2.1))).trans (hHeld.2.1), (World.cell?_alloc_lt _ _ _ (World.block_lt_of_cell? _ _ (hHeld.2.2.1))).trans (hHeld.2.2.1), (World.cell?_alloc_lt _ _ _ (World.block_lt_of_cell? _ _ (hHeld.2.2.2))).trans (hHeld.2.2.2)⟩ (fun hHeld => ?_)
  clear hK K
  refine norm_ (a' := ?_) ?_ ?_
  rotate_left
  · show Act.put _ (some 40) _ = _
    simp only [Act.put, List.setIfInBounds_toArray, List.set_cons_zero, List.set_cons_succ, i64_w, i32_w]
    rfl
  refine one_ (i := 13) (N := some 41) #[true, true, true, true, true, true, true, true, true, true, true, true, true, true, false, false, false, false] rfl rfl (one_of HT_.out (by kernel_rfl)) (by decide) (fun K hK => ?_)
  refine Kd.R_append_step (Kd.int .i64) w.heap.size (by rfl) (.tmp 35) (.tmp 40) 24 3 (.int .i64 0) 8 rfl Tryd.underlying24 info3 rfl (by decide) (by omega) (.slice A249_1 ((rd_T29 gr ix).f1).length c249_1) ((rd_T29 gr ix).f1) nx [.int .i64 nx] (fun k_ => oki35 k_ ∨ ((fun k_ => k_ ≠ g)) k_ ∧ w34.heap.size ≤ k_) (fun _ => False) rfl rfl ?aP (fun _ hk => hk.elim) ?aF ?aO (Below.refl _ _) ?aS ?aL ?_
  (case aP => exact rfl)
  (case aF => exact (fun k_ hk => .inr ⟨IsS88.fresh HI0.out k_ hk, hk⟩))
  (case aO => exact (by (with_reducible repeat (first | apply Kd.R_alloc | apply Kd.R_drewN | apply Kd.R_drew)); exact Kd.R_mono UU35.out (fun _ hk => .inl hk)))
  (case aS => exact (keep_size (w := w) (g := g) (row := none) (by repeat (first | (with_reducible first | exact HK.out | apply KeepBut.set_ | apply keep_drewN | apply keep_drew | apply keep_alloc) | exact HK.out))))
  (case aL => have := LMc.out; omega)
  intro v253 w36 ho hb hg hat
  (first | have HS0_ := cell_grown hg (hHeld.1) (by first | (rw [add_block]; exact (fun e_ => ((HL249_1.out.1 _ e_.symm).2) rfl)) | (show some (Addr.add _ _).block ≠ _; rw [add_block]; exact (fun e_ => ((HL249_1.out.1 _ e_.symm).2) rfl)) | exact (fun e_ => ((HL249_1.out.1 _ e_.symm).2) rfl)) | have HS0_ := cell_grown hg (cell_unalloc (hHeld.1) (by first | (rw [add_block]; exact Kd.S_lt HO237.out _ rfl) | (show (Addr.add _ _).block < _; rw [add_block]; exact Kd.S_lt HO237.out _ rfl) | exact Kd.S_lt HO237.out _ rfl)) (by first | (rw [add_block]; exact (fun e_ => ((HL249_1.out.1 _ e_.symm).2) rfl)) | (show some (Addr.add _ _).block ≠ _; rw [add_block]; exact (fun e_ => ((HL249_1.out.1 _ e_.symm).2) rfl)) | exact (fun e_ => ((HL249_1.out.1 _ e_.symm).2) rfl)))
  (first | have HS1_ := cell_grown hg (hHeld.2.1) (by first | (rw [add_block]; exact (fun e_ => ((HL249_1.out.1 _ e_.symm).2) rfl)) | (show some (Addr.add _ _).block ≠ _; rw [add_block]; exact (fun e_ => ((HL249_1.out.1 _ e_.symm).2) rfl)) | exact (fun e_ => ((HL249_1.out.1 _ e_.symm).2) rfl)) | have HS1_ := cell_grown hg (cell_unalloc (hHeld.2.1) (by first | (rw [add_block]; exact Kd.S_lt HO237.out _ rfl) | (show (Addr.add _ _).block < _; rw [add_block]; exact Kd.S_lt HO237.out _ rfl) | exact Kd.S_lt HO237.out _ rfl)) (by first | (rw [add_block]; exact (fun e_ => ((HL249_1.out.1 _ e_.symm).2) rfl)) | (show some (Addr.add _ _).block ≠ _; rw [add_block]; exact (fun e_ => ((HL249_1.out.1 _ e_.symm).2) rfl)) | exact (fun e_ => ((HL249_1.out.1 _ e_.symm).2) rfl)))
  (first | have HS2_ := cell_grown hg (hHeld.2.2.1) (by first | (rw [add_block]; exact (fun e_ => ((HL249_1.out.1 _ e_.symm).2) rfl)) | (show some (Addr.add _ _).block ≠ _; rw [add_block]; exact (fun e_ => ((HL249_1.out.1 _ e_.symm).2) rfl)) | exact (fun e_ => ((HL249_1.out.1 _ e_.symm).2) rfl)) | have HS2_ := cell_grown hg (cell_unalloc (hHeld.2.2.1) (by first | (rw [add_block]; exact Kd.S_lt HO237.out _ rfl) | (show (Addr.add _ _).block < _; rw [add_block]; exact Kd.S_lt HO237.out _ rfl) | exact Kd.S_lt HO237.out _ rfl)) (by first | (rw [add_block]; exact (fun e_ => ((HL249_1.out.1 _ e_.symm).2) rfl)) | (show some (Addr.add _ _).block ≠ _; rw [add_block]; exact (fun e_ => ((HL249_1.out.1 _ e_.symm).2) rfl)) | exact (fun e_ => ((HL249_1.out.1 _ e_.symm).2) rfl)))
  (first | have HS3_ := cell_grown hg (hHeld.2.2.2) (by first | (rw [add_block]; exact (fun e_ => ((HL249_1.out.1 _ e_.symm).2) rfl)) | (show some (Addr.add _ _).block ≠ _; rw [add_block]; exact (fun e_ => ((HL249_1.out.1 _ e_.symm).2) rfl)) | exact (fun e_ => ((HL249_1.out.1 _ e_.symm).2) rfl)) | have HS3_ := cell_grown hg (cell_unalloc (hHeld.2.2.2) (by first | (rw [add_block]; exact Kd.S_lt HO237.out _ rfl) | (show (Addr.add _ _).block < _; rw [add_block]; exact Kd.S_lt HO237.out _ rfl) | exact Kd.S_lt HO237.out _ rfl)) (by first | (rw [add_block]; exact (fun e_ => ((HL249_1.out.1 _ e_.symm).2) rfl)) | (show some (Addr.add _ _).block ≠ _; rw [add_block]; exact (fun e_ => ((HL249_1.out.1 _ e_.symm).2) rfl)) | exact (fun e_ => ((HL249_1.out.1 _ e_.symm).2) rfl)))
  rw [← Nyr.out] at ho
  have n0_ := Aside0.mk (IsS88.grown (by repeat (first | (with_reducible first | exact HI0.out | apply IsS88.alloc | apply IsS88.drewN | apply IsS88.drew | apply IsS88.set_1) | exact HI0.out)) hg (IsS88.own_ne HI0.out HL249_1.out (by decide)))
  have n1_ := Aside0.mk (below_weaken (by repeat (first | (with_reducible first | exact HB.out | apply below_alloc | apply pw_below_drewN | apply below_drew1 | refine below_set ?_ (IsS88.ge HI0.out)) | exact HB.out)) HL.out hb)
  have n2_ := Aside0.mk (KeepBut.trans (by repeat (first | (with_reducible first | exact HK.out | apply KeepBut.set_ | apply keep_drewN | apply keep_drew | apply keep_alloc) | exact HK.out)) (KeepBut.of_grown hg g) (Kd.R_base2 HL249_1.out))
  have n3_ := Aside0.mk (Kd.H_grown (Kd.H_widen (by repeat (first | exact HH35.out | refine Kd.H_alloc ?_ _ | refine Kd.H_drewN ?_ _ | refine Kd.H_drew ?_))) hg (fun k_ e_ => .inl (UU35.out.1 k_ e_)))
  have n4_ := Aside0.mk (ho)
  clear HI0
  clear HB
  clear HK
  clear HH35
  clear HO237
  clear UU35
  clear HL249_1
  have HI0 := n0_
  have HB := n1_
  have HK := n2_
  have HH35 := n3_
  have HO254 := n4_
  clear n0_ n1_ n2_ n3_ n4_
  clear ho hb hg hat
  obtain ⟨Ao39, co39, eo39⟩ := Kd.R_slice HO254.out
  (first | subst eo39 | (injection eo39 with f1_ f2_ f3_; have f4_ := f1_.symm; have f5_ := f3_.symm; clear f1_ f2_ f3_; subst f4_; subst f5_))
  refine hK.out _ _ ⟨HS0_, HS1_, HS2_, HS3_⟩ (fun hHeld => ?_)
  clear hK K
  refine norm_ (a' := ?_) ?_ ?_
  rotate_left
  · show Act.put _ (some 41) _ = _
    simp only [Act.put, List.setIfInBounds_toArray, List.set_cons_zero, List.set_cons_succ, i64_w, i32_w]
    rfl
  refine one_ (i := 14) (N := some 42) #[true, true, true, true, true, true, true, true, true, true, true, true, true, true, true, false, false, false] rfl rfl (one_of HT_.out (by kernel_rfl)) (by decide) (fun K hK => ?_)
  refine goes_ Tryd.func73 (by kernel_rfl) rfl #[.pointer (some ⟨g, 0, none⟩), .slice Ao39 yr.length co39, .int .i64 8] (by rfl) rfl rfl (by (try simp only [List.map_toArray, List.map_cons, List.map_nil]); first | done | rfl | (simp only [List.length_drop, List.length_take]; rfl)) ?_
  with_reducible refine (spec_reader_spoil.calls k g s0_0 pd _ _ yr 8 nd pe w0 _ ?side1 ?side2 ?side3 ?side4 ?side5 AS.out).mono ?_
  (case side1 => exact HI0.out)
  (case side2 => exact HB.out)
  (case side3 => exact (Kd.R_reads' HO254.out).2.2)
  (case side4 => exact (Kd.R_reads' HO254.out).2.1)
  (case side5 => exact far_slice (IsS88.own_ne HI0.out HO254.out (by decide)))
  obtain ⟨_, _, hrawG, _, _, _, _⟩ := Kd.H_raw HH35.out (of_decide_eq_true (by first | (with_reducible assumption) | assumption)) (by have h_ : (ix : Int) < ((gr.length : Int) : Int) := of_decide_eq_true (by first | (with_reducible assumption) | assumption); first | exact h_ | (have e_ := (HN35.out); omega) | simpa using h_)
  have HNG := Aside0.mk (show go35 ≠ g from by have h_ := IsS88.own_ne HI0.out hrawG (by decide); intro e_; exact h_ (by rw [← e_]; rfl))
  have HSZ := Aside0.mk (keep_size (w := w) (g := g) (row := none) HK.out)
  clear hrawG
  rintro e w38 ⟨vs_, rfl, ho0, hi, hb, hk⟩
  have HS0_ := keep_cell hk (hHeld.1) (by first | (rw [add_block]; exact HNG.out) | (show (Addr.add _ _).block ≠ _; rw [add_block]; exact HNG.out) | exact HNG.out)
  have HS1_ := keep_cell hk (hHeld.2.1) (by first | (rw [add_block]; exact HNG.out) | (show (Addr.add _ _).block ≠ _; rw [add_block]; exact HNG.out) | exact HNG.out)
  have HS2_ := keep_cell hk (hHeld.2.2.1) (by first | (rw [add_block]; exact HNG.out) | (show (Addr.add _ _).block ≠ _; rw [add_block]; exact HNG.out) | exact HNG.out)
  have HS3_ := keep_cell hk (hHeld.2.2.2) (by first | (rw [add_block]; exact HNG.out) | (show (Addr.add _ _).block ≠ _; rw [add_block]; exact HNG.out) | exact HNG.out)
  obtain ⟨As_, cs_, es_, _⟩ := Kd.Q_slice ho0
  subst es_
  refine ⟨_, rfl, ?_⟩
  have n0_ := Aside0.mk (KeepBut.trans HK.out hk (.inl rfl))
  have n1_ := Aside0.mk (Kd.H_keep HH35.out hk (fun _ h => h))
  clear HK HB HI0 HH35 HO254
  have HK := n0_
  have HH35 := n1_
  have HB := Aside0.mk hb
  have HI0 := Aside0.mk hi
  have HOQ := Aside0.mk ho0
  clear n0_ n1_ hb hi hk ho0
  have p28 : 0 ≤ (ix : Int) := of_decide_eq_true (by first | (with_reducible assumption) | assumption)
  have q28 : (ix : Int) < ((gr.length : Int) : Int) := of_decide_eq_true (by first | (with_reducible assumption) | assumption)
  replace p28 := eq_true p28
  replace q28 := eq_true q28
  obtain ⟨_, _, hraw37, _, _, hcc37, _⟩ := Kd.H_raw HH35.out (of_decide_eq_true (by first | (with_reducible assumption) | assumption)) (by have h_ : (ix : Int) < ((gr.length : Int) : Int) := of_decide_eq_true (by first | (with_reducible assumption) | assumption); first | exact h_ | (have e_ := (HN35.out); omega) | simpa using h_)
  obtain ⟨_, hfr37⟩ := Kd.H_at HH35.out (of_decide_eq_true (by first | (with_reducible assumption) | assumption)) (by have h_ : (ix : Int) < ((gr.length : Int) : Int) := of_decide_eq_true (by first | (with_reducible assumption) | assumption); first | exact h_ | (have e_ := (HN35.out); omega) | simpa using h_)
  have hx37_0 := hcc37 1 _ rfl
  have hf37_0 := hfr37 1
  (try rw [show (k29).sz = 4 from rfl] at hx37_0)
  (try rw [show (k29).sz = 4 from rfl] at hf37_0)
  have HQ37 := Aside0.mk (H.fill_hole HH35.out (of_decide_eq_true (by first | (with_reducible assumption) | assumption)) (by have h_ : (ix : Int) < ((gr.length : Int) : Int) := of_decide_eq_true (by first | (with_reducible assumption) | assumption); first | exact h_ | (have e_ := (HN35.out); omega) | simpa using h_) HSZ.out HOQ.out)
  clear hcc37 hfr37
  have HN0_go35 := Aside0.mk (show g ≠ go35 from fun e_ => HNG.out e_.symm)
  obtain ⟨_, hgg37⟩ := Kd.R_typed hraw37 go35 rfl
  have GG37_ := Aside0.mk hgg37
  clear hgg37
  refine hK.out _ _ ⟨HS0_, HS1_, HS2_, HS3_⟩ (fun hHeld => ?_)
  clear hK K
  refine norm_ (a' := ?_) ?_ ?_
  rotate_left
  · show Act.put _ (some 42) _ = _
    simp only [Act.put, List.setIfInBounds_toArray, List.set_cons_zero, List.set_cons_succ, i64_w, i32_w]
    rfl
  refine pure_ (i := 15) (N := some 43) (v := ?_) (a' := ?_) #[true, true, true, true, true, true, true, true, true, true, true, true, true, true, true, true, false, false] rfl rfl (any_of HT_.out (by kernel_rfl)) (fun _ _ _ h => h) (Or.inl ⟨by rfl, ?_⟩) ?_ ?_
  rotate_left
  · intro w'
    go_simp
    with_reducible rfl
  rotate_left
  · simp only [Act.put, List.setIfInBounds_toArray, List.set_cons_zero, List.set_cons_succ, i64_w, i32_w]
    rfl
  refine pure_ (i := 16) (N := some 44) (v := ?_) (a' := ?_) #[true, true, true, true, true, true, true, true, true, true, true, true, true, true, true, true, true, false] rfl rfl (any_of HT_.out (by kernel_rfl)) (fun _ _ _ h => h) (Or.inl ⟨by rfl, ?_⟩) ?_ ?_
  rotate_left
  · intro w'
    go_simp
    with_reducible rfl
  rotate_left
  · simp only [Act.put, List.setIfInBounds_toArray, List.set_cons_zero, List.set_cons_succ, i64_w, i32_w]
    rfl
  refine last_ (i := 17) (N := none) #[true, true, true, true, true, true, true, true, true, true, true, true, true, true, true, true, true, true] rfl rfl (one_of HT_.out (by kernel_rfl)) (by decide) (fun K hK => ?_)
  refine skip_ (w1 := ?_) (by rfl) rfl ?_ ?_
  rotate_left
  · go_simp
    rfl
  refine hK.out _ _ ?_
  clear hK K
  refine done_ (done_of HT_.out (by kernel_rfl)) ?_
  try go_wp2
  go_ret
  exact ⟨_, by first | rfl | (simp [errW_none, errW_some] <;> rfl) | (simp [*, errW_none, errW_some] <;> rfl), HQ37.out, by repeat (first | (with_reducible first | exact HI0.out | apply IsS88.alloc | apply IsS88.drewN | apply IsS88.drew | apply IsS88.set_1 | refine IsS88.far ?_ HN0_go35.out _) | exact HI0.out), by repeat (first | (with_reducible first | exact HB.out | apply below_alloc | apply pw_below_drewN | apply below_drew1 | refine below_set ?_ (Nat.le_trans HL.out GB35.out) | refine below_set ?_ (IsS88.ge HI0.out)) | exact HB.out), by repeat (first | (with_reducible first | exact HK.out | apply KeepBut.set_ | apply keep_drewN | apply keep_drew | apply keep_alloc | refine keep_far ?_ GB35.out _) | exact HK.out)⟩
end Go.Proofs.YtokikapljmakbaaDoor.Q
