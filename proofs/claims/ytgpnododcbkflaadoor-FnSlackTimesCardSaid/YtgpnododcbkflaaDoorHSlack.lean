/- The contract of impl.SlackTimes: it answers for all graphs whose rows of needs a machine can hold. -/
import Derived.Test.YtgpnododcbkflaaDoorHTop1
import Derived.Test.YtgpnododcbkflaaDoorHHeads
namespace Go.Proofs.YtgpnododcbkflaaDoor.H
open Go.RowKit Go.Shelf Go.Proofs.YtgpnododcbkflaaDoorW.PrintWords Go.Proofs.YtgpnododcbkflaaDoorW.PrintLast Go.Proofs.YtgpnododcbkflaaDoorW.PrintMore Go.Proofs.YtgpnododcbkflaaDoor.Q
attribute [local go_sem] Oper.semAt_some
set_option linter.unusedSimpArgs false
set_option linter.unusedVariables false

def slOf (L : Int) (h t : List Int) (i : Nat) : Int := wrap64 (wrap64 (L - atI h i) - atI t i)
def slAt (L : Int) (h t : List Int) (o : List Int) (i : Nat) : List Int := o.set i (slOf L h t i)
def slackBy (L : Int) (h t : List Int) (n : Nat) : List Int := (List.range n).foldl (slAt L h t) (List.replicate n 0)
def slackTimes (g : List S30) : List Int := if valid g then slackBy (longestTime g) (headTimes g) (tailTimes g) g.length else []
def impl_SlackTimes.f (l0 : List S30) : Option (List Int) := if held l0 then some (slackTimes l0) else none
theorem sls_len (L : Int) (h t : List Int) : ∀ (l : List Nat) (o : List Int), (l.foldl (slAt L h t) o).length = o.length
  | [], _ => rfl
  | i :: r, o => by
    rw [List.foldl_cons, sls_len L h t r]
    exact List.length_set ..
theorem headTimes_len {g : List S30} (hv : valid g = true) : (headTimes g).length = g.length := by
  unfold headTimes
  rw [if_pos hv]
  unfold headsBy
  rw [hds_len, List.length_replicate]
def sAct (vh vt : Value) (Bo n len j : Nat) (us : Nat → Value) : Act := { tmps := #[us 0, us 1, us 2, us 3, us 4, vh, vt, .slice (some ⟨Bo, 0, none⟩) n n, us 8, us 9, us 10, us 11, us 12, us 13, us 14, us 15, us 16, us 17, us 18, us 19, us 20, us 21, us 22, us 23, .int .i64 (len : Int), .int .i64 (j : Int), us 26, us 27, us 28, us 29, us 30, us 31, us 32, us 33, us 34, us 35, us 36, us 37, us 38, us 39, us 40, us 41, us 42, us 43, us 44], defers := [] }
theorem sstart_at {a : Act} {vh vt : Value} {Bo n len j : Nat} (h : a = sAct vh vt Bo n len j (fun k => a.tmps.getD k undef)) : ∃ us, a = sAct vh vt Bo n len j us := ⟨_, h⟩
set_option maxRecDepth 100000 in
set_option maxHeartbeats 4000000 in
theorem slack_yes (A0 : Option Addr) (c0 : Nat) (l0 : List S30) (w : World) (hr0 : Kd.C k30 w A0 l0.length l0) (hc0 : l0.length ≤ c0) (hT : Tab w) (hh : held l0 = true) (hv : valid l0 = true) :
    Calls Tryd.prog 19 #[.slice A0 l0.length c0] w fun e w' => ∃ v0_ : Value, e = .returned v0_ ∧ Kd.R (Kd.int .i64) 3 w' w.heap.size (fun _ => True) v0_ (slackTimes l0) ∧ Below w.heap.size w w' := by
  obtain ⟨i0, hi, hz0, hz1, hz2⟩ := info_parts info_int64
  have HG := Aside0.mk (graphOf_here hr0 hc0 hT hh hv)
  have HT := Aside0.mk hT
  have hf := fine_of hv
  have h8 := valid_eight hv
  have ho := orderOf_len hf
  have et : tailsBy (tmOf l0) (nbOf l0) l0.length (orderOf l0) = tailTimes l0 := by unfold tailTimes; rw [if_pos hv]
  have eh : headsBy (tmOf l0) (nbOf l0) l0.length (orderOf l0) = headTimes l0 := by unfold headTimes; rw [if_pos hv]
  have lt := tailTimes_len hv
  have lh := headTimes_len hv
  have es : slackTimes l0 = slackBy (topOf (tailTimes l0)) (headTimes l0) (tailTimes l0) l0.length := by
    unfold slackTimes longestTime
    rw [if_pos hv, if_pos hv]
  rw [es]
  clear hr0 hT
  refine (callsIn_wide (n := 10)).1 ?_
  refine callsIn_of_wp Tryd.func19 rfl trivial ?_ rfl
  simp only [Tryd.ntmps19, List.size_toArray, List.length_cons, List.length_nil, Nat.reduceAdd, Nat.reduceSub, Array.replicate_succ, Array.replicate_zero, List.push_toArray, List.append_toArray, List.nil_append, List.cons_append]
  have hmk := fun W : World => run_make (P := Tryd.prog) W 25 3 i0 (.int .i64 0) Tryd.underlying25 hi hz0 .i64 .i64 (l0.length : Int) (l0.length : Int) (by omega) (by omega) (by rw [hz2]; omega) (by omega)
  rw [hz1] at hmk
  simp only [Int.toNat_natCast, Nat.mul_one] at hmk
  gi_wp2_with (first | (refine ⟨trivial, ?_⟩; gi_at_call 41; refine (callsIn_wide.2 HG.out).mono ?_; rintro e w1 ⟨X, Bb, Ba, AN, cN, AL, cL, rfl, hb, hG, _, _⟩) | (refine ⟨trivial, ?_⟩; gi_at_call 50; refine (callsIn_wide.2 (heads_any hG (HT.out.below hb) hf ho)).mono ?_; rintro e w2 ⟨v2, rfl, h1, h2⟩; rw [eh] at h1; obtain ⟨AH, cH, rfl⟩ := Kd.R_slice h1) | (refine ⟨trivial, ?_⟩; gi_at_call 42; refine (callsIn_wide.2 (tails_any (hG.below h2) ((HT.out.below hb).below h2) hf ho)).mono ?_; rintro e w3 ⟨v3, rfl, h3, h4⟩; rw [et] at h3; obtain ⟨AT, cT, rfl⟩ := Kd.R_slice h3) | (refine ⟨trivial, ?_⟩; gi_at_call 51; refine (callsIn_wide.2 ((hG.below h2).below h4).size).mono ?_; rintro e w4 ⟨rfl, hw4⟩; subst hw4))
  rename_i Q2 q1 q2 K2 hK2
  have HK2 := Aside0.mk hK2
  have ch : ∀ i, i < l0.length → ∃ b, AH = some ⟨b, 0, none⟩ ∧ w4.cell? ⟨b, i, none⟩ = some (.int .i64 (atI (headTimes l0) i)) := fun i hi => by
    obtain ⟨b, e, hc⟩ := row_cell h1 i (by rw [lh]; exact hi)
    refine ⟨b, e, (h4.cell (World.block_lt_of_cell? w2 _ hc)).trans ?_⟩
    rw [hc]
    unfold atI
    rw [List.getD_eq_getElem?_getD, List.getElem?_eq_getElem (by rw [lh]; exact hi)]
    rfl
  have ct : ∀ i, i < l0.length → ∃ b, AT = some ⟨b, 0, none⟩ ∧ w4.cell? ⟨b, i, none⟩ = some (.int .i64 (atI (tailTimes l0) i)) := fun i hi => by
    obtain ⟨b, e, hc⟩ := row_cell h3 i (by rw [lt]; exact hi)
    refine ⟨b, e, ?_⟩
    rw [hc]
    unfold atI
    rw [List.getD_eq_getElem?_getD, List.getElem?_eq_getElem (by rw [lt]; exact hi)]
    rfl
  have HLO := Aside0.mk (fun (W : World) (hW : Below w4.heap.size w4 W) => longest_same AT cT (tailTimes l0) (by omega) W (Kd.C_below (Kd.R_reads' h3).2.2 hW))
  have HCH := Aside0.mk (fun (W : World) (hW : Below w4.heap.size w4 W) (i : Nat) (hi : i < l0.length) => (show ∃ b, AH = some ⟨b, 0, none⟩ ∧ W.cell? ⟨b, i, none⟩ = some (.int .i64 (atI (headTimes l0) i)) from by
    obtain ⟨b, e, hc⟩ := ch i hi
    exact ⟨b, e, (hW.cell (World.block_lt_of_cell? w4 _ hc)).trans hc⟩))
  have HCT := Aside0.mk (fun (W : World) (hW : Below w4.heap.size w4 W) (i : Nat) (hi : i < l0.length) => (show ∃ b, AT = some ⟨b, 0, none⟩ ∧ W.cell? ⟨b, i, none⟩ = some (.int .i64 (atI (tailTimes l0) i)) from by
    obtain ⟨b, e, hc⟩ := ct i hi
    exact ⟨b, e, (hW.cell (World.block_lt_of_cell? w4 _ hc)).trans hc⟩))
  have bw4 : Below w.heap.size w w4 := hb.trans ((h2.mono hb.size).trans (h4.mono (Nat.le_trans hb.size h2.size)))
  have hst0 : St1 w4 [] w4.heap.size (List.replicate l0.length 0) (w4.alloc (.cells (madeCells #[Value.int .i64 0] l0.length) 3)) := ⟨Fix.nil _, by rw [World.alloc_heap_new, madeI], below_alloc (Below.refl _ _) _⟩
  have hap0 : Apart1 w4 [] w4.heap.size := ⟨Nat.le_refl _, fun p hp => absurd hp List.not_mem_nil⟩
  obtain ⟨Bo, hBo⟩ : ∃ Bo, w4.heap.size = Bo := ⟨_, rfl⟩
  have hBw : w4.heap.size ≤ Bo := by omega
  obtain ⟨W0, hW0⟩ : ∃ W0, w4.alloc (.cells (madeCells #[Value.int .i64 0] l0.length) 3) = W0 := ⟨_, rfl⟩
  rw [hBo, hW0] at hst0
  rw [hBo] at hap0
  rw [hBo, hW0]
  rw [lt] at HLO
  have HBW := Aside0.mk bw4
  clear hK2 hmk hi hz0 hz1 hz2 ch ct h1 h3 h2 h4 hb hG q1 q2 hW0 hBo bw4
  refine wpIn_loop (fun a' W' => ∃ j : Nat, (∃ us, a' = sAct (.slice AH l0.length cH) (.slice AT l0.length cT) Bo l0.length l0.length j us) ∧ j ≤ l0.length ∧ St1 w4 [] Bo ((List.range j).foldl (slAt (topOf (tailTimes l0)) (headTimes l0) (tailTimes l0)) (List.replicate l0.length 0)) W') (fun a' _ => l0.length - (intOf (a'.tmps.getD 25 undef)).toNat) ?_ ?_
  · exact ⟨0, sstart_at (by rfl), Nat.zero_le _, hst0⟩
  · clear hst0
    rintro a' W' ⟨j, ⟨us, rfl⟩, hj, hI⟩
    unfold sAct
    by_cases hjl : j < l0.length
    · have hj0 : (0 : Int) ≤ (j : Int) := by omega
      have hj1 : (j : Int) < (l0.length : Int) := by omega
      obtain ⟨b1, rfl, e1⟩ := HCH.out W'.drew hI.below.drew j hjl
      obtain ⟨b2, rfl, e2⟩ := HCT.out W'.drew hI.below.drew j hjl
      have hcall := HLO.out W'.drew hI.below.drew
      obtain ⟨o, ho⟩ : ∃ o, (List.range j).foldl (slAt (topOf (tailTimes l0)) (headTimes l0) (tailTimes l0)) (List.replicate l0.length 0) = o := ⟨_, rfl⟩
      have hol : o.length = l0.length := by rw [← ho, sls_len, List.length_replicate]
      have hlast : (List.range (j + 1)).foldl (slAt (topOf (tailTimes l0)) (headTimes l0) (tailTimes l0)) (List.replicate l0.length 0) = o.set j (slOf (topOf (tailTimes l0)) (headTimes l0) (tailTimes l0) j) := by
        rw [List.range_succ, List.foldl_append, ho]
        rfl
      rw [ho] at hI
      have c4 : W'.drew.cell? ⟨Bo, j, none⟩ = some (.int .i64 (atI o j)) := hI.cell j (by omega)
      have f4 : W'.drew.frozen? ⟨Bo, j, none⟩ = false := hI.frozen j
      have HI := Aside0.mk hI
      have HLA := Aside0.mk hlast
      clear hI hlast ho
      gi_wp2
      refine wpIn_wide.2 ?_
      refine wp_region_still_tail 15 (by kernel_rfl) (by kernel_rfl) ?_
      simp only [List.take_succ_cons, List.take_zero, List.drop_succ_cons, List.drop_zero]
      iterate 3 still_step
      still_call hcall
      iterate 11 still_step
      refine wpStill_nil ?_
      go_wp2
      gi_wp2
      rw [show (j : Int) + 1 = ((j + 1 : Nat) : Int) from by omega]
      refine ⟨⟨j + 1, sstart_at (by rfl), hjl, ?_⟩, nearer rfl hjl⟩
      rw [HLA.out]
      exact (HI.out.set hap0 j _).drew
    · obtain rfl : j = l0.length := by omega
      have hj1 : ¬ (l0.length : Int) < (l0.length : Int) := by omega
      have HI := Aside0.mk hI
      clear hI
      gi_wp2
      refine HK2.out _ _ ?_
      gi_wp2
      go_ret
      have hl : (slackBy (topOf (tailTimes l0)) (headTimes l0) (tailTimes l0) l0.length).length = l0.length := by unfold slackBy; rw [sls_len, List.length_replicate]
      have hr := R_row (o := slackBy (topOf (tailTimes l0)) (headTimes l0) (tailTimes l0) l0.length) HI.out.row (Nat.le_trans HBW.out.size hBw) (by rw [hl]; unfold maxLen; omega)
      rw [hl] at hr
      exact ⟨_, rfl, hr, HBW.out.trans (HI.out.below.mono HBW.out.size)⟩
set_option maxRecDepth 100000 in
set_option maxHeartbeats 4000000 in
theorem impl_SlackTimes.calls (A0 : Option Addr) (c0 : Nat) (l0 : List S30) (r : List Int) (w : World) (hr0 : Kd.C k30 w A0 l0.length l0) (hc0 : l0.length ≤ c0) (hT : Tab w) (h : impl_SlackTimes.f l0 = some r) :
    Calls Tryd.prog 19 #[.slice A0 l0.length c0] w fun e w' => ∃ v0_ : Value, e = .returned v0_ ∧ Kd.R (Kd.int .i64) 3 w' w.heap.size (fun _ => True) v0_ r ∧ Below w.heap.size w w' := by
  obtain ⟨hh, rfl⟩ := of_held h
  rcases Bool.eq_false_or_eq_true (valid l0) with hv | hv
  · exact slack_yes A0 c0 l0 w hr0 hc0 hT hh hv
  · have HG := Aside0.mk (graphOf_no hr0 hc0 hT hh hv)
    unfold slackTimes
    rw [if_neg (by rw [hv]; simp)]
    clear hr0 hT h
    go_enter Tryd.func19, Tryd.ntmps19
    go_wp2_with (go_at_call 41; refine HG.out.mono ?_; rintro e w' ⟨p, rfl, hb⟩)
    go_ret
    exact ⟨_, rfl, Kd.R_nil _ _ _ _ _, hb⟩
end Go.Proofs.YtgpnododcbkflaaDoor.H
