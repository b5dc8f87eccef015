/- The contracts of impl.Outcomes and impl.CountOutcome: they answer for all graphs whose rows of needs a machine can hold, and all lists that one can hold. -/
import Derived.Test.YtamomflollhofaaDoorHV
import Derived.Test.YtamomflollhofaaDoorQx1
namespace Go.Proofs.YtamomflollhofaaDoor.H
open Go.RowKit Go.Shelf Go.Proofs.YtamomflollhofaaDoorW.PrintWords Go.Proofs.YtamomflollhofaaDoorW.PrintLast Go.Proofs.YtamomflollhofaaDoorW.PrintMore Go.Proofs.YtamomflollhofaaDoor.Q
attribute [local go_sem] Oper.semAt_some
set_option linter.unusedSimpArgs false
set_option linter.unusedVariables false

/-- One task's outcome: all of them, what is done, how many failed. -/
def outAt (nd : List Nat) (fails : Nat) (keep : Int) (p : List Int × Nat × Int) (i : Nat) : List Int × Nat × Int :=
  if p.2.2 ≥ keep then (p.1.set i 3, p.2.1, p.2.2)
  else if ((((at0 nd i &&& (255 - p.2.1) : Nat) : Int)) != 0) = true then (p.1.set i 2, p.2.1, p.2.2)
  else if fails.testBit i = true then (p.1.set i 1, p.2.1, wrap64 (p.2.2 + 1))
  else (p.1, p.2.1 ||| 2 ^ i, p.2.2)
def outBy (nd : List Nat) (fails : Nat) (keep : Int) (n : Nat) (l : List Nat) : List Int × Nat × Int := l.foldl (outAt nd fails keep) (List.replicate n 0, 0, 0)
theorem outAt_len (nd : List Nat) (fails : Nat) (keep : Int) (p : List Int × Nat × Int) (i : Nat) : (outAt nd fails keep p i).1.length = p.1.length := by
  unfold outAt
  repeat' split
  all_goals first | exact List.length_set .. | rfl
theorem outs_len (nd : List Nat) (fails : Nat) (keep : Int) : ∀ (l : List Nat) (p : List Int × Nat × Int), (l.foldl (outAt nd fails keep) p).1.length = p.1.length
  | [], _ => rfl
  | i :: t, p => by rw [List.foldl_cons, outs_len nd fails keep t, outAt_len]
theorem outAt_set (nd : List Nat) (fails : Nat) (keep : Int) (p : List Int × Nat × Int) (i : Nat) (hi : i < 8) (h : p.2.1 < 256) : (outAt nd fails keep p i).2.1 < 256 := by
  unfold outAt
  repeat' split
  all_goals first | exact h | exact or_lt h (pow_lt hi)
theorem outs_set (nd : List Nat) (fails : Nat) (keep : Int) : ∀ (l : List Nat) (p : List Int × Nat × Int), (∀ i, i ∈ l → i < 8) → p.2.1 < 256 → (l.foldl (outAt nd fails keep) p).2.1 < 256
  | [], _, _, h => h
  | i :: t, p, hl, h => by
    rw [List.foldl_cons]
    exact outs_set nd fails keep t _ (fun x hx => hl x (List.mem_cons_of_mem _ hx)) (outAt_set nd fails keep p i (hl i List.mem_cons_self) h)
def failOk (g : List S32) (fs : List Int) : Bool := valid g && asc g.length 0 fs
def outcomesOf (g : List S32) (fs : List Int) (keep : Int) : List Int := (outBy (needs g) (mask fs 0) keep g.length (orderOf g)).1
def outcomesAns (g : List S32) (fs : List Int) (keep : Int) : List Int := if failOk g fs = true ∧ 1 ≤ keep ∧ keep ≤ 8 then outcomesOf g fs keep else []
def countIn (kind : Int) (l : List Int) (x : Int) : Int := l.foldl (fun n k => if (k == kind) = true then wrap64 (n + 1) else n) x
def countAns (g : List S32) (fs : List Int) (keep kind : Int) : Int := if failOk g fs = true ∧ (1 ≤ keep ∧ keep ≤ 8) ∧ (0 ≤ kind ∧ kind ≤ 3) then countIn kind (outcomesOf g fs keep) 0 else -1
def impl_Outcomes.f (l0 : List S32) (l1 : List Int) (a2 : Int) : Option (List Int) := if held l0 ∧ l1.length ≤ 281474976710656 then some (outcomesAns l0 l1 a2) else none
def impl_CountOutcome.f (l0 : List S32) (l1 : List Int) (a2 a3 : Int) : Option Int := if held l0 ∧ l1.length ≤ 281474976710656 then some (countAns l0 l1 a2 a3) else none
theorem of_shortO {α : Type} {g : List S32} {ds : List Int} {x r : α} (h : (if held g ∧ ds.length ≤ 281474976710656 then some x else none) = some r) : (held g = true ∧ ds.length ≤ 281474976710656) ∧ x = r := by
  split at h
  · exact ⟨by assumption, by cases h; rfl⟩
  · cases h
def oAct (vx vf vk vl : Value) (n len j Bo : Nat) (done : Nat) (failed : Int) (us : Nat → Value) : Act := { tmps := #[vx, vf, vk, us 3, us 4, us 5, us 6, .slice (some ⟨Bo, 0, none⟩) n n, .int .u16 (done : Int), .int .i64 failed, us 10, us 11, us 12, us 13, us 14, us 15, us 16, us 17, vl, .int .i64 (len : Int), .int .i64 (j : Int), us 21, us 22, us 23, us 24, us 25, us 26, us 27, us 28, us 29, us 30, us 31, us 32, us 33, us 34, us 35, us 36, us 37, us 38, us 39, us 40, us 41, us 42, us 43, us 44, us 45, us 46, us 47, us 48, us 49, us 50, us 51, us 52, us 53, us 54, us 55, us 56, us 57, us 58], defers := [] }
theorem oAct_eq (vx vf vk vl : Value) (n len j Bo : Nat) (done : Nat) (failed : Int) (us : Nat → Value) : oAct vx vf vk vl n len j Bo done failed us = { tmps := #[vx, vf, vk, us 3, us 4, us 5, us 6, .slice (some ⟨Bo, 0, none⟩) n n, .int .u16 (done : Int), .int .i64 failed, us 10, us 11, us 12, us 13, us 14, us 15, us 16, us 17, vl, .int .i64 (len : Int), .int .i64 (j : Int), us 21, us 22, us 23, us 24, us 25, us 26, us 27, us 28, us 29, us 30, us 31, us 32, us 33, us 34, us 35, us 36, us 37, us 38, us 39, us 40, us 41, us 42, us 43, us 44, us 45, us 46, us 47, us 48, us 49, us 50, us 51, us 52, us 53, us 54, us 55, us 56, us 57, us 58], defers := [] } := rfl
theorem ostart_at {a : Act} {vx vf vk vl : Value} {n len j Bo : Nat} {done : Nat} {failed : Int} (h : a = oAct vx vf vk vl n len j Bo done failed (fun k => a.tmps.getD k undef)) : ∃ us, a = oAct vx vf vk vl n len j Bo done failed us := ⟨_, h⟩
set_option maxRecDepth 100000 in
set_option maxHeartbeats 4000000 in
theorem outcomes_any {w : World} {X : Nat} {A0 : Option Addr} {c0 : Nat} {AN : Option Addr} {cN : Nat} {AL : Option Addr} {cL : Nat} {vB vA : Value} {g : List S32} {od : List Nat} (h : GraphHere w X A0 c0 AN cN AL cL vB vA g od) (hT : Tab w) (hf : fine g = true) (hod : od.length ≤ 8) (fails : Nat) (hfl : fails < 256) (keep : Int) :
    Calls Tryd.prog 69 #[.pointer (some ⟨X, 0, none⟩), .int .u16 (fails : Int), .int .i64 keep] w fun e w' => ∃ v, e = .returned v ∧ Kd.R (Kd.int .i64) 3 w' w.heap.size (fun _ => True) v (outBy (needs g) fails keep g.length od).1 ∧ Below w.heap.size w w' := by
  obtain ⟨i0, hi, hz0, hz1, hz2⟩ := info_parts info_int64
  have h8 := fine_len hf
  have HH := Aside0.mk (fun (W : World) (hb : Below w.heap.size w W) => GraphHere.below h hb)
  have hsz := h.size
  have hc2 := h.cells.2.2.1
  clear h hT
  refine (callsIn_wide (n := 10)).1 ?_
  refine callsIn_of_wp Tryd.func69 rfl trivial ?_ rfl
  simp only [Tryd.ntmps69, List.size_toArray, List.length_cons, List.length_nil, Nat.reduceAdd, Nat.reduceSub, Array.replicate_succ, Array.replicate_zero, List.push_toArray, List.append_toArray, List.nil_append, List.cons_append]
  have hmk := fun W : World => run_make (P := Tryd.prog) W 26 3 i0 (.int .i64 0) Tryd.underlying26 hi hz0 .i64 .i64 (g.length : Int) (g.length : Int) (by omega) (by omega) (by rw [hz2]; omega) (by omega)
  rw [hz1] at hmk
  simp only [Int.toNat_natCast, Nat.mul_one] at hmk
  have hst0 : St1 w [] w.heap.size (List.replicate g.length 0) (w.alloc (.cells (madeCells #[Value.int .i64 0] g.length) 3)) := ⟨Fix.nil _, by rw [World.alloc_heap_new, madeI], below_alloc (Below.refl _ _) _⟩
  have hc3 := (HH.out _ hst0.below).cells.2.2.1
  gi_wp2_with (first | (refine ⟨trivial, ?_⟩; gi_at_call 81; refine (callsIn_wide.2 hsz).mono ?_; rintro e w2 ⟨rfl, hw2⟩; rw [hw2]; clear hw2))
  rename_i Q2 K2 hK2
  have HK2 := Aside0.mk hK2
  have hap0 : Apart1 w [] w.heap.size := ⟨Nat.le_refl _, fun p hp => absurd hp List.not_mem_nil⟩
  obtain ⟨Bo, hBo⟩ : ∃ Bo, w.heap.size = Bo := ⟨_, rfl⟩
  have hBw : w.heap.size ≤ Bo := by omega
  obtain ⟨W0, hW0⟩ : ∃ W0, w.alloc (.cells (madeCells #[Value.int .i64 0] g.length) 3) = W0 := ⟨_, rfl⟩
  rw [hBo, hW0] at hst0
  rw [hBo] at hap0
  rw [hBo, hW0]
  clear hK2 hmk hi hz0 hz1 hz2 hW0 hBo hsz hc2 hc3
  refine wpIn_loop (fun a' W' => ∃ j : Nat, (∃ us, a' = oAct (.pointer (some ⟨X, 0, none⟩)) (.int .u16 (fails : Int)) (.int .i64 keep) (.slice AL od.length cL) g.length od.length j Bo ((od.take j).foldl (outAt (needs g) fails keep) (List.replicate g.length 0, 0, 0)).2.1 ((od.take j).foldl (outAt (needs g) fails keep) (List.replicate g.length 0, 0, 0)).2.2 us) ∧ j ≤ od.length ∧ St1 w [] Bo ((od.take j).foldl (outAt (needs g) fails keep) (List.replicate g.length 0, 0, 0)).1 W') (fun a' _ => od.length - (intOf (a'.tmps.getD 20 undef)).toNat) ?_ ?_
  · exact ⟨0, ostart_at (by rfl), Nat.zero_le _, hst0⟩
  · clear hst0
    rintro a' W' ⟨j, ⟨us, rfl⟩, hj, hI⟩
    rw [oAct_eq]
    by_cases hjl : j < od.length
    · have hj0 : (0 : Int) ≤ (j : Int) := by omega
      have hj1 : (j : Int) < (od.length : Int) := by omega
      have hgw := HH.out W' hI.below
      obtain ⟨i, hi⟩ : ∃ i, od[j] = i := ⟨_, rfl⟩
      have hin : i < g.length := by rw [← hi]; exact hgw.lt _ (List.getElem_mem hjl)
      obtain ⟨gL, rfl, hcL⟩ := hgw.ord j hjl
      obtain ⟨gN, rfl, hcN⟩ := hgw.need i hin
      rw [hi] at hcL
      have c1 := hgw.cells.2.1
      obtain ⟨p, hp⟩ : ∃ p, (od.take j).foldl (outAt (needs g) fails keep) (List.replicate g.length 0, 0, 0) = p := ⟨_, rfl⟩
      have hpl : p.1.length = g.length := by rw [← hp, outs_len, List.length_replicate]
      have hps : p.2.1 < 256 := by rw [← hp]; exact outs_set _ _ _ _ _ (fun x hx => by have := hgw.lt x (List.mem_of_mem_take hx); omega) (by show 0 < 256; omega)
      have hnext : (od.take (j + 1)).foldl (outAt (needs g) fails keep) (List.replicate g.length 0, 0, 0) = outAt (needs g) fails keep p i := by
        rw [List.take_succ_eq_append_getElem hjl, List.foldl_append, hp, hi]
        rfl
      rw [hp] at hI ⊢
      have c4 : W'.cell? ⟨Bo, i, none⟩ = some (.int .i64 (atI p.1 i)) := hI.cell i (by omega)
      have f4 : W'.frozen? ⟨Bo, i, none⟩ = false := hI.frozen i
      have hi0 : (0 : Int) ≤ (i : Int) := by omega
      have hi1 : (i : Int) < (g.length : Int) := by omega
      have hmn := minus_bits (at0 (needs g) i) (Nat.lt_of_lt_of_le ((needs_sets hf).at i) (two_le h8)) p.2.1 hps
      have HI := Aside0.mk hI
      have HNX := Aside0.mk hnext
      clear hI hnext hp hgw hi
      by_cases k1 : p.2.2 ≥ keep
      · have e1 : outAt (needs g) fails keep p i = (p.1.set i 3, p.2.1, p.2.2) := by unfold outAt; rw [if_pos k1]
        gi_wp2
        rw [show (j : Int) + 1 = ((j + 1 : Nat) : Int) from by omega]
        refine ⟨⟨j + 1, ?_, hjl, ?_⟩, nearer rfl hjl⟩
        · rw [HNX.out, e1]
          exact ostart_at (by rfl)
        · rw [HNX.out, e1]
          exact HI.out.set hap0 i _
      · obtain ⟨q, hq⟩ : ∃ q, ((((at0 (needs g) i &&& (255 - p.2.1) : Nat) : Int)) != 0) = q := ⟨_, rfl⟩
        cases q
        · have HAS := Aside0.mk (has_is fails i hfl (by omega))
          have HWI := Aside0.mk (with_is p.2.1 i hps (by omega))
          have c4n : ∀ n, (W'.drewN n).cell? ⟨Bo, i, none⟩ = some (.int .i64 (atI p.1 i)) := fun n => c4
          have f4n : ∀ n, (W'.drewN n).frozen? ⟨Bo, i, none⟩ = false := fun n => f4
          obtain ⟨b, hb⟩ : ∃ b, fails.testBit i = b := ⟨_, rfl⟩
          rw [hb] at HAS
          cases b
          · have e1 : outAt (needs g) fails keep p i = (p.1, p.2.1 ||| 2 ^ i, p.2.2) := by
              unfold outAt
              rw [if_neg k1, hq, if_neg Bool.false_ne_true, hb, if_neg Bool.false_ne_true]
            gi_wp2_with (first | (refine ⟨trivial, ?_⟩; gi_at_call 77; refine (callsIn_wide.2 (impl_set_has.calls _ _ _ _ HAS.out)).mono ?_; rintro e w8 ⟨rfl, ⟨nd8, rfl⟩⟩) | (refine ⟨trivial, ?_⟩; gi_at_call 75; refine (callsIn_wide.2 (impl_set_with.calls _ _ _ _ HWI.out)).mono ?_; rintro e w9 ⟨rfl, ⟨nd9, rfl⟩⟩))
            rw [show (j : Int) + 1 = ((j + 1 : Nat) : Int) from by omega]
            refine ⟨⟨j + 1, ?_, hjl, ?_⟩, nearer rfl hjl⟩
            · rw [HNX.out, e1]
              exact ostart_at (by rfl)
            · rw [HNX.out, e1]
              exact ⟨HI.out.fix, HI.out.row, below_draws HI.out.below _⟩
          · have e1 : outAt (needs g) fails keep p i = (p.1.set i 1, p.2.1, wrap64 (p.2.2 + 1)) := by
              unfold outAt
              rw [if_neg k1, hq, if_neg Bool.false_ne_true, hb, if_pos rfl]
            gi_wp2_with (first | (refine ⟨trivial, ?_⟩; gi_at_call 77; refine (callsIn_wide.2 (impl_set_has.calls _ _ _ _ HAS.out)).mono ?_; rintro e w8 ⟨rfl, ⟨nd8, rfl⟩⟩))
            rw [show (j : Int) + 1 = ((j + 1 : Nat) : Int) from by omega]
            refine ⟨⟨j + 1, ?_, hjl, ?_⟩, nearer rfl hjl⟩
            · rw [HNX.out, e1]
              exact ostart_at (by first | rfl | (rw [i64_w]; rfl) | (simp only [i64_w]; rfl))
            · rw [HNX.out, e1]
              have hs : St1 w [] Bo p.1 (W'.drewN nd8) := ⟨HI.out.fix, HI.out.row, below_draws HI.out.below nd8⟩
              exact hs.set hap0 i _
        · have e1 : outAt (needs g) fails keep p i = (p.1.set i 2, p.2.1, p.2.2) := by
            unfold outAt
            rw [if_neg k1, hq, if_pos rfl]
          gi_wp2
          rw [show (j : Int) + 1 = ((j + 1 : Nat) : Int) from by omega]
          refine ⟨⟨j + 1, ?_, hjl, ?_⟩, nearer rfl hjl⟩
          · rw [HNX.out, e1]
            exact ostart_at (by rfl)
          · rw [HNX.out, e1]
            exact HI.out.set hap0 i _
    · obtain rfl : j = od.length := by omega
      have hj1 : ¬ (od.length : Int) < (od.length : Int) := by omega
      have HI := Aside0.mk hI
      clear hI
      gi_wp2
      refine HK2.out _ _ ?_
      gi_wp2
      go_ret
      have hb := HI.out
      rw [List.take_length] at hb
      have hl : (outBy (needs g) fails keep g.length od).1.length = g.length := by unfold outBy; rw [outs_len, List.length_replicate]
      have hr := R_row (o := (outBy (needs g) fails keep g.length od).1) hb.row hBw (by rw [hl]; unfold maxLen; omega)
      rw [hl] at hr
      exact ⟨_, rfl, hr, hb.below⟩
theorem results3 {P : Program} {fn : Func} {p q r : Tmp} (h : fn.results = #[.tmp p, .tmp q, .tmp r]) (tmps : Array Value) (w : World) : (results fn tmps).run P w = .ok (.tuple #[tmps.getD p undef, tmps.getD q undef, tmps.getD r undef]) w := by
  simp only [results, h]
  simp [Sem.run_bind, Result.andThen]
def FailingIs (w : World) (A0 : Option Addr) (c0 : Nat) (g : List S32) (fs : List Int) (e : Ending) (w' : World) : Prop := ∃ (p : Value) (s : Int), e = .returned (.tuple #[p, .int .u16 s, .bool (failOk g fs)]) ∧ Below w.heap.size w w' ∧ (failOk g fs = true → s = (mask fs 0 : Nat) ∧ ∃ (X Bb Ba : Nat) (AN : Option Addr) (cN : Nat) (AL : Option Addr) (cL : Nat), p = .pointer (some ⟨X, 0, none⟩) ∧ GraphHere w' X A0 c0 AN cN AL cL (.slice (some ⟨Bb, 0, none⟩) g.length g.length) (.slice (some ⟨Ba, 0, none⟩) g.length g.length) g (orderOf g))
set_option maxRecDepth 100000 in
set_option maxHeartbeats 4000000 in
theorem failing_any (A0 : Option Addr) (c0 : Nat) (g : List S32) (A1 : Option Addr) (c1 : Nat) (fs : List Int) (w : World) (hr0 : Kd.C k32 w A0 g.length g) (hc0 : g.length ≤ c0) (hr1 : Kd.C (Kd.int .i64) w A1 fs.length fs) (hc1 : fs.length ≤ c1) (hT : Tab w) (hh : held g = true) (hfs : fs.length ≤ 281474976710656) :
    Calls Tryd.prog 67 #[.slice A0 g.length c0, .slice A1 fs.length c1] w (FailingIs w A0 c0 g fs) := by
  rcases Bool.eq_false_or_eq_true (valid g) with hv | hv
  · have HG := Aside0.mk (graphOf_here hr0 hc0 hT hh hv)
    have h8 := valid_eight hv
    have HS := Aside0.mk (setOf_is g.length h8 fs hfs (fs.length + 1) (Nat.le_refl _))
    have HC := Aside0.mk (fun (W : World) (hb : Below w.heap.size w W) => Kd.C_below hr1 hb)
    have hok : failOk g fs = asc g.length 0 fs := by unfold failOk; rw [hv, Bool.true_and]
    have HOK := Aside0.mk hok
    clear hr0 hr1 hT hok
    go_enter Tryd.func67, Tryd.ntmps67
    cases ha : asc g.length 0 fs with
    | false =>
      rw [ha] at HS
      go_wp2_with (first | (go_at_call 45; refine HG.out.mono ?_; rintro e w1 ⟨X, Bb, Ba, AN, cN, AL, cL, rfl, hb, hG, _, _⟩) | (go_at_call 81; refine hG.size.mono ?_; rintro e w2 ⟨rfl, hw2⟩; rw [hw2]; clear hw2) | (go_at_call 76; refine (impl_setOf.calls (fs.length + 1) A1 c1 fs g.length _ _ _ (HC.out _ hb) hc1 HS.out).mono ?_; rintro e w3 ⟨rfl, ⟨nd, rfl⟩⟩))
      refine bodyPost_ret (results3 rfl _ _) rfl ?_
      exact ⟨_, _, by rw [HOK.out, ha]; rfl, below_draws hb nd, fun h => by rw [HOK.out, ha] at h; cases h⟩
    | true =>
      rw [ha, if_pos rfl] at HS
      go_wp2_with (first | (go_at_call 45; refine HG.out.mono ?_; rintro e w1 ⟨X, Bb, Ba, AN, cN, AL, cL, rfl, hb, hG, _, _⟩) | (go_at_call 81; refine hG.size.mono ?_; rintro e w2 ⟨rfl, hw2⟩; rw [hw2]; clear hw2) | (go_at_call 76; refine (impl_setOf.calls (fs.length + 1) A1 c1 fs g.length _ _ _ (HC.out _ hb) hc1 HS.out).mono ?_; rintro e w3 ⟨rfl, ⟨nd, rfl⟩⟩))
      refine bodyPost_ret (results3 rfl _ _) rfl ?_
      exact ⟨_, _, by rw [HOK.out, ha]; rfl, below_draws hb nd, fun _ => ⟨rfl, X, Bb, Ba, AN, cN, AL, cL, rfl, hG.below (below_draws (Below.refl _ _) nd)⟩⟩
  · have HG := Aside0.mk (graphOf_no hr0 hc0 hT hh hv)
    have hok : failOk g fs = false := by unfold failOk; rw [hv, Bool.false_and]
    have HOK := Aside0.mk hok
    clear hr0 hr1 hT hok
    go_enter Tryd.func67, Tryd.ntmps67
    go_wp2_with (go_at_call 45; refine HG.out.mono ?_; rintro e w' ⟨p, rfl, hb⟩)
    refine bodyPost_ret (results3 rfl _ _) rfl ?_
    exact ⟨_, _, by rw [HOK.out]; rfl, hb, fun h => by rw [HOK.out] at h; cases h⟩
theorem failOk_eq {g : List S32} {fs : List Int} (h : failOk g fs = true) : valid g = true ∧ asc g.length 0 fs = true := by
  unfold failOk at h
  rwa [Bool.and_eq_true] at h
set_option maxRecDepth 100000 in
set_option maxHeartbeats 4000000 in
theorem impl_Outcomes.calls (A0 : Option Addr) (c0 : Nat) (l0 : List S32) (A1 : Option Addr) (c1 : Nat) (l1 : List Int) (a2 : Int) (r : List Int) (w : World) (hr0 : Kd.C k32 w A0 l0.length l0) (hc0 : l0.length ≤ c0) (hr1 : Kd.C (Kd.int .i64) w A1 l1.length l1) (hc1 : l1.length ≤ c1) (hT : Tab w) (h : impl_Outcomes.f l0 l1 a2 = some r) :
    Calls Tryd.prog 40 #[.slice A0 l0.length c0, .slice A1 l1.length c1, .int .i64 a2] w fun e w' => ∃ v0_ : Value, e = .returned v0_ ∧ Kd.R (Kd.int .i64) 3 w' w.heap.size (fun _ => True) v0_ r ∧ Below w.heap.size w w' := by
  obtain ⟨⟨hh, hds⟩, rfl⟩ := of_shortO h
  have HG := Aside0.mk (failing_any A0 c0 l0 A1 c1 l1 w hr0 hc0 hr1 hc1 hT hh hds)
  have HT := Aside0.mk hT
  have HWI := Aside0.mk (within_is a2 1 8)
  unfold outcomesAns
  clear hr0 hr1 hT h
  unfold FailingIs at HG
  cases hv : failOk l0 l1 with
  | false =>
    rw [if_neg (by simp)]
    rw [hv] at HG
    go_enter Tryd.func40, Tryd.ntmps40
    go_wp2_with (go_at_call 67; refine HG.out.mono ?_; rintro e w1 ⟨p, s, rfl, hb, hp⟩)
    go_ret
    exact ⟨_, rfl, Kd.R_nil _ _ _ _ _, hb⟩
  | true =>
    obtain ⟨hvg, hasc⟩ := failOk_eq hv
    have hf := fine_of hvg
    have h8 := valid_eight hvg
    have ho := orderOf_len hf
    have hm := mask_lt l0.length h8 l1 0 0 (Int.le_refl _) hasc (by omega)
    rw [hv] at HG
    by_cases ha : 1 ≤ a2 ∧ a2 ≤ 8
    · rw [if_pos ⟨rfl, ha⟩]
      rw [decide_eq_true ha] at HWI
      go_enter Tryd.func40, Tryd.ntmps40
      go_wp2_with (first | (go_at_call 67; refine HG.out.mono ?_; rintro e w1 ⟨p, s, rfl, hb, hp⟩; obtain ⟨rfl, X, Bb, Ba, AN, cN, AL, cL, rfl, hG⟩ := hp rfl) | (go_at_call 68; refine (Q.impl_within.calls _ _ _ _ _ HWI.out).mono ?_; rintro e w3 ⟨rfl, ⟨nd, rfl⟩⟩) | (go_at_call 69; refine (outcomes_any (hG.below (below_draws (Below.refl _ _) nd)) (HT.out.below (below_draws hb nd)) hf ho (mask l1 0) hm a2).mono ?_; rintro e w4 ⟨v, rfl, h1, h2⟩))
      go_ret
      have hb3 := below_draws hb nd
      exact ⟨_, rfl, Kd.R_lower h1 hb3.size, hb3.trans (h2.mono hb3.size)⟩
    · rw [if_neg (fun h => ha h.2)]
      rw [decide_eq_false ha] at HWI
      go_enter Tryd.func40, Tryd.ntmps40
      go_wp2_with (first | (go_at_call 67; refine HG.out.mono ?_; rintro e w1 ⟨p, s, rfl, hb, hp⟩) | (go_at_call 68; refine (Q.impl_within.calls _ _ _ _ _ HWI.out).mono ?_; rintro e w3 ⟨rfl, ⟨nd, rfl⟩⟩))
      go_ret
      exact ⟨_, rfl, Kd.R_nil _ _ _ _ _, below_draws hb nd⟩
def nAct (kind m : Int) (vr : Value) (len j : Nat) (us : Nat → Value) : Act := { tmps := #[us 0, us 1, us 2, .int .i64 kind, us 4, us 5, us 6, us 7, us 8, us 9, us 10, us 11, .int .i64 m, us 13, us 14, us 15, us 16, us 17, us 18, us 19, us 20, us 21, us 22, us 23, us 24, us 25, us 26, us 27, us 28, us 29, us 30, us 31, us 32, us 33, us 34, us 35, us 36, vr, .int .i64 (len : Int), .int .i64 (j : Int), us 40, us 41, us 42, us 43, us 44, us 45, us 46, us 47, us 48, us 49], defers := [] }
theorem nAct_eq (kind m : Int) (vr : Value) (len j : Nat) (us : Nat → Value) : nAct kind m vr len j us = { tmps := #[us 0, us 1, us 2, .int .i64 kind, us 4, us 5, us 6, us 7, us 8, us 9, us 10, us 11, .int .i64 m, us 13, us 14, us 15, us 16, us 17, us 18, us 19, us 20, us 21, us 22, us 23, us 24, us 25, us 26, us 27, us 28, us 29, us 30, us 31, us 32, us 33, us 34, us 35, us 36, vr, .int .i64 (len : Int), .int .i64 (j : Int), us 40, us 41, us 42, us 43, us 44, us 45, us 46, us 47, us 48, us 49], defers := [] } := rfl
theorem nstart_at {a : Act} {kind m : Int} {vr : Value} {len j : Nat} (h : a = nAct kind m vr len j (fun k => a.tmps.getD k undef)) : ∃ us, a = nAct kind m vr len j us := ⟨_, h⟩
theorem countIn_snoc (kind : Int) (l : List Int) (x : Int) (j : Nat) (h : j < l.length) : countIn kind (l.take (j + 1)) x = (if (l[j] == kind) = true then wrap64 (countIn kind (l.take j) x + 1) else countIn kind (l.take j) x) := by
  unfold countIn
  rw [List.take_succ_eq_append_getElem h, List.foldl_append]
  rfl
set_option maxRecDepth 100000 in
set_option maxHeartbeats 4000000 in
theorem count_yes (A0 : Option Addr) (c0 : Nat) (l0 : List S32) (A1 : Option Addr) (c1 : Nat) (l1 : List Int) (a2 a3 : Int) (w : World) (hr0 : Kd.C k32 w A0 l0.length l0) (hc0 : l0.length ≤ c0) (hr1 : Kd.C (Kd.int .i64) w A1 l1.length l1) (hc1 : l1.length ≤ c1) (hT : Tab w) (hh : held l0 = true) (hds : l1.length ≤ 281474976710656)
    (hv : failOk l0 l1 = true) (ha : 1 ≤ a2 ∧ a2 ≤ 8) (hk : 0 ≤ a3 ∧ a3 ≤ 3) :
    Calls Tryd.prog 42 #[.slice A0 l0.length c0, .slice A1 l1.length c1, .int .i64 a2, .int .i64 a3] w fun e w' => e = .returned (.int .i64 (countIn a3 (outcomesOf l0 l1 a2) 0)) ∧ Below w.heap.size w w' := by
  have HG := Aside0.mk (failing_any A0 c0 l0 A1 c1 l1 w hr0 hc0 hr1 hc1 hT hh hds)
  have HT := Aside0.mk hT
  have HWI := Aside0.mk (decide_eq_true ha)
  have HWK := Aside0.mk (decide_eq_true hk)
  clear hr0 hr1 hT
  unfold FailingIs at HG
  obtain ⟨hvg, hasc⟩ := failOk_eq hv
  have hf := fine_of hvg
  have h8 := valid_eight hvg
  have ho := orderOf_len hf
  have hm := mask_lt l0.length h8 l1 0 0 (Int.le_refl _) hasc (by omega)
  rw [hv] at HG
  have hlen : (outcomesOf l0 l1 a2).length = l0.length := by unfold outcomesOf outBy; rw [outs_len, List.length_replicate]
  obtain ⟨l, hl⟩ : ∃ l, outcomesOf l0 l1 a2 = l := ⟨_, rfl⟩
  have hl8 : l.length ≤ 8 := by rw [← hl, hlen]; exact h8
  rw [hl]
  have HL := Aside0.mk hl
  clear hlen hl ha hk hv
  refine (callsIn_wide (n := 10)).1 ?_
  refine callsIn_of_wp Tryd.func42 rfl trivial ?_ rfl
  simp only [Tryd.ntmps42, List.size_toArray, List.length_cons, List.length_nil, Nat.reduceAdd, Nat.reduceSub, Array.replicate_succ, Array.replicate_zero, List.push_toArray, List.append_toArray, List.nil_append, List.cons_append]
  gi_wp2_with (first | (refine ⟨trivial, ?_⟩; gi_at_call 67; refine (callsIn_wide.2 HG.out).mono ?_; rintro e w1 ⟨p, s, rfl, hb, hp⟩; obtain ⟨rfl, X, Bb, Ba, AN, cN, AL, cL, rfl, hG⟩ := hp rfl) | (refine ⟨trivial, ?_⟩; gi_at_call 68; refine (callsIn_wide.2 (Q.impl_within.calls _ _ _ _ _ (within_is _ _ _))).mono ?_; rintro e w3 ⟨rfl, ⟨nd, hw3⟩⟩; (first | rw [HWI.out] | rw [HWK.out]); replace hG := hG.below (show Below _ _ w3 from by rw [hw3]; exact below_draws (Below.refl _ _) nd); replace hb : Below w.heap.size w w3 := (by rw [hw3]; exact below_draws hb nd); clear hw3) | (refine ⟨trivial, ?_⟩; gi_at_call 69; refine (callsIn_wide.2 (outcomes_any hG (HT.out.below hb) hf ho (mask l1 0) hm a2)).mono ?_; rintro e w4 ⟨v, rfl, h1, h2⟩; have h1' : Kd.R (Kd.int .i64) 3 w4 _ (fun _ => True) v l := (by rw [← HL.out]; exact h1); obtain ⟨AV, cV, rfl⟩ := Kd.R_slice h1'))
  rename_i Q2 q0 q1 K2 hK2
  have HK2 := Aside0.mk hK2
  have hbw : Below w.heap.size w w4 := hb.trans (h2.mono hb.size)
  have cl : ∀ j (hj : j < l.length), ∃ b, AV = some ⟨b, 0, none⟩ ∧ w4.cell? ⟨b, j, none⟩ = some (.int .i64 l[j]) := fun j hj => row_cell h1' j hj
  have HCL := Aside0.mk cl
  have HBW := Aside0.mk hbw
  clear hK2 cl hbw hb h2 h1 h1' hG hp HG
  refine wpIn_loop (fun a' W' => W' = w4 ∧ ∃ j : Nat, (∃ us, a' = nAct a3 (countIn a3 (l.take j) 0) (.slice AV l.length cV) l.length j us) ∧ j ≤ l.length) (fun a' _ => l.length - (intOf (a'.tmps.getD 39 undef)).toNat) ?_ ?_
  · exact ⟨rfl, 0, nstart_at (by rfl), Nat.zero_le _⟩
  · rintro a' W' ⟨rfl, j, ⟨us, rfl⟩, hj⟩
    rw [nAct_eq]
    by_cases hjl : j < l.length
    · have hj0 : (0 : Int) ≤ (j : Int) := by omega
      have hj1 : (j : Int) < (l.length : Int) := by omega
      obtain ⟨b, rfl, hc⟩ := HCL.out j hjl
      have HSN := Aside0.mk (countIn_snoc a3 l 0 j hjl)
      obtain ⟨m, hm⟩ : ∃ m, countIn a3 (l.take j) 0 = m := ⟨_, rfl⟩
      rw [hm] at HSN ⊢
      obtain ⟨y, hy⟩ : ∃ y, l[j] = y := ⟨_, rfl⟩
      rw [hy] at hc HSN
      obtain ⟨q, hq⟩ : ∃ q, (y == a3) = q := ⟨_, rfl⟩
      clear hm hy
      cases q
      · gi_wp2
        rw [show (j : Int) + 1 = ((j + 1 : Nat) : Int) from by omega]
        refine ⟨⟨trivial, j + 1, ?_, hjl⟩, nearer rfl hjl⟩
        rw [HSN.out, hq, if_neg Bool.false_ne_true]
        exact nstart_at (by rfl)
      · gi_wp2
        rw [show (j : Int) + 1 = ((j + 1 : Nat) : Int) from by omega]
        refine ⟨⟨trivial, j + 1, ?_, hjl⟩, nearer rfl hjl⟩
        rw [HSN.out, hq, if_pos rfl]
        exact nstart_at (by first | rfl | (simp only [i64_w]; rfl))
    · obtain rfl : j = l.length := by omega
      have hj1 : ¬ (l.length : Int) < (l.length : Int) := by omega
      rw [List.take_length]
      gi_wp2
      refine HK2.out _ _ ?_
      gi_wp2
      go_ret
      exact ⟨rfl, HBW.out⟩
theorem count_no (A0 : Option Addr) (c0 : Nat) (l0 : List S32) (A1 : Option Addr) (c1 : Nat) (l1 : List Int) (a2 a3 : Int) (w : World) (hr0 : Kd.C k32 w A0 l0.length l0) (hc0 : l0.length ≤ c0) (hr1 : Kd.C (Kd.int .i64) w A1 l1.length l1) (hc1 : l1.length ≤ c1) (hT : Tab w) (hh : held l0 = true) (hds : l1.length ≤ 281474976710656)
    (hno : ¬ (failOk l0 l1 = true ∧ (1 ≤ a2 ∧ a2 ≤ 8) ∧ (0 ≤ a3 ∧ a3 ≤ 3))) :
    Calls Tryd.prog 42 #[.slice A0 l0.length c0, .slice A1 l1.length c1, .int .i64 a2, .int .i64 a3] w fun e w' => e = .returned (.int .i64 (-1)) ∧ Below w.heap.size w w' := by
  have HG := Aside0.mk (failing_any A0 c0 l0 A1 c1 l1 w hr0 hc0 hr1 hc1 hT hh hds)
  unfold FailingIs at HG
  clear hr0 hr1 hT
  cases hv : failOk l0 l1 with
  | false =>
    rw [hv] at HG
    clear hno
    go_enter Tryd.func42, Tryd.ntmps42
    go_wp2_with (go_at_call 67; refine HG.out.mono ?_; rintro e w1 ⟨p, s, rfl, hb, hp⟩)
    go_ret
    exact ⟨rfl, hb⟩
  | true =>
    rw [hv] at HG
    obtain ⟨d1, hd1⟩ : ∃ d, decide (1 ≤ a2 ∧ a2 ≤ 8) = d := ⟨_, rfl⟩
    obtain ⟨d2, hd2⟩ : ∃ d, decide (0 ≤ a3 ∧ a3 ≤ 3) = d := ⟨_, rfl⟩
    have HD1 := Aside0.mk hd1
    have HD2 := Aside0.mk hd2
    have hdd : d1 = false ∨ (d1 = true ∧ d2 = false) := by
      cases h1 : d1
      · exact .inl rfl
      · cases h2 : d2
        · exact .inr ⟨rfl, rfl⟩
        · exact absurd ⟨hv, of_decide_eq_true (hd1.trans h1), of_decide_eq_true (hd2.trans h2)⟩ hno
    clear hno hd1 hd2
    rcases hdd with rfl | ⟨rfl, rfl⟩
    all_goals
      go_enter Tryd.func42, Tryd.ntmps42
      go_wp2_with (first | (go_at_call 67; refine HG.out.mono ?_; rintro e w1 ⟨p, s, rfl, hb, hp⟩) | (go_at_call 68; refine (Q.impl_within.calls _ _ _ _ _ (within_is _ _ _)).mono ?_; rintro e w3 ⟨rfl, ⟨nd, hw3⟩⟩; (first | rw [HD1.out] | rw [HD2.out]); replace hb : Below w.heap.size w w3 := (by rw [hw3]; exact below_draws hb nd); clear hw3))
      go_ret
      exact ⟨rfl, hb⟩
theorem impl_CountOutcome.calls (A0 : Option Addr) (c0 : Nat) (l0 : List S32) (A1 : Option Addr) (c1 : Nat) (l1 : List Int) (a2 a3 : Int) (r : Int) (w : World) (hr0 : Kd.C k32 w A0 l0.length l0) (hc0 : l0.length ≤ c0) (hr1 : Kd.C (Kd.int .i64) w A1 l1.length l1) (hc1 : l1.length ≤ c1) (hT : Tab w) (h : impl_CountOutcome.f l0 l1 a2 a3 = some r) :
    Calls Tryd.prog 42 #[.slice A0 l0.length c0, .slice A1 l1.length c1, .int .i64 a2, .int .i64 a3] w fun e w' => e = .returned (.int .i64 r) ∧ Below w.heap.size w w' := by
  obtain ⟨⟨hh, hds⟩, rfl⟩ := of_shortO h
  unfold countAns
  by_cases hc : failOk l0 l1 = true ∧ (1 ≤ a2 ∧ a2 ≤ 8) ∧ (0 ≤ a3 ∧ a3 ≤ 3)
  · rw [if_pos hc]
    exact count_yes A0 c0 l0 A1 c1 l1 a2 a3 w hr0 hc0 hr1 hc1 hT hh hds hc.1 hc.2.1 hc.2.2
  · rw [if_neg hc]
    exact count_no A0 c0 l0 A1 c1 l1 a2 a3 w hr0 hc0 hr1 hc1 hT hh hds hc
end Go.Proofs.YtamomflollhofaaDoor.H
