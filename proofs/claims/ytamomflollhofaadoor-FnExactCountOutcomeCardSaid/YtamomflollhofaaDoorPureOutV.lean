/- The outcomes of tasks in the program's words and in the reference's; plain Lean. -/
import Derived.Test.YtamomflollhofaaDoorPureTimes
import Derived.Test.YtamomflollhofaaDoorHOut
import Derived.Test.YtamomflollhofaaDoorQx24
namespace Go.Proofs.YtamomflollhofaaDoor.H
open Go.RowKit Go.Proofs.YtamomflollhofaaDoorW.PrintWords Go.Proofs.YtamomflollhofaaDoorW.PrintLast Go.Proofs.YtamomflollhofaaDoorW.PrintMore Go.Proofs.YtamomflollhofaaDoor.Q
set_option linter.unusedVariables false

theorem needsFine_is (ns : List Nat) (o : List Int) (hns : ns.length ≤ 8) (hl : ∀ x, x ∈ ns → x < o.length) : Evn (fun k => spec_needsFine.f k (ints ns) o) (ns.all fun k => atI o k == 0) := by
  have h := Evn.every (ints ns).length (by rw [ints_len]; omega) (fun k i => spec_needsFine.l0 k (ints ns) o i) (fun i => atI o (ns.getD i 0) == 0) true false
    (Evn.step (Evn.const rfl) fun k => by
      simp only [spec_needsFine.l0]
      rw [if_neg (by omega)])
    (lo := 0) (fun i _ hi r hy hn => by
      rw [ints_len] at hi
      have hk := hl _ (List.getElem_mem hi)
      have eg : ns.getD i 0 = ns[i] := by rw [List.getD_eq_getElem?_getD, List.getElem?_eq_getElem hi]; rfl
      rw [eg] at hy hn
      refine Evn.step (g := fun k => if atI o ns[i] = 0 then spec_needsFine.l0 k (ints ns) o ((i + 1 : Nat) : Int) else some false) ?_ fun k => ?_
      · by_cases hc : atI o ns[i] = 0
        · simp only [if_pos hc]
          exact hy (by simp [hc])
        · simp only [if_neg hc]
          rw [hn (by simpa using hc)]
          exact Evn.const rfl
      · simp only [spec_needsFine.l0]
        rw [rd_ints ns i hi, if_pos (by rw [ints_len]; omega), if_pos (by omega), if_pos (by omega), if_pos (by omega), rd_atI o _ hk, wrap_up i (by omega)])
    (ints ns).length 0 (Nat.le_refl _) (by omega)
  have e : (List.range' 0 (ints ns).length).all (fun i => atI o (ns.getD i 0) == 0) = ns.all fun k => atI o k == 0 := by
    rw [ints_len]
    refine range_all ns _ (fun k => atI o k == 0) fun i hi => ?_
    rw [List.getD_eq_getElem?_getD, List.getElem?_eq_getElem hi]
    rfl
  rw [e] at h
  refine h.cast ?_
  cases (ns.all fun k => atI o k == 0) <;> rfl
theorem done_all {g : List S32} (hf : fine g = true) (i : Nat) (d : Nat) (hd : d < 256) : ((at0 (needs g) i &&& (255 - d)) == 0) = (nbOf g i).all fun k => d.testBit k := by
  have hs : at0 (needs g) i < 256 := Nat.lt_of_lt_of_le ((needs_sets hf).at i) (two_le (fine_len hf))
  rw [Bool.eq_iff_iff, bits_zero _ (Nat.lt_of_le_of_lt Nat.and_le_left hs), List.all_eq_true]
  unfold nbOf
  constructor
  · intro h k hk
    rw [mem_elems] at hk
    have := h k hk.1
    rw [Nat.testBit_and, minus_test d hd k hk.1, hk.2, Bool.true_and] at this
    simpa using this
  · intro h k hk
    rw [Nat.testBit_and, minus_test d hd k hk]
    by_cases hb : (at0 (needs g) i).testBit k = true
    · rw [h k (mem_elems.2 ⟨hk, hb⟩)]
      simp
    · rw [Bool.eq_false_iff.2 hb, Bool.false_and]
theorem set_zero (o : List Int) (i : Nat) (hi : i < o.length) (h : atI o i = 0) : o.set i 0 = o := by
  refine List.ext_getElem (by simp) fun j h1 h2 => ?_
  rw [List.getElem_set]
  by_cases e : i = j
  · subst e
    rw [if_pos rfl]
    unfold atI at h
    rw [List.getD_eq_getElem?_getD, List.getElem?_eq_getElem hi] at h
    exact h.symm
  · rw [if_neg e]
structure OutInv (pre : List Nat) (n : Nat) (p : List Int × Nat × Int) : Prop where mk ::
  (len : p.1.length = n) (lt : p.2.1 < 256) (done : ∀ k, k ∈ pre → (p.2.1.testBit k = true ↔ atI p.1 k = 0)) (rest : ∀ k, ¬ k ∈ pre → atI p.1 k = 0) (only : ∀ k, p.2.1.testBit k = true → k ∈ pre)
theorem OutInv.put {pre : List Nat} {n : Nat} {p : List Int × Nat × Int} (h : OutInv pre n p) {i : Nat} (hi : i < n) (hni : ¬ i ∈ pre) (v : Int) (hv : v ≠ 0) (z : Int) : OutInv (pre ++ [i]) n (p.1.set i v, p.2.1, z) := by
  have hd : p.2.1.testBit i = false := by
    cases hb : p.2.1.testBit i with
    | false => rfl
    | true => exact absurd (h.only i hb) hni
  refine ⟨(List.length_set ..).trans h.len, h.lt, fun k hk => ?_, fun k hk => ?_, fun k hk => List.mem_append_left _ (h.only k hk)⟩
  · show p.2.1.testBit k = true ↔ atI (p.1.set i v) k = 0
    by_cases e : k = i
    · subst e
      rw [atI_set_same _ _ _ (by have := h.len; omega), hd]
      simp [hv]
    · rw [atI_set_other _ _ _ _ (fun e2 => e e2.symm)]
      rcases List.mem_append.1 hk with hk | hk
      · exact h.done k hk
      · rw [List.mem_singleton] at hk
        exact absurd hk e
  · show atI (p.1.set i v) k = 0
    rw [List.mem_append, List.mem_singleton, not_or] at hk
    rw [atI_set_other _ _ _ _ (fun e => hk.2 e.symm)]
    exact h.rest k hk.1
theorem OutInv.ok {pre : List Nat} {n : Nat} {p : List Int × Nat × Int} (h : OutInv pre n p) {i : Nat} (hi8 : i < 8) (hni : ¬ i ∈ pre) : OutInv (pre ++ [i]) n (p.1, p.2.1 ||| 2 ^ i, p.2.2) := by
  refine ⟨h.len, or_lt h.lt (pow_lt hi8), fun k hk => ?_, fun k hk => ?_, fun k hk => ?_⟩
  · show (p.2.1 ||| 2 ^ i).testBit k = true ↔ atI p.1 k = 0
    rw [Nat.testBit_or, Nat.testBit_two_pow]
    by_cases e : i = k
    · subst e
      simp [h.rest i hni]
    · simp only [e, decide_false, Bool.or_false]
      rcases List.mem_append.1 hk with hk | hk
      · exact h.done k hk
      · rw [List.mem_singleton] at hk
        exact absurd hk.symm e
  · rw [List.mem_append, not_or] at hk
    exact h.rest k hk.1
  · have hk2 : (p.2.1 ||| 2 ^ i).testBit k = true := hk
    rw [Nat.testBit_or, Nat.testBit_two_pow, Bool.or_eq_true, decide_eq_true_eq] at hk2
    rcases hk2 with hk2 | hk2
    · exact List.mem_append_left _ (h.only k hk2)
    · rw [← hk2]
      exact List.mem_append_right _ List.mem_cons_self
theorem specOut_l0 {g : List S32} (hv : valid g = true) (fs : List Int) (hfs : Held fs) (hasc : asc g.length 0 fs = true) (keep : Int) : ∀ (d j : Nat) (p : List Int × Nat × Int), j + d = (orderOf g).length → OutInv ((orderOf g).take j) g.length p →
    Evn (fun k => spec_outcome.l0 k g fs keep p.1 (ints (orderOf g)) p.2.2 (j : Int)) (((orderOf g).drop j).foldl (outAt (needs g) (mask fs 0) keep) p).1
  | 0, j, p, h, _ => by
    rw [List.drop_of_length_le (by omega)]
    refine Evn.step (Evn.const rfl) fun k => ?_
    simp only [spec_outcome.l0]
    rw [if_neg (by rw [ints_len]; omega)]
    rfl
  | d + 1, j, p, h, hI => by
    have hf := valid_fine hv
    have h8 := fine_len hf
    have ho8 := order_eight hv
    have dd := valid_dag hv
    have hj : j < (orderOf g).length := by omega
    obtain ⟨i, hi⟩ : ∃ i, (orderOf g)[j] = i := ⟨_, rfl⟩
    have hin : i < g.length := by rw [← hi]; exact order_lt' hv j hj
    have hni : ¬ i ∈ (orderOf g).take j := by rw [← hi]; exact (order_facts hf).notin j hj
    have er : rd (ints (orderOf g)) (j : Int) = (i : Int) := by rw [rd_ints _ j hj, hi]
    have ht : (orderOf g).take (j + 1) = (orderOf g).take j ++ [i] := by rw [List.take_succ_eq_append_getElem hj, hi]
    have hbk : ∀ k, k ∈ nbOf g i → k ∈ (orderOf g).take j := fun k hk => by
      have hb := (order_facts hf).behind j hj (k : Int) (by
        have h2 := (nb_mem hf i hin k).1 hk
        rw [← hi] at h2
        exact h2)
      exact (mem_ints _ _).1 hb
    have hlen := hI.len
    rw [List.drop_eq_getElem_cons hj, List.foldl_cons, hi]
    have IH := fun (q : List Int × Nat × Int) (hq : OutInv ((orderOf g).take j ++ [i]) g.length q) => specOut_l0 hv fs hfs hasc keep d (j + 1) q (by omega) (by rw [ht]; exact hq)
    have e0 : (0 : Int) ≤ (j : Int) := by omega
    have e1 : (j : Int) < ((ints (orderOf g)).length : Int) := by rw [ints_len]; omega
    have e2 : (0 : Int) ≤ (i : Int) := by omega
    have e3 : (i : Int) < (p.1.length : Int) := by omega
    have e4 : (i : Int) < (g.length : Int) := by omega
    by_cases k1 : p.2.2 ≥ keep
    · have es : outAt (needs g) (mask fs 0) keep p i = (p.1.set i 3, p.2.1, p.2.2) := by unfold outAt; rw [if_pos k1]
      rw [es]
      refine Evn.step (IH _ (hI.put hin hni 3 (by omega) p.2.2)) fun k => ?_
      simp only [spec_outcome.l0]
      rw [er]
      simp only [if_pos e0, if_pos e1, if_pos e2, if_pos e3, if_pos k1, Int.toNat_natCast, wrap_up j (by omega)]
    · have hnf := needsFine_is (nbOf g i) p.1 (nb_len g i) (fun x hx => by have := nb_lt hf i hin x hx; omega)
      have hda := done_all hf i p.2.1 hI.lt
      have hall : (nbOf g i).all (fun k => p.2.1.testBit k) = (nbOf g i).all fun k => atI p.1 k == 0 := by
        rw [Bool.eq_iff_iff, List.all_eq_true, List.all_eq_true]
        refine forall_congr' fun k => forall_congr' fun hk => ?_
        rw [hI.done k (hbk k hk), beq_iff_eq]
      have hstep : ∀ k, spec_outcome.l0 (k + 1) g fs keep p.1 (ints (orderOf g)) p.2.2 (j : Int) = (spec_needsFine.f k (ints (nbOf g i)) p.1).bind fun b => if b = true then ((spec_isIn.f k fs (i : Int)).bind fun c => if c = true then spec_outcome.l0 k g fs keep (p.1.set i 1) (ints (orderOf g)) (wrap64 (p.2.2 + 1)) ((j + 1 : Nat) : Int) else spec_outcome.l0 k g fs keep (p.1.set i 0) (ints (orderOf g)) p.2.2 ((j + 1 : Nat) : Int)) else spec_outcome.l0 k g fs keep (p.1.set i 2) (ints (orderOf g)) p.2.2 ((j + 1 : Nat) : Int) := fun k => by
        simp only [spec_outcome.l0]
        rw [er, f1_is hf i hin]
        simp only [if_pos e0, if_pos e1, if_pos e2, if_pos e3, if_pos e4, if_neg k1, Int.toNat_natCast, wrap_up j (by omega)]
      refine Evn.step (Evn.bind hnf ?_) hstep
      rw [← hall, ← hda]
      obtain ⟨q, hq⟩ : ∃ q, ((at0 (needs g) i &&& (255 - p.2.1)) == 0) = q := ⟨_, rfl⟩
      rw [hq]
      have hq2 : ((((at0 (needs g) i &&& (255 - p.2.1) : Nat) : Int)) != 0) = !q := by
        rw [← hq]
        rcases Nat.eq_zero_or_pos (at0 (needs g) i &&& (255 - p.2.1)) with hz | hz
        · rw [hz]; rfl
        · rw [beq_eq_false_iff_ne.2 (by omega : at0 (needs g) i &&& (255 - p.2.1) ≠ 0)]
          simp
          omega
      cases q
      · have es : outAt (needs g) (mask fs 0) keep p i = (p.1.set i 2, p.2.1, p.2.2) := by
          unfold outAt
          rw [if_neg k1, hq2, if_pos (show (!false) = true from rfl)]
        rw [es]
        simp only [Bool.false_eq_true, if_false]
        exact IH _ (hI.put hin hni 2 (by omega) p.2.2)
      · simp only [if_true]
        refine Evn.bind (isIn_is fs hfs (i : Int)) ?_
        have hm := mask_test g.length fs 0 0 i (Int.le_refl _) hasc
        rw [Nat.zero_testBit, Bool.false_or] at hm
        rw [← hm]
        obtain ⟨b, hb⟩ : ∃ b, (mask fs 0).testBit i = b := ⟨_, rfl⟩
        rw [hb]
        cases b
        · have es : outAt (needs g) (mask fs 0) keep p i = (p.1, p.2.1 ||| 2 ^ i, p.2.2) := by
            unfold outAt
            rw [if_neg k1, hq2, if_neg (by simp), hb, if_neg Bool.false_ne_true]
          rw [es]
          simp only [Bool.false_eq_true, if_false]
          rw [set_zero p.1 i (by omega) (hI.rest i hni)]
          exact IH _ (hI.ok (by omega) hni)
        · have es : outAt (needs g) (mask fs 0) keep p i = (p.1.set i 1, p.2.1, wrap64 (p.2.2 + 1)) := by
            unfold outAt
            rw [if_neg k1, hq2, if_neg (by simp), hb, if_pos rfl]
          rw [es]
          simp only [if_true]
          exact IH _ (hI.put hin hni 1 (by omega) (wrap64 (p.2.2 + 1)))
theorem specOut_is {g : List S32} (hv : valid g = true) (fs : List Int) (hfs : Held fs) (hasc : asc g.length 0 fs = true) (keep : Int) : Evn (fun k => spec_outcome.f k g fs keep) (outcomesOf g fs keep) := by
  have hf := valid_fine hv
  have h8 := fine_len hf
  unfold spec_outcome.f outcomesOf outBy
  simp only [if_pos (show (0 : Int) ≤ (g.length : Int) by omega), Int.toNat_natCast, if_pos (show g.length ≤ 35184372088832 by omega)]
  refine Evn.bind (topOrder_is g hf) ?_
  exact specOut_l0 hv fs hfs hasc keep (orderOf g).length 0 (List.replicate g.length 0, 0, 0) (by omega) ⟨List.length_replicate .., by show 0 < 256; omega, fun k hk => (by simp at hk), fun k _ => atI_zero _ k, fun k hk => (by simp at hk)⟩
theorem validFails_is (g : List S32) (fs : List Int) (hg : Held g) (ht : ∀ t, t ∈ g → Held t.f1) (hfs : Held fs) : Evn (fun k => spec_validFails.f k g fs) (failOk g fs) := by
  unfold spec_validFails.f failOk
  refine Evn.bind (validGraph_is g hg ht) ?_
  by_cases hv : valid g = true
  · have h8 := fine_len (valid_fine hv)
    simp only [hv, if_true, Bool.true_and]
    refine Evn.bind (ascends_is fs hfs) ?_
    rw [← asc_eq]
    by_cases hc : climbs fs = true
    · simp only [hc, if_true, Bool.and_true]
      rw [w64 ((g.length : Int) - 1) (by omega) (by omega)]
      exact Evn.bind (allIn_is fs hfs 0 ((g.length : Int) - 1)) (Evn.const rfl)
    · simp only [hc, Bool.and_false]
      exact Evn.const rfl
  · simp only [hv, Bool.false_and]
    exact Evn.const rfl
theorem outcomesOf_len (g : List S32) (fs : List Int) (keep : Int) : (outcomesOf g fs keep).length = g.length := by
  unfold outcomesOf outBy
  rw [outs_len, List.length_replicate]
theorem implOut_is {g : List S32} (h : held g = true) {fs : List Int} (hd : fs.length ≤ 1048576) (keep : Int) : impl_Outcomes.f g fs keep = some (outcomesAns g fs keep) := if_pos ⟨h, by omega⟩
theorem implCount_is {g : List S32} (h : held g = true) {fs : List Int} (hd : fs.length ≤ 1048576) (keep kind : Int) : impl_CountOutcome.f g fs keep kind = some (countAns g fs keep kind) := if_pos ⟨h, by omega⟩
end Go.Proofs.YtamomflollhofaaDoor.H
