/- The heads of a valid graph, in the program's words and in the reference's; plain Lean. -/
import Derived.Test.YtgpnododcbkflaaDoorPureTimes
import Derived.Test.YtgpnododcbkflaaDoorHHeads
import Derived.Test.YtgpnododcbkflaaDoorQx19
import Derived.Test.YtgpnododcbkflaaDoorQx24
namespace Go.Proofs.YtgpnododcbkflaaDoor.H
open Go.RowKit Go.Proofs.YtgpnododcbkflaaDoorW.PrintWords Go.Proofs.YtgpnododcbkflaaDoorW.PrintLast Go.Proofs.YtgpnododcbkflaaDoorW.PrintMore Go.Proofs.YtgpnododcbkflaaDoor.Q
set_option linter.unusedVariables false

theorem specHeads_l1 {g : List S30} (hf : fine g = true) {od : List Nat} {x5 : Nat} (h5 : x5 < od.length) (ho8 : od.length ≤ 8) {i : Nat} (hi : i < g.length) (ei : od[x5] = i) {t0 t2 t3 : Int} (R : List Int) : ∀ (d j : Nat) (o : List Int), j + d = (nbOf g i).length → o.length = g.length →
    Evn (fun k => spec_heads.l0 k g (((nbOf g i).drop j).foldl (hd1 (tmOf g) i) o) (ints od) ((x5 + 1 : Nat) : Int)) R → Evn (fun k => spec_heads.l1 k g o (ints od) (x5 : Int) (j : Int) t0 (ints (nbOf g i)) t2 t3) R
  | 0, j, o, h, hl, hR => by
    have h8 := nb_len g i
    rw [List.drop_of_length_le (by omega)] at hR
    refine Evn.step hR fun k => ?_
    simp only [spec_heads.l1]
    rw [if_neg (by rw [ints_len]; omega), wrap_up x5 (by omega)]
    rfl
  | d + 1, j, o, h, hl, hR => by
    have h8 := nb_len g i
    have hj : j < (nbOf g i).length := by omega
    have hk : (nbOf g i)[j] < g.length := nb_lt hf i hi _ (List.getElem_mem hj)
    rw [List.drop_eq_getElem_cons hj, List.foldl_cons] at hR
    refine Evn.step (specHeads_l1 (t0 := t0) (t2 := t2) (t3 := t3) hf h5 ho8 hi ei R d (j + 1) (hd1 (tmOf g) i o (nbOf g i)[j]) (by omega) (by unfold hd1; rw [List.length_set]; exact hl) hR) fun k => ?_
    have er : rd (ints od) (x5 : Int) = (i : Int) := by rw [rd_ints od x5 h5, ei]
    have ek : rd (ints (nbOf g i)) (j : Int) = (((nbOf g i)[j] : Nat) : Int) := rd_ints _ j hj
    simp only [spec_heads.l1]
    rw [er, ek, if_pos (by rw [ints_len]; omega), if_pos (by omega), if_pos (by rw [ints_len]; omega), if_pos (by omega), if_pos (by omega), if_pos (by omega), if_pos (by omega), if_pos (by omega), if_pos (by omega), wrap_up j (by omega), rd_atI o i (by omega), rd_atI o _ (by omega), Int.toNat_natCast]
    rfl
theorem specHeads_l0 {g : List S30} (hf : fine g = true) {od : List Nat} (ho8 : od.length ≤ 8) (hlt : ∀ j (hj : j < od.length), od[j] < g.length) : ∀ (d j : Nat) (o : List Int), j + d = od.length → o.length = g.length →
    Evn (fun k => spec_heads.l0 k g o (ints od) (j : Int)) ((od.drop j).foldl (hdAt (tmOf g) (nbOf g)) o)
  | 0, j, o, h, hl => by
    rw [List.drop_of_length_le (by omega)]
    refine Evn.step (Evn.const rfl) fun k => ?_
    simp only [spec_heads.l0]
    rw [if_neg (by rw [ints_len]; omega)]
    rfl
  | d + 1, j, o, h, hl => by
    have hj : j < od.length := by omega
    have hi := hlt j hj
    have er : rd (ints od) (j : Int) = ((od[j] : Nat) : Int) := rd_ints od j hj
    rw [List.drop_eq_getElem_cons hj, List.foldl_cons]
    refine Evn.step (specHeads_l1 (t0 := (rd_T30 g ((od[j] : Nat) : Int)).f0) (t2 := (rd_T30 g ((od[j] : Nat) : Int)).f2) (t3 := (rd_T30 g ((od[j] : Nat) : Int)).f3) hf hj ho8 hi rfl _ (nbOf g od[j]).length 0 o (by omega) hl (specHeads_l0 hf ho8 hlt d (j + 1) (hdAt (tmOf g) (nbOf g) o od[j]) (by omega) (by unfold hdAt; rw [hd1_len]; exact hl))) fun k => ?_
    simp only [spec_heads.l0]
    rw [er, if_pos (by rw [ints_len]; omega), if_pos (by omega), if_pos (by omega), if_pos (by omega), f1_is hf _ hi]
    rfl
theorem specHeads_is {g : List S30} (hv : valid g = true) : Evn (fun k => spec_heads.f k g) (headTimes g) := by
  have hf := valid_fine hv
  have h8 := fine_len hf
  unfold spec_heads.f headTimes
  rw [if_pos hv]
  simp only [if_pos (show (0 : Int) ≤ (g.length : Int) by omega), Int.toNat_natCast, if_pos (show g.length ≤ 35184372088832 by omega)]
  refine Evn.bind (topOrder_is g hf) ?_
  exact specHeads_l0 hf (order_eight hv) (fun j hj => order_lt' hv j hj) (orderOf g).length 0 _ (by omega) (List.length_replicate ..)
theorem specHeadTimes_is (g : List S30) (hg : Held g) (ht : ∀ t, t ∈ g → Held t.f1) : Evn (fun k => spec_HeadTimes.f k g) (headTimes g) := by
  unfold spec_HeadTimes.f
  refine Evn.bind (validGraph_is g hg ht) ?_
  by_cases hv : valid g = true
  · simp only [hv, if_true]
    exact Evn.bind (specHeads_is hv) (Evn.const rfl)
  · simp only [hv]
    unfold headTimes
    rw [if_neg hv]
    exact Evn.const rfl
theorem implHead_is {g : List S30} (h : held g = true) : impl_HeadTimes.f g = some (headTimes g) := if_pos h
theorem headTimes_lenv {g : List S30} (hv : valid g = true) : (headTimes g).length = g.length := by
  unfold headTimes
  rw [if_pos hv]
  exact (headsBy_len _ _ _ _).trans (List.length_replicate ..)
theorem headTimes_no {g : List S30} (hv : ¬ valid g = true) : headTimes g = [] := if_neg hv
theorem headTimes_small (g : List S30) : (headTimes g).length ≤ 1048576 := by
  by_cases hv : valid g = true
  · rw [headTimes_lenv hv]
    have := fine_len (valid_fine hv)
    omega
  · rw [headTimes_no hv]
    simp
theorem headTimes_held (g : List S30) : Held (headTimes g) := by
  have := headTimes_small g
  unfold Held
  omega
theorem heads_of {g : List S30} (hv : valid g = true) : IsHeads g.length (nbOf g) (tmOf g) (atI (headTimes g)) := by
  unfold headTimes
  rw [if_pos hv]
  exact heads_is (valid_dag hv) (order_eight hv)
/-- Heads are small numbers. -/
theorem head_sum {n : Nat} {N : Nat → List Nat} {tm : Nat → Int} {l : List Nat} (d : Dag n N tm l) {h : Nat → Int} (a : IsHeads n N tm h) : ∀ (q p : List Nat) (B : Int), l = p ++ q → (∀ i, i ∈ p → h i ≤ B) → 0 ≤ B → ∀ i, i ∈ l → h i ≤ B + 20 * (q.length : Int)
  | [], p, B, e, hp, hB, i, hi => by
    rw [e, List.append_nil] at hi
    have := hp i hi
    simp
    omega
  | x :: q, p, B, e, hp, hB, i, hi => by
    have e2 : l = (p ++ [x]) ++ q := by rw [e, List.append_assoc]; rfl
    have hx : x < n := (d.mem x).1 (by rw [e]; simp)
    have := head_sum d a q (p ++ [x]) (B + 20) e2 (fun y hy => by
      rcases List.mem_append.1 hy with hy | hy
      · have := hp y hy; omega
      · rw [List.mem_singleton] at hy
        subst hy
        rcases a.att y hx with h0 | ⟨k, hk, h0⟩
        · omega
        · have h1 := hp k (d.back p y q e k hk)
          have h2 := d.t1 k (d.need hx hk)
          omega) (by omega) i hi
    rw [List.length_cons]
    omega
theorem top_bound {g : List S30} (hv : valid g = true) : (∀ i, i < g.length → atI (headTimes g) i ≤ 1000) ∧ ∀ i, i < g.length → 0 ≤ atI (headTimes g) i := by
  have d := valid_dag hv
  have h := heads_of hv
  refine ⟨fun i hi => ?_, h.pos⟩
  have := head_sum d h (orderOf g) [] 0 rfl (fun i hi => by cases hi) (Int.le_refl _) i ((d.mem i).2 hi)
  have := order_eight hv
  omega
end Go.Proofs.YtgpnododcbkflaaDoor.H
