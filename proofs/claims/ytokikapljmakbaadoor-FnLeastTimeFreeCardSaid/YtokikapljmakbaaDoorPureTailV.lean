/- The tails of a valid graph and its longest time, in the program's words and in the reference's; plain Lean. -/
import Derived.Test.YtokikapljmakbaaDoorPureTimes
import Derived.Test.YtokikapljmakbaaDoorPT
import Derived.Test.YtokikapljmakbaaDoorHB
import Derived.Test.YtokikapljmakbaaDoorQx14
import Derived.Test.YtokikapljmakbaaDoorQx17
namespace Go.Proofs.YtokikapljmakbaaDoor.H
open Go.RowKit Go.Proofs.YtokikapljmakbaaDoorW.PrintWords Go.Proofs.YtokikapljmakbaaDoorW.PrintLast Go.Proofs.YtokikapljmakbaaDoorW.PrintMore Go.Proofs.YtokikapljmakbaaDoor.Q
set_option linter.unusedVariables false

theorem most_cons (p : Nat → Bool) (f : Nat → Int) (k : Nat) (t : List Nat) (x : Int) : most p f (k :: t) x = most p f t (if p k then mx x (f k) else x) := rfl
theorem specTails_l1 {g : List S29} (hf : fine g = true) {od : List Nat} {x5 : Int} {i : Nat} (hi : i < g.length) (o : List Int) (hl : o.length = g.length) (R : List Int) : ∀ (d j : Nat) (x : Int), j + d = g.length →
    Evn (fun k => spec_tails.l0 k g (o.set i (wrap64 (most (fun k => decide (i ∈ nbOf g k)) (atI o) (List.range' j d) x + tmOf g i))) (ints od) (wrap64 (x5 - 1))) R → Evn (fun k => spec_tails.l1 k g o (ints od) x5 (i : Int) x (j : Int)) R
  | 0, j, x, h, hR => by
    refine Evn.step hR fun k => ?_
    simp only [spec_tails.l1]
    rw [if_neg (by omega), if_pos (by omega), if_pos (by omega), if_pos (by omega), Int.toNat_natCast]
    rfl
  | d + 1, j, x, h, hR => by
    have h8 := fine_len hf
    have hj : j < g.length := by omega
    rw [List.range'_succ, most_cons] at hR
    have hN := specTails_l1 hf (x5 := x5) hi o hl R d (j + 1) _ (by omega) hR
    refine Evn.step (g := fun k => (spec_isIn.f k ((rd_T29 g (j : Int)).f1) (i : Int)).bind fun b => if b = true then spec_tails.l1 k g o (ints od) x5 (i : Int) (mx x (atI o j)) ((j + 1 : Nat) : Int) else spec_tails.l1 k g o (ints od) x5 (i : Int) x ((j + 1 : Nat) : Int)) ?_ fun k => ?_
    · refine Evn.bind (isIn_is _ (by have := fine_held hf (rd_T29 g (j : Int)) (by rw [rd_task g j hj]; exact List.getElem_mem _); unfold Held; omega) _) ?_
      have e : decide ((i : Int) ∈ (rd_T29 g (j : Int)).f1) = decide (i ∈ nbOf g j) := decide_eq_decide.2 (nb_mem hf j hj i).symm
      rw [e]
      cases hc : decide (i ∈ nbOf g j)
      · rw [hc] at hN
        exact hN
      · rw [hc] at hN
        exact hN
    · simp only [spec_tails.l1]
      rw [if_pos (by omega), if_pos (by omega), wrap_up j (by omega), rd_atI o j (by omega)]
      simp only [if_pos (show (j : Int) < (o.length : Int) by omega)]
theorem specTails_l0 {g : List S29} (hf : fine g = true) {od : List Nat} (ho8 : od.length ≤ 8) (hlt : ∀ j (hj : j < od.length), od[j] < g.length) : ∀ (j : Nat) (o : List Int), j ≤ od.length → o.length = g.length →
    Evn (fun k => spec_tails.l0 k g o (ints od) ((j : Int) - 1)) ((od.take j).reverse.foldl (spTl (tmOf g) (nbOf g) g.length) o)
  | 0, o, h, hl => by
    refine Evn.step (Evn.const rfl) fun k => ?_
    simp only [spec_tails.l0]
    rw [if_neg (by omega)]
    rfl
  | j + 1, o, h, hl => by
    have hj : j < od.length := by omega
    have hi := hlt j hj
    have er : rd (ints od) (j : Int) = ((od[j] : Nat) : Int) := rd_ints od j hj
    have e1 : ((j + 1 : Nat) : Int) - 1 = (j : Int) := by omega
    have e2 : wrap64 ((j : Int) - 1) = (j : Int) - 1 := w64 _ (by omega) (by omega)
    rw [List.take_succ_eq_append_getElem hj, List.reverse_append, List.reverse_singleton, List.singleton_append, List.foldl_cons]
    have hN := specTails_l0 hf ho8 hlt j (spTl (tmOf g) (nbOf g) g.length o od[j]) (by omega) (by unfold spTl; rw [List.length_set]; exact hl)
    rw [← e2] at hN
    have hN2 : Evn (fun k => spec_tails.l0 k g (o.set od[j] (wrap64 (most (fun k => decide (od[j] ∈ nbOf g k)) (atI o) (List.range' 0 g.length) 0 + tmOf g od[j]))) (ints od) (wrap64 ((j : Int) - 1))) ((od.take j).reverse.foldl (spTl (tmOf g) (nbOf g) g.length) (spTl (tmOf g) (nbOf g) g.length o od[j])) := by
      rw [← List.range_eq_range']
      exact hN
    refine Evn.step (specTails_l1 hf hi o hl _ g.length 0 0 (by omega) hN2) fun k => ?_
    simp only [spec_tails.l0]
    rw [e1, if_pos (by omega), if_pos (by omega), if_pos (by rw [ints_len]; omega), er]
    rfl
theorem specTails_is {g : List S29} (hv : valid g = true) : Evn (fun k => spec_tails.f k g) (tailTimes g) := by
  have hf := valid_fine hv
  have h8 := fine_len hf
  have hlo := order_all hv
  unfold spec_tails.f tailTimes
  rw [if_pos hv, ← tails_same (valid_dag hv) (order_eight hv)]
  simp only [if_pos (show (0 : Int) ≤ (g.length : Int) by omega), Int.toNat_natCast, if_pos (show g.length ≤ 35184372088832 by omega)]
  refine Evn.bind (topOrder_is g hf) ?_
  have h := specTails_l0 hf (order_eight hv) (fun j hj => order_lt' hv j hj) (orderOf g).length (List.replicate g.length 0) (Nat.le_refl _) (List.length_replicate ..)
  rw [List.take_length] at h
  have e : wrap64 (((ints (order (needs g)).1).length : Int) - 1) = ((orderOf g).length : Int) - 1 := by
    rw [ints_len]
    exact w64 _ (by omega) (by show ((orderOf g).length : Int) - 1 ≤ _; omega)
  rw [e]
  exact h
theorem specLongest_l0 (l : List Int) (hl : l.length ≤ 1000) : ∀ (d j : Nat) (x : Int), j + d = l.length → Evn (fun k => spec_longest.l0 k x l (j : Int)) ((l.drop j).foldl mx x)
  | 0, j, x, h => by
    rw [List.drop_of_length_le (by omega)]
    refine Evn.step (Evn.const rfl) fun k => ?_
    simp only [spec_longest.l0]
    rw [if_neg (by omega)]
    rfl
  | d + 1, j, x, h => by
    have hj : j < l.length := by omega
    rw [List.drop_eq_getElem_cons hj, List.foldl_cons]
    refine Evn.step (specLongest_l0 l hl d (j + 1) _ (by omega)) fun k => ?_
    simp only [spec_longest.l0]
    rw [if_pos (by omega), if_pos (by omega), wrap_up j (by omega), rd_get l j hj]
theorem tailTimes_eight {g : List S29} (hv : valid g = true) : (tailTimes g).length ≤ 8 := by
  rw [tailTimes_len hv]
  exact fine_len (valid_fine hv)
theorem specLongest_is {g : List S29} (hv : valid g = true) : Evn (fun k => spec_longest.f k g) (longestTime g) := by
  unfold spec_longest.f longestTime
  rw [if_pos hv]
  exact Evn.bind (specTails_is hv) (specLongest_l0 _ (by have := tailTimes_eight hv; omega) _ 0 0 (Nat.zero_add _))
theorem tailTimes_no {g : List S29} (hv : ¬ valid g = true) : tailTimes g = [] := if_neg hv
theorem tailTimes_small (g : List S29) : (tailTimes g).length ≤ 1048576 := by
  by_cases hv : valid g = true
  · have := tailTimes_eight hv
    omega
  · rw [tailTimes_no hv]
    simp
theorem tailTimes_held (g : List S29) : Held (tailTimes g) := by
  have := tailTimes_small g
  unfold Held
  omega
theorem tails_of {g : List S29} (hv : valid g = true) : IsTails g.length (nbOf g) (tmOf g) (atI (tailTimes g)) := by
  unfold tailTimes
  rw [if_pos hv]
  exact tails_is (valid_dag hv) (order_eight hv)
theorem top_of {g : List S29} (hv : valid g = true) : IsTop g.length (atI (tailTimes g)) (longestTime g) := by
  have hl := tailTimes_len hv
  obtain ⟨a, b, c⟩ := topOf_go (tailTimes g) 0
  unfold longestTime
  rw [if_pos hv]
  have at_get : ∀ i (h : i < (tailTimes g).length), atI (tailTimes g) i = (tailTimes g)[i] := fun i h => by
    unfold atI
    rw [List.getD_eq_getElem?_getD, List.getElem?_eq_getElem h]
    rfl
  refine ⟨a, fun i hi => ?_, ?_⟩
  · rw [at_get i (by omega)]
    exact b _ (List.getElem_mem _)
  · rcases c with c | c
    · exact .inl c
    · obtain ⟨i, hi, e⟩ := List.getElem_of_mem c
      exact .inr ⟨i, by omega, by rw [at_get i hi]; exact e⟩
theorem top_small {g : List S29} (hv : valid g = true) : 0 ≤ longestTime g ∧ longestTime g ≤ 1000 ∧ ∀ i, i < g.length → atI (tailTimes g) i ≤ 1000 := by
  have d := valid_dag hv
  have h := tails_of hv
  have hb : ∀ (p : List Nat), (∀ x, x ∈ p → x < g.length) → (p.map (tmOf g)).sum ≤ 20 * (p.length : Int) ∧ 0 ≤ (p.map (tmOf g)).sum := by
    intro p
    induction p with
    | nil => exact fun _ => ⟨Int.le_refl _, Int.le_refl _⟩
    | cons x p ih =>
      intro hp
      have h1 := ih (fun y hy => hp y (List.mem_cons_of_mem _ hy))
      have h2 := d.t1 x (hp x List.mem_cons_self)
      have h3 := d.t0 x (hp x List.mem_cons_self)
      rw [List.map_cons, List.sum_cons, List.length_cons]
      omega
  have hs := hb (orderOf g) (fun x hx => (d.mem x).1 hx)
  have h8 := order_eight hv
  have ht := top_sum d h (top_of hv) hs.2
  refine ⟨(top_of hv).pos, by omega, fun i hi => ?_⟩
  have := (top_of hv).ge i hi
  omega
end Go.Proofs.YtokikapljmakbaaDoor.H
