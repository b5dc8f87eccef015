/- The time of all tasks; plain Lean. -/
import Derived.Test.YtokikapljmakbaaDoorPureTailV
import Derived.Test.YtokikapljmakbaaDoorQx25
namespace Go.Proofs.YtokikapljmakbaaDoor.H
open Go.RowKit Go.Proofs.YtokikapljmakbaaDoorW.PrintWords Go.Proofs.YtokikapljmakbaaDoorW.PrintLast Go.Proofs.YtokikapljmakbaaDoorW.PrintMore Go.Proofs.YtokikapljmakbaaDoor.Q
set_option linter.unusedVariables false

def allOf (g : List S29) : Int := ((List.range g.length).map (tmOf g)).sum
theorem perm_sum {f : Nat → Int} {a b : List Nat} (h : a.Perm b) : (a.map f).sum = (b.map f).sum := by
  induction h with
  | nil => rfl
  | cons x _ ih => rw [List.map_cons, List.map_cons, List.sum_cons, List.sum_cons, ih]
  | swap x y l =>
    rw [List.map_cons, List.map_cons, List.map_cons, List.map_cons, List.sum_cons, List.sum_cons, List.sum_cons, List.sum_cons]
    omega
  | trans _ _ ih1 ih2 => exact ih1.trans ih2
theorem order_perm {g : List S29} (hv : valid g = true) : (orderOf g).Perm (List.range g.length) := by
  have d := valid_dag hv
  refine (List.perm_ext_iff_of_nodup d.nodup List.nodup_range).2 fun x => ?_
  rw [List.mem_range]
  exact d.mem x
theorem sum_small {g : List S29} (hv : valid g = true) : ∀ (p : List Nat), (∀ x, x ∈ p → x < g.length) → (p.map (tmOf g)).sum ≤ 20 * (p.length : Int) ∧ 0 ≤ (p.map (tmOf g)).sum
  | [], _ => ⟨Int.le_refl _, Int.le_refl _⟩
  | x :: p, hp => by
    have d := valid_dag hv
    have h1 := sum_small hv p (fun y hy => hp y (List.mem_cons_of_mem _ hy))
    have h2 := d.t1 x (hp x List.mem_cons_self)
    have h3 := d.t0 x (hp x List.mem_cons_self)
    rw [List.map_cons, List.sum_cons, List.length_cons]
    omega
theorem long_all {g : List S29} (hv : valid g = true) : longestTime g ≤ allOf g := by
  have d := valid_dag hv
  have h := top_sum d (tails_of hv) (top_of hv) (sum_small hv _ (fun x hx => (d.mem x).1 hx)).2
  unfold allOf
  rw [← perm_sum (order_perm hv)]
  exact h
theorem allTime_l0 {g : List S29} (hv : valid g = true) : ∀ (d j : Nat) (x : Int), j + d = g.length → 0 ≤ x → x ≤ 20 * (j : Int) → Evn (fun k => laws_allTime.l0 k g x (j : Int)) (x + ((List.range' j d).map (tmOf g)).sum)
  | 0, j, x, h, _, _ => by
    refine Evn.step (Evn.const rfl) fun k => ?_
    simp only [laws_allTime.l0]
    rw [if_neg (by omega)]
    simp
  | d + 1, j, x, h, h0, h1 => by
    have h8 := fine_len (valid_fine hv)
    have ht := time_ok (valid_fine hv) j (by omega)
    have e0 : (rd_T29 g ((j : Nat) : Int)).f0 = tmOf g j := rfl
    rw [List.range'_succ, List.map_cons, List.sum_cons, ← Int.add_assoc]
    refine Evn.step (allTime_l0 hv d (j + 1) (x + tmOf g j) (by omega) (by omega) (by omega)) fun k => ?_
    simp only [laws_allTime.l0]
    rw [if_pos (by omega), if_pos (by omega), e0, w1k _ (by omega) (by omega), wrap_up j (by omega)]
theorem allTime_is {g : List S29} (hv : valid g = true) : Evn (fun k => laws_allTime.f k g) (allOf g) := by
  have := allTime_l0 hv g.length 0 0 (by omega) (Int.le_refl _) (by omega)
  unfold laws_allTime.f allOf
  rw [List.range_eq_range']
  refine this.cast ?_
  omega
end Go.Proofs.YtokikapljmakbaaDoor.H
