/- The heads of a valid graph, as the program answers them; plain Lean. -/
import Derived.Test.YtgpnododcbkflaaDoorPureTimes
import Derived.Test.YtgpnododcbkflaaDoorHHeads
namespace Go.Proofs.YtgpnododcbkflaaDoor.H
open Go.RowKit Go.Proofs.YtgpnododcbkflaaDoorW.PrintWords Go.Proofs.YtgpnododcbkflaaDoorW.PrintLast Go.Proofs.YtgpnododcbkflaaDoorW.PrintMore Go.Proofs.YtgpnododcbkflaaDoor.Q
set_option linter.unusedVariables false

theorem implHead_is {g : List S30} (h : held g = true) : impl_HeadTimes.f g = some (headTimes g) := if_pos h
theorem headTimes_lenv {g : List S30} (hv : valid g = true) : (headTimes g).length = g.length := by
  unfold headTimes
  rw [if_pos hv]
  exact (headsBy_len _ _ _ _).trans (List.length_replicate ..)
theorem headTimes_no {g : List S30} (hv : ¬ valid g = true) : headTimes g = [] := if_neg hv
theorem headTimes_small (g : List S30) : (headTimes g).length ≤ 1048576 := by
  by_cases hv : valid g = true
  · rw [headTimes_lenv hv]
    have := fine_len (valid_fine hv)
    omega
  · rw [headTimes_no hv]
    simp
theorem headTimes_held (g : List S30) : Held (headTimes g) := by
  have := headTimes_small g
  unfold Held
  omega
theorem heads_of {g : List S30} (hv : valid g = true) : IsHeads g.length (nbOf g) (tmOf g) (atI (headTimes g)) := by
  unfold headTimes
  rw [if_pos hv]
  exact heads_is (valid_dag hv) (order_eight hv)
/-- Heads are small numbers. -/
theorem head_sum {n : Nat} {N : Nat → List Nat} {tm : Nat → Int} {l : List Nat} (d : Dag n N tm l) {h : Nat → Int} (a : IsHeads n N tm h) : ∀ (q p : List Nat) (B : Int), l = p ++ q → (∀ i, i ∈ p → h i ≤ B) → 0 ≤ B → ∀ i, i ∈ l → h i ≤ B + 20 * (q.length : Int)
  | [], p, B, e, hp, hB, i, hi => by
    rw [e, List.append_nil] at hi
    have := hp i hi
    simp
    omega
  | x :: q, p, B, e, hp, hB, i, hi => by
    have e2 : l = (p ++ [x]) ++ q := by rw [e, List.append_assoc]; rfl
    have hx : x < n := (d.mem x).1 (by rw [e]; simp)
    have := head_sum d a q (p ++ [x]) (B + 20) e2 (fun y hy => by
      rcases List.mem_append.1 hy with hy | hy
      · have := hp y hy; omega
      · rw [List.mem_singleton] at hy
        subst hy
        rcases a.att y hx with h0 | ⟨k, hk, h0⟩
        · omega
        · have h1 := hp k (d.back p y q e k hk)
          have h2 := d.t1 k (d.need hx hk)
          omega) (by omega) i hi
    rw [List.length_cons]
    omega
theorem top_bound {g : List S30} (hv : valid g = true) : (∀ i, i < g.length → atI (headTimes g) i ≤ 1000) ∧ ∀ i, i < g.length → 0 ≤ atI (headTimes g) i := by
  have d := valid_dag hv
  have h := heads_of hv
  refine ⟨fun i hi => ?_, h.pos⟩
  have := head_sum d h (orderOf g) [] 0 rfl (fun i hi => by cases hi) (Int.le_refl _) i ((d.mem i).2 hi)
  have := order_eight hv
  omega
end Go.Proofs.YtgpnododcbkflaaDoor.H
