/- Needs and users are as many; plain Lean. -/
import Derived.Test.YtamomflollhofaaDoorPureRelMore
import Derived.Test.YtamomflollhofaaDoorPureNeedsS
namespace Go.Proofs.YtamomflollhofaaDoor.H
open Go.RowKit Go.Proofs.YtamomflollhofaaDoorW.PrintWords Go.Proofs.YtamomflollhofaaDoor.Q
set_option linter.unusedVariables false

theorem sum_add (f h : Nat → Nat) : ∀ l : List Nat, (l.map fun x => f x + h x).sum = (l.map f).sum + (l.map h).sum
  | [] => rfl
  | a :: l => by
    rw [List.map_cons, List.sum_cons, List.map_cons, List.sum_cons, List.map_cons, List.sum_cons, sum_add f h l]
    omega
theorem filter_sum (p : Nat → Bool) : ∀ l : List Nat, (l.filter p).length = (l.map fun x => if p x = true then 1 else 0).sum
  | [] => rfl
  | a :: l => by
    rw [List.filter_cons, List.map_cons, List.sum_cons, ← filter_sum p l]
    split
    · rw [List.length_cons]; omega
    · omega
theorem sum_zero : ∀ l : List Nat, (l.map fun _ => 0).sum = 0
  | [] => rfl
  | a :: l => by rw [List.map_cons, List.sum_cons, sum_zero l]
theorem count_swap (P : Nat → Nat → Bool) (m : List Nat) : ∀ l : List Nat, (l.map fun j => (m.filter fun x => P j x).length).sum = (m.map fun x => (l.filter fun j => P j x).length).sum
  | [] => by
    show 0 = _
    exact (sum_zero m).symm
  | a :: l => by
    rw [List.map_cons, List.sum_cons, count_swap P m l, filter_sum, ← sum_add]
    congr 1
    refine List.map_congr_left fun x _ => ?_
    rw [List.filter_cons]
    split
    · rw [List.length_cons]; omega
    · omega
theorem rel_counts {g : List S32} (hv : valid g = true) : ((List.range' 0 g.length).map fun (j : Nat) => (rel1 g (j : Int)).length).sum = ((List.range' 0 g.length).map fun (j : Nat) => (rel2 g (j : Int)).length).sum := by
  have hf := valid_fine hv
  have h8 := fine_len hf
  have hs := known_sets hf
  have e1 : ((List.range' 0 g.length).map fun (j : Nat) => (rel1 g (j : Int)).length) = (List.range' 0 g.length).map fun j => ((List.range' 0 g.length).filter fun x => (at0 (known (needs g)).1 j).testBit x).length := by
    refine List.map_congr_left fun j hj => ?_
    have hj2 : j < g.length := by rw [List.mem_range'_1] at hj; omega
    rw [rel1_is hv j hj2, ints_len, below_list h8 (hs.1.at j) _ (fun i _ => rfl)]
  have e2 : ((List.range' 0 g.length).map fun (j : Nat) => (rel2 g (j : Int)).length) = (List.range' 0 g.length).map fun x => ((List.range' 0 g.length).filter fun j => (at0 (known (needs g)).1 j).testBit x).length := by
    refine List.map_congr_left fun x hx => ?_
    have hx2 : x < g.length := by rw [List.mem_range'_1] at hx; omega
    rw [rel2_is hv x hx2, ints_len, below_list h8 (hs.2.at x) (fun j => (at0 (known (needs g)).1 j).testBit x) (fun j hj => ?_)]
    rw [Bool.eq_iff_iff, (known_is hv x j hx2 hj).2, (known_is hv j x hj hx2).1]
  rw [e1, e2]
  exact count_swap _ _ _
end Go.Proofs.YtamomflollhofaaDoor.H
