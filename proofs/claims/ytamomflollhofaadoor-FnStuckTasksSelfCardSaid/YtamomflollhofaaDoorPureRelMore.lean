/- Needs have fewer needs; plain Lean. -/
import Derived.Test.YtamomflollhofaaDoorPureRel
namespace Go.Proofs.YtamomflollhofaaDoor.H
open Go.RowKit Go.Proofs.YtamomflollhofaaDoorW.PrintWords Go.Proofs.YtamomflollhofaaDoor.Q
set_option linter.unusedVariables false

theorem reach_irrefl {g : List S32} (hv : valid g = true) (i : Nat) (hi : i < g.length) : ¬ Go.Proofs.YtamomflollhofaaDoor.H.Reach g i i := by
  have ho := order_facts (valid_fine hv)
  exact Reach.irrefl ho (full_all ho.nodup ho.lt (by rw [valid_all hv]; exact Nat.le_refl _) i hi)
theorem elems_nodup (s : Nat) : (elems s).Nodup := List.Pairwise.filter _ List.nodup_range
theorem rel1_elem {g : List S32} {a : Int} {j : Nat} (hj : j < (rel1 g a).length) : ∃ (i y : Nat), a = (i : Int) ∧ i < g.length ∧ valid g = true ∧ rd (rel1 g a) (j : Int) = (y : Int) ∧ y < g.length ∧ Go.Proofs.YtamomflollhofaaDoor.H.Reach g i y := by
  have hc : valid g = true ∧ 0 ≤ a ∧ a ≤ (g.length : Int) - 1 := Classical.byContradiction fun h => by
    unfold rel1 at hj
    rw [if_neg h] at hj
    cases hj
  obtain ⟨i, rfl⟩ : ∃ i : Nat, a = (i : Int) := ⟨a.toNat, by omega⟩
  have hi : i < g.length := by omega
  obtain ⟨y, hy⟩ := rel1_nat (List.getElem_mem hj)
  have hm := (rel1_mem hc.1 i hi y).1 (by rw [← hy]; exact List.getElem_mem hj)
  exact ⟨i, y, rfl, hi, hc.1, by rw [rd_get _ j hj, hy], hm.1, hm.2⟩
theorem rel1_less {g : List S32} (hv : valid g = true) (i y : Nat) (hi : i < g.length) (hy : y < g.length) (h : Go.Proofs.YtamomflollhofaaDoor.H.Reach g i y) : (rel1 g (y : Int)).length < (rel1 g (i : Int)).length := by
  have h1 : ∀ x, x ∈ elems (at0 (known (needs g)).1 y) → x ∈ elems (at0 (known (needs g)).1 i) := fun x hx => by
    have hx1 : ((x : Nat) : Int) ∈ rel1 g (y : Int) := by rw [rel1_is hv y hy, mem_ints]; exact hx
    have := (rel1_mem hv y hy x).1 hx1
    have h2 := (rel1_mem hv i hi x).2 ⟨this.1, h.trans this.2⟩
    rw [rel1_is hv i hi, mem_ints] at h2
    exact h2
  have h2 : y ∈ elems (at0 (known (needs g)).1 i) := by
    have := (rel1_mem hv i hi y).2 ⟨hy, h⟩
    rw [rel1_is hv i hi, mem_ints] at this
    exact this
  have h3 : ¬ y ∈ elems (at0 (known (needs g)).1 y) := fun hh => by
    have : ((y : Nat) : Int) ∈ rel1 g (y : Int) := by rw [rel1_is hv y hy, mem_ints]; exact hh
    exact reach_irrefl hv y hy ((rel1_mem hv y hy y).1 this).2
  rw [rel1_is hv y hy, rel1_is hv i hi, ints_len, ints_len]
  have hnd : (y :: elems (at0 (known (needs g)).1 y)).Nodup := List.nodup_cons.2 ⟨h3, elems_nodup _⟩
  have := nodup_sub _ (elems (at0 (known (needs g)).1 i)) hnd (fun x hx => by
    rcases List.mem_cons.1 hx with rfl | hx
    · exact h2
    · exact h1 x hx)
  rw [List.length_cons] at this
  omega
end Go.Proofs.YtamomflollhofaaDoor.H
