/- All needs and all users of a task, as the program answers them; plain Lean. -/
import Derived.Test.YtamomflollhofaaDoorPureTimes
import Derived.Test.YtamomflollhofaaDoorPureKnown
import Derived.Test.YtamomflollhofaaDoorHKnownAt
namespace Go.Proofs.YtamomflollhofaaDoor.H
open Go.RowKit Go.Proofs.YtamomflollhofaaDoorW.PrintWords Go.Proofs.YtamomflollhofaaDoor.Q
set_option linter.unusedVariables false

theorem rel1_is {g : List S32} (hv : valid g = true) (i : Nat) (hi : i < g.length) : rel1 g (i : Int) = ints (elems (at0 (known (needs g)).1 i)) := by
  unfold rel1
  rw [if_pos ⟨hv, by omega, by omega⟩, Int.toNat_natCast]
theorem rel2_is {g : List S32} (hv : valid g = true) (i : Nat) (hi : i < g.length) : rel2 g (i : Int) = ints (elems (at0 (known (needs g)).2 i)) := by
  unfold rel2
  rw [if_pos ⟨hv, by omega, by omega⟩, Int.toNat_natCast]
theorem ints_nat {l : List Nat} {x : Int} (h : x ∈ ints l) : ∃ y : Nat, x = (y : Int) := by
  unfold ints at h
  obtain ⟨y, _, rfl⟩ := List.mem_map.1 h
  exact ⟨y, rfl⟩
theorem rel1_nat {g : List S32} {a x : Int} (h : x ∈ rel1 g a) : ∃ y : Nat, x = (y : Int) := by
  unfold rel1 at h
  split at h
  · exact ints_nat h
  · cases h
theorem rel2_nat {g : List S32} {a x : Int} (h : x ∈ rel2 g a) : ∃ y : Nat, x = (y : Int) := by
  unfold rel2 at h
  split at h
  · exact ints_nat h
  · cases h
theorem rel1_mem {g : List S32} (hv : valid g = true) (i : Nat) (hi : i < g.length) (x : Nat) : ((x : Int) ∈ rel1 g (i : Int)) ↔ x < g.length ∧ Reach g i x := by
  have hf := valid_fine hv
  have h8 := fine_len hf
  have hs := (known_sets hf).1
  rw [rel1_is hv i hi, mem_ints]
  constructor
  · intro h
    have hx := elem_lt (hs.at i) h
    rw [mem_elems] at h
    exact ⟨hx, (known_is hv i x hi hx).1.1 h.2⟩
  · rintro ⟨hx, h⟩
    rw [mem_elems]
    exact ⟨by omega, (known_is hv i x hi hx).1.2 h⟩
theorem rel2_mem {g : List S32} (hv : valid g = true) (i : Nat) (hi : i < g.length) (x : Nat) : ((x : Int) ∈ rel2 g (i : Int)) ↔ x < g.length ∧ Reach g x i := by
  have hf := valid_fine hv
  have h8 := fine_len hf
  have hs := (known_sets hf).2
  rw [rel2_is hv i hi, mem_ints]
  constructor
  · intro h
    have hx := elem_lt (hs.at i) h
    rw [mem_elems] at h
    exact ⟨hx, (known_is hv i x hi hx).2.1 h.2⟩
  · rintro ⟨hx, h⟩
    rw [mem_elems]
    exact ⟨by omega, (known_is hv i x hi hx).2.2 h⟩
theorem rel1_eight (g : List S32) (a : Int) : (rel1 g a).length ≤ 8 := by
  unfold rel1
  split
  · rw [ints_len]
    exact elems_len _
  · simp
theorem rel2_eight (g : List S32) (a : Int) : (rel2 g a).length ≤ 8 := by
  unfold rel2
  split
  · rw [ints_len]
    exact elems_len _
  · simp
theorem rel1_held (g : List S32) (a : Int) : Held (rel1 g a) := by
  have := rel1_eight g a
  unfold Held
  omega
theorem rel2_held (g : List S32) (a : Int) : Held (rel2 g a) := by
  have := rel2_eight g a
  unfold Held
  omega
end Go.Proofs.YtamomflollhofaaDoor.H
