/- The times of all needs and the head; plain Lean. -/
import Derived.Test.YtamomflollhofaaDoorPureRelMore
import Derived.Test.YtamomflollhofaaDoorPureHeadI
namespace Go.Proofs.YtamomflollhofaaDoor.H
open Go.RowKit Go.Proofs.YtamomflollhofaaDoorW.PrintWords Go.Proofs.YtamomflollhofaaDoor.Q
set_option linter.unusedVariables false

theorem sum_up (f : Nat → Int) : ∀ (b : List Nat), (∀ x, x ∈ b → 0 ≤ f x) → 0 ≤ (b.map f).sum
  | [], _ => Int.le_refl _
  | x :: b, h => by
    have h1 := h x List.mem_cons_self
    have h2 := sum_up f b (fun y hy => h y (List.mem_cons_of_mem _ hy))
    rw [List.map_cons, List.sum_cons]
    omega
theorem sum_sub (f : Nat → Int) : ∀ (a b : List Nat), a.Nodup → (∀ x, x ∈ a → x ∈ b) → (∀ x, x ∈ b → 0 ≤ f x) → (a.map f).sum ≤ (b.map f).sum
  | [], b, _, _, h => sum_up f b h
  | x :: a, b, hn, hs, h => by
    obtain ⟨p, q, e⟩ := List.append_of_mem (hs x List.mem_cons_self)
    rw [List.nodup_cons] at hn
    have hmem : ∀ y, y ∈ p ++ q → y ∈ b := fun y hy => by
      rw [e]
      rcases List.mem_append.1 hy with hy | hy
      · exact List.mem_append_left _ hy
      · exact List.mem_append_right _ (List.mem_cons_of_mem _ hy)
    have h2 := sum_sub f a (p ++ q) hn.2 (fun y hy => by
      have := hs y (List.mem_cons_of_mem _ hy)
      rw [e] at this
      rcases List.mem_append.1 this with t | t
      · exact List.mem_append_left _ t
      · rcases List.mem_cons.1 t with t | t
        · subst t
          exact absurd hy hn.1
        · exact List.mem_append_right _ t) (fun y hy => h y (hmem y hy))
    rw [e, List.map_cons, List.sum_cons, List.map_append, List.sum_append, List.map_cons, List.sum_cons]
    rw [List.map_append, List.sum_append] at h2
    omega
def allOf (g : List S32) (i : Nat) : List Nat := elems (at0 (known (needs g)).1 i)
theorem allOf_mem {g : List S32} (hv : valid g = true) (i : Nat) (hi : i < g.length) (x : Nat) : x ∈ allOf g i ↔ x < g.length ∧ Go.Proofs.YtamomflollhofaaDoor.H.Reach g i x := by
  rw [← rel1_mem hv i hi x, rel1_is hv i hi, mem_ints]
  exact Iff.rfl
theorem all_sub {g : List S32} (hv : valid g = true) (i k : Nat) (hi : i < g.length) (hk : k ∈ nbOf g i) : (∀ x, x ∈ k :: allOf g k → x ∈ allOf g i) ∧ (k :: allOf g k).Nodup := by
  have hf := valid_fine hv
  have hkn := nb_lt hf i hi k hk
  have hr : Go.Proofs.YtamomflollhofaaDoor.H.Reach g i k := Reach.one ((nb_mem hf i hi k).1 hk)
  constructor
  · intro x hx
    rw [allOf_mem hv i hi]
    rcases List.mem_cons.1 hx with hx | hx
    · subst hx
      exact ⟨hkn, hr⟩
    · have := (allOf_mem hv k hkn x).1 hx
      exact ⟨this.1, hr.trans this.2⟩
  · refine List.nodup_cons.2 ⟨fun h => reach_irrefl hv k hkn ((allOf_mem hv k hkn k).1 h).2, elems_nodup _⟩
theorem all_time {g : List S32} (hv : valid g = true) : ∀ i, i < g.length → ∀ x, x ∈ allOf g i → 1 ≤ tmOf g x ∧ tmOf g x ≤ 20 := fun i hi x hx =>
  time_ok (valid_fine hv) x ((allOf_mem hv i hi x).1 hx).1
theorem head_all {g : List S32} (hv : valid g = true) : ∀ i, i < g.length → atI (headTimes g) i ≤ ((allOf g i).map (tmOf g)).sum :=
  (valid_dag hv).up _ fun i hi ih => by
    have hpos : ∀ x, x ∈ allOf g i → 0 ≤ tmOf g x := fun x hx => by have := all_time hv i hi x hx; omega
    rcases (heads_of hv).att i hi with e | ⟨k, hk, e⟩
    · rw [e]
      exact sum_up _ _ hpos
    · obtain ⟨h1, h2⟩ := all_sub hv i k hi hk
      have h3 := sum_sub (tmOf g) _ _ h2 h1 hpos
      have h4 := ih k hk
      rw [List.map_cons, List.sum_cons] at h3
      omega
theorem head_pos {g : List S32} (hv : valid g = true) (i : Nat) (hi : i < g.length) : (atI (headTimes g) i > 0) ↔ ((allOf g i).map (tmOf g)).sum > 0 := by
  have hpos : ∀ x, x ∈ allOf g i → 0 ≤ tmOf g x := fun x hx => by have := all_time hv i hi x hx; omega
  have h0 := (heads_of hv).pos i hi
  have hs := head_all hv i hi
  constructor
  · intro h
    omega
  · intro h
    have hne : ¬ atI (headTimes g) i = 0 := fun e => by
      have hn := (head_none (valid_dag hv) (heads_of hv) hi).1 e
      have : allOf g i = [] := List.eq_nil_iff_forall_not_mem.2 fun x hx => by
        have hr := ((allOf_mem hv i hi x).1 hx).2
        have : ∃ k, k ∈ nbOf g i := by
          cases hr with
          | one h => exact ⟨x, (nb_mem (valid_fine hv) i hi x).2 h⟩
          | more h _ => exact ⟨_, (nb_mem (valid_fine hv) i hi _).2 h⟩
        obtain ⟨k, hk⟩ := this
        rw [hn] at hk
        cases hk
      rw [this] at h
      simp at h
    omega
end Go.Proofs.YtamomflollhofaaDoor.H
