/- A graph without needs: it is valid, and its order is its own; plain Lean. -/
import Derived.Test.YtokikapljmakbaaDoorPC
namespace Go.Proofs.YtokikapljmakbaaDoor.H
open Go.RowKit Go.Proofs.YtokikapljmakbaaDoorW.PrintWords Go.Proofs.YtokikapljmakbaaDoor.Q

def bare (t : S29) : S29 := ⟨t.f0, [], t.f2, t.f3⟩
theorem bare_fine {g : List S29} (hf : fine g = true) : fine (g.map bare) = true := by
  unfold fine at hf ⊢
  rw [Bool.and_eq_true, List.all_eq_true] at hf
  rw [Bool.and_eq_true, List.length_map, List.all_eq_true]
  refine ⟨hf.1, fun t ht => ?_⟩
  obtain ⟨x, hx, rfl⟩ := List.mem_map.1 ht
  have := hf.2 x hx
  unfold okTask at this ⊢
  rw [Bool.and_eq_true] at this
  rw [Bool.and_eq_true]
  exact ⟨rfl, this.2⟩
theorem bare_needs (g : List S29) (i : Nat) (hi : i < g.length) : (rd_T29 (g.map bare) i).f1 = [] := by
  rw [rd_task _ i (by rw [List.length_map]; exact hi), List.getElem_map]
  rfl
theorem bare_order {g : List S29} (hf : fine g = true) : (order (needs (g.map bare))).1 = List.range g.length := by
  have ho := order_facts (bare_fine hf)
  obtain ⟨l, hl⟩ : ∃ l, (order (needs (g.map bare))).1 = l := ⟨_, rfl⟩
  rw [hl] at ho ⊢
  have hlen : (g.map bare).length = g.length := List.length_map ..
  have hr : ∀ (m : List Nat) (i : Nat), i < g.length → ready (g.map bare) m i = !decide (i ∈ m) := fun m i hi => by
    unfold ready
    rw [bare_needs g i hi]
    simp
  have hpre : ∀ j, j ≤ l.length → l.take j = List.range j := by
    intro j
    induction j with
    | zero => exact fun _ => rfl
    | succ j ih =>
      intro hj
      have hj' : j < l.length := by omega
      rw [List.take_succ_eq_append_getElem hj', ih (by omega), List.range_succ]
      congr 1
      have hlt := ho.lt _ (List.getElem_mem hj')
      have hni := ho.notin j hj'
      rw [ih (by omega), List.mem_range] at hni
      have hge : ¬ j < l[j] := fun h => by
        have := ho.least j hj' j h
        rw [ih (by omega), hr _ j (by omega)] at this
        simp at this
      rw [show l[j] = j by omega]
  have hall : l.length = g.length := by
    have h1 : l.length ≤ g.length := by
      have := nodup_sub l (List.range g.length) ho.nodup (fun x hx => List.mem_range.2 (by have := ho.lt x hx; omega))
      rwa [List.length_range] at this
    rcases Nat.lt_or_ge l.length g.length with h | h
    · have := ho.last l.length (by omega)
      rw [hr _ _ h] at this
      have hm : l.length ∈ l := by simpa using this
      rw [← List.take_length (l := l), hpre l.length (Nat.le_refl _)] at hm
      simp at hm
    · omega
  have := hpre l.length (Nat.le_refl _)
  rw [List.take_length] at this
  rw [this, hall]
theorem bare_valid {g : List S29} (hf : fine g = true) : valid (g.map bare) = true := by
  rw [valid_len _ (bare_fine hf), bare_order hf, List.length_range, List.length_map]
  simp
/-- A task that needs itself is never done. -/
theorem self_invalid {g : List S29} (i : Nat) (hi : i < g.length) (h : (i : Int) ∈ (rd_T29 g i).f1) : valid g = false := by
  refine Bool.eq_false_iff.2 (fun hv => ?_)
  have hf := valid_fine hv
  have ho := order_facts hf
  have hm := full_all ho.nodup ho.lt (by rw [valid_all hv]; exact Nat.le_refl _) i hi
  obtain ⟨j, hj, e⟩ := List.getElem_of_mem hm
  have hb := ho.behind j hj (i : Int) (by rw [e]; exact h)
  have hn := ho.notin j hj
  rw [e] at hn
  exact hn ((mem_ints _ _).1 hb)
theorem Few.bare {n m : Nat} {g : List S29} (h : Few n m g) : Few n m (g.map bare) := by
  refine ⟨by rw [List.length_map]; exact h.1, fun t ht => ?_⟩
  obtain ⟨x, _, rfl⟩ := List.mem_map.1 ht
  exact Nat.zero_le _
end Go.Proofs.YtokikapljmakbaaDoor.H
