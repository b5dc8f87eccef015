/- Orders end late: a task all whose needs are in the order is in it; graphs without their last task, graphs with a task that needs itself; plain Lean. -/
import Derived.Test.YtamomflollhofaaDoorPureRelMore
namespace Go.Proofs.YtamomflollhofaaDoor.H
open Go.RowKit Go.Proofs.YtamomflollhofaaDoorW.PrintWords Go.Proofs.YtamomflollhofaaDoor.Q
set_option linter.unusedVariables false

theorem done_step {g : List S32} (hf : fine g = true) (i : Nat) (hi : i < g.length) (h : ∀ k : Nat, (k : Int) ∈ (rd_T32 g i).f1 → k ∈ (order (needs g)).1) : i ∈ (order (needs g)).1 := by
  have ho := order_facts hf
  refine Classical.byContradiction fun hm => ?_
  have hl := ho.last i hi
  unfold ready at hl
  rw [decide_eq_false hm, Bool.not_false, Bool.true_and] at hl
  rw [List.all_eq_true.2 (fun x hx => decide_eq_true ?_)] at hl
  · cases hl
  · obtain ⟨h0, h1⟩ := needs_range hf i hi x hx
    obtain ⟨n, rfl⟩ : ∃ n : Nat, x = (n : Int) := ⟨x.toNat, by omega⟩
    exact (mem_ints _ _).2 (h n hx)
theorem done_back {g : List S32} (hf : fine g = true) (i k : Nat) (hi : i ∈ (order (needs g)).1) (hk : (k : Int) ∈ (rd_T32 g i).f1) : k ∈ (order (needs g)).1 ∧ k ≠ i := by
  have ho := order_facts hf
  obtain ⟨j, hj, e⟩ := List.getElem_of_mem hi
  have hb := ho.behind j hj (k : Int) (by rw [e]; exact hk)
  rw [mem_ints] at hb
  refine ⟨List.mem_of_mem_take hb, fun he => ?_⟩
  have hn := ho.notin j hj
  rw [e, ← he] at hn
  exact hn hb
theorem valid_of {g : List S32} (hf : fine g = true) (h : ∀ i, i < g.length → i ∈ (order (needs g)).1) : valid g = true := by
  rw [valid_len _ hf]
  have ho := order_facts hf
  have h1 := nodup_sub (List.range g.length) (order (needs g)).1 List.nodup_range (fun x hx => h x (List.mem_range.1 hx))
  have h2 := nodup_sub (order (needs g)).1 (List.range g.length) ho.nodup (fun x hx => List.mem_range.2 (ho.lt x hx))
  rw [List.length_range] at h1 h2
  exact decide_eq_true (by omega)
theorem reach_end {g : List S32} (hf : fine g = true) {x m : Nat} (h : Go.Proofs.YtamomflollhofaaDoor.H.Reach g x m) : x < g.length → ∃ y, y < g.length ∧ (m : Int) ∈ (rd_T32 g y).f1 := by
  induction h with
  | one h => exact fun hx => ⟨_, hx, h⟩
  | more h _ ih => exact fun hx => ih (by have := needs_range hf _ hx _ h; omega)
theorem take_rd (g : List S32) (m j : Nat) (hm : m ≤ g.length) (hj : j < m) : rd_T32 (g.take m) (j : Int) = rd_T32 g (j : Int) := by
  rw [rd_task _ j (by rw [List.length_take]; omega), rd_task g j (by omega), List.getElem_take]
theorem take_fine {g : List S32} (hf : fine g = true) (m : Nat) (hm : m ≤ g.length) (h : ∀ j, j < m → ∀ x, x ∈ (rd_T32 g (j : Int)).f1 → x < (m : Int)) : fine (g.take m) = true := by
  have h8 := fine_len hf
  have hl : (g.take m).length = m := by rw [List.length_take]; omega
  unfold fine
  rw [hl, Bool.and_eq_true, List.all_eq_true]
  refine ⟨decide_eq_true (by omega), fun t ht => ?_⟩
  obtain ⟨j, hj, e⟩ := List.getElem_of_mem ht
  rw [hl] at hj
  rw [List.getElem_take] at e
  have ho := task_ok hf j (by omega)
  have er := rd_task g j (by omega)
  rw [e] at er
  have hj2 := h j hj
  rw [er] at ho hj2
  unfold okTask at ho ⊢
  rw [Bool.and_eq_true] at ho ⊢
  refine ⟨?_, ho.2⟩
  obtain ⟨a1, a2⟩ := (asc_is g.length _ 0).1 ho.1
  exact (asc_is m _ 0).2 ⟨fun x hx => ⟨(a1 x hx).1, by have := hj2 x hx; omega⟩, a2⟩
theorem less_is {g : List S32} (hv : valid g = true) (m : Nat) (hm : m + 1 = g.length) : valid (g.take m) = true ↔ rel2 g (m : Int) = [] := by
  have hf := valid_fine hv
  have hl : (g.take m).length = m := by rw [List.length_take]; omega
  constructor
  · intro hv2
    refine List.eq_nil_iff_forall_not_mem.2 fun z hz => ?_
    obtain ⟨x, rfl⟩ := rel2_nat hz
    obtain ⟨hx, hr⟩ := (rel2_mem hv m (by omega) x).1 hz
    obtain ⟨y, hy, hym⟩ := reach_end hf hr hx
    have hne : y ≠ m := fun e => reach_irrefl hv m (by omega) (by rw [e] at hym; exact Reach.one hym)
    have := needs_range (valid_fine hv2) y (by omega) (m : Int) (by rw [take_rd g m y (by omega) (by omega)]; exact hym)
    omega
  · intro he
    have hno : ∀ j, j < m → ∀ x, x ∈ (rd_T32 g (j : Int)).f1 → x < (m : Int) := fun j hj x hx => by
      obtain ⟨h0, h1⟩ := needs_range hf j (by omega) x hx
      have hne : x ≠ (m : Int) := fun e => by
        subst e
        have := (rel2_mem hv m (by omega) j).2 ⟨by omega, Reach.one hx⟩
        rw [he] at this
        cases this
      omega
    have hf2 := take_fine hf m (by omega) hno
    refine valid_of hf2 fun i hi => ?_
    rw [hl] at hi
    have h := (valid_dag hv).up (fun i => i < m → i ∈ (order (needs (g.take m))).1) (fun i hin ih him => by
      refine done_step hf2 i (by omega) fun k hk => ?_
      rw [take_rd g m i (by omega) him] at hk
      have := hno i him _ hk
      exact ih k ((nb_mem hf i hin k).2 hk) (by omega)) i (by omega)
    exact h hi
theorem reach_ind {g : List S32} (P : Nat → Prop) {k : Nat} (h1 : ∀ x : Nat, (k : Int) ∈ (rd_T32 g (x : Int)).f1 → P x) (h2 : ∀ x j : Nat, (j : Int) ∈ (rd_T32 g (x : Int)).f1 → P j → P x) : ∀ {x : Nat}, Go.Proofs.YtamomflollhofaaDoor.H.Reach g x k → P x := by
  intro x hr
  induction hr with
  | one h => exact h1 _ h
  | more h _ ih => exact h2 _ _ h (ih h1)
/-- Task k needs itself and nothing else. -/
def selfish (g : List S32) (k : Nat) : List S32 := g.set k ⟨(rd_T32 g (k : Int)).f0, [(k : Int)], (rd_T32 g (k : Int)).f2, (rd_T32 g (k : Int)).f3⟩
theorem selfish_rd (g : List S32) (k : Nat) (hk : k < g.length) (j : Nat) (hj : j < g.length) : (rd_T32 (selfish g k) (j : Int)).f1 = if j = k then [(k : Int)] else (rd_T32 g (j : Int)).f1 := by
  have hl : (selfish g k).length = g.length := List.length_set ..
  rw [rd_task _ j (by rw [hl]; exact hj)]
  unfold selfish
  rw [List.getElem_set]
  by_cases e : j = k
  · rw [if_pos e, if_pos e.symm]
  · rw [if_neg e, if_neg (fun h => e h.symm), rd_task g j hj]
theorem selfish_fine {g : List S32} (hf : fine g = true) (k : Nat) (hk : k < g.length) : fine (selfish g k) = true := by
  have h8 := fine_len hf
  have hl : (selfish g k).length = g.length := List.length_set ..
  unfold fine
  rw [hl, Bool.and_eq_true, List.all_eq_true]
  refine ⟨decide_eq_true h8, fun t ht => ?_⟩
  rcases List.mem_or_eq_of_mem_set ht with ht | ht
  · obtain ⟨j, hj, e⟩ := List.getElem_of_mem ht
    have ho := task_ok hf j hj
    rw [rd_task g j hj, e] at ho
    exact ho
  · subst ht
    have ho := task_ok hf k hk
    unfold okTask at ho ⊢
    rw [Bool.and_eq_true] at ho ⊢
    refine ⟨(asc_is g.length _ 0).2 ⟨fun x hx => ?_, rfl⟩, ho.2⟩
    rw [List.mem_singleton] at hx
    subst hx
    omega
theorem selfish_order {g : List S32} (hv : valid g = true) (k : Nat) (hk : k < g.length) (i : Nat) (hi : i < g.length) : i ∈ (order (needs (selfish g k))).1 ↔ i ≠ k ∧ ¬ Go.Proofs.YtamomflollhofaaDoor.H.Reach g i k := by
  have hf := valid_fine hv
  have hf2 := selfish_fine hf k hk
  have hl : (selfish g k).length = g.length := List.length_set ..
  have hkk : ¬ k ∈ (order (needs (selfish g k))).1 := fun h => (done_back hf2 k k h (by rw [selfish_rd g k hk k hk, if_pos rfl]; simp)).2 rfl
  constructor
  · intro h
    refine ⟨fun e => hkk (e ▸ h), fun hr => ?_⟩
    have go : ∀ {x : Nat}, Go.Proofs.YtamomflollhofaaDoor.H.Reach g x k → (x < g.length → ¬ x ∈ (order (needs (selfish g k))).1) := reach_ind (fun x => x < g.length → ¬ x ∈ (order (needs (selfish g k))).1) (fun x h hx hm => by
      by_cases e : x = k
      · exact hkk (e ▸ hm)
      · exact hkk (done_back hf2 _ k hm (by rw [selfish_rd g k hk _ hx, if_neg e]; exact h)).1) (fun x y h ih hx hm => by
      by_cases e : x = k
      · exact hkk (e ▸ hm)
      · exact ih (by have := needs_range hf _ hx _ h; omega) (done_back hf2 _ _ hm (by rw [selfish_rd g k hk _ hx, if_neg e]; exact h)).1)
    exact go hr hi h
  · rintro ⟨h1, h2⟩
    exact (valid_dag hv).up (fun i => i ≠ k ∧ ¬ Go.Proofs.YtamomflollhofaaDoor.H.Reach g i k → i ∈ (order (needs (selfish g k))).1) (fun i hin ih hc => by
      refine done_step hf2 i (by omega) fun x hx => ?_
      rw [selfish_rd g k hk i hin, if_neg hc.1] at hx
      refine ih x ((nb_mem hf i hin x).2 hx) ⟨fun e => ?_, fun hr => hc.2 (Reach.more hx hr)⟩
      subst e
      exact hc.2 (Reach.one hx)) i hi ⟨h1, h2⟩
end Go.Proofs.YtamomflollhofaaDoor.H
