/- Valid graphs as tasks without rings, their heads, tails and longest times; plain Lean. -/
import Derived.Test.YtokikapljmakbaaDoorPT
import Derived.Test.YtokikapljmakbaaDoorPA
import Derived.Test.YtokikapljmakbaaDoorHV
namespace Go.Proofs.YtokikapljmakbaaDoor.H
open Go.RowKit Go.Proofs.YtokikapljmakbaaDoorW.PrintWords Go.Proofs.YtokikapljmakbaaDoorW.PrintLast Go.Proofs.YtokikapljmakbaaDoorW.PrintMore Go.Proofs.YtokikapljmakbaaDoor.Q
set_option linter.unusedVariables false

theorem w1k (x : Int) (h0 : -1000000 ≤ x) (h1 : x ≤ 1000000) : wrap64 x = x := w64 x (by omega) (by omega)
theorem nb_mem {g : List S29} (hf : fine g = true) (i : Nat) (hi : i < g.length) (k : Nat) : k ∈ nbOf g i ↔ (k : Int) ∈ (rd_T29 g i).f1 := by
  have h8 := fine_len hf
  have ha := fine_asc hf i hi
  unfold nbOf
  rw [mem_elems, at0_get _ i (by rw [needs_len]; exact hi), needs_get g i hi, mask_test g.length _ 0 0 k (Int.le_refl _) ha, Nat.zero_testBit, Bool.false_or, decide_eq_true_eq, rd_task g i hi]
  constructor
  · exact fun h => h.2
  · intro h
    have := (asc_is g.length _ 0).1 ha |>.1 _ h
    exact ⟨by omega, h⟩
theorem task_ok {g : List S29} (hf : fine g = true) (i : Nat) (hi : i < g.length) : okTask g.length (rd_T29 g i) = true := by
  unfold fine at hf
  rw [Bool.and_eq_true, List.all_eq_true] at hf
  rw [rd_task g i hi]
  exact hf.2 _ (List.getElem_mem hi)
theorem time_ok {g : List S29} (hf : fine g = true) (i : Nat) (hi : i < g.length) : 1 ≤ tmOf g i ∧ tmOf g i ≤ 20 := by
  have := task_ok hf i hi
  unfold okTask at this
  simp only [Bool.and_eq_true, decide_eq_true_eq] at this
  exact this.2.1
theorem valid_dag {g : List S29} (hv : valid g = true) : Dag g.length (nbOf g) (tmOf g) (orderOf g) := by
  have hf := valid_fine hv
  have ho := order_facts hf
  have hl := valid_all hv
  refine ⟨ho.nodup, fun i => ⟨fun h => ho.lt i h, fun h => full_all ho.nodup ho.lt (by omega) i h⟩, fun p i q e k hk => ?_, fun i hi => (time_ok hf i hi).1, fun i hi => (time_ok hf i hi).2⟩
  have hj : p.length < (order (needs g)).1.length := by
    show p.length < (orderOf g).length
    rw [e]
    simp
  have ei : (order (needs g)).1[p.length]'hj = i := by
    have : (orderOf g)[p.length]? = some i := by rw [e]; simp
    exact Option.some.inj ((List.getElem?_eq_getElem hj).symm.trans this)
  have hil : i < g.length := by rw [← ei]; exact ho.lt _ (List.getElem_mem hj)
  have hb := ho.behind p.length hj (k : Int) (by rw [ei]; exact (nb_mem hf i hil k).1 hk)
  have ht : (order (needs g)).1.take p.length = p := by
    show (orderOf g).take p.length = p
    rw [e]
    simp
  rw [ht] at hb
  exact (mem_ints _ _).1 hb
theorem order_eight {g : List S29} (hv : valid g = true) : (orderOf g).length ≤ 8 := by
  have h8 := fine_len (valid_fine hv)
  have : (orderOf g).length = g.length := valid_all hv
  omega
theorem f1_is {g : List S29} (hf : fine g = true) (i : Nat) (hi : i < g.length) : (rd_T29 g i).f1 = ints (nbOf g i) := by
  rw [rd_task g i hi]
  unfold nbOf
  rw [needs_at g i hi]
  exact set_ints g.length (fine_len hf) (fine_asc hf i hi)
theorem nb_lt {g : List S29} (hf : fine g = true) (i : Nat) (hi : i < g.length) (k : Nat) (hk : k ∈ nbOf g i) : k < g.length := by
  have h1 := (asc_is g.length _ 0).1 (fine_asc hf i hi) |>.1 (k : Int) (by rw [← rd_task g i hi]; exact (nb_mem hf i hi k).1 hk)
  omega
theorem nb_len (g : List S29) (i : Nat) : (nbOf g i).length ≤ 8 := elems_len _
theorem rd_atI (l : List Int) (i : Nat) (h : i < l.length) : rd l i = atI l i := by
  rw [rd_get l i h]
  unfold atI
  rw [List.getD_eq_getElem?_getD, List.getElem?_eq_getElem h]
  rfl
theorem order_all {g : List S29} (hv : valid g = true) : (orderOf g).length = g.length := valid_all hv
theorem order_lt' {g : List S29} (hv : valid g = true) (j : Nat) (hj : j < (orderOf g).length) : (orderOf g)[j] < g.length := (order_facts (valid_fine hv)).lt _ (List.getElem_mem hj)
end Go.Proofs.YtokikapljmakbaaDoor.H
