/- The pure statement of FnStuckTasksNeeds: just those tasks are stuck that need a stuck one. -/
import Derived.Test.YtegogaokcafpjaaDoorPureStuck
import Derived.Test.YtegogaokcafpjaaDoorQx26
namespace Go.Proofs.YtegogaokcafpjaaDoor.Pure
open Go.RowKit Go.Proofs.YtegogaokcafpjaaDoor.Q Go.Proofs.YtegogaokcafpjaaDoor.H Go.Proofs.YtegogaokcafpjaaDoorW.PrintWords

theorem stuck_mem {g : List S33} (hf : fine g = true) (i : Nat) : ((i : Int) ∈ H.stuck g) ↔ i < g.length ∧ ¬ i ∈ (order (needs g)).1 := by
  rw [stuck_list hf, mem_ints, List.mem_filter, List.mem_range]
  simp
theorem stuck_needs {g : List S33} (hf : fine g = true) (i : Nat) (hi : i < g.length) : ((rd_T33 g i).f1.any fun x => decide (x ∈ H.stuck g)) = decide ((i : Int) ∈ H.stuck g) := by
  have ho := order_facts hf
  have h8 := fine_len hf
  rw [Bool.eq_iff_iff, List.any_eq_true]
  simp only [decide_eq_true_eq]
  rw [stuck_mem hf]
  have hb := (asc_is g.length _ 0).1 (fine_asc hf i hi) |>.1
  rw [← rd_task g i hi] at hb
  constructor
  · rintro ⟨x, hx, hs⟩
    refine ⟨hi, fun hm => ?_⟩
    obtain ⟨j, hj, e⟩ := List.getElem_of_mem hm
    have hbh := ho.behind j hj x (by rw [e]; exact hx)
    have hx2 := hb x hx
    obtain ⟨n, rfl⟩ : ∃ n : Nat, x = (n : Int) := ⟨x.toNat, by omega⟩
    rw [mem_ints] at hbh
    exact ((stuck_mem hf n).1 hs).2 (List.mem_of_mem_take hbh)
  · rintro ⟨_, hm⟩
    have hl := ho.last i hi
    unfold ready at hl
    rw [decide_eq_false hm, Bool.not_false, Bool.true_and] at hl
    refine Classical.byContradiction (fun hc => ?_)
    rw [List.all_eq_true.2 (fun x hx => decide_eq_true (Classical.byContradiction (fun hn => hc ⟨x, hx, ?_⟩)))] at hl
    · cases hl
    · have hx2 := hb x hx
      obtain ⟨n, rfl⟩ : ∃ n : Nat, x = (n : Int) := ⟨x.toNat, by omega⟩
      rw [stuck_mem hf]
      exact ⟨by omega, fun h => hn ((mem_ints _ _).2 h)⟩
theorem sn_l1 (g : List S33) (hg : g.length ≤ 8) (out : List Int) (ho : Held out) (i : Nat) (hi : i < g.length) (hf : (rd_T33 g i).f1.length ≤ 100) {r : Bool} (hr : ∀ s : Bool, s = ((rd_T33 g i).f1.any fun x => decide (x ∈ out)) → Evn (fun k => (laws_isIn.f k out (i : Int)).bind fun t => if (s != t) = true then some false else laws_FnStuckTasksNeeds.l0 k g out ((i + 1 : Nat) : Int)) r) :
    ∀ (d j : Nat) (s : Bool), j + d = (rd_T33 g i).f1.length → s = (((rd_T33 g i).f1.take j).any fun x => decide (x ∈ out)) → Evn (fun k => laws_FnStuckTasksNeeds.l1 k g out (i : Int) s (j : Int)) r
  | 0, j, s, h, hs => by
    rw [List.take_of_length_le (by omega)] at hs
    refine Evn.step (hr s hs) fun k => ?_
    simp only [laws_FnStuckTasksNeeds.l1]
    rw [if_pos (by omega), if_pos (by omega), if_neg (by omega)]
    simp only [wrap_up i (by omega)]
  | d + 1, j, s, h, hs => by
    have hj : j < (rd_T33 g i).f1.length := by omega
    have ht : (((rd_T33 g i).f1.take (j + 1)).any fun x => decide (x ∈ out)) = (s || decide (rd (rd_T33 g i).f1 j ∈ out)) := by
      rw [List.take_succ_eq_append_getElem hj, List.any_append, ← hs, rd_get _ j hj]
      simp
    cases s with
    | true =>
      refine Evn.step (sn_l1 g hg out ho i hi hf hr d (j + 1) true (by omega) (by rw [ht]; rfl)) fun k => ?_
      simp only [laws_FnStuckTasksNeeds.l1]
      rw [if_pos (by omega), if_pos (by omega), if_pos (by omega), if_pos trivial, wrap_up j (by omega)]
    | false =>
      refine Evn.step (g := fun k => (laws_isIn.f k out (rd (rd_T33 g i).f1 j)).bind fun t => laws_FnStuckTasksNeeds.l1 k g out (i : Int) t ((j + 1 : Nat) : Int)) ?_ fun k => ?_
      · refine Evn.bind (lawIn_is out ho _) ?_
        exact sn_l1 g hg out ho i hi hf hr d (j + 1) _ (by omega) (by rw [ht]; rfl)
      · simp only [laws_FnStuckTasksNeeds.l1]
        rw [if_pos (by omega), if_pos (by omega), if_pos (by omega), if_neg (by simp), if_pos (by omega), wrap_up j (by omega)]
theorem FnStuckTasksNeeds : laws_FnStuckTasksNeeds.Pure := by
  intro l0 _ _ hw
  refine Evn.at_ (f := fun k => laws_FnStuckTasksNeeds.f k l0) ?_
  unfold laws_FnStuckTasksNeeds.f
  by_cases hl : (l0.length : Int) > 1048576
  · simp only [if_pos hl]
    exact Evn.const rfl
  simp only [if_neg hl]
  obtain ⟨g, hg, hf⟩ := drawStuck_y l0 hw
  obtain ⟨h1, h2, h3⟩ := few_held hf (by omega) (by omega)
  refine Evn.bind hg (Evn.bind (Evn.const (implStuck_is h1)) (Evn.bind (specStuck_is g h2 h3) (Evn.bind (equalInts_same _ (stuck_held g)) ?_)))
  simp only [if_true]
  by_cases hz : (H.stuck g).length = 0
  · rw [show (((H.stuck g).length : Int) == 0) = true by simp [hz]]
    refine Evn.step (g := fun k => (spec_StuckTasks.f k g).bind fun a => (laws_equalInts.f k (H.stuck g) a).bind fun b => some b) ?_ fun k => ?_
    · exact Evn.bind (specStuck_is g h2 h3) (Evn.bind (equalInts_same _ (stuck_held g)) (Evn.const rfl))
    · simp only [laws_FnStuckTasksNeeds.j0]
      rfl
  · rw [show (((H.stuck g).length : Int) == 0) = false by simpa using hz]
    have hfine : fine g = true := by
      refine Classical.byContradiction (fun hc => hz ?_)
      unfold H.stuck
      rw [if_neg hc]
      rfl
    have h8 := fine_len hfine
    refine Evn.step (g := fun k => laws_FnStuckTasksNeeds.l0 k g (H.stuck g) 0) ?_ fun k => ?_
    · refine goes_all g.length (fun k i => laws_FnStuckTasksNeeds.l0 k g (H.stuck g) i) true 0 ?_ ?_ g.length 0 (Nat.le_refl _) (by omega)
      · refine Evn.step (Evn.const rfl) fun k => ?_
        simp only [laws_FnStuckTasksNeeds.l0]
        rw [if_neg (by omega)]
      · intro i _ hi hN
        refine Evn.step (g := fun k => laws_FnStuckTasksNeeds.l1 k g (H.stuck g) (i : Int) false 0) ?_ fun k => ?_
        · refine sn_l1 g h8 _ (stuck_held g) i hi (Nat.le_trans (hf.rd _ (by omega) (by omega)) (by omega)) (fun s hs => ?_) _ 0 false (Nat.zero_add _) rfl
          refine Evn.bind (lawIn_is _ (stuck_held g) _) ?_
          rw [hs, stuck_needs hfine i hi]
          simp only [bne_self_eq_false, Bool.false_eq_true, if_false]
          exact hN
        · simp only [laws_FnStuckTasksNeeds.l0]
          rw [if_pos (by omega)]
    · simp only [laws_FnStuckTasksNeeds.j0]
      rw [if_neg (by simp)]
end Go.Proofs.YtegogaokcafpjaaDoor.Pure
