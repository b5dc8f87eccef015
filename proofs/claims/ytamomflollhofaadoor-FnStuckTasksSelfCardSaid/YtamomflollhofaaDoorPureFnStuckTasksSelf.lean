/- The pure statement of FnStuckTasksSelf: who needs itself is stuck. -/
import Derived.Test.YtamomflollhofaaDoorPureStuck
import Derived.Test.YtamomflollhofaaDoorPureIsIn
import Derived.Test.YtamomflollhofaaDoorPureStep
import Derived.Test.YtamomflollhofaaDoorPureUsersI
import Derived.Test.YtamomflollhofaaDoorQx35
namespace Go.Proofs.YtamomflollhofaaDoor.Pure
open Go.RowKit Go.Proofs.YtamomflollhofaaDoor.Q Go.Proofs.YtamomflollhofaaDoor.H Go.Proofs.YtamomflollhofaaDoorW.PrintWords Go.Proofs.YtamomflollhofaaDoorW.PrintMore
set_option linter.unusedVariables false

theorem stuck_mem {g : List S32} (hf : fine g = true) (i : Nat) : ((i : Int) ∈ H.stuck g) ↔ i < g.length ∧ ¬ i ∈ (order (needs g)).1 := by
  rw [stuck_list hf, mem_ints, List.mem_filter, List.mem_range]
  simp
theorem l0_is {g : List S32} (hv : valid g = true) (n : Nat) (hn : n < g.length) : ∀ (d i : Nat), i + d = g.length → Evn (fun k => laws_FnStuckTasksSelf.l0 k g (n : Int) (rel2 g (n : Int)) (H.stuck (selfish g n)) (i : Int)) true
  | 0, i, h => by
    refine Evn.step (Evn.const rfl) fun k => ?_
    simp only [laws_FnStuckTasksSelf.l0]
    rw [if_neg (by omega)]
  | d + 1, i, h => by
    have hf := valid_fine hv
    have h8 := fine_len hf
    have hi : i < g.length := by omega
    have hl : (selfish g n).length = g.length := List.length_set ..
    have hN := l0_is hv n hn d (i + 1) (by omega)
    have hs := stuck_mem (selfish_fine hf n hn) i
    rw [selfish_order hv n hn i hi, hl] at hs
    refine Evn.step (g := fun k => (laws_isIn.f k (H.stuck (selfish g n)) (i : Int)).bind fun p => if (i : Int) = (n : Int) then (if (p != true) = true then some false else laws_FnStuckTasksSelf.l0 k g (n : Int) (rel2 g (n : Int)) (H.stuck (selfish g n)) ((i + 1 : Nat) : Int)) else (laws_isIn.f k (rel2 g (n : Int)) (i : Int)).bind fun q => if (p != q) = true then some false else laws_FnStuckTasksSelf.l0 k g (n : Int) (rel2 g (n : Int)) (H.stuck (selfish g n)) ((i + 1 : Nat) : Int)) ?_ fun k => ?_
    · refine Evn.bind (lawIn_is _ (stuck_held _) _) ?_
      by_cases e : i = n
      · have hin : (i : Int) ∈ H.stuck (selfish g n) := hs.2 ⟨hi, fun hc => hc.1 e⟩
        rw [decide_eq_true hin]
        simp only [if_pos (show (i : Int) = (n : Int) by omega), bne_self_eq_false, Bool.false_eq_true, if_false]
        exact hN
      · simp only [if_neg (show ¬ (i : Int) = (n : Int) by omega)]
        refine Evn.bind (lawIn_is _ (rel2_held g _) _) ?_
        have ed : decide ((i : Int) ∈ H.stuck (selfish g n)) = decide ((i : Int) ∈ rel2 g (n : Int)) := by
          refine decide_eq_decide.2 ?_
          rw [hs, rel2_mem hv n hn i]
          exact ⟨fun h => ⟨hi, Classical.byContradiction fun hc => h.2 ⟨e, hc⟩⟩, fun h => ⟨hi, fun hc => hc.2 h.2⟩⟩
        rw [ed]
        simp only [bne_self_eq_false, Bool.false_eq_true, if_false]
        exact hN
    · simp only [laws_FnStuckTasksSelf.l0]
      rw [if_pos (by omega), wrap_up i (by omega)]
theorem FnStuckTasksSelf : laws_FnStuckTasksSelf.Pure := by
  intro l0 _ _ hw
  refine Evn.at_ (f := fun k => laws_FnStuckTasksSelf.f k l0) ?_
  unfold laws_FnStuckTasksSelf.f
  by_cases hl : (l0.length : Int) > 1048576
  · simp only [if_pos hl]
    exact Evn.const rfl
  simp only [if_neg hl]
  obtain ⟨g, hg, hfw⟩ := drawStuck_y l0 hw
  obtain ⟨h1, h2, h3⟩ := few_held hfw (by omega) (by omega)
  refine Evn.bind hg (Evn.bind (Evn.const (implStuck_is h1)) (Evn.bind (specStuck_is g h2 h3) (Evn.bind (equalInts_same _ (stuck_held g)) ?_)))
  simp only [if_true]
  have hend : Evn (fun k => laws_FnStuckTasksSelf.j0 k l0 g (H.stuck g) true) true := by
    refine Evn.step (g := fun k => (spec_StuckTasks.f k g).bind fun a => (laws_equalInts.f k (H.stuck g) a).bind fun b => some b) (Evn.bind (specStuck_is g h2 h3) (Evn.bind (equalInts_same _ (stuck_held g)) (Evn.const rfl))) fun k => ?_
    simp only [laws_FnStuckTasksSelf.j0]
    rw [if_pos trivial]
  refine Evn.bind (Evn.const (implValid_is h1)) ?_
  by_cases hv : ¬ valid g = true
  · simp only [if_neg hv]
    exact hend
  have hv := Classical.not_not.1 hv
  simp only [if_pos hv]
  by_cases hz : (g.length : Int) = 0
  · rw [show ((g.length : Int) == 0) = true by simpa using hz]
    exact hend
  rw [show ((g.length : Int) == 0) = false by simpa using hz]
  have h8 := fine_len (valid_fine hv)
  obtain ⟨n, en⟩ : ∃ n : Nat, (l0.length : Int) % (g.length : Int) = (n : Int) := ⟨l0.length % g.length, by omega⟩
  have hn : n < g.length := by
    have := Int.emod_lt_of_pos (l0.length : Int) (show (0 : Int) < (g.length : Int) by omega)
    omega
  have hh : held (selfish g n) = true := (few_held (hfw.set n (by simp)) (by omega) (by omega)).1
  refine Evn.step (g := fun k => (impl_AllUsers.f g (n : Int)).bind fun u => (impl_StuckTasks.f (selfish g n)).bind fun s => laws_FnStuckTasksSelf.l0 k g (n : Int) u s ((0 : Nat) : Int)) (Evn.bind (Evn.const (implUsers_is h1)) (Evn.bind (Evn.const (implStuck_is hh)) (l0_is hv n hn g.length 0 (by omega)))) fun k => ?_
  simp only [laws_FnStuckTasksSelf.j0]
  rw [if_neg (by simp), if_neg hz, en]
  simp only [Option.bind_some, List.nil_append, if_pos (show (0 : Int) ≤ (n : Int) by omega), if_pos (show (n : Int) < (g.length : Int) by omega), Int.toNat_natCast, if_pos (show ([] : List S32).length + g.length < 2932031007402 by simp; omega)]
  rfl
end Go.Proofs.YtamomflollhofaaDoor.Pure
