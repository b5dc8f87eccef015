/- The pure statement of FnAllUsersOrder: users come behind. -/
import Derived.Test.YtamomflollhofaaDoorPC
import Derived.Test.YtamomflollhofaaDoorPureIsIn
import Derived.Test.YtamomflollhofaaDoorPureUsersV
import Derived.Test.YtamomflollhofaaDoorPureNeedsI
import Derived.Test.YtamomflollhofaaDoorPureRelMore
import Derived.Test.YtamomflollhofaaDoorHTopO
import Derived.Test.YtamomflollhofaaDoorQx31
import Derived.Test.YtamomflollhofaaDoorQx42
namespace Go.Proofs.YtamomflollhofaaDoor.Pure
open Go.RowKit Go.Proofs.YtamomflollhofaaDoor.Q Go.Proofs.YtamomflollhofaaDoor.H Go.Proofs.YtamomflollhofaaDoorW.PrintWords Go.Proofs.YtamomflollhofaaDoorW.PrintMore
set_option linter.unusedVariables false

theorem draw_n (l0 : List Int) (hw : ∀ x ∈ l0, (Lit.int .u8 x).wf = true) : ∃ g a, Evn (fun k => spec_DrawAllNeeds.f k l0) (g, a) ∧ Few 16 10 g := by
  obtain ⟨b, e, hb⟩ := reader_y l0 hw
  unfold spec_DrawAllNeeds.f
  rw [e]
  simp only [Option.bind_some]
  obtain ⟨g, q, hg, q0, q1, hf⟩ := anyGraph_y hb (p := 0) (Int.le_refl _) (by omega)
  have hs : ∃ a s, Evn (fun k => spec_someAt.f k b q g) (a, s) := by
    unfold spec_someAt.f
    obtain ⟨x, q2, hx, a0, a1, _⟩ := pick_y hb (p := q) (by omega) (by omega) 10
    by_cases hz : x = 0
    · obtain ⟨y, q3, hy, _⟩ := one_y hb (p := q2) (by omega) (by omega) [(-1), (g.length : Int), 0] (by simp)
      refine ⟨y, q3, Evn.bind hx ?_⟩
      simp only [hz, if_true]
      exact Evn.bind hy (Evn.const rfl)
    · obtain ⟨y, q3, hy, _⟩ := pick_y hb (p := q2) (by omega) (by omega) (mx 1 (g.length : Int))
      refine ⟨y, q3, Evn.bind hx ?_⟩
      simp only [hz, if_false]
      exact Evn.bind hy (Evn.const rfl)
  obtain ⟨a, s, ha⟩ := hs
  exact ⟨g, a, Evn.bind hg (Evn.bind ha (Evn.const rfl)), hf⟩
theorem draw_y (l0 : List Int) (hw : ∀ x ∈ l0, (Lit.int .u8 x).wf = true) : ∃ g a, Evn (fun k => spec_DrawAllUsers.f k l0) (g, a) ∧ Few 16 10 g := by
  obtain ⟨g, a, h, hf⟩ := draw_n l0 hw
  unfold spec_DrawAllUsers.f
  exact ⟨g, a, Evn.bind h (Evn.const rfl), hf⟩
theorem l0_is {g : List S32} (hv : valid g = true) (i : Nat) (hi : i < g.length) : ∀ (d j : Nat), j + d = (orderOf g).length →
    Evn (fun k => laws_FnAllUsersOrder.l0 k (i : Int) (rel2 g (i : Int)) (ints (orderOf g)) (rel1 g (i : Int)) (decide (i ∈ (orderOf g).take j)) (j : Int)) true
  | 0, j, h => by
    have dd := valid_dag hv
    have hm : i ∈ (orderOf g).take j := by
      rw [List.take_of_length_le (by omega)]
      exact (dd.mem i).2 hi
    rw [decide_eq_true hm]
    refine Evn.step (Evn.const rfl) fun k => ?_
    simp only [laws_FnAllUsersOrder.l0]
    rw [if_neg (by rw [ints_len]; omega)]
  | d + 1, j, h => by
    have ho := order_facts (valid_fine hv)
    have ho8 := order_eight hv
    have hj : j < (orderOf g).length := by omega
    have hyl := order_lt' hv j hj
    have hni := ho.notin j hj
    have er := rd_ints (orderOf g) j hj
    obtain ⟨y, e⟩ : ∃ y, (orderOf g)[j] = y := ⟨_, rfl⟩
    have e' : (order (needs g)).1[j]'hj = y := e
    have ht : (orderOf g).take (j + 1) = (orderOf g).take j ++ [y] := by rw [List.take_succ_eq_append_getElem hj, e]
    rw [e] at hyl er
    have hni2 : ¬ y ∈ (orderOf g).take j := e ▸ hni
    have hN := l0_is hv i hi d (j + 1) (by omega)
    have hdec : decide (i ∈ (orderOf g).take (j + 1)) = (decide (i ∈ (orderOf g).take j) || ((y : Int) == (i : Int))) := by
      rw [ht, Bool.eq_iff_iff, Bool.or_eq_true, decide_eq_true_eq, decide_eq_true_eq, beq_iff_eq, List.mem_append, List.mem_singleton]
      exact ⟨fun h => h.imp id (fun h => by rw [h]), fun h => h.imp id (fun h => by omega)⟩
    rw [hdec] at hN
    have c0 : (j : Int) < ((ints (orderOf g)).length : Int) := by rw [ints_len]; omega
    have c1 : (0 : Int) ≤ (j : Int) := by omega
    refine Evn.step (g := fun k => (laws_isIn.f k (rel2 g (i : Int)) (y : Int)).bind fun p => if p = true then (if decide (i ∈ (orderOf g).take j) = true then (laws_isIn.f k (rel1 g (i : Int)) (y : Int)).bind fun q => if q = true then some false else laws_FnAllUsersOrder.l0 k (i : Int) (rel2 g (i : Int)) (ints (orderOf g)) (rel1 g (i : Int)) true ((j + 1 : Nat) : Int) else some false) else (laws_isIn.f k (rel1 g (i : Int)) (y : Int)).bind fun q => if q = true then (if decide (i ∈ (orderOf g).take j) = true then some false else laws_FnAllUsersOrder.l0 k (i : Int) (rel2 g (i : Int)) (ints (orderOf g)) (rel1 g (i : Int)) ((y : Int) == (i : Int)) ((j + 1 : Nat) : Int)) else (if decide (i ∈ (orderOf g).take j) = true then laws_FnAllUsersOrder.l0 k (i : Int) (rel2 g (i : Int)) (ints (orderOf g)) (rel1 g (i : Int)) true ((j + 1 : Nat) : Int) else laws_FnAllUsersOrder.l0 k (i : Int) (rel2 g (i : Int)) (ints (orderOf g)) (rel1 g (i : Int)) ((y : Int) == (i : Int)) ((j + 1 : Nat) : Int))) ?_ fun k => ?_
    · refine Evn.bind (lawIn_is _ (rel2_held g _) _) ?_
      by_cases hu : Go.Proofs.YtamomflollhofaaDoor.H.Reach g y i
      · rw [decide_eq_true ((rel2_mem hv i hi y).2 ⟨hyl, hu⟩)]
        have hb : i ∈ (orderOf g).take j := hu.before ho j hj e'
        rw [decide_eq_true hb] at hN
        simp only [decide_eq_true hb, if_true]
        refine Evn.bind (lawIn_is _ (rel1_held g _) _) ?_
        rw [decide_eq_false (fun hh => reach_irrefl hv i hi (((rel1_mem hv i hi y).1 hh).2.trans hu))]
        simp only [Bool.false_eq_true, if_false]
        exact hN
      · rw [decide_eq_false (fun hh => hu ((rel2_mem hv i hi y).1 hh).2)]
        simp only [Bool.false_eq_true, if_false]
        refine Evn.bind (lawIn_is _ (rel1_held g _) _) ?_
        by_cases hr : Go.Proofs.YtamomflollhofaaDoor.H.Reach g i y
        · rw [decide_eq_true ((rel1_mem hv i hi y).2 ⟨hyl, hr⟩)]
          have hb : ¬ i ∈ (orderOf g).take j := fun hb => by
            obtain ⟨m, hm, em⟩ := List.getElem_of_mem hb
            rw [List.length_take] at hm
            rw [List.getElem_take] at em
            have := hr.before ho m (by have : (orderOf g).length = (order (needs g)).1.length := rfl; omega) em
            exact hni2 (List.mem_of_mem_take (by
              have e3 : (orderOf g).take m = ((orderOf g).take j).take m := by rw [List.take_take, Nat.min_eq_left (by omega)]
              have h4 : y ∈ (orderOf g).take m := this
              rw [e3] at h4
              exact h4))
          rw [decide_eq_false hb, Bool.false_or] at hN
          simp only [decide_eq_false hb, if_true, Bool.false_eq_true, if_false]
          exact hN
        · rw [decide_eq_false (fun hh => hr ((rel1_mem hv i hi y).1 hh).2)]
          simp only [Bool.false_eq_true, if_false]
          by_cases hb : i ∈ (orderOf g).take j
          · rw [decide_eq_true hb] at hN
            simp only [decide_eq_true hb, if_true]
            exact hN
          · rw [decide_eq_false hb, Bool.false_or] at hN
            simp only [decide_eq_false hb, Bool.false_eq_true, if_false]
            exact hN
    · simp only [laws_FnAllUsersOrder.l0]
      rw [er]
      simp only [if_pos c0, if_pos c1, wrap_up j (by omega)]
theorem FnAllUsersOrder : laws_FnAllUsersOrder.Pure := by
  intro l0 _ _ hw
  refine Evn.at_ (f := fun k => laws_FnAllUsersOrder.f k l0) ?_
  unfold laws_FnAllUsersOrder.f
  by_cases hl : (l0.length : Int) > 1048576
  · simp only [if_pos hl]
    exact Evn.const rfl
  simp only [if_neg hl]
  obtain ⟨g, a, hg, hfw⟩ := draw_y l0 hw
  obtain ⟨h1, h2, h3⟩ := few_held hfw (by omega) (by omega)
  refine Evn.bind hg (Evn.bind (Evn.const (implUsers_is h1)) (Evn.bind (specAllUsers_is g a h2 h3) (Evn.bind (equalInts_same _ (rel2_held g a)) ?_)))
  simp only [if_true]
  have hend : Evn (fun k => laws_FnAllUsersOrder.j0 k g a (rel2 g a) true) true := by
    refine Evn.step (g := fun k => (spec_AllUsers.f k g a).bind fun r => (laws_equalInts.f k (rel2 g a) r).bind fun b => some b) (Evn.bind (specAllUsers_is g a h2 h3) (Evn.bind (equalInts_same _ (rel2_held g a)) (Evn.const rfl))) fun k => ?_
    simp only [laws_FnAllUsersOrder.j0]
    rw [if_pos trivial]
  refine Evn.bind (Evn.const (implValid_is h1)) ?_
  by_cases hv0 : ¬ valid g = true
  · simp only [if_neg hv0]
    exact hend
  have hv : valid g = true := Classical.not_not.1 hv0
  simp only [if_pos hv]
  by_cases ha0 : a < 0
  · simp only [if_pos ha0]
    exact hend
  simp only [if_neg ha0]
  by_cases ha1 : a ≥ (g.length : Int)
  · simp only [decide_eq_true ha1]
    exact hend
  simp only [decide_eq_false ha1]
  clear hend
  have hf := valid_fine hv
  have h8 := fine_len hf
  obtain ⟨i, rfl⟩ : ∃ i : Nat, a = (i : Int) := ⟨a.toNat, by omega⟩
  have hi : i < g.length := by omega
  have et : topOrder g = ints (orderOf g) := by
    unfold topOrder
    rw [if_pos hv]
    rfl
  have hT : impl_TopOrder.f g = some (ints (orderOf g)) := (if_pos h1).trans (congrArg some et)
  refine Evn.step (g := fun k => (impl_TopOrder.f g).bind fun t => (impl_AllNeeds.f g (i : Int)).bind fun n => laws_FnAllUsersOrder.l0 k (i : Int) (rel2 g (i : Int)) t n false ((0 : Nat) : Int)) (Evn.bind (Evn.const hT) (Evn.bind (Evn.const (implNeeds_is h1)) ?_)) fun k => ?_
  · exact (l0_is hv i hi (orderOf g).length 0 (by omega)).congr fun k => rfl
  · simp only [laws_FnAllUsersOrder.j0]
    rw [if_neg (by simp)]
    rfl
end Go.Proofs.YtamomflollhofaaDoor.Pure
