/- The pure statement of FnAllNeeds: needs of needs are needs. -/
import Derived.Test.YtamomflollhofaaDoorPC
import Derived.Test.YtamomflollhofaaDoorPureIsIn
import Derived.Test.YtamomflollhofaaDoorPureNeedsV
import Derived.Test.YtamomflollhofaaDoorPureRelMore
import Derived.Test.YtamomflollhofaaDoorQx30
import Derived.Test.YtamomflollhofaaDoorQx39
namespace Go.Proofs.YtamomflollhofaaDoor.Pure
open Go.RowKit Go.Proofs.YtamomflollhofaaDoor.Q Go.Proofs.YtamomflollhofaaDoor.H Go.Proofs.YtamomflollhofaaDoorW.PrintWords Go.Proofs.YtamomflollhofaaDoorW.PrintMore
set_option linter.unusedVariables false

theorem draw_y (l0 : List Int) (hw : ∀ x ∈ l0, (Lit.int .u8 x).wf = true) : ∃ g a, Evn (fun k => spec_DrawAllNeeds.f k l0) (g, a) ∧ Few 16 10 g := by
  obtain ⟨b, e, hb⟩ := reader_y l0 hw
  unfold spec_DrawAllNeeds.f
  rw [e]
  simp only [Option.bind_some]
  obtain ⟨g, q, hg, q0, q1, hf⟩ := anyGraph_y hb (p := 0) (Int.le_refl _) (by omega)
  have hs : ∃ a s, Evn (fun k => spec_someAt.f k b q g) (a, s) := by
    unfold spec_someAt.f
    obtain ⟨x, q2, hx, a0, a1, _⟩ := pick_y hb (p := q) (by omega) (by omega) 10
    by_cases hz : x = 0
    · obtain ⟨y, q3, hy, _⟩ := one_y hb (p := q2) (by omega) (by omega) [(-1), (g.length : Int), 0] (by simp)
      refine ⟨y, q3, Evn.bind hx ?_⟩
      simp only [hz, if_true]
      exact Evn.bind hy (Evn.const rfl)
    · obtain ⟨y, q3, hy, _⟩ := pick_y hb (p := q2) (by omega) (by omega) (mx 1 (g.length : Int))
      refine ⟨y, q3, Evn.bind hx ?_⟩
      simp only [hz, if_false]
      exact Evn.bind hy (Evn.const rfl)
  obtain ⟨a, s, ha⟩ := hs
  exact ⟨g, a, Evn.bind hg (Evn.bind ha (Evn.const rfl)), hf⟩
theorem l1_is {g : List S32} (hv : valid g = true) (hh : held g = true) (i : Nat) (hi : i < g.length) (x : Nat) (hx : x < g.length) (hN : Evn (fun k => laws_FnAllNeeds.l0 k g (i : Int) (rel1 g (i : Int)) ((x + 1 : Nat) : Int)) true) : ∀ (d j : Nat) (b : Bool), j + d = (nbOf g i).length → (b = true → Go.Proofs.YtamomflollhofaaDoor.H.Reach g i x) → (Go.Proofs.YtamomflollhofaaDoor.H.Reach g i x → b = true ∨ ∃ m, ∃ hm : m < (nbOf g i).length, j ≤ m ∧ Go.Proofs.YtamomflollhofaaDoor.H.Reach g (nbOf g i)[m] x) →
    Evn (fun k => laws_FnAllNeeds.l1 k g (i : Int) (rel1 g (i : Int)) (x : Int) b (j : Int)) true
  | 0, j, b, h, hb1, hb2 => by
    have hf := valid_fine hv
    have h8 := fine_len hf
    refine Evn.step (g := fun k => (laws_isIn.f k (rel1 g (i : Int)) (x : Int)).bind fun c => if (b != c) = true then some false else laws_FnAllNeeds.l0 k g (i : Int) (rel1 g (i : Int)) ((x + 1 : Nat) : Int)) (Evn.bind (lawIn_is _ (rel1_held g _) _) ?_) fun k => ?_
    · have e : decide ((x : Int) ∈ rel1 g (i : Int)) = b := by
        rw [Bool.eq_iff_iff, decide_eq_true_eq, rel1_mem hv i hi x]
        constructor
        · intro hr
          rcases hb2 hr.2 with hb | ⟨m, hm, h1, _⟩
          · exact hb
          · omega
        · exact fun hb => ⟨hx, hb1 hb⟩
      rw [e]
      simp only [bne_self_eq_false, Bool.false_eq_true, if_false]
      exact hN
    · simp only [laws_FnAllNeeds.l1]
      rw [if_pos (by omega), if_pos (by omega), f1_is hf i hi, if_neg (by rw [ints_len]; omega), wrap_up x (by omega)]
  | d + 1, j, b, h, hb1, hb2 => by
    have hf := valid_fine hv
    have h8 := fine_len hf
    have hj : j < (nbOf g i).length := by omega
    have hn8 := nb_len g i
    have hk := nb_lt hf i hi _ (List.getElem_mem hj)
    have ek : rd (ints (nbOf g i)) (j : Int) = (((nbOf g i)[j] : Nat) : Int) := rd_ints _ j hj
    cases b
    · refine Evn.step (g := fun k => (impl_AllNeeds.f g (((nbOf g i)[j] : Nat) : Int)).bind fun l => (laws_isIn.f k l (x : Int)).bind fun c => laws_FnAllNeeds.l1 k g (i : Int) (rel1 g (i : Int)) (x : Int) c ((j + 1 : Nat) : Int)) ?_ fun k => ?_
      · refine Evn.bind (Evn.const (implNeeds_is hh)) (Evn.bind (lawIn_is _ (rel1_held g _) _) ?_)
        refine l1_is hv hh i hi x hx hN d (j + 1) _ (by omega) (fun hb => ?_) (fun hr => ?_)
        · rw [decide_eq_true_eq, rel1_mem hv _ hk x] at hb
          exact .more ((nb_mem hf i hi _).1 (List.getElem_mem hj)) hb.2
        · rcases hb2 hr with hb | ⟨m, hm, h1, h2⟩
          · cases hb
          · by_cases e : m = j
            · subst e
              left
              rw [decide_eq_true_eq, rel1_mem hv _ hk x]
              exact ⟨hx, h2⟩
            · exact .inr ⟨m, hm, by omega, h2⟩
      · simp only [laws_FnAllNeeds.l1]
        rw [if_pos (show (0 : Int) ≤ (i : Int) by omega), if_pos (show (i : Int) < (g.length : Int) by omega), f1_is hf i hi, if_pos (by rw [ints_len]; omega), ek, wrap_up j (by omega)]
        simp only [Bool.false_eq_true, if_false, if_pos (show (0 : Int) ≤ (j : Int) by omega)]
    · refine Evn.step (l1_is hv hh i hi x hx hN d (j + 1) true (by omega) hb1 (fun _ => .inl rfl)) fun k => ?_
      simp only [laws_FnAllNeeds.l1]
      rw [if_pos (show (0 : Int) ≤ (i : Int) by omega), if_pos (show (i : Int) < (g.length : Int) by omega), f1_is hf i hi, if_pos (by rw [ints_len]; omega), wrap_up j (by omega)]
      simp only [if_true]
theorem FnAllNeeds : laws_FnAllNeeds.Pure := by
  intro l0 _ _ hw
  refine Evn.at_ (f := fun k => laws_FnAllNeeds.f k l0) ?_
  unfold laws_FnAllNeeds.f
  by_cases hl : (l0.length : Int) > 1048576
  · simp only [if_pos hl]
    exact Evn.const rfl
  simp only [if_neg hl]
  obtain ⟨g, a, hg, hfw⟩ := draw_y l0 hw
  obtain ⟨h1, h2, h3⟩ := few_held hfw (by omega) (by omega)
  refine Evn.bind hg (Evn.bind (Evn.const (implNeeds_is h1)) (Evn.bind (specAllNeeds_is g a h2 h3) (Evn.bind (equalInts_same _ (rel1_held g a)) ?_)))
  simp only [if_true]
  have hend : Evn (fun k => laws_FnAllNeeds.j0 k g a (rel1 g a) true) true := by
    refine Evn.step (g := fun k => (spec_AllNeeds.f k g a).bind fun r => (laws_equalInts.f k (rel1 g a) r).bind fun b => some b) (Evn.bind (specAllNeeds_is g a h2 h3) (Evn.bind (equalInts_same _ (rel1_held g a)) (Evn.const rfl))) fun k => ?_
    simp only [laws_FnAllNeeds.j0]
    rw [if_pos trivial]
  refine Evn.bind (Evn.const (implValid_is h1)) ?_
  by_cases hv0 : ¬ valid g = true
  · simp only [if_neg hv0]
    exact hend
  have hv : valid g = true := Classical.not_not.1 hv0
  simp only [if_pos hv]
  by_cases ha0 : a < 0
  · simp only [if_pos ha0]
    exact hend
  simp only [if_neg ha0]
  by_cases ha1 : a ≥ (g.length : Int)
  · simp only [decide_eq_true ha1]
    exact hend
  simp only [decide_eq_false ha1]
  clear hend
  have hf := valid_fine hv
  have h8 := fine_len hf
  obtain ⟨i, rfl⟩ : ∃ i : Nat, a = (i : Int) := ⟨a.toNat, by omega⟩
  have hi : i < g.length := by omega
  refine Evn.step (g := fun k => laws_FnAllNeeds.l0 k g (i : Int) (rel1 g (i : Int)) ((0 : Nat) : Int)) ?_ fun k => ?_
  · refine goes_all g.length (fun k j => laws_FnAllNeeds.l0 k g (i : Int) (rel1 g (i : Int)) j) true 0 ?_ ?_ g.length 0 (Nat.le_refl _) (by omega)
    · refine Evn.step (g := fun k => (laws_isIn.f k (rel1 g (i : Int)) (i : Int)).bind fun b => some (!b)) (Evn.bind (lawIn_is _ (rel1_held g _) _) (Evn.const ?_)) fun k => ?_
      · rw [decide_eq_false (fun h => reach_irrefl hv i hi ((rel1_mem hv i hi i).1 h).2)]
        rfl
      · simp only [laws_FnAllNeeds.l0]
        rw [if_neg (by omega)]
    · intro x _ hx hN
      refine Evn.step (g := fun k => (laws_isIn.f k ((rd_T32 g (i : Int)).f1) (x : Int)).bind fun b => laws_FnAllNeeds.l1 k g (i : Int) (rel1 g (i : Int)) (x : Int) b ((0 : Nat) : Int)) ?_ fun k => ?_
      · refine Evn.bind (lawIn_is _ (by have := fine_held hf (rd_T32 g (i : Int)) (by rw [rd_task g i hi]; exact List.getElem_mem _); unfold Held; omega) _) ?_
        refine l1_is hv h1 i hi x hx hN (nbOf g i).length 0 _ (by omega) (fun hb => ?_) (fun hr => ?_)
        · rw [decide_eq_true_eq] at hb
          exact .one hb
        · cases hr with
          | one h => exact .inl (decide_eq_true h)
          | more h hr =>
            rename_i y
            obtain ⟨m, hm, e⟩ := List.getElem_of_mem ((nb_mem hf i hi _).2 h)
            exact .inr ⟨m, hm, Nat.zero_le _, by rw [e]; exact hr⟩
      · simp only [laws_FnAllNeeds.l0]
        rw [if_pos (by omega), if_pos (by omega), if_pos (by omega)]
        rfl
  · simp only [laws_FnAllNeeds.j0]
    rw [if_neg (by simp)]
    rfl
end Go.Proofs.YtamomflollhofaaDoor.Pure
