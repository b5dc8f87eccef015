/- Critical chains in the program's words and in the reference's; plain Lean. -/
import Derived.Test.YtgpnododcbkflaaDoorPureTailV
import Derived.Test.YtgpnododcbkflaaDoorPureHeadI
import Derived.Test.YtgpnododcbkflaaDoorHChain
import Derived.Test.YtgpnododcbkflaaDoorQx20
namespace Go.Proofs.YtgpnododcbkflaaDoor.H
open Go.RowKit Go.Proofs.YtgpnododcbkflaaDoorW.PrintWords Go.Proofs.YtgpnododcbkflaaDoorW.PrintLast Go.Proofs.YtgpnododcbkflaaDoorW.PrintMore Go.Proofs.YtgpnododcbkflaaDoor.Q
set_option linter.unusedVariables false

theorem bit_nb {g : List S30} (b : Nat) (hb : b < 8) (j : Nat) : (at0 (needs g) j).testBit b = decide (b ∈ nbOf g j) := by
  unfold nbOf
  rw [Bool.eq_iff_iff, decide_eq_true_eq, mem_elems]
  exact ⟨fun h => ⟨hb, h⟩, fun h => h.2⟩
theorem nextLink_first {g : List S30} (hf : fine g = true) (t : List Int) (ht : t.length = g.length) (left : Int) : ∀ (d j : Nat), j + d = g.length → Evn (fun k => spec_nextLink.l0 k g t (-1) left (j : Int)) (ix (firstFrom t left d j))
  | 0, j, h => by
    refine Evn.step (Evn.const rfl) fun k => ?_
    simp only [spec_nextLink.l0]
    rw [if_neg (by omega)]
    rfl
  | d + 1, j, h => by
    have h8 := fine_len hf
    have hj : j < t.length := by omega
    rw [firstFrom]
    by_cases c : left = atI t j
    · rw [if_pos c]
      refine Evn.step (Evn.const rfl) fun k => ?_
      simp only [spec_nextLink.l0]
      rw [rd_atI t j hj, if_pos (by omega), if_pos (by omega), if_pos (by omega), if_pos c.symm, if_pos (by omega)]
      rfl
    · rw [if_neg c]
      refine Evn.step (nextLink_first hf t ht left d (j + 1) (by omega)) fun k => ?_
      simp only [spec_nextLink.l0]
      rw [rd_atI t j hj, if_pos (by omega), if_pos (by omega), if_pos (by omega), if_neg (fun e => c e.symm), wrap_up j (by omega)]
theorem nextLink_link {g : List S30} (hf : fine g = true) (t : List Int) (ht : t.length = g.length) (b : Nat) (hb : b < g.length) (left : Int) : ∀ (d j : Nat), j + d = g.length → Evn (fun k => spec_nextLink.l0 k g t (b : Int) left (j : Int)) (ix (linkFrom (needs g) t b left d j))
  | 0, j, h => by
    refine Evn.step (Evn.const rfl) fun k => ?_
    simp only [spec_nextLink.l0]
    rw [if_neg (by omega)]
    rfl
  | d + 1, j, h => by
    have h8 := fine_len hf
    have hj : j < t.length := by omega
    have hN := nextLink_link hf t ht b hb left d (j + 1) (by omega)
    rw [linkFrom, bit_nb b (by omega) j]
    by_cases c : atI t j = left
    · have hin := isIn_is (ints (nbOf g j)) (by unfold Held; rw [ints_len]; have := nb_len g j; omega) (b : Int)
      have ei : decide ((b : Int) ∈ ints (nbOf g j)) = decide (b ∈ nbOf g j) := by
        rw [Bool.eq_iff_iff, decide_eq_true_eq, decide_eq_true_eq]
        exact mem_ints _ _
      rw [ei] at hin
      refine Evn.step (g := fun k => (spec_isIn.f k (ints (nbOf g j)) (b : Int)).bind fun q => if q = true then some (j : Int) else spec_nextLink.l0 k g t (b : Int) left ((j + 1 : Nat) : Int)) (Evn.bind hin ?_) fun k => ?_
      · by_cases m : b ∈ nbOf g j
        · simp only [decide_eq_true m, if_true, c, Bool.true_and, beq_self_eq_true]
          exact Evn.const rfl
        · simp only [decide_eq_false m, Bool.false_and, Bool.false_eq_true, if_false]
          exact hN
      · simp only [spec_nextLink.l0]
        rw [rd_atI t j hj, if_pos (by omega), if_pos (by omega), if_pos (by omega), if_pos c, if_neg (by omega), f1_is hf j (by omega), wrap_up j (by omega)]
    · rw [show (decide (b ∈ nbOf g j) && (atI t j == left)) = false by rw [beq_eq_false_iff_ne.2 c, Bool.and_false], if_neg Bool.false_ne_true]
      refine Evn.step hN fun k => ?_
      simp only [spec_nextLink.l0]
      rw [rd_atI t j hj, if_pos (by omega), if_pos (by omega), if_pos (by omega), if_neg c, wrap_up j (by omega)]
theorem link_left {g : List S30} (hv : valid g = true) (a : Nat) (ha : a < g.length) : wrap64 (atI (tailTimes g) a - tmOf g a) = atI (tailTimes g) a - tmOf g a ∧ 1 ≤ tmOf g a ∧ tmOf g a ≤ atI (tailTimes g) a ∧ atI (tailTimes g) a ≤ 1000 := by
  have h1 := (tails_of hv).own a ha
  have h2 := time_ok (valid_fine hv) a ha
  have h3 := (top_small hv).2.2 a ha
  exact ⟨w1k _ (by omega) (by omega), h2.1, h1, h3⟩
theorem specChain_l0 {g : List S30} (hv : valid g = true) : ∀ (f : Nat) (o : Option Nat) (x : List Int) (left : Int), (∀ a, o = some a → a < g.length ∧ atI (tailTimes g) a = left ∧ left ≤ (f : Int)) → x.length + f ≤ 2000 →
    Evn (fun k => spec_CriticalChain.l0 k g x (tailTimes g) left (ix o)) (x ++ ints (chainAt g (tailTimes g) f o))
  | f, none, x, left, h, hx => by
    rw [show ix none = -1 from rfl, show x ++ ints (chainAt g (tailTimes g) f none) = x by simp [chainAt, ints]]
    refine Evn.step (Evn.const rfl) fun k => ?_
    simp only [spec_CriticalChain.l0]
    rw [if_neg (by omega)]
  | 0, some a, x, left, h, hx => by
    obtain ⟨ha, e, hl⟩ := h a rfl
    have := link_left hv a ha
    omega
  | f + 1, some a, x, left, h, hx => by
    obtain ⟨ha, e, hl⟩ := h a rfl
    obtain ⟨ew, t0, t1, t2⟩ := link_left hv a ha
    have hf := valid_fine hv
    have h8 := fine_len hf
    subst e
    have hN := specChain_l0 hv f (linkOf g (tailTimes g) a) (x ++ [(a : Int)]) (atI (tailTimes g) a - tmOf g a) (fun i hi => by
      unfold linkOf at hi
      rw [ew] at hi
      have := link_some _ _ _ _ _ _ _ hi
      exact ⟨by omega, this.2.2.2, by omega⟩) (by simp; omega)
    have ec : x ++ ints (chainAt g (tailTimes g) (f + 1) (some a)) = (x ++ [(a : Int)]) ++ ints (chainAt g (tailTimes g) f (linkOf g (tailTimes g) a)) := by
      rw [chainAt, chainFrom, List.append_assoc]
      cases linkOf g (tailTimes g) a <;> rfl
    rw [ec, show ix (some a) = (a : Int) from rfl]
    have hL := nextLink_link hf (tailTimes g) (tailTimes_len hv) a ha (wrap64 (atI (tailTimes g) a - tmOf g a)) g.length 0 (by omega)
    refine Evn.step (Evn.bind hL hN) fun k => ?_
    have et : (rd_T30 g (a : Int)).f0 = tmOf g a := rfl
    simp only [spec_CriticalChain.l0]
    rw [if_pos (by omega), if_pos (by omega), if_pos (by omega), if_pos (by omega), et, ew]
    rfl
theorem chain_first {g : List S30} (hv : valid g = true) (a : Nat) (h : firstFrom (tailTimes g) (longestTime g) g.length 0 = some a) : a < g.length ∧ atI (tailTimes g) a = longestTime g := by
  have := first_some _ _ _ _ _ h
  exact ⟨by omega, this.2.2⟩
theorem specChain_is (g : List S30) (hg : Held g) (ht : ∀ t, t ∈ g → Held t.f1) : Evn (fun k => spec_CriticalChain.f k g) (chainOf g) := by
  unfold spec_CriticalChain.f chainOf
  refine Evn.bind (validGraph_is g hg ht) ?_
  by_cases hv : valid g = true
  · simp only [hv, if_true]
    refine Evn.bind (specTails_is hv) (Evn.bind (specLongest_is hv) (Evn.bind (nextLink_first (valid_fine hv) (tailTimes g) (tailTimes_len hv) (longestTime g) g.length 0 (by omega)) ?_))
    refine specChain_l0 hv 1000 _ [] (longestTime g) (fun a ha => ?_) (by simp)
    obtain ⟨h1, h2⟩ := chain_first hv a ha
    exact ⟨h1, h2, (top_small hv).2.1⟩
  · simp only [hv]
    exact Evn.const rfl
theorem chainFrom_len (g : List S30) (t : List Int) : ∀ (f a : Nat), (chainFrom g t f a).length ≤ f
  | 0, a => Nat.le_refl _
  | f + 1, a => by
    rw [chainFrom, List.length_cons]
    cases linkOf g t a with
    | none => simp
    | some i => have := chainFrom_len g t f i; simp only; omega
theorem chainOf_small (g : List S30) : (chainOf g).length ≤ 1048576 := by
  unfold chainOf
  by_cases hv : valid g = true
  · rw [if_pos hv, ints_len]
    cases firstFrom (tailTimes g) (longestTime g) g.length 0 with
    | none => simp [chainAt]
    | some a => have := chainFrom_len g (tailTimes g) 1000 a; simp only [chainAt]; omega
  · rw [if_neg hv]
    simp
theorem chainOf_held (g : List S30) : Held (chainOf g) := by
  have := chainOf_small g
  unfold Held
  omega
theorem chainOf_no {g : List S30} (hv : ¬ valid g = true) : chainOf g = [] := if_neg hv
theorem implChain_is {g : List S30} (h : held g = true) : impl_CriticalChain.f g = some (chainOf g) := if_pos h
end Go.Proofs.YtgpnododcbkflaaDoor.H
