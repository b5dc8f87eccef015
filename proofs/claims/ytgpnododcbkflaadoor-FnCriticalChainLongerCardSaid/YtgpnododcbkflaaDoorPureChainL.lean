/- What a critical chain is: its tasks need one another, their times are the longest time, none can wait; plain Lean. -/
import Derived.Test.YtgpnododcbkflaaDoorPureChainV
namespace Go.Proofs.YtgpnododcbkflaaDoor.H
open Go.RowKit Go.Proofs.YtgpnododcbkflaaDoorW.PrintWords Go.Proofs.YtgpnododcbkflaaDoorW.PrintLast Go.Proofs.YtgpnododcbkflaaDoorW.PrintMore Go.Proofs.YtgpnododcbkflaaDoor.Q
set_option linter.unusedVariables false

theorem link_none (nd : List Nat) (t : List Int) (b : Nat) (left : Int) : ∀ (d j : Nat), linkFrom nd t b left d j = none → ∀ i, j ≤ i → i < j + d → ¬ ((at0 nd i).testBit b = true ∧ atI t i = left)
  | 0, j, _, i, h1, h2 => by omega
  | d + 1, j, h, i, h1, h2 => by
    rw [linkFrom] at h
    split at h
    · cases h
    · rename_i hc
      by_cases e : i = j
      · subst e
        rw [Bool.and_eq_true, beq_iff_eq] at hc
        exact hc
      · exact link_none nd t b left d (j + 1) h i (by omega) (by omega)
theorem first_none (t : List Int) (v : Int) : ∀ (d j : Nat), firstFrom t v d j = none → ∀ i, j ≤ i → i < j + d → ¬ atI t i = v
  | 0, j, _, i, h1, h2 => by omega
  | d + 1, j, h, i, h1, h2 => by
    rw [firstFrom] at h
    split at h
    · cases h
    · rename_i hc
      by_cases e : i = j
      · subst e
        exact fun h => hc h.symm
      · exact first_none t v d (j + 1) h i (by omega) (by omega)
/-- Each task of the list but the first needs the one before it. -/
def Linked (N : Nat → List Nat) : Nat → List Nat → Prop
  | _, [] => True
  | a, b :: r => a ∈ N b ∧ Linked N b r
theorem linked_at {N : Nat → List Nat} : ∀ (r : List Nat) (a : Nat), Linked N a r → ∀ j (h : j < r.length), (a :: r)[j]'(by rw [List.length_cons]; omega) ∈ N r[j]
  | b :: r, a, h, 0, _ => h.1
  | b :: r, a, h, j + 1, hj => by
    rw [List.length_cons] at hj
    exact linked_at r b h.2 j (by omega)
structure Crit (g : List S30) (a : Nat) (c : List Nat) : Prop where mk ::
  (tail : ∃ r, c = a :: r ∧ Linked (nbOf g) a r) (sum : (c.map (tmOf g)).sum = atI (tailTimes g) a) (all : ∀ i, i ∈ c → i < g.length ∧ atI (headTimes g) i + atI (tailTimes g) i = longestTime g) (few : c.length ≤ 1000)
theorem crit_is {g : List S30} (hv : valid g = true) : ∀ (f a : Nat), f ≤ 1000 → a < g.length → atI (tailTimes g) a ≤ (f : Int) → atI (headTimes g) a + atI (tailTimes g) a = longestTime g → Crit g a (chainFrom g (tailTimes g) f a)
  | 0, a, _, ha, hl, _ => by
    have := link_left hv a ha
    omega
  | f + 1, a, hf, ha, hl, he => by
    obtain ⟨ew, t0, t1, t2⟩ := link_left hv a ha
    have h8 := fine_len (valid_fine hv)
    rw [chainFrom]
    obtain ⟨o, ho⟩ : ∃ o, linkOf g (tailTimes g) a = o := ⟨_, rfl⟩
    rw [ho]
    unfold linkOf at ho
    rw [ew] at ho
    cases o with
    | none =>
      have hn := link_none _ _ _ _ _ _ ho
      have ht : atI (tailTimes g) a = tmOf g a := by
        rcases (tails_of hv).att a ha with e | ⟨k, hk, hak, e⟩
        · exact e
        · refine absurd ⟨?_, ?_⟩ (hn k (by omega) (by omega))
          · rw [bit_nb a (by omega) k]
            exact decide_eq_true hak
          · omega
      refine ⟨⟨[], rfl, trivial⟩, ?_, fun i hi => ?_, by simp⟩
      · rw [ht]
        simp
      · rw [List.mem_singleton] at hi
        subst hi
        exact ⟨ha, he⟩
    | some i =>
      obtain ⟨_, i1, i2, i3⟩ := link_some _ _ _ _ _ _ _ ho
      have hi : i < g.length := by omega
      rw [bit_nb a (by omega) i, decide_eq_true_eq] at i2
      have hh : atI (headTimes g) i + atI (tailTimes g) i = longestTime g := by
        have h1 := (heads_of hv).ge i hi a i2
        have h2 := fits (valid_dag hv) (heads_of hv) (tails_of hv) (top_of hv) i hi
        omega
      obtain ⟨⟨r, e1, e2⟩, e3, e4, e5⟩ := crit_is hv f i (by omega) hi (by omega) hh
      have hlen := chainFrom_len g (tailTimes g) f i
      show Crit g a (a :: chainFrom g (tailTimes g) f i)
      refine ⟨⟨chainFrom g (tailTimes g) f i, rfl, ?_⟩, ?_, fun j hj => ?_, ?_⟩
      · rw [e1]
        exact ⟨i2, e2⟩
      · rw [List.map_cons, List.sum_cons, e3]
        omega
      · rcases List.mem_cons.1 hj with hj | hj
        · subst hj
          exact ⟨ha, he⟩
        · exact e4 j hj
      · rw [List.length_cons]
        omega
theorem chainOf_is {g : List S30} (hv : valid g = true) (hg : 0 < g.length) : ∃ (a : Nat) (c : List Nat), chainOf g = ints c ∧ a < g.length ∧ atI (headTimes g) a = 0 ∧ atI (tailTimes g) a = longestTime g ∧ Crit g a c := by
  unfold chainOf
  rw [if_pos hv]
  obtain ⟨o, ho⟩ : ∃ o, firstFrom (tailTimes g) (longestTime g) g.length 0 = o := ⟨_, rfl⟩
  cases o with
  | none =>
    obtain ⟨i, hi, e⟩ := some_top (valid_dag hv) (tails_of hv) (top_of hv) hg
    exact absurd e (first_none _ _ _ _ ho i (by omega) (by omega))
  | some a =>
    obtain ⟨ha, e⟩ := chain_first hv a ho
    have hh := top_head (valid_dag hv) (heads_of hv) (tails_of hv) (top_of hv) ha e
    rw [ho]
    have := (top_small hv).2.1
    exact ⟨a, _, rfl, ha, hh, e, crit_is hv 1000 a (Nat.le_refl _) ha (by omega) (by omega)⟩
end Go.Proofs.YtgpnododcbkflaaDoor.H
