/- Copies of lists of bools are equal; the conditions stand in each lemma. -/
import Derived.Laws.BitsLemmas
import Derived.Test.YtidicbddlpeiiaaPureNum
import Derived.Test.YtidicbddlpeiiaaQx7
import Derived.Test.YtidicbddlpeiiaaQx8
namespace Go.Proofs.Ytidicbddlpeiiaa.Pure
open Go.RowKit Go.Proofs.YtidicbddlpeiiaaW.PrintWords Go.Proofs.YtidicbddlpeiiaaW.PrintLast Go.Proofs.YtidicbddlpeiiaaW.PrintMore Go.Proofs.Ytidicbddlpeiiaa.Q
set_option linter.unusedSimpArgs false
set_option linter.unusedVariables false

def allB : Nat → List (List Bool)
  | 0 => [[]]
  | n + 1 => [] :: ((allB n).map (fun l => true :: l) ++ (allB n).map (fun l => false :: l))
theorem allB_mem : ∀ (n : Nat) (l : List Bool), l.length ≤ n → l ∈ allB n
  | 0, l, h => by
    have : l = [] := List.eq_nil_of_length_eq_zero (by omega)
    simp [allB, this]
  | n + 1, [], _ => by simp [allB]
  | n + 1, true :: l, h => by
    have := allB_mem n l (by simp at h; omega)
    simp [allB, this]
  | n + 1, false :: l, h => by
    have := allB_mem n l (by simp at h; omega)
    simp [allB, this]
theorem mem_range_tries (t : Int) (h0 : 0 ≤ t) (h1 : t ≤ 5) : t ∈ ([0, 1, 2, 3, 4, 5] : List Int) := by
  simp only [List.mem_cons, List.not_mem_nil, or_false]
  omega
theorem toBoolS_loop (l : List Bool) (hl : l.length ≤ 1048576) : ∀ (d i : Nat) (x : List Bool), x.length = l.length → i + d = l.length → (∀ j, j < i → x[j]? = l[j]?) → ∀ k, d + 1 ≤ k → laws_toBoolS.l0 k l x i = some l
  | 0, i, x, hx, hi, hj, k, hk => by
    obtain ⟨k, rfl⟩ : ∃ m, k = m + 1 := ⟨k - 1, by omega⟩
    rw [laws_toBoolS.l0, if_neg (by omega)]
    congr 1
    apply List.ext_getElem? 
    intro j
    by_cases h : j < i
    · exact hj j h
    · rw [List.getElem?_eq_none (by omega), List.getElem?_eq_none (by omega)]
  | d + 1, i, x, hx, hi, hj, k, hk => by
    obtain ⟨k, rfl⟩ : ∃ m, k = m + 1 := ⟨k - 1, by omega⟩
    rw [laws_toBoolS.l0, if_pos (by omega), if_pos (by omega), if_pos (by omega), show wrap64 ((i : Int) + 1) = ((i + 1 : Nat) : Int) by rw [w64 _ (by omega) (by omega)]; omega]
    refine toBoolS_loop l hl d (i + 1) _ (by simpa using hx) (by omega) (fun j hj' => ?_) k (by omega)
    by_cases h : j = i
    · subst h
      rw [Int.toNat_natCast, List.getElem?_set_self (by omega)]
      unfold rdOf
      rw [Int.toNat_natCast, List.getD_eq_getElem?_getD, List.getElem?_eq_getElem (by omega)]
      simp
    · rw [Int.toNat_natCast, List.getElem?_set_ne (by omega)]
      exact hj j (by omega)
theorem toBoolS_all (l : List Bool) (hl : l.length ≤ 1048576) (k : Nat) (hk : l.length + 1 ≤ k) : laws_toBoolS.f k l = some l := by
  unfold laws_toBoolS.f
  rw [if_pos (by omega), if_pos (by omega)]
  refine toBoolS_loop l hl l.length 0 _ (by simp) (by omega) (fun j hj => absurd hj (by omega)) k hk
theorem eqBoolS_loop (l : List Bool) (hl : l.length ≤ 1048576) : ∀ (d i : Nat), i + d = l.length → ∀ k, d + 1 ≤ k → laws_eqBoolS.l0 k l l i = some true
  | 0, i, hi, k, hk => by
    obtain ⟨k, rfl⟩ : ∃ m, k = m + 1 := ⟨k - 1, by omega⟩
    rw [laws_eqBoolS.l0, if_neg (by omega)]
  | d + 1, i, hi, k, hk => by
    obtain ⟨k, rfl⟩ : ∃ m, k = m + 1 := ⟨k - 1, by omega⟩
    rw [laws_eqBoolS.l0, if_pos (by omega), if_pos (by omega), if_pos (by omega)]
    have h := eqBoolS_loop l hl d (i + 1) (by omega) k (by omega)
    rw [show wrap64 ((i : Int) + 1) = ((i + 1 : Nat) : Int) by rw [w64 _ (by omega) (by omega)]; omega, if_neg (by simp)]
    exact h
theorem eqBoolS_all (l : List Bool) (hl : l.length ≤ 1048576) (k : Nat) (hk : l.length + 1 ≤ k) : laws_eqBoolS.f k l l = some true := by
  unfold laws_eqBoolS.f
  rw [if_pos rfl]
  exact eqBoolS_loop l hl l.length 0 (by omega) k hk

end Go.Proofs.Ytidicbddlpeiiaa.Pure
