/- Copies of lists of numbers are equal; the conditions stand in each lemma. -/
import Derived.Laws.BitsLemmas
import Derived.Test.YtidicbddlpeiiaaPureNum
import Derived.Test.YtidicbddlpeiiaaQx4
import Derived.Test.YtidicbddlpeiiaaQx5
namespace Go.Proofs.Ytidicbddlpeiiaa.Pure
open Go.RowKit Go.Proofs.YtidicbddlpeiiaaW.PrintWords Go.Proofs.YtidicbddlpeiiaaW.PrintLast Go.Proofs.YtidicbddlpeiiaaW.PrintMore Go.Proofs.Ytidicbddlpeiiaa.Q
set_option linter.unusedSimpArgs false
set_option linter.unusedVariables false

theorem toIntS_loop (l : List Int) (hl : l.length ≤ 1048576) : ∀ (d i : Nat) (x : List Int), x.length = l.length → i + d = l.length → (∀ j, j < i → x[j]? = l[j]?) → ∀ k, d + 1 ≤ k → laws_toIntS.l0 k l x i = some l
  | 0, i, x, hx, hi, hj, k, hk => by
    obtain ⟨k, rfl⟩ : ∃ m, k = m + 1 := ⟨k - 1, by omega⟩
    rw [laws_toIntS.l0, if_neg (by omega)]
    congr 1
    apply List.ext_getElem?
    intro j
    by_cases h : j < i
    · exact hj j h
    · rw [List.getElem?_eq_none (by omega), List.getElem?_eq_none (by omega)]
  | d + 1, i, x, hx, hi, hj, k, hk => by
    obtain ⟨k, rfl⟩ : ∃ m, k = m + 1 := ⟨k - 1, by omega⟩
    rw [laws_toIntS.l0, if_pos (by omega), if_pos (by omega), if_pos (by omega), show wrap64 ((i : Int) + 1) = ((i + 1 : Nat) : Int) by rw [w64 _ (by omega) (by omega)]; omega]
    refine toIntS_loop l hl d (i + 1) _ (by simpa using hx) (by omega) (fun j hj' => ?_) k (by omega)
    by_cases h : j = i
    · subst h
      rw [Int.toNat_natCast, List.getElem?_set_self (by omega)]
      unfold rd
      rw [Int.toNat_natCast, List.getD_eq_getElem?_getD, List.getElem?_eq_getElem (by omega)]
      simp
    · rw [Int.toNat_natCast, List.getElem?_set_ne (by omega)]
      exact hj j (by omega)
theorem toIntS_all (l : List Int) (hl : l.length ≤ 1048576) (k : Nat) (hk : l.length + 1 ≤ k) : laws_toIntS.f k l = some l := by
  unfold laws_toIntS.f
  rw [if_pos (by omega), if_pos (by omega)]
  refine toIntS_loop l hl l.length 0 _ (by simp) (by omega) (fun j hj => absurd hj (by omega)) k hk
theorem eqIntS_loop (l : List Int) (hl : l.length ≤ 1048576) : ∀ (d i : Nat), i + d = l.length → ∀ k, d + 1 ≤ k → laws_eqIntS.l0 k l l i = some true
  | 0, i, hi, k, hk => by
    obtain ⟨k, rfl⟩ : ∃ m, k = m + 1 := ⟨k - 1, by omega⟩
    rw [laws_eqIntS.l0, if_neg (by omega)]
  | d + 1, i, hi, k, hk => by
    obtain ⟨k, rfl⟩ : ∃ m, k = m + 1 := ⟨k - 1, by omega⟩
    rw [laws_eqIntS.l0, if_pos (by omega), if_pos (by omega), if_pos (by omega), if_pos rfl]
    have h := eqIntS_loop l hl d (i + 1) (by omega) k (by omega)
    rw [show wrap64 ((i : Int) + 1) = ((i + 1 : Nat) : Int) by rw [w64 _ (by omega) (by omega)]; omega]
    exact h
theorem eqIntS_all (l : List Int) (hl : l.length ≤ 1048576) (k : Nat) (hk : l.length + 1 ≤ k) : laws_eqIntS.f k l l = some true := by
  unfold laws_eqIntS.f
  rw [if_pos rfl]
  exact eqIntS_loop l hl l.length 0 (by omega) k hk

end Go.Proofs.Ytidicbddlpeiiaa.Pure
