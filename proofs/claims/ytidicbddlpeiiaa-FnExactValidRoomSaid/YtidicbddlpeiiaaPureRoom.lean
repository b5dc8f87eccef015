/- ValidRoom of the reference is that of the program; the conditions stand in each lemma. -/
import Derived.Laws.BitsLemmas
import Derived.Test.YtidicbddlpeiiaaPureNum
import Derived.Test.YtidicbddlpeiiaaQx4
import Derived.Test.YtidicbddlpeiiaaQx4
namespace Go.Proofs.Ytidicbddlpeiiaa.Pure
open Go.RowKit Go.Proofs.YtidicbddlpeiiaaW.PrintWords Go.Proofs.YtidicbddlpeiiaaW.PrintLast Go.Proofs.YtidicbddlpeiiaaW.PrintMore Go.Proofs.Ytidicbddlpeiiaa.Q
set_option linter.unusedSimpArgs false
set_option linter.unusedVariables false

theorem inRange_is (a b c : Int) : spec_inRange.f a b c = some (decide (b ≤ a ∧ a ≤ c)) := by
  unfold spec_inRange.f
  by_cases h : b ≤ a
  · rw [if_pos h]
    congr 1
    rw [decide_eq_decide]
    omega
  · rw [if_neg h]
    congr 1
    symm
    rw [decide_eq_false_iff_not]
    omega
theorem within_is (a b c : Int) : impl_within.f a b c = some (decide (b ≤ a ∧ a ≤ c)) := by
  unfold impl_within.f
  by_cases h : a ≥ b
  · rw [if_pos h]
    congr 1
    rw [decide_eq_decide]
    omega
  · rw [if_neg h]
    congr 1
    symm
    rw [decide_eq_false_iff_not]
    omega
def allR (lo hi : Int) (l : List Int) : Bool := l.all fun x => decide (lo ≤ x ∧ x ≤ hi)
theorem rd_get (l : List Int) (i : Nat) (h : i < l.length) : rd l i = l[i] := by
  unfold rd
  rw [Int.toNat_natCast, List.getD_eq_getElem?_getD, List.getElem?_eq_getElem h]
  rfl
theorem allR_drop (lo hi : Int) (l : List Int) (i : Nat) (h : i < l.length) : allR lo hi (l.drop i) = (decide (lo ≤ rd l i ∧ rd l i ≤ hi) && allR lo hi (l.drop (i + 1))) := by
  rw [List.drop_eq_getElem_cons h, rd_get l i h]
  rfl
theorem allIn_loop (l : List Int) (hl : l.length ≤ 281474976710656) (lo hi : Int) : ∀ (d i : Nat), i + d = l.length → ∀ k, d + 1 ≤ k → spec_allIn.l0 k l lo hi i = some (allR lo hi (l.drop i))
  | 0, i, h, k, hk => by
    obtain ⟨k, rfl⟩ : ∃ m, k = m + 1 := ⟨k - 1, by omega⟩
    rw [spec_allIn.l0, if_neg (by omega), List.drop_eq_nil_of_le (by omega)]
    rfl
  | d + 1, i, h, k, hk => by
    obtain ⟨k, rfl⟩ : ∃ m, k = m + 1 := ⟨k - 1, by omega⟩
    rw [spec_allIn.l0, if_pos (by omega), if_pos (by omega), inRange_is]
    simp only [Option.bind_some]
    rw [allR_drop lo hi l i (by omega), show wrap64 ((i : Int) + 1) = ((i + 1 : Nat) : Int) by rw [w64 _ (by omega) (by omega)]; omega, allIn_loop l hl lo hi d (i + 1) (by omega) k (by omega)]
    by_cases c : lo ≤ rd l i ∧ rd l i ≤ hi
    · rw [decide_eq_true c, if_pos rfl]
      rfl
    · rw [decide_eq_false c, if_neg (by simp)]
      rfl
theorem allIn_is (l : List Int) (hl : l.length ≤ 281474976710656) (lo hi : Int) (k : Nat) (hk : l.length + 1 ≤ k) : spec_allIn.f k l lo hi = some (allR lo hi l) :=
  allIn_loop l hl lo hi l.length 0 (by omega) k hk
def validRoom (l : List Int) : Bool := decide (l.length = 3) && allR 4 8 l
theorem ValidRoom_is (l : List Int) (hl : l.length ≤ 281474976710656) (k : Nat) (hk : l.length + 1 ≤ k) : spec_ValidRoom.f k l = some (validRoom l) := by
  unfold spec_ValidRoom.f spec_validRoom.f validRoom
  by_cases h : l.length = 3
  · rw [if_pos (by omega), allIn_is l hl 4 8 k hk]
    simp [h]
  · rw [if_neg (by omega)]
    simp [h]
theorem implRoom_loop (l : List Int) (hl : l.length ≤ 281474976710656) : ∀ (d i : Nat), i + d = l.length → ∀ k, d + 1 ≤ k → impl_ValidRoom.l0 k l (l.length : Int) i = some (allR 4 8 (l.drop i))
  | 0, i, h, k, hk => by
    obtain ⟨k, rfl⟩ : ∃ m, k = m + 1 := ⟨k - 1, by omega⟩
    rw [impl_ValidRoom.l0, if_neg (by omega), List.drop_eq_nil_of_le (by omega)]
    rfl
  | d + 1, i, h, k, hk => by
    obtain ⟨k, rfl⟩ : ∃ m, k = m + 1 := ⟨k - 1, by omega⟩
    rw [impl_ValidRoom.l0, if_pos (by omega), if_pos (by omega), if_pos (by omega), within_is]
    simp only [Option.bind_some]
    rw [allR_drop 4 8 l i (by omega), show wrap64 ((i : Int) + 1) = ((i + 1 : Nat) : Int) by rw [w64 _ (by omega) (by omega)]; omega, implRoom_loop l hl d (i + 1) (by omega) k (by omega)]
    by_cases c : 4 ≤ rd l i ∧ rd l i ≤ 8
    · rw [decide_eq_true c, if_pos rfl]
      rfl
    · rw [decide_eq_false c, if_neg (by simp)]
      rfl
theorem implRoom_is (l : List Int) (hl : l.length ≤ 281474976710656) (k : Nat) (hk : l.length + 1 ≤ k) : impl_ValidRoom.f k l = some (validRoom l) := by
  unfold impl_ValidRoom.f validRoom
  by_cases h : l.length = 3
  · rw [if_pos (by omega)]
    rw [show impl_ValidRoom.l0 k l (l.length : Int) 0 = _ from implRoom_loop l hl l.length 0 (by omega) k hk]
    simp [h]
  · rw [if_neg (by omega)]
    simp [h]

end Go.Proofs.Ytidicbddlpeiiaa.Pure
