/- The drawn lists of outcomes; the conditions stand in each lemma. -/
import Derived.Laws.BitsLemmas
import Derived.Test.YtidicbddlpeiiaaPurePick
import Derived.Test.YtidicbddlpeiiaaQx15
namespace Go.Proofs.Ytidicbddlpeiiaa.Pure
open Go.RowKit Go.Proofs.YtidicbddlpeiiaaW.PrintWords Go.Proofs.YtidicbddlpeiiaaW.PrintLast Go.Proofs.YtidicbddlpeiiaaW.PrintMore Go.Proofs.Ytidicbddlpeiiaa.Q
set_option linter.unusedSimpArgs false
set_option linter.unusedVariables false

theorem someBools_loop (b : List Int) (hb : ∀ x ∈ b, 0 ≤ x ∧ x ≤ 255) (hl : b.length ≤ 2000) : ∀ (d : Nat) (x : List Bool) (p : Int), x.length + d ≤ 1000 → 0 ≤ p → p + d ≤ 1000000000 →
    ∃ y, (∀ k, d + 2 ≤ k → spec_someBools.l0 k x d b p = some (y, p + d)) ∧ y.length = x.length + d
  | 0, x, p, _, h0, h1 => by
    refine ⟨x, fun k hk => ?_, by omega⟩
    obtain ⟨k, rfl⟩ : ∃ m, k = m + 1 := ⟨k - 1, by omega⟩
    simp only [spec_someBools.l0]
    rw [if_neg (by simp)]
    simp
  | d + 1, x, p, hx, h0, h1 => by
    obtain ⟨r, hr, r0, r1, _⟩ := pick_all b hb hl p 3 h0 (by omega)
    obtain ⟨y, hy, ly⟩ := someBools_loop b hb hl d (x ++ [r == 0]) (p + 1) (by simp; omega) (by omega) (by omega)
    refine ⟨y, fun k hk => ?_, by rw [ly]; simp; omega⟩
    obtain ⟨k, rfl⟩ : ∃ m, k = m + 2 := ⟨k - 2, by omega⟩
    rw [spec_someBools.l0, if_pos (by omega), hr]
    simp only [Option.bind_some]
    rw [if_pos (by omega), show wrap64 (((d + 1 : Nat) : Int) - 1) = d by rw [w64 _ (by omega) (by omega)]; omega, hy (k + 1) (by omega)]
    rw [show p + 1 + (d : Int) = p + ((d + 1 : Nat) : Int) by omega]
theorem someBools_all (b : List Int) (hb : ∀ x ∈ b, 0 ≤ x ∧ x ≤ 255) (hl : b.length ≤ 2000) (p : Int) (h0 : 0 ≤ p) (h1 : p ≤ 1000000) :
    ∃ y q, (∀ k, 12 ≤ k → spec_someBools.f k b p = some (y, q)) ∧ y.length ≤ 7 ∧ 0 ≤ q ∧ q ≤ p + 20 := by
  obtain ⟨n, hn, hm⟩ := one_all b hb hl p h0 (by omega) ([3, 2, 4, 1, 6, 0, 7] : List Int) (by decide)
  have hn' : 0 ≤ n ∧ n ≤ 7 := by
    simp only [List.mem_cons, List.not_mem_nil, or_false] at hm
    omega
  obtain ⟨d, rfl⟩ := Int.eq_ofNat_of_zero_le hn'.1
  obtain ⟨y, hy, ly⟩ := someBools_loop b hb hl d [] (p + 1) (by simp; omega) (by omega) (by omega)
  refine ⟨y, p + 1 + d, fun k hk => ?_, by rw [ly]; simp; omega, by omega, by omega⟩
  obtain ⟨k, rfl⟩ : ∃ m, k = m + 1 := ⟨k - 1, by omega⟩
  unfold spec_someBools.f
  rw [hn]
  simp only [Option.bind_some]
  exact hy (k + 1) (by omega)
theorem DrawTryTask_all (code : List Int) (h : ∀ x ∈ code, (Lit.int .u8 x).wf = true) :
    ∃ y t, (∀ k, 12 ≤ k → spec_DrawTryTask.f k code = some (y, t)) ∧ y.length ≤ 7 ∧ t ∈ ([2, 1, 3, 0, 5, 6, (-1)] : List Int) := by
  obtain ⟨b, hb0, hbl, hb⟩ := newReader_all code h
  obtain ⟨y, q, hy, ly, q0, q1⟩ := someBools_all b hb hbl 0 (by omega) (by omega)
  obtain ⟨t, ht, hm⟩ := one_all b hb hbl q q0 (by omega) ([2, 1, 3, 0, 5, 6, (-1)] : List Int) (by decide)
  refine ⟨y, t, fun k hk => ?_, ly, hm⟩
  unfold spec_DrawTryTask.f
  obtain ⟨k, rfl⟩ : ∃ m, k = m + 1 := ⟨k - 1, by omega⟩
  rw [hb0]
  simp only [Option.bind_some]
  rw [hy (k + 1) (by omega)]
  simp only [Option.bind_some]
  rw [ht]
  simp only [Option.bind_some]
def allB : Nat → List (List Bool)
  | 0 => [[]]
  | n + 1 => [] :: ((allB n).map (fun l => true :: l) ++ (allB n).map (fun l => false :: l))
theorem allB_mem : ∀ (n : Nat) (l : List Bool), l.length ≤ n → l ∈ allB n
  | 0, l, h => by
    have : l = [] := List.eq_nil_of_length_eq_zero (by omega)
    simp [allB, this]
  | n + 1, [], _ => by simp [allB]
  | n + 1, true :: l, h => by
    have := allB_mem n l (by simp at h; omega)
    simp [allB, this]
  | n + 1, false :: l, h => by
    have := allB_mem n l (by simp at h; omega)
    simp [allB, this]

end Go.Proofs.Ytidicbddlpeiiaa.Pure
