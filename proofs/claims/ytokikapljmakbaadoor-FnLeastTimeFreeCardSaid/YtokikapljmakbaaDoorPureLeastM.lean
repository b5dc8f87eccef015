/- Bounds on LeastTime: what it is at least, and that it is small; plain Lean. -/
import Derived.Test.YtokikapljmakbaaDoorPureLeastV
import Derived.Test.YtokikapljmakbaaDoorPureAll
namespace Go.Proofs.YtokikapljmakbaaDoor.H
open Go.RowKit Go.Proofs.YtokikapljmakbaaDoorW.PrintWords Go.Proofs.YtokikapljmakbaaDoorW.PrintLast Go.Proofs.YtokikapljmakbaaDoorW.PrintMore Go.Proofs.YtokikapljmakbaaDoor.Q
set_option linter.unusedVariables false

theorem mx_l (a b : Int) : a ≤ mx a b := by rw [mx_max]; omega
theorem mx_r (a b : Int) : b ≤ mx a b := by rw [mx_max]; omega
theorem mx_le {a b c : Int} (h1 : a ≤ c) (h2 : b ≤ c) : mx a b ≤ c := by rw [mx_max]; omega
theorem leastUp_ge (g : List S29) (room : List Int) (b : Int) : ∀ n, b ≤ leastUp g room b n
  | 0 => Int.le_refl _
  | n + 1 => Int.le_trans (leastUp_ge g room b n) (mx_l _ _)
theorem leastUp_pool (g : List S29) (room : List Int) (b : Int) : ∀ (n j : Nat), j < n → poolTime g (j : Int) (atI room j) ≤ leastUp g room b n
  | 0, j, h => absurd h (Nat.not_lt_zero j)
  | n + 1, j, h => by
    rw [leastUp]
    by_cases c : j = n
    · subst c
      exact mx_r _ _
    · exact Int.le_trans (leastUp_pool g room b n j (by omega)) (mx_l _ _)
theorem leastUp_le (g : List S29) (room : List Int) (b c : Int) (hb : b ≤ c) : ∀ n : Nat, (∀ j : Nat, j < n → poolTime g (j : Int) (atI room j) ≤ c) → leastUp g room b n ≤ c
  | 0, _ => hb
  | n + 1, h => mx_le (leastUp_le g room b c hb n (fun j hj => h j (by omega))) (h n (by omega))
theorem ediv_small (s r : Int) (h0 : 0 ≤ s) (r0 : 1 ≤ r) : 0 ≤ (s + r - 1) / r ∧ (s + r - 1) / r ≤ s + r - 1 := ⟨Int.ediv_nonneg (by omega) (by omega), Int.ediv_le_self _ (by omega)⟩
theorem poolTime_small {g : List S29} (hv : valid g = true) (a r : Int) : poolTime g a r ≤ 1000 := by
  by_cases h : valid g = true ∧ (0 ≤ a ∧ a ≤ 2) ∧ (4 ≤ r ∧ r ≤ 8)
  · have hf := valid_fine hv
    have h8 := fine_len hf
    obtain ⟨s0, s1⟩ := poolSum_ok hf a g.length (Nat.le_refl _)
    have := ediv_small (poolSum g a g.length) r s0 (by omega)
    rw [poolTime_yes h.1 h.2.1 h.2.2]
    omega
  · rw [poolTime_no h]
    omega
theorem sumT_all (g : List S29) : ∀ n, ((List.range n).map (tmOf g)).sum = sumT g n
  | 0 => rfl
  | n + 1 => by
    rw [List.range_succ, List.map_append, List.sum_append, sumT_all g n, sumT]
    simp
theorem allOf_sum (g : List S29) : allOf g = sumT g g.length := sumT_all g _
theorem up_times (s r : Int) (h : 0 ≤ s) (r0 : 1 ≤ r) (r1 : r ≤ 4) : s ≤ upOf s r * r := by
  unfold upOf
  rcases (by omega : r = 1 ∨ r = 2 ∨ r = 3 ∨ r = 4) with rfl | rfl | rfl | rfl <;> omega
/-- What is known of the least time. -/
structure Least (g : List S29) (room : List Int) (wk n : Int) : Prop where mk ::
  (pos : 0 ≤ n) (small : n ≤ 1000) (long : longestTime g ≤ n) (up : upOf (sumT g g.length) wk ≤ n) (pool : ∀ j : Nat, j < 3 → poolTime g (j : Int) (atI room j) ≤ n)
theorem least_of {g : List S29} {room : List Int} {wk : Int} (h : placeOk g room wk = true) : Least g room wk (leastTime g room wk) := by
  obtain ⟨hv, ⟨hl, _⟩, w0, w1⟩ := place_parts h
  have hf := valid_fine hv
  have h8 := fine_len hf
  obtain ⟨s0, s1⟩ := sumT_ok hf g.length (Nat.le_refl _)
  have hu : 0 ≤ upOf (sumT g g.length) wk ∧ upOf (sumT g g.length) wk ≤ sumT g g.length + wk - 1 := ediv_small _ _ s0 w0
  obtain ⟨t0, t1, _⟩ := top_small hv
  obtain ⟨b, hb⟩ : ∃ b, mx (longestTime g) (upOf (sumT g g.length) wk) = b := ⟨_, rfl⟩
  have b0 : longestTime g ≤ b := by rw [← hb]; exact mx_l _ _
  have b1 : upOf (sumT g g.length) wk ≤ b := by rw [← hb]; exact mx_r _ _
  have b2 : b ≤ 1000 := by rw [← hb]; exact mx_le t1 (by omega)
  rw [leastTime_yes h, hl, hb]
  have ge := leastUp_ge g room b 3
  refine ⟨by omega, leastUp_le g room b 1000 b2 3 (fun j _ => poolTime_small hv _ _), by omega, by omega, fun j hj => leastUp_pool g room b 3 j hj⟩
theorem least_neg {g : List S29} {room : List Int} {wk : Int} (h : ¬ leastTime g room wk < 0) : placeOk g room wk = true := Classical.byContradiction fun hp => h (by rw [leastTime_no hp]; omega)
theorem place_one {g : List S29} {room : List Int} {wk : Int} (h : placeOk g room wk = true) : placeOk g room 1 = true := by
  unfold placeOk at h ⊢
  rw [Bool.and_eq_true, Bool.and_eq_true] at h
  rw [h.1.1, h.1.2]
  rfl
end Go.Proofs.YtokikapljmakbaaDoor.H
