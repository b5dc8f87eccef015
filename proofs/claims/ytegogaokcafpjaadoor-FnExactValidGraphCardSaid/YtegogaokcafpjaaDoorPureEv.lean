/- 'From some number of rounds on, it answers r': how the pure functions' fuel is done away with; plain Lean. -/
import Derived.Test.YtegogaokcafpjaaDoorHMath
namespace Go.Proofs.YtegogaokcafpjaaDoor.H
open Go.RowKit Go.Proofs.YtegogaokcafpjaaDoorW.PrintWords

def Evn {α : Type} (f : Nat → Option α) (r : α) : Prop := ∃ K, ∀ k, K ≤ k → f k = some r
theorem Evn.const {α : Type} {f : Option α} {r : α} (h : f = some r) : Evn (fun _ => f) r := ⟨0, fun _ _ => h⟩
theorem Evn.at_ {α : Type} {f : Nat → Option α} {r : α} (h : Evn f r) : ∃ k, f k = some r := by
  obtain ⟨K, hK⟩ := h
  exact ⟨K, hK K (Nat.le_refl _)⟩
theorem Evn.bind {α β : Type} {f : Nat → Option α} {a : α} {g : Nat → α → Option β} {r : β} (h1 : Evn f a) (h2 : Evn (fun k => g k a) r) : Evn (fun k => (f k).bind (g k)) r := by
  obtain ⟨K1, h1⟩ := h1
  obtain ⟨K2, h2⟩ := h2
  exact ⟨max K1 K2, fun k hk => by show (f k).bind (g k) = some r; rw [h1 k (by omega)]; exact h2 k (by omega)⟩
theorem Evn.step {α : Type} {f g : Nat → Option α} {r : α} (h : Evn g r) (he : ∀ k, f (k + 1) = g k) : Evn f r := by
  obtain ⟨K, h⟩ := h
  refine ⟨K + 1, fun k hk => ?_⟩
  obtain ⟨j, rfl⟩ : ∃ j, k = j + 1 := ⟨k - 1, by omega⟩
  rw [he, h j (by omega)]
theorem Evn.congr {α : Type} {f g : Nat → Option α} {r : α} (h : Evn g r) (he : ∀ k, f k = g k) : Evn f r := by
  obtain ⟨K, h⟩ := h
  exact ⟨K, fun k hk => by rw [he, h k hk]⟩
theorem Evn.cast {α : Type} {f : Nat → Option α} {r r' : α} (h : Evn f r) (he : r = r') : Evn f r' := he ▸ h
theorem Evn.both {α β : Type} {f : Nat → Option α} {g : Nat → Option β} {a : α} {b : β} (h1 : Evn f a) (h2 : Evn g b) : ∃ k, f k = some a ∧ g k = some b := by
  obtain ⟨K1, h1⟩ := h1
  obtain ⟨K2, h2⟩ := h2
  exact ⟨max K1 K2, h1 _ (by omega), h2 _ (by omega)⟩
/-- A loop over a list by an index, that stops at the first element that is not good. -/
theorem Evn.every {β : Type} (n : Nat) (hn : n ≤ 9223372036854775807) (L : Nat → Int → Option β) (good : Nat → Bool) (yes no : β) (hend : Evn (fun k => L k (n : Int)) yes)
    {lo : Nat} (hstep : ∀ i : Nat, lo ≤ i → i < n → ∀ r : β, (good i = true → Evn (fun k => L k ((i + 1 : Nat) : Int)) r) → (good i = false → r = no) → Evn (fun k => L k (i : Int)) r) :
    ∀ d i : Nat, lo ≤ i → i + d = n → Evn (fun k => L k (i : Int)) (if (List.range' i d).all good = true then yes else no)
  | 0, i, _, h => by
    obtain rfl : i = n := by omega
    exact hend
  | d + 1, i, h0, h => by
    refine hstep i h0 (by omega) _ (fun hg => ?_) (fun hg => ?_)
    · have := Evn.every n hn L good yes no hend hstep d (i + 1) (by omega) (by omega)
      refine this.cast ?_
      rw [List.range'_succ, List.all_cons, hg, Bool.true_and]
    · rw [List.range'_succ, List.all_cons, hg]
      rfl
theorem range_all {α : Type} (l : List α) (good : Nat → Bool) (p : α → Bool) (h : ∀ i (hi : i < l.length), good i = p l[i]) : (List.range' 0 l.length).all good = l.all p := by
  rw [Bool.eq_iff_iff, List.all_eq_true, List.all_eq_true]
  constructor
  · intro hg x hx
    obtain ⟨i, hi, rfl⟩ := List.getElem_of_mem hx
    rw [← h i hi]
    exact hg i (List.mem_range'_1.2 ⟨by omega, by omega⟩)
  · intro hp i hi
    have := (List.mem_range'_1.1 hi).2
    rw [h i (by omega)]
    exact hp _ (List.getElem_mem _)
theorem wrap_up (i : Nat) (h : i < 9223372036854775807) : wrap64 ((i : Int) + 1) = ((i + 1 : Nat) : Int) := by
  rw [w64 _ (by omega) (by omega)]
  omega
end Go.Proofs.YtegogaokcafpjaaDoor.H
