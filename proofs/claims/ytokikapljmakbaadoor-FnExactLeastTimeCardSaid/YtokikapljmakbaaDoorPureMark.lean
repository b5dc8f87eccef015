/- The law's marks: a row that is marked holds its marks, and the graph's marks are no negative number; plain Lean. -/
import Derived.Test.YtokikapljmakbaaDoorPureTasks
import Derived.Test.YtokikapljmakbaaDoorHMark
import Derived.Test.YtokikapljmakbaaDoorQx28
namespace Go.Proofs.YtokikapljmakbaaDoor.H
open Go.RowKit Go.Proofs.YtokikapljmakbaaDoorW.PrintWords Go.Proofs.YtokikapljmakbaaDoor.Q

def nums (n : Nat) : List Int := (List.range n).map fun (m : Nat) => 1 + (m : Int)
theorem nums_len (n : Nat) : (nums n).length = n := by
  unfold nums
  rw [List.length_map, List.length_range]
theorem nums_get (n i : Nat) (hi : i < n) : (nums n)[i]'(by rw [nums_len]; exact hi) = 1 + (i : Int) := by
  simp only [nums, List.getElem_map, List.getElem_range]
theorem mark_l0 (n : Nat) (hn : n ≤ 1048576) : ∀ (d i : Nat) (x : List Int), i + d = n → x.length = n → x.take i = (nums n).take i → Evn (fun k => laws_markIntS.l0 k x (1 + (i : Int)) (i : Int)) (1 + (n : Int), nums n)
  | 0, i, x, h, hx, ht => by
    have hl := nums_len n
    refine Evn.step (Evn.const rfl) fun k => ?_
    simp only [laws_markIntS.l0]
    rw [if_neg (by omega)]
    rw [List.take_of_length_le (by omega), List.take_of_length_le (by omega)] at ht
    rw [ht, show (i : Int) = (n : Int) by omega]
  | d + 1, i, x, h, hx, ht => by
    have hl := nums_len n
    have hi : i < n := by omega
    have hnext := mark_l0 n hn d (i + 1) (x.set i (1 + (i : Int))) (by omega) (by rw [List.length_set]; exact hx) (by
      have := set_next (nums n) x i (by omega) (by omega) ht
      rw [nums_get n i hi] at this
      exact this)
    refine Evn.step hnext fun k => ?_
    simp only [laws_markIntS.l0]
    rw [if_pos (by omega), if_pos (by omega), Int.toNat_natCast, w64 (1 + (i : Int) + 1) (by omega) (by omega), wrap_up i (by omega), show 1 + (i : Int) + 1 = 1 + ((i + 1 : Nat) : Int) by omega]
theorem mark_is (l : List Int) (hl : l.length ≤ 1048576) : Evn (fun k => laws_markIntS.f k l 1) (1 + (l.length : Int), nums l.length) := by
  unfold laws_markIntS.f
  exact mark_l0 l.length hl l.length 0 l (by omega) rfl rfl
theorem marked_l0 (n : Nat) (hn : n ≤ 1048576) (a : Int) (a0 : 0 ≤ a) (a1 : a ≤ 1099514777600) : ∀ (d i : Nat) (x : List Int), i + d = n → x.length = n → ∃ y, Evn (fun k => laws_markIntS.l0 k x (a + (i : Int)) (i : Int)) (a + (n : Int), y)
  | 0, i, x, h, hx => by
    refine ⟨x, Evn.step (Evn.const rfl) fun k => ?_⟩
    simp only [laws_markIntS.l0]
    rw [if_neg (by omega), show (i : Int) = (n : Int) by omega]
  | d + 1, i, x, h, hx => by
    obtain ⟨y, hy⟩ := marked_l0 n hn a a0 a1 d (i + 1) (x.set i (a + (i : Int))) (by omega) (by rw [List.length_set]; exact hx)
    refine ⟨y, Evn.step hy fun k => ?_⟩
    simp only [laws_markIntS.l0]
    rw [if_pos (by omega), if_pos (by omega), Int.toNat_natCast, w64 (a + (i : Int) + 1) (by omega) (by omega), wrap_up i (by omega), show a + (i : Int) + 1 = a + ((i + 1 : Nat) : Int) by omega]
/-- A row that is marked from a on: the next mark is no negative number. -/
theorem marked_is (l : List Int) (hl : l.length ≤ 1048576) (a : Int) (a0 : 0 ≤ a) (a1 : a ≤ 1099514777600) : ∃ y, Evn (fun k => laws_markIntS.f k l a) (a + (l.length : Int), y) := by
  obtain ⟨y, hy⟩ := marked_l0 l.length hl a a0 a1 l.length 0 l (by omega) rfl
  refine ⟨y, ?_⟩
  unfold laws_markIntS.f
  rw [show a + ((0 : Nat) : Int) = a by omega] at hy
  exact hy
theorem held_is (n : Nat) (hn : n ≤ 1048576) : Evn (fun k => laws_heldIntS.f k (nums n) 1) (1 + (n : Int)) := by
  have hl := nums_len n
  have h : ∀ d i : Nat, i + d = n → Evn (fun k => laws_heldIntS.l0 k (nums n) (1 + (i : Int)) (i : Int)) (1 + (n : Int)) := by
    intro d
    induction d with
    | zero =>
      intro i h
      refine Evn.step (Evn.const rfl) fun k => ?_
      simp only [laws_heldIntS.l0]
      rw [if_neg (by omega), show (i : Int) = (n : Int) by omega]
    | succ d ih =>
      intro i h
      refine Evn.step (ih (i + 1) (by omega)) fun k => ?_
      simp only [laws_heldIntS.l0]
      rw [if_pos (by omega), if_pos (by omega), rd_get _ i (by omega), nums_get n i (by omega), if_pos rfl, w64 (1 + (i : Int) + 1) (by omega) (by omega), wrap_up i (by omega), show 1 + (i : Int) + 1 = 1 + ((i + 1 : Nat) : Int) by omega]
  unfold laws_heldIntS.f
  exact h n 0 (by omega)
theorem markTask_is {l : List S64} (hs : Small l) : ∃ m, laws_markTaskS.f (conv l) 1 = some m ∧ 0 ≤ m ∧ m ≤ 1099514777600 := by
  have hlen : (conv l).length = l.length := List.length_map ..
  have h1 := hs.1
  have hall : ∀ t, t ∈ conv l → t.f1.length ≤ 1048576 := fun t ht => by
    obtain ⟨x, hx, rfl⟩ := List.mem_map.1 ht
    exact hs.2 x hx
  refine ⟨_, if_pos ?_, ?_⟩
  · unfold markOk
    rw [decide_eq_true (by omega), List.all_eq_true.2 (fun t ht => decide_eq_true (hall t ht))]
    decide
  · have := markSum_le (conv l) 1 hall
    omega
theorem conv_all {l : List S64} (hs : Small l) : held (conv l) = true := by
  unfold held
  rw [List.all_eq_true]
  exact fun t ht => decide_eq_true ((conv_held hs).2.2 t ht)
end Go.Proofs.YtokikapljmakbaaDoor.H
