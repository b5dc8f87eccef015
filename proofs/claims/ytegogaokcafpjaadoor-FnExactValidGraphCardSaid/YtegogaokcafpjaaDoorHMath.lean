/- Sets of numbers below eight as binary numbers, the needs of tasks, and the order: what the printed functions of these come to; the conditions stand in each lemma. -/
import Derived.Laws.BitsLemmas
import Derived.Test.YtegogaokcafpjaaDoorHBits
import Derived.Test.YtegogaokcafpjaaDoorQx5
import Derived.Test.YtegogaokcafpjaaDoorQx4
import Derived.Test.YtegogaokcafpjaaDoorQx6
import Derived.Test.YtegogaokcafpjaaDoorQx6
import Derived.Test.YtegogaokcafpjaaDoorHTab
namespace Go.Proofs.YtegogaokcafpjaaDoor.H
open Go.RowKit Go.Proofs.YtegogaokcafpjaaDoorW.PrintWords Go.Proofs.YtegogaokcafpjaaDoorW.PrintLast Go.Proofs.YtegogaokcafpjaaDoorW.PrintMore Go.Proofs.YtegogaokcafpjaaDoor.Q
set_option linter.unusedSimpArgs false
set_option linter.unusedVariables false

theorem w64 (n : Int) (h0 : -9223372036854775808 ≤ n) (h1 : n ≤ 9223372036854775807) : wrap64 n = n := by
  unfold wrap64
  omega
theorem rd_get (l : List Int) (i : Nat) (h : i < l.length) : rd l i = l[i] := by
  unfold rd
  rw [Int.toNat_natCast, List.getD_eq_getElem?_getD, List.getElem?_eq_getElem h]
  rfl
theorem within_is (a b c : Int) : impl_within.f a b c = some (decide (b ≤ a ∧ a ≤ c)) := by
  unfold impl_within.f
  by_cases h : a ≥ b
  · rw [if_pos h]
    congr 1
    rw [decide_eq_decide]
    omega
  · rw [if_neg h]
    congr 1
    symm
    rw [decide_eq_false_iff_not]
    omega

/-! ### The operations on sets -/
theorem with_is (s i : Nat) (hs : s < 256) (hi : i < 8) : impl_set_with.f (s : Int) (i : Int) = some ((s ||| 2 ^ i : Nat) : Int) := by
  unfold impl_set_with.f
  rw [if_pos (by omega), with_bits s hs i hi]
theorem has_is (s i : Nat) (hs : s < 256) (hi : i < 8) : impl_set_has.f (s : Int) (i : Int) = some (s.testBit i) := by
  unfold impl_set_has.f
  rw [if_pos (by omega), has_bits s hs i hi]
theorem everything_is (n : Nat) (hn : n ≤ 8) : impl_everything.f (n : Int) = some ((2 ^ n - 1 : Nat) : Int) := by
  unfold impl_everything.f
  rw [if_pos (by omega), all_bits n hn]
theorem or_lt {s t : Nat} (hs : s < 256) (ht : t < 256) : s ||| t < 256 := Nat.or_lt_two_pow (n := 8) hs ht
theorem pow_lt {i : Nat} (hi : i < 8) : 2 ^ i < 256 := Nat.pow_lt_pow_right (by decide) hi
theorem mem_elems {s i : Nat} : i ∈ elems s ↔ i < 8 ∧ s.testBit i = true := by
  unfold elems
  rw [List.mem_filter, List.mem_range]

/-! ### Needs -/
/-- The numbers ascend, from lo on, below n. -/
def asc (n : Nat) : Int → List Int → Bool
  | _, [] => true
  | lo, x :: t => decide (lo ≤ x ∧ x ≤ (n : Int) - 1) && asc n (x + 1) t
def mask : List Int → Nat → Nat
  | [], m => m
  | x :: t, m => mask t (m ||| 2 ^ x.toNat)
theorem mask_lt (n : Nat) (hn : n ≤ 8) : ∀ (l : List Int) (lo : Int) (m : Nat), 0 ≤ lo → asc n lo l = true → m < 256 → mask l m < 256
  | [], _, m, _, _, hm => hm
  | x :: t, lo, m, h0, ha, hm => by
    simp only [asc, Bool.and_eq_true, decide_eq_true_eq] at ha
    exact mask_lt n hn t (x + 1) _ (by omega) ha.2 (or_lt hm (pow_lt (by omega)))
theorem mask_test (n : Nat) : ∀ (l : List Int) (lo : Int) (m i : Nat), 0 ≤ lo → asc n lo l = true → (mask l m).testBit i = (m.testBit i || decide ((i : Int) ∈ l))
  | [], _, m, i, _, _ => by simp [mask]
  | x :: t, lo, m, i, h0, ha => by
    simp only [asc, Bool.and_eq_true, decide_eq_true_eq] at ha
    rw [mask, mask_test n t (x + 1) _ i (by omega) ha.2, Nat.testBit_or, Nat.testBit_two_pow, Bool.or_assoc]
    congr 1
    rw [Bool.eq_iff_iff]
    simp only [Bool.or_eq_true, decide_eq_true_eq, List.mem_cons]
    have : x.toNat = i ↔ (i : Int) = x := by omega
    rw [this]
theorem setOf_loop (n : Nat) (hn : n ≤ 8) (l : List Int) (hl : l.length ≤ 281474976710656) : ∀ (d j : Nat) (m : Nat) (lo : Int), j + d = l.length → m < 256 → 0 ≤ lo → lo ≤ 9 → ∀ k, d + 1 ≤ k →
    impl_setOf.l0 k (n : Int) (m : Int) (lo - 1) l (l.length : Int) (j : Int) = some (if asc n lo (l.drop j) = true then (((mask (l.drop j) m : Nat) : Int), true) else ((0 : Int), false))
  | 0, j, m, lo, hj, hm, h0, h9, k, hk => by
    obtain ⟨k, rfl⟩ : ∃ q, k = q + 1 := ⟨k - 1, by omega⟩
    rw [impl_setOf.l0, if_neg (by omega), List.drop_eq_nil_of_le (by omega)]
    rfl
  | d + 1, j, m, lo, hj, hm, h0, h9, k, hk => by
    obtain ⟨k, rfl⟩ : ∃ q, k = q + 1 := ⟨k - 1, by omega⟩
    have hjl : j < l.length := by omega
    rw [impl_setOf.l0, if_pos (by omega), if_pos (by omega), if_pos (by omega), within_is, w64 (lo - 1 + 1) (by omega) (by omega), w64 ((n : Int) - 1) (by omega) (by omega), rd_get l j hjl, show lo - 1 + 1 = lo by omega, Option.bind_some]
    by_cases c : lo ≤ l[j] ∧ l[j] ≤ (n : Int) - 1
    · have e : asc n lo (l.drop j) = asc n (l[j] + 1) (l.drop (j + 1)) := by rw [List.drop_eq_getElem_cons hjl, asc, decide_eq_true c, Bool.true_and]
      have em : mask (l.drop j) m = mask (l.drop (j + 1)) (m ||| 2 ^ l[j].toNat) := by rw [List.drop_eq_getElem_cons hjl, mask]
      obtain ⟨x, hx⟩ := Int.eq_ofNat_of_zero_le (show 0 ≤ l[j] by omega)
      rw [decide_eq_true c, if_pos rfl, e, em]
      rw [hx] at c ⊢
      rw [with_is m x hm (by omega), Option.bind_some, w64 ((j : Int) + 1) (by omega) (by omega)]
      have := setOf_loop n hn l hl d (j + 1) (m ||| 2 ^ x) ((x : Int) + 1) (by omega) (or_lt hm (pow_lt (by omega))) (by omega) (by omega) k (by omega)
      rw [show (x : Int) + 1 - 1 = (x : Int) by omega] at this
      exact this
    · have e : asc n lo (l.drop j) = false := by rw [List.drop_eq_getElem_cons hjl, asc, decide_eq_false c, Bool.false_and]
      rw [decide_eq_false c, e, if_neg Bool.false_ne_true, if_neg Bool.false_ne_true]
theorem setOf_is (n : Nat) (hn : n ≤ 8) (l : List Int) (hl : l.length ≤ 281474976710656) (k : Nat) (hk : l.length + 1 ≤ k) :
    impl_setOf.f k l (n : Int) = some (if asc n 0 l = true then (((mask l 0 : Nat) : Int), true) else ((0 : Int), false)) := by
  have := setOf_loop n hn l hl l.length 0 0 0 (by omega) (by omega) (by omega) (by omega) k hk
  exact this

/-- What is asked of a task in a graph of n tasks. -/
def okTask (n : Nat) (t : S33) : Bool := asc n 0 t.f1 && (decide (1 ≤ t.f0 ∧ t.f0 ≤ 20) && (decide (0 ≤ t.f2 ∧ t.f2 ≤ 2) && decide (1 ≤ t.f3 ∧ t.f3 ≤ 4)))
def fine (g : List S33) : Bool := decide (g.length ≤ 8) && g.all (okTask g.length)
def needs (g : List S33) : List Nat := g.map fun t => mask t.f1 0
def ints (l : List Nat) : List Int := l.map (fun (x : Nat) => (x : Int))
theorem ints_len (l : List Nat) : (ints l).length = l.length := List.length_map ..
theorem rd_ints (l : List Nat) (i : Nat) (h : i < l.length) : rd (ints l) i = (l[i] : Int) := by
  rw [rd_get _ i (by rw [ints_len]; exact h)]
  exact List.getElem_map ..
theorem rd_task (g : List S33) (i : Nat) (h : i < g.length) : rd_T33 g i = g[i] := by
  unfold rd_T33
  rw [Int.toNat_natCast, List.getD_eq_getElem?_getD, List.getElem?_eq_getElem h]
  rfl
/-- No list of needs is too long to be held. -/
def short (M : Nat) (g : List S33) : Prop := ∀ t, t ∈ g → t.f1.length ≤ M
theorem needsOf_loop (g : List S33) (M : Nat) (hM : short M g) (hM48 : M ≤ 281474976710656) (h8 : g.length ≤ 8) : ∀ (d j : Nat) (a : List Nat), j + d = g.length → a.length = j → ∀ k, d + M + 2 ≤ k →
    impl_needsOf.l0 k g (ints a) g (g.length : Int) (j : Int) = some (if (g.drop j).all (okTask g.length) = true then (ints (a ++ needs (g.drop j)), true) else (([] : List Int), false))
  | 0, j, a, hj, ha, k, hk => by
    obtain ⟨k, rfl⟩ : ∃ q, k = q + 1 := ⟨k - 1, by omega⟩
    rw [impl_needsOf.l0, if_neg (by omega), List.drop_eq_nil_of_le (by omega), List.all_nil, if_pos rfl, needs, List.map_nil, List.append_nil]
  | d + 1, j, a, hj, ha, k, hk => by
    obtain ⟨k, rfl⟩ : ∃ q, k = q + 1 := ⟨k - 1, by omega⟩
    have hjl : j < g.length := by omega
    have hm := hM _ (List.getElem_mem hjl)
    rw [impl_needsOf.l0, if_pos (by omega), if_pos (by omega), if_pos (by omega), rd_task g j hjl, setOf_is g.length h8 _ (by omega) k (by omega), Option.bind_some, within_is, within_is, within_is, Option.bind_some, Option.bind_some, Option.bind_some]
    have e : (g.drop j).all (okTask g.length) = (okTask g.length g[j] && (g.drop (j + 1)).all (okTask g.length)) := by rw [List.drop_eq_getElem_cons hjl, List.all_cons]
    have en : needs (g.drop j) = mask g[j].f1 0 :: needs (g.drop (j + 1)) := by rw [List.drop_eq_getElem_cons hjl, needs, List.map_cons]; rfl
    rw [e, en]
    by_cases c1 : asc g.length 0 g[j].f1 = true
    · rw [if_pos c1]
      by_cases c2 : 1 ≤ g[j].f0 ∧ g[j].f0 ≤ 20
      · by_cases c3 : 0 ≤ g[j].f2 ∧ g[j].f2 ≤ 2
        · by_cases c4 : 1 ≤ g[j].f3 ∧ g[j].f3 ≤ 4
          · have eo : okTask g.length g[j] = true := by
              unfold okTask
              rw [c1, decide_eq_true c2, decide_eq_true c3, decide_eq_true c4]
              rfl
            have := needsOf_loop g M hM hM48 h8 d (j + 1) (a ++ [mask g[j].f1 0]) (by omega) (by rw [List.length_append, ha]; rfl) k (by omega)
            rw [eo, Bool.true_and, decide_eq_true c2, decide_eq_true c3, decide_eq_true c4, if_pos rfl, if_pos rfl, if_pos rfl, if_pos rfl, if_pos (by rw [ints_len]; omega), w64 ((j : Int) + 1) (by omega) (by omega)]
            rw [List.append_assoc] at this
            have ei : ints (a ++ [mask g[j].f1 0]) = ints a ++ [((mask g[j].f1 0 : Nat) : Int)] := List.map_append ..
            rw [ei] at this
            exact this
          · have eo : okTask g.length g[j] = false := by
              unfold okTask
              rw [decide_eq_false c4, Bool.and_false, Bool.and_false, Bool.and_false]
            rw [eo, Bool.false_and, decide_eq_true c2, decide_eq_true c3, decide_eq_false c4, if_pos rfl, if_pos rfl, if_pos rfl, if_neg Bool.false_ne_true, if_neg Bool.false_ne_true]
        · have eo : okTask g.length g[j] = false := by
            unfold okTask
            rw [decide_eq_false c3, Bool.false_and, Bool.and_false, Bool.and_false]
          rw [eo, Bool.false_and, decide_eq_true c2, decide_eq_false c3, if_pos rfl, if_pos rfl, if_neg Bool.false_ne_true, if_neg Bool.false_ne_true]
      · have eo : okTask g.length g[j] = false := by
          unfold okTask
          rw [decide_eq_false c2, Bool.false_and, Bool.and_false]
        rw [eo, Bool.false_and, decide_eq_false c2, if_pos rfl, if_neg Bool.false_ne_true, if_neg Bool.false_ne_true]
    · have c1 : asc g.length 0 g[j].f1 = false := by simpa using c1
      have eo : okTask g.length g[j] = false := by
        unfold okTask
        rw [c1, Bool.false_and]
      rw [c1, eo, Bool.false_and, if_neg Bool.false_ne_true, if_neg Bool.false_ne_true, if_neg Bool.false_ne_true]
theorem needsOf_is (g : List S33) (M : Nat) (hM : short M g) (hM48 : M ≤ 281474976710656) (k : Nat) (hk : M + 10 ≤ k) :
    impl_needsOf.f k g = some (if fine g = true then (ints (needs g), true) else (([] : List Int), false)) := by
  unfold impl_needsOf.f fine
  by_cases h8 : g.length ≤ 8
  · rw [if_neg (by omega), if_pos (by omega), if_pos (by omega), decide_eq_true h8, Bool.true_and]
    have := needsOf_loop g M hM hM48 h8 g.length 0 [] (by omega) rfl k (by omega)
    exact this
  · rw [if_pos (by omega), decide_eq_false h8, Bool.false_and, if_neg Bool.false_ne_true]

/-! ### The order -/
def free (s d i : Nat) : Bool := !d.testBit i && (s &&& (255 - d)) == 0
def pickFrom : List Nat → Nat → Nat → Option Nat
  | [], _, _ => none
  | s :: t, i, d => if free s d i = true then some i else pickFrom t (i + 1) d
def run : Nat → List Nat → List Nat → Nat → List Nat × Nat
  | 0, _, l, d => (l, d)
  | r + 1, s, l, d => match pickFrom s 0 d with
    | some i => run r s (l ++ [i]) (d ||| 2 ^ i)
    | none => run r s l d
def order (s : List Nat) : List Nat × Nat := run s.length s [] 0
theorem ints_snoc (l : List Nat) (i : Nat) : ints (l ++ [i]) = ints l ++ [(i : Int)] := List.map_append ..
theorem order_l1 (s : List Nat) (hn : s.length ≤ 8) (hs : ∀ x, x ∈ s → x < 256) (l : List Nat) (d : Nat) (hl : l.length ≤ 8) (hd : d < 256) (x10 x11 : Int) (F : Nat) (R : List Nat → Nat → Option (List Int × Int))
    (hR1 : ∀ i : Nat, i < 8 → ∀ k, F ≤ k → impl_order.l0 k (ints s) (ints l ++ [(i : Int)]) ((d ||| 2 ^ i : Nat) : Int) x10 (wrap64 (x11 + 1)) = R (l ++ [i]) (d ||| 2 ^ i))
    (hR0 : ∀ k, F ≤ k → impl_order.l0 k (ints s) (ints l) (d : Int) x10 (wrap64 (x11 + 1)) = R l d) :
    ∀ e j, j + e = s.length → ∀ k, F + e + 1 ≤ k → impl_order.l1 k (ints s) (ints l) (d : Int) x10 x11 (ints s) (s.length : Int) (j : Int) = match pickFrom (s.drop j) j d with
      | some i => R (l ++ [i]) (d ||| 2 ^ i)
      | none => R l d
  | 0, j, hj, k, hk => by
    obtain ⟨k, rfl⟩ : ∃ q, k = q + 1 := ⟨k - 1, by omega⟩
    rw [impl_order.l1, if_neg (by omega), List.drop_eq_nil_of_le (by omega)]
    exact hR0 k (by omega)
  | e + 1, j, hj, k, hk => by
    obtain ⟨k, rfl⟩ : ∃ q, k = q + 1 := ⟨k - 1, by omega⟩
    have hjl : j < s.length := by omega
    rw [impl_order.l1, if_pos (by omega), if_pos (by omega), if_pos (by rw [ints_len]; omega), has_is d j hd (by omega), Option.bind_some, rd_ints s j hjl, minus_bits s[j] (hs _ (List.getElem_mem hjl)) d hd, w64 ((j : Int) + 1) (by omega) (by omega), List.drop_eq_getElem_cons hjl, pickFrom]
    have IH := order_l1 s hn hs l d hl hd x10 x11 F R hR1 hR0 e (j + 1) (by omega) k (by omega)
    by_cases c1 : d.testBit j = true
    · have ef : free s[j] d j = false := by
        unfold free
        rw [c1]
        rfl
      rw [if_pos c1, ef, if_neg Bool.false_ne_true]
      exact IH
    · have c1 : d.testBit j = false := by simpa using c1
      rw [c1, if_neg Bool.false_ne_true]
      by_cases c2 : s[j] &&& (255 - d) = 0
      · have ef : free s[j] d j = true := by
          unfold free
          rw [c1, c2]
          rfl
        rw [ef, if_pos rfl, c2, if_pos (by rfl), if_pos (by rw [ints_len]; omega), with_is d j hd (by omega), Option.bind_some]
        exact hR1 j (by omega) k (by omega)
      · have ef : free s[j] d j = false := by
          unfold free
          rw [c1, beq_eq_false_iff_ne.2 c2]
          rfl
        rw [ef, if_neg Bool.false_ne_true, if_neg (by omega)]
        exact IH
theorem order_l0 (s : List Nat) (hn : s.length ≤ 8) (hs : ∀ x, x ∈ s → x < 256) : ∀ (r : Nat) (l : List Nat) (d : Nat), l.length + r ≤ 8 → r ≤ s.length → d < 256 → ∀ k, r * (s.length + 2) + 1 ≤ k →
    impl_order.l0 k (ints s) (ints l) (d : Int) (s.length : Int) ((s.length - r : Nat) : Int) = some (ints (run r s l d).1, ((run r s l d).2 : Int))
  | 0, l, d, hl, hr, hd, k, hk => by
    obtain ⟨k, rfl⟩ : ∃ q, k = q + 1 := ⟨k - 1, by omega⟩
    rw [impl_order.l0, if_neg (by omega)]
    rfl
  | r + 1, l, d, hl, hr, hd, k, hk => by
    obtain ⟨k, rfl⟩ : ∃ q, k = q + 1 := ⟨k - 1, by omega⟩
    rw [Nat.add_mul] at hk
    rw [impl_order.l0, if_pos (by omega), ints_len]
    have ew : wrap64 (((s.length - (r + 1) : Nat) : Int) + 1) = ((s.length - r : Nat) : Int) := by
      rw [w64 _ (by omega) (by omega)]
      omega
    have := order_l1 s hn hs l d (by omega) hd (s.length : Int) ((s.length - (r + 1) : Nat) : Int) (r * (s.length + 2) + 1) (fun l d => some (ints (run r s l d).1, ((run r s l d).2 : Int)))
      (fun i hi k hk => by rw [ew, ← ints_snoc]; exact order_l0 s hn hs r (l ++ [i]) _ (by rw [List.length_append]; simp; omega) (by omega) (or_lt hd (pow_lt hi)) k hk)
      (fun k hk => by rw [ew]; exact order_l0 s hn hs r l d (by omega) (by omega) hd k hk) s.length 0 (by omega) k (by omega)
    rw [List.drop_zero] at this
    refine this.trans ?_
    rw [run]
    cases pickFrom s 0 d <;> rfl
theorem order_is (s : List Nat) (hn : s.length ≤ 8) (hs : ∀ x, x ∈ s → x < 256) (k : Nat) (hk : 100 ≤ k) : impl_order.f k (ints s) = some (ints (order s).1, ((order s).2 : Int)) := by
  unfold impl_order.f
  have := order_l0 s hn hs s.length [] 0 (by simpa using hn) (by omega) (by omega) k (by
    have : s.length * (s.length + 2) ≤ 8 * 10 := Nat.mul_le_mul hn (by omega)
    omega)
  rw [Nat.sub_self] at this
  rw [ints_len]
  exact this
theorem fine_len {g : List S33} (h : fine g = true) : g.length ≤ 8 := by
  unfold fine at h
  rw [Bool.and_eq_true, decide_eq_true_eq] at h
  exact h.1
theorem needs_lt {g : List S33} (h : fine g = true) : ∀ x, x ∈ needs g → x < 256 := by
  intro x hx
  have h8 := fine_len h
  unfold fine at h
  rw [Bool.and_eq_true, List.all_eq_true] at h
  unfold needs at hx
  rw [List.mem_map] at hx
  obtain ⟨t, ht, rfl⟩ := hx
  have := h.2 t ht
  unfold okTask at this
  rw [Bool.and_eq_true] at this
  exact mask_lt g.length h8 _ 0 0 (by omega) this.1 (by omega)
theorem needs_len (g : List S33) : (needs g).length = g.length := List.length_map ..
def valid (g : List S33) : Bool := fine g && decide ((order (needs g)).2 = 2 ^ g.length - 1)
end Go.Proofs.YtegogaokcafpjaaDoor.H
