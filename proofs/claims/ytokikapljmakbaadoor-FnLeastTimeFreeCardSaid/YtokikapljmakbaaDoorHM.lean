/- Sets of numbers below eight as binary numbers, the needs of tasks, and the order: what the printed functions of these come to; the conditions stand in each lemma. What is known of a valid graph: for each task the tasks below it and those above it, as the code reckons them; the blocks of memory that hold it, and the conditions in each lemma. A loop over a set's numbers: one law for the widest fence; what the body owes is told in its hypothesis. What is known of a valid graph: the walk of impl.graphOf. The contract of impl.ValidGraph: it answers for all graphs whose rows of needs a machine can hold; what orders and stuck tasks are. A graph in memory: its size, and small words on its rows; the conditions stand in each lemma. -/
import Derived.Laws.BitsLemmas
import Derived.Test.YtokikapljmakbaaDoorHA
import Derived.Test.YtokikapljmakbaaDoorQx1
import Derived.RangeFuncFrom
import Derived.RangeFuncWrites
import Derived.RangeFuncBox
import Derived.RangeFuncLeaves
namespace Go.Proofs.YtokikapljmakbaaDoor.H
open Go.RowKit Go.Proofs.YtokikapljmakbaaDoorW.PrintWords Go.Proofs.YtokikapljmakbaaDoorW.PrintLast Go.Proofs.YtokikapljmakbaaDoorW.PrintMore Go.Proofs.YtokikapljmakbaaDoor.Q
set_option linter.unusedSimpArgs false
set_option linter.unusedVariables false

theorem w64 (n : Int) (h0 : -9223372036854775808 ≤ n) (h1 : n ≤ 9223372036854775807) : wrap64 n = n := by
  unfold wrap64
  omega
theorem R_ints {W : World} {base : Nat} {v : Value} {xs : List Int} (h : W.ownsRow base 3 1 v xs.length (xs.map (Value.int .i64))) : Kd.R (Kd.int .i64) 3 W base (fun _ => True) v xs := by
  refine ⟨fun _ _ => trivial, xs.map (Value.int .i64), h, (List.length_map ..).trans (Nat.mul_one _).symm, fun j p hp => ?_⟩
  show ((xs.map (Value.int .i64)).drop (j * 1)).take 1 = [.int .i64 p]
  rw [Nat.mul_one]
  have hj : j < xs.length := (List.getElem?_eq_some_iff.1 hp).1
  rw [List.drop_eq_getElem_cons (by simpa using hj), List.take_succ_cons, List.take_zero, List.getElem_map, (List.getElem?_eq_some_iff.1 hp).2]
theorem rd_get (l : List Int) (i : Nat) (h : i < l.length) : rd l i = l[i] := by
  unfold rd
  rw [Int.toNat_natCast, List.getD_eq_getElem?_getD, List.getElem?_eq_getElem h]
  rfl
theorem within_is (a b c : Int) : impl_within.f a b c = some (decide (b ≤ a ∧ a ≤ c)) := by
  unfold impl_within.f
  by_cases h : a ≥ b
  · rw [if_pos h]
    congr 1
    rw [decide_eq_decide]
    omega
  · rw [if_neg h]
    congr 1
    symm
    rw [decide_eq_false_iff_not]
    omega

/-! ### The operations on sets -/
theorem with_is (s i : Nat) (hs : s < 256) (hi : i < 8) : impl_set_with.f (s : Int) (i : Int) = some ((s ||| 2 ^ i : Nat) : Int) := by
  unfold impl_set_with.f
  rw [if_pos (by omega), with_bits s hs i hi]
theorem has_is (s i : Nat) (hs : s < 256) (hi : i < 8) : impl_set_has.f (s : Int) (i : Int) = some (s.testBit i) := by
  unfold impl_set_has.f
  rw [if_pos (by omega), has_bits s hs i hi]
theorem everything_is (n : Nat) (hn : n ≤ 8) : impl_everything.f (n : Int) = some ((2 ^ n - 1 : Nat) : Int) := by
  unfold impl_everything.f
  rw [if_pos (by omega), all_bits n hn]
theorem or_lt {s t : Nat} (hs : s < 256) (ht : t < 256) : s ||| t < 256 := Nat.or_lt_two_pow (n := 8) hs ht
theorem pow_lt {i : Nat} (hi : i < 8) : 2 ^ i < 256 := Nat.pow_lt_pow_right (by decide) hi
theorem mem_elems {s i : Nat} : i ∈ elems s ↔ i < 8 ∧ s.testBit i = true := by
  unfold elems
  rw [List.mem_filter, List.mem_range]

theorem elems_len (s : Nat) : (elems s).length ≤ 8 := List.length_filter_le _ _

/-! ### Needs -/
/-- The numbers ascend, from lo on, below n. -/
def asc (n : Nat) : Int → List Int → Bool
  | _, [] => true
  | lo, x :: t => decide (lo ≤ x ∧ x ≤ (n : Int) - 1) && asc n (x + 1) t
def mask : List Int → Nat → Nat
  | [], m => m
  | x :: t, m => mask t (m ||| 2 ^ x.toNat)
theorem mask_lt (n : Nat) (hn : n ≤ 8) : ∀ (l : List Int) (lo : Int) (m : Nat), 0 ≤ lo → asc n lo l = true → m < 256 → mask l m < 256
  | [], _, m, _, _, hm => hm
  | x :: t, lo, m, h0, ha, hm => by
    simp only [asc, Bool.and_eq_true, decide_eq_true_eq] at ha
    exact mask_lt n hn t (x + 1) _ (by omega) ha.2 (or_lt hm (pow_lt (by omega)))
theorem mask_test (n : Nat) : ∀ (l : List Int) (lo : Int) (m i : Nat), 0 ≤ lo → asc n lo l = true → (mask l m).testBit i = (m.testBit i || decide ((i : Int) ∈ l))
  | [], _, m, i, _, _ => by simp [mask]
  | x :: t, lo, m, i, h0, ha => by
    simp only [asc, Bool.and_eq_true, decide_eq_true_eq] at ha
    rw [mask, mask_test n t (x + 1) _ i (by omega) ha.2, Nat.testBit_or, Nat.testBit_two_pow, Bool.or_assoc]
    congr 1
    rw [Bool.eq_iff_iff]
    simp only [Bool.or_eq_true, decide_eq_true_eq, List.mem_cons]
    have : x.toNat = i ↔ (i : Int) = x := by omega
    rw [this]
theorem setOf_loop (n : Nat) (hn : n ≤ 8) (l : List Int) (hl : l.length ≤ 281474976710656) : ∀ (d j : Nat) (m : Nat) (lo : Int), j + d = l.length → m < 256 → 0 ≤ lo → lo ≤ 9 → ∀ k, d + 1 ≤ k →
    impl_setOf.l0 k (n : Int) (m : Int) (lo - 1) l (l.length : Int) (j : Int) = some (if asc n lo (l.drop j) = true then (((mask (l.drop j) m : Nat) : Int), true) else ((0 : Int), false))
  | 0, j, m, lo, hj, hm, h0, h9, k, hk => by
    obtain ⟨k, rfl⟩ : ∃ q, k = q + 1 := ⟨k - 1, by omega⟩
    rw [impl_setOf.l0, if_neg (by omega), List.drop_eq_nil_of_le (by omega)]
    rfl
  | d + 1, j, m, lo, hj, hm, h0, h9, k, hk => by
    obtain ⟨k, rfl⟩ : ∃ q, k = q + 1 := ⟨k - 1, by omega⟩
    have hjl : j < l.length := by omega
    rw [impl_setOf.l0, if_pos (by omega), if_pos (by omega), if_pos (by omega), within_is, w64 (lo - 1 + 1) (by omega) (by omega), w64 ((n : Int) - 1) (by omega) (by omega), rd_get l j hjl, show lo - 1 + 1 = lo by omega, Option.bind_some]
    by_cases c : lo ≤ l[j] ∧ l[j] ≤ (n : Int) - 1
    · have e : asc n lo (l.drop j) = asc n (l[j] + 1) (l.drop (j + 1)) := by rw [List.drop_eq_getElem_cons hjl, asc, decide_eq_true c, Bool.true_and]
      have em : mask (l.drop j) m = mask (l.drop (j + 1)) (m ||| 2 ^ l[j].toNat) := by rw [List.drop_eq_getElem_cons hjl, mask]
      obtain ⟨x, hx⟩ := Int.eq_ofNat_of_zero_le (show 0 ≤ l[j] by omega)
      rw [decide_eq_true c, if_pos rfl, e, em]
      rw [hx] at c ⊢
      rw [with_is m x hm (by omega), Option.bind_some, w64 ((j : Int) + 1) (by omega) (by omega)]
      have := setOf_loop n hn l hl d (j + 1) (m ||| 2 ^ x) ((x : Int) + 1) (by omega) (or_lt hm (pow_lt (by omega))) (by omega) (by omega) k (by omega)
      rw [show (x : Int) + 1 - 1 = (x : Int) by omega] at this
      exact this
    · have e : asc n lo (l.drop j) = false := by rw [List.drop_eq_getElem_cons hjl, asc, decide_eq_false c, Bool.false_and]
      rw [decide_eq_false c, e, if_neg Bool.false_ne_true, if_neg Bool.false_ne_true]
theorem setOf_is (n : Nat) (hn : n ≤ 8) (l : List Int) (hl : l.length ≤ 281474976710656) (k : Nat) (hk : l.length + 1 ≤ k) :
    impl_setOf.f k l (n : Int) = some (if asc n 0 l = true then (((mask l 0 : Nat) : Int), true) else ((0 : Int), false)) := by
  have := setOf_loop n hn l hl l.length 0 0 0 (by omega) (by omega) (by omega) (by omega) k hk
  exact this

/-- What is asked of a task in a graph of n tasks. -/
def okTask (n : Nat) (t : S29) : Bool := asc n 0 t.f1 && (decide (1 ≤ t.f0 ∧ t.f0 ≤ 20) && (decide (0 ≤ t.f2 ∧ t.f2 ≤ 2) && decide (1 ≤ t.f3 ∧ t.f3 ≤ 4)))
def fine (g : List S29) : Bool := decide (g.length ≤ 8) && g.all (okTask g.length)
def needs (g : List S29) : List Nat := g.map fun t => mask t.f1 0
def ints (l : List Nat) : List Int := l.map (fun (x : Nat) => (x : Int))
theorem ints_len (l : List Nat) : (ints l).length = l.length := List.length_map ..
theorem rd_ints (l : List Nat) (i : Nat) (h : i < l.length) : rd (ints l) i = (l[i] : Int) := by
  rw [rd_get _ i (by rw [ints_len]; exact h)]
  exact List.getElem_map ..
theorem rd_task (g : List S29) (i : Nat) (h : i < g.length) : rd_T29 g i = g[i] := by
  unfold rd_T29
  rw [Int.toNat_natCast, List.getD_eq_getElem?_getD, List.getElem?_eq_getElem h]
  rfl
/-- No list of needs is too long to be held. -/
def short (M : Nat) (g : List S29) : Prop := ∀ t, t ∈ g → t.f1.length ≤ M
theorem needsOf_loop (g : List S29) (M : Nat) (hM : short M g) (hM48 : M ≤ 281474976710656) (h8 : g.length ≤ 8) : ∀ (d j : Nat) (a : List Nat), j + d = g.length → a.length = j → ∀ k, d + M + 2 ≤ k →
    impl_needsOf.l0 k g (ints a) g (g.length : Int) (j : Int) = some (if (g.drop j).all (okTask g.length) = true then (ints (a ++ needs (g.drop j)), true) else (([] : List Int), false))
  | 0, j, a, hj, ha, k, hk => by
    obtain ⟨k, rfl⟩ : ∃ q, k = q + 1 := ⟨k - 1, by omega⟩
    rw [impl_needsOf.l0, if_neg (by omega), List.drop_eq_nil_of_le (by omega), List.all_nil, if_pos rfl, needs, List.map_nil, List.append_nil]
  | d + 1, j, a, hj, ha, k, hk => by
    obtain ⟨k, rfl⟩ : ∃ q, k = q + 1 := ⟨k - 1, by omega⟩
    have hjl : j < g.length := by omega
    have hm := hM _ (List.getElem_mem hjl)
    rw [impl_needsOf.l0, if_pos (by omega), if_pos (by omega), if_pos (by omega), rd_task g j hjl, setOf_is g.length h8 _ (by omega) k (by omega), Option.bind_some, within_is, within_is, within_is, Option.bind_some, Option.bind_some, Option.bind_some]
    have e : (g.drop j).all (okTask g.length) = (okTask g.length g[j] && (g.drop (j + 1)).all (okTask g.length)) := by rw [List.drop_eq_getElem_cons hjl, List.all_cons]
    have en : needs (g.drop j) = mask g[j].f1 0 :: needs (g.drop (j + 1)) := by rw [List.drop_eq_getElem_cons hjl, needs, List.map_cons]; rfl
    rw [e, en]
    by_cases c1 : asc g.length 0 g[j].f1 = true
    · rw [if_pos c1]
      by_cases c2 : 1 ≤ g[j].f0 ∧ g[j].f0 ≤ 20
      · by_cases c3 : 0 ≤ g[j].f2 ∧ g[j].f2 ≤ 2
        · by_cases c4 : 1 ≤ g[j].f3 ∧ g[j].f3 ≤ 4
          · have eo : okTask g.length g[j] = true := by
              unfold okTask
              rw [c1, decide_eq_true c2, decide_eq_true c3, decide_eq_true c4]
              rfl
            have := needsOf_loop g M hM hM48 h8 d (j + 1) (a ++ [mask g[j].f1 0]) (by omega) (by rw [List.length_append, ha]; rfl) k (by omega)
            rw [eo, Bool.true_and, decide_eq_true c2, decide_eq_true c3, decide_eq_true c4, if_pos rfl, if_pos rfl, if_pos rfl, if_pos rfl, if_pos (by rw [ints_len]; omega), w64 ((j : Int) + 1) (by omega) (by omega)]
            rw [List.append_assoc] at this
            have ei : ints (a ++ [mask g[j].f1 0]) = ints a ++ [((mask g[j].f1 0 : Nat) : Int)] := List.map_append ..
            rw [ei] at this
            exact this
          · have eo : okTask g.length g[j] = false := by
              unfold okTask
              rw [decide_eq_false c4, Bool.and_false, Bool.and_false, Bool.and_false]
            rw [eo, Bool.false_and, decide_eq_true c2, decide_eq_true c3, decide_eq_false c4, if_pos rfl, if_pos rfl, if_pos rfl, if_neg Bool.false_ne_true, if_neg Bool.false_ne_true]
        · have eo : okTask g.length g[j] = false := by
            unfold okTask
            rw [decide_eq_false c3, Bool.false_and, Bool.and_false, Bool.and_false]
          rw [eo, Bool.false_and, decide_eq_true c2, decide_eq_false c3, if_pos rfl, if_pos rfl, if_neg Bool.false_ne_true, if_neg Bool.false_ne_true]
      · have eo : okTask g.length g[j] = false := by
          unfold okTask
          rw [decide_eq_false c2, Bool.false_and, Bool.and_false]
        rw [eo, Bool.false_and, decide_eq_false c2, if_pos rfl, if_neg Bool.false_ne_true, if_neg Bool.false_ne_true]
    · have c1 : asc g.length 0 g[j].f1 = false := by simpa using c1
      have eo : okTask g.length g[j] = false := by
        unfold okTask
        rw [c1, Bool.false_and]
      rw [c1, eo, Bool.false_and, if_neg Bool.false_ne_true, if_neg Bool.false_ne_true, if_neg Bool.false_ne_true]
theorem needsOf_is (g : List S29) (M : Nat) (hM : short M g) (hM48 : M ≤ 281474976710656) (k : Nat) (hk : M + 10 ≤ k) :
    impl_needsOf.f k g = some (if fine g = true then (ints (needs g), true) else (([] : List Int), false)) := by
  unfold impl_needsOf.f fine
  by_cases h8 : g.length ≤ 8
  · rw [if_neg (by omega), if_pos (by omega), if_pos (by omega), decide_eq_true h8, Bool.true_and]
    have := needsOf_loop g M hM hM48 h8 g.length 0 [] (by omega) rfl k (by omega)
    exact this
  · rw [if_pos (by omega), decide_eq_false h8, Bool.false_and, if_neg Bool.false_ne_true]

/-! ### The order -/
def free (s d i : Nat) : Bool := !d.testBit i && (s &&& (255 - d)) == 0
def pickFrom : List Nat → Nat → Nat → Option Nat
  | [], _, _ => none
  | s :: t, i, d => if free s d i = true then some i else pickFrom t (i + 1) d
def run : Nat → List Nat → List Nat → Nat → List Nat × Nat
  | 0, _, l, d => (l, d)
  | r + 1, s, l, d => match pickFrom s 0 d with
    | some i => run r s (l ++ [i]) (d ||| 2 ^ i)
    | none => run r s l d
def order (s : List Nat) : List Nat × Nat := run s.length s [] 0
theorem ints_snoc (l : List Nat) (i : Nat) : ints (l ++ [i]) = ints l ++ [(i : Int)] := List.map_append ..
theorem order_l1 (s : List Nat) (hn : s.length ≤ 8) (hs : ∀ x, x ∈ s → x < 256) (l : List Nat) (d : Nat) (hl : l.length ≤ 8) (hd : d < 256) (x10 x11 : Int) (F : Nat) (R : List Nat → Nat → Option (List Int × Int))
    (hR1 : ∀ i : Nat, i < 8 → ∀ k, F ≤ k → impl_order.l0 k (ints s) (ints l ++ [(i : Int)]) ((d ||| 2 ^ i : Nat) : Int) x10 (wrap64 (x11 + 1)) = R (l ++ [i]) (d ||| 2 ^ i))
    (hR0 : ∀ k, F ≤ k → impl_order.l0 k (ints s) (ints l) (d : Int) x10 (wrap64 (x11 + 1)) = R l d) :
    ∀ e j, j + e = s.length → ∀ k, F + e + 1 ≤ k → impl_order.l1 k (ints s) (ints l) (d : Int) x10 x11 (ints s) (s.length : Int) (j : Int) = match pickFrom (s.drop j) j d with
      | some i => R (l ++ [i]) (d ||| 2 ^ i)
      | none => R l d
  | 0, j, hj, k, hk => by
    obtain ⟨k, rfl⟩ : ∃ q, k = q + 1 := ⟨k - 1, by omega⟩
    rw [impl_order.l1, if_neg (by omega), List.drop_eq_nil_of_le (by omega)]
    exact hR0 k (by omega)
  | e + 1, j, hj, k, hk => by
    obtain ⟨k, rfl⟩ : ∃ q, k = q + 1 := ⟨k - 1, by omega⟩
    have hjl : j < s.length := by omega
    rw [impl_order.l1, if_pos (by omega), if_pos (by omega), if_pos (by rw [ints_len]; omega), has_is d j hd (by omega), Option.bind_some, rd_ints s j hjl, minus_bits s[j] (hs _ (List.getElem_mem hjl)) d hd, w64 ((j : Int) + 1) (by omega) (by omega), List.drop_eq_getElem_cons hjl, pickFrom]
    have IH := order_l1 s hn hs l d hl hd x10 x11 F R hR1 hR0 e (j + 1) (by omega) k (by omega)
    by_cases c1 : d.testBit j = true
    · have ef : free s[j] d j = false := by
        unfold free
        rw [c1]
        rfl
      rw [if_pos c1, ef, if_neg Bool.false_ne_true]
      exact IH
    · have c1 : d.testBit j = false := by simpa using c1
      rw [c1, if_neg Bool.false_ne_true]
      by_cases c2 : s[j] &&& (255 - d) = 0
      · have ef : free s[j] d j = true := by
          unfold free
          rw [c1, c2]
          rfl
        rw [ef, if_pos rfl, c2, if_pos (by rfl), if_pos (by rw [ints_len]; omega), with_is d j hd (by omega), Option.bind_some]
        exact hR1 j (by omega) k (by omega)
      · have ef : free s[j] d j = false := by
          unfold free
          rw [c1, beq_eq_false_iff_ne.2 c2]
          rfl
        rw [ef, if_neg Bool.false_ne_true, if_neg (by omega)]
        exact IH
theorem order_l0 (s : List Nat) (hn : s.length ≤ 8) (hs : ∀ x, x ∈ s → x < 256) : ∀ (r : Nat) (l : List Nat) (d : Nat), l.length + r ≤ 8 → r ≤ s.length → d < 256 → ∀ k, r * (s.length + 2) + 1 ≤ k →
    impl_order.l0 k (ints s) (ints l) (d : Int) (s.length : Int) ((s.length - r : Nat) : Int) = some (ints (run r s l d).1, ((run r s l d).2 : Int))
  | 0, l, d, hl, hr, hd, k, hk => by
    obtain ⟨k, rfl⟩ : ∃ q, k = q + 1 := ⟨k - 1, by omega⟩
    rw [impl_order.l0, if_neg (by omega)]
    rfl
  | r + 1, l, d, hl, hr, hd, k, hk => by
    obtain ⟨k, rfl⟩ : ∃ q, k = q + 1 := ⟨k - 1, by omega⟩
    rw [Nat.add_mul] at hk
    rw [impl_order.l0, if_pos (by omega), ints_len]
    have ew : wrap64 (((s.length - (r + 1) : Nat) : Int) + 1) = ((s.length - r : Nat) : Int) := by
      rw [w64 _ (by omega) (by omega)]
      omega
    have := order_l1 s hn hs l d (by omega) hd (s.length : Int) ((s.length - (r + 1) : Nat) : Int) (r * (s.length + 2) + 1) (fun l d => some (ints (run r s l d).1, ((run r s l d).2 : Int)))
      (fun i hi k hk => by rw [ew, ← ints_snoc]; exact order_l0 s hn hs r (l ++ [i]) _ (by rw [List.length_append]; simp; omega) (by omega) (or_lt hd (pow_lt hi)) k hk)
      (fun k hk => by rw [ew]; exact order_l0 s hn hs r l d (by omega) (by omega) hd k hk) s.length 0 (by omega) k (by omega)
    rw [List.drop_zero] at this
    refine this.trans ?_
    rw [run]
    cases pickFrom s 0 d <;> rfl
theorem order_is (s : List Nat) (hn : s.length ≤ 8) (hs : ∀ x, x ∈ s → x < 256) (k : Nat) (hk : 100 ≤ k) : impl_order.f k (ints s) = some (ints (order s).1, ((order s).2 : Int)) := by
  unfold impl_order.f
  have := order_l0 s hn hs s.length [] 0 (by simpa using hn) (by omega) (by omega) k (by
    have : s.length * (s.length + 2) ≤ 8 * 10 := Nat.mul_le_mul hn (by omega)
    omega)
  rw [Nat.sub_self] at this
  rw [ints_len]
  exact this
theorem fine_len {g : List S29} (h : fine g = true) : g.length ≤ 8 := by
  unfold fine at h
  rw [Bool.and_eq_true, decide_eq_true_eq] at h
  exact h.1
theorem needs_lt {g : List S29} (h : fine g = true) : ∀ x, x ∈ needs g → x < 256 := by
  intro x hx
  have h8 := fine_len h
  unfold fine at h
  rw [Bool.and_eq_true, List.all_eq_true] at h
  unfold needs at hx
  rw [List.mem_map] at hx
  obtain ⟨t, ht, rfl⟩ := hx
  have := h.2 t ht
  unfold okTask at this
  rw [Bool.and_eq_true] at this
  exact mask_lt g.length h8 _ 0 0 (by omega) this.1 (by omega)
theorem needs_len (g : List S29) : (needs g).length = g.length := List.length_map ..
def valid (g : List S29) : Bool := fine g && decide ((order (needs g)).2 = 2 ^ g.length - 1)
end Go.Proofs.YtokikapljmakbaaDoor.H

namespace Go.Proofs.YtokikapljmakbaaDoor.H
open Go.RowKit Go.Proofs.YtokikapljmakbaaDoorW.PrintWords Go.Proofs.YtokikapljmakbaaDoorW.PrintLast Go.Proofs.YtokikapljmakbaaDoorW.PrintMore Go.Proofs.YtokikapljmakbaaDoor.Q
set_option linter.unusedVariables false

/-! ### Numbers -/
theorem wraps_u16 (n : Int) (h₀ : 0 ≤ n) (h₁ : n < 2 ^ 16) : IntKind.u16.wrap n = n := by
  have : IntKind.u16.wrap n = n % 65536 := by simp [IntKind.wrap, IntKind.bits, IntKind.signed]
  rw [this]
  omega
theorem or_bits (a b : Nat) (ha : a < 256) (hb : b < 256) : Go.bits .or .u16 (a : Int) (b : Int) = ((a ||| b : Nat) : Int) :=
  (bits_nat .u16 16 (by decide) wraps_u16 a b (by omega) (by omega)).2
def at0 (b : List Nat) (i : Nat) : Nat := b.getD i 0
theorem at0_get (b : List Nat) (i : Nat) (h : i < b.length) : at0 b i = b[i] := by
  unfold at0
  rw [List.getD_eq_getElem?_getD, List.getElem?_eq_getElem h]
  rfl
def bit1 (i : Nat) (b : List Nat) (k : Nat) : List Nat := b.set i (at0 b i ||| (at0 b k ||| 2 ^ k))
def bit2 (i : Nat) (a : List Nat) (k : Nat) : List Nat := a.set k (at0 a k ||| 2 ^ i)
def know1 (nd : List Nat) (p : List Nat × List Nat) (i : Nat) : List Nat × List Nat :=
  ((elems (at0 nd i)).foldl (bit1 i) p.1, (elems (at0 ((elems (at0 nd i)).foldl (bit1 i) p.1) i)).foldl (bit2 i) p.2)
def known (nd : List Nat) : List Nat × List Nat := (order nd).1.foldl (know1 nd) (List.replicate nd.length 0, List.replicate nd.length 0)

/-- Rows of sets of the first n numbers. -/
structure Sets (n : Nat) (b : List Nat) : Prop where mk :: (len : b.length = n) (lt : ∀ x, x ∈ b → x < 2 ^ n)
theorem Sets.at {n : Nat} {b : List Nat} (h : Sets n b) (i : Nat) : at0 b i < 2 ^ n := by
  by_cases hi : i < b.length
  · rw [at0_get b i hi]
    exact h.lt _ (List.getElem_mem hi)
  · unfold at0
    rw [List.getD_eq_getElem?_getD, List.getElem?_eq_none (by omega)]
    exact Nat.two_pow_pos n
theorem Sets.set {n : Nat} {b : List Nat} (h : Sets n b) (i x : Nat) (hx : x < 2 ^ n) : Sets n (b.set i x) :=
  ⟨by rw [List.length_set]; exact h.len, fun y hy => by
    rcases List.mem_or_eq_of_mem_set hy with h1 | rfl
    · exact h.lt _ h1
    · exact hx⟩
theorem Sets.bit1 {n : Nat} {b : List Nat} (h : Sets n b) (i k : Nat) (hk : k < n) : Sets n (bit1 i b k) :=
  h.set _ _ (Nat.or_lt_two_pow (h.at i) (Nat.or_lt_two_pow (h.at k) (Nat.pow_lt_pow_right (by decide) hk)))
theorem Sets.bit2 {n : Nat} {a : List Nat} (h : Sets n a) (i k : Nat) (hi : i < n) : Sets n (bit2 i a k) :=
  h.set _ _ (Nat.or_lt_two_pow (h.at k) (Nat.pow_lt_pow_right (by decide) hi))
theorem Sets.bits1 {n : Nat} (i : Nat) : ∀ (l : List Nat) {b : List Nat}, Sets n b → (∀ k, k ∈ l → k < n) → Sets n (l.foldl (H.bit1 i) b)
  | [], _, h, _ => h
  | k :: t, _, h, hl => Sets.bits1 i t (h.bit1 i k (hl k (List.mem_cons_self))) (fun x hx => hl x (List.mem_cons_of_mem _ hx))
theorem Sets.bits2 {n : Nat} (i : Nat) (hi : i < n) : ∀ (l : List Nat) {a : List Nat}, Sets n a → Sets n (l.foldl (H.bit2 i) a)
  | [], _, h => h
  | k :: t, _, h => Sets.bits2 i hi t (h.bit2 i k hi)
theorem Sets.zero (n : Nat) : Sets n (List.replicate n 0) := ⟨List.length_replicate .., fun x hx => by rw [List.eq_of_mem_replicate hx]; exact Nat.two_pow_pos n⟩
theorem elem_lt {n s k : Nat} (hs : s < 2 ^ n) (hk : k ∈ elems s) : k < n := by
  rw [mem_elems] at hk
  apply Nat.lt_of_not_le
  intro h
  have := Nat.testBit_lt_two_pow (Nat.lt_of_lt_of_le hs (Nat.pow_le_pow_right (by decide) h))
  rw [this] at hk
  exact Bool.false_ne_true hk.2
theorem two_le {n : Nat} (hn : n ≤ 8) : 2 ^ n ≤ 256 := Nat.pow_le_pow_right (n := 2) (by decide) hn

/-! ### Blocks of memory -/
def row16 (b : List Nat) : Array Value := (b.map fun (x : Nat) => Value.int .u16 (x : Int)).toArray
/-- These blocks hold what is said. -/
def Fix (fs : List (Nat × Obj)) (W : World) : Prop := ∀ p, p ∈ fs → W.heap[p.1]? = some p.2
theorem Fix.nil (W : World) : Fix [] W := fun _ h => absurd h List.not_mem_nil
theorem Fix.cons {fs : List (Nat × Obj)} {W : World} {b : Nat} {o : Obj} (h : Fix fs W) (hb : W.heap[b]? = some o) : Fix ((b, o) :: fs) W := fun p hp => by
  rcases List.mem_cons.1 hp with rfl | hp
  · exact hb
  · exact h p hp
theorem Fix.tail {fs : List (Nat × Obj)} {W : World} {p : Nat × Obj} (h : Fix (p :: fs) W) : Fix fs W := fun q hq => h q (List.mem_cons_of_mem _ hq)
theorem Fix.head {fs : List (Nat × Obj)} {W : World} {b : Nat} {o : Obj} (h : Fix ((b, o) :: fs) W) : W.heap[b]? = some o := h (b, o) List.mem_cons_self
theorem Fix.lt {fs : List (Nat × Obj)} {W : World} (h : Fix fs W) {p : Nat × Obj} (hp : p ∈ fs) : p.1 < W.heap.size := (Array.getElem?_eq_some_iff.1 (h p hp)).1
theorem Fix.kept {fs : List (Nat × Obj)} {W W' : World} {row : Option Nat} (h : Fix fs W) (hg : W.grownBy W' row) (hr : ∀ p, p ∈ fs → some p.1 ≠ row) : Fix fs W' := fun p hp => (hg.block _ (h.lt hp) (hr p hp)).trans (h p hp)
theorem Fix.alloc {fs : List (Nat × Obj)} {W : World} (h : Fix fs W) (o : Obj) : Fix fs (W.alloc o) := h.kept (World.grownBy_alloc W o none) (fun _ _ => by simp)
theorem Fix.drew {fs : List (Nat × Obj)} {W : World} (h : Fix fs W) : Fix fs W.drew := h
theorem heap_setCell_same {W : World} {b i : Nat} {c : Array Value} {t : TypeId} {z : Nat × Nat} {v : Value} (h : W.heap[b]? = some (.cells c t z)) : (W.setCell ⟨b, i, none⟩ v).heap[b]? = some (.cells (c.setIfInBounds i v) t z) := by
  obtain ⟨hlt, hk⟩ := Array.getElem?_eq_some_iff.1 h
  show (W.heap.modify b _)[b]? = _
  rw [Array.getElem?_eq_getElem (by rw [Array.size_modify]; exact hlt), Array.getElem_modify_self, hk]
  rfl
theorem row16_set (b : List Nat) (i x : Nat) : (row16 b).setIfInBounds i (.int .u16 (x : Int)) = row16 (b.set i x) := by
  unfold row16
  rw [List.setIfInBounds_toArray, List.map_set]
theorem row16_at (b : List Nat) (i : Nat) (h : i < b.length) : (row16 b)[i]? = some (.int .u16 ((at0 b i : Nat) : Int)) := by
  unfold row16
  rw [List.getElem?_toArray, List.getElem?_map, List.getElem?_eq_getElem h, at0_get b i h]
  rfl
theorem cell_of {W : World} {b i : Nat} {c : Array Value} {t : TypeId} {v : Value} (h : W.heap[b]? = some (.cells c t (0, 0))) (hc : c[i]? = some v) : W.cell? ⟨b, i, none⟩ = some v := by
  simp [World.cell?, h, hc]
theorem frozen_of {W : World} {b i : Nat} {c : Array Value} {t : TypeId} (h : W.heap[b]? = some (.cells c t (0, 0))) : W.frozen? ⟨b, i, none⟩ = false := by
  simp [World.frozen?, h]

/-! ### The order's numbers -/
theorem pickFrom_lt : ∀ (s : List Nat) (j d i : Nat), pickFrom s j d = some i → i < j + s.length
  | [], _, _, _, h => by cases h
  | x :: t, j, d, i, h => by
    rw [pickFrom] at h
    rw [List.length_cons]
    split at h
    · cases h
      omega
    · have := pickFrom_lt t (j + 1) d i h
      omega
theorem run_lt (s : List Nat) : ∀ (r : Nat) (l : List Nat) (d : Nat), (∀ x, x ∈ l → x < s.length) → ∀ x, x ∈ (run r s l d).1 → x < s.length
  | 0, _, _, hl => hl
  | r + 1, l, d, hl => by
    rw [run]
    cases h : pickFrom s 0 d with
    | none => exact run_lt s r l d hl
    | some i =>
      have hi := pickFrom_lt s 0 d i h
      refine run_lt s r _ _ (fun x hx => ?_)
      rcases List.mem_append.1 hx with hx | hx
      · exact hl x hx
      · rw [List.mem_singleton] at hx
        omega
theorem order_lt (s : List Nat) : ∀ x, x ∈ (order s).1 → x < s.length := run_lt s _ _ _ (fun _ h => absurd h List.not_mem_nil)
theorem run_len (s : List Nat) : ∀ (r : Nat) (l : List Nat) (d : Nat), (run r s l d).1.length ≤ l.length + r
  | 0, _, _ => Nat.le_refl _
  | r + 1, l, d => by
    rw [run]
    cases h : pickFrom s 0 d with
    | none => exact Nat.le_trans (run_len s r l d) (by omega)
    | some i => exact Nat.le_trans (run_len s r _ _) (by rw [List.length_append]; simp; omega)
theorem order_len (s : List Nat) : (order s).1.length ≤ s.length := by
  have := run_len s s.length [] 0
  rw [List.length_nil] at this
  exact Nat.le_trans this (by omega)
theorem mask_lt2 (n : Nat) (hn : n ≤ 8) : ∀ (l : List Int) (lo : Int) (m : Nat), 0 ≤ lo → asc n lo l = true → m < 2 ^ n → mask l m < 2 ^ n
  | [], _, m, _, _, hm => hm
  | x :: t, lo, m, h0, ha, hm => by
    simp only [asc, Bool.and_eq_true, decide_eq_true_eq] at ha
    exact mask_lt2 n hn t (x + 1) _ (by omega) ha.2 (Nat.or_lt_two_pow hm (Nat.pow_lt_pow_right (by decide) (by omega)))
theorem needs_sets {g : List S29} (h : fine g = true) : Sets g.length (needs g) := by
  have h8 := fine_len h
  refine ⟨needs_len g, fun x hx => ?_⟩
  unfold fine at h
  rw [Bool.and_eq_true, List.all_eq_true] at h
  unfold needs at hx
  rw [List.mem_map] at hx
  obtain ⟨t, ht, rfl⟩ := hx
  have := h.2 t ht
  unfold okTask at this
  rw [Bool.and_eq_true] at this
  exact mask_lt2 g.length h8 _ 0 0 (by omega) this.1 (Nat.two_pow_pos _)
theorem know1_sets {n : Nat} {nd : List Nat} (hn : Sets n nd) {p : List Nat × List Nat} (h1 : Sets n p.1) (h2 : Sets n p.2) {i : Nat} (hi : i < n) : Sets n (know1 nd p i).1 ∧ Sets n (know1 nd p i).2 :=
  ⟨Sets.bits1 i _ h1 (fun k hk => elem_lt (hn.at i) hk), Sets.bits2 i hi _ h2⟩

theorem fold_sets {n : Nat} {nd : List Nat} (hn : Sets n nd) : ∀ (l : List Nat) (p : List Nat × List Nat), Sets n p.1 → Sets n p.2 → (∀ i, i ∈ l → i < n) → Sets n (l.foldl (know1 nd) p).1 ∧ Sets n (l.foldl (know1 nd) p).2
  | [], _, h1, h2, _ => ⟨h1, h2⟩
  | i :: t, p, h1, h2, hl => by
    obtain ⟨h3, h4⟩ := know1_sets hn h1 h2 (hl i List.mem_cons_self)
    exact fold_sets hn t _ h3 h4 (fun x hx => hl x (List.mem_cons_of_mem _ hx))
def kn (nd od : List Nat) (j : Nat) : List Nat × List Nat := (od.take j).foldl (know1 nd) (List.replicate nd.length 0, List.replicate nd.length 0)
theorem kn_sets {n : Nat} {nd : List Nat} (hn : Sets n nd) {od : List Nat} (ho : ∀ i, i ∈ od → i < n) (j : Nat) : Sets n (kn nd od j).1 ∧ Sets n (kn nd od j).2 := by
  have h := Sets.zero n
  rw [← hn.len] at h
  unfold kn
  have h2 : Sets n (List.replicate nd.length 0) := by rw [hn.len]; exact Sets.zero n
  exact fold_sets hn _ _ h2 h2 (fun i hi => ho i (List.mem_of_mem_take hi))
theorem kn_step (nd od : List Nat) (j : Nat) (hj : j < od.length) : kn nd od (j + 1) = know1 nd (kn nd od j) od[j] := by
  unfold kn
  rw [List.take_succ_eq_append_getElem hj, List.foldl_append]
  rfl
theorem kn_all (nd : List Nat) : kn nd (order nd).1 (order nd).1.length = known nd := by
  unfold kn known
  rw [List.take_length]

/-! ### The state of memory while it is reckoned -/
/-- The blocks fs hold what is said; blocks Bb and Ba hold the rows b and a; below w's end all is as it was. -/
structure St (w : World) (fs : List (Nat × Obj)) (Bb Ba : Nat) (b a : List Nat) (W : World) : Prop where mk ::
  (fix : Fix fs W) (rowb : W.heap[Bb]? = some (.cells (row16 b) 57 (0, 0))) (rowa : W.heap[Ba]? = some (.cells (row16 a) 57 (0, 0))) (below : Below w.heap.size w W)
/-- None of the blocks fs is one of the two. -/
structure Apart (w : World) (fs : List (Nat × Obj)) (Bb Ba : Nat) : Prop where mk :: (ne : Bb ≠ Ba) (geb : w.heap.size ≤ Bb) (gea : w.heap.size ≤ Ba) (all : ∀ p, p ∈ fs → p.1 ≠ Bb ∧ p.1 ≠ Ba)
section
variable {w W : World} {fs : List (Nat × Obj)} {Bb Ba : Nat} {b a : List Nat}
theorem St.alloc (h : St w fs Bb Ba b a W) (o : Obj) : St w fs Bb Ba b a (W.alloc o) :=
  ⟨h.fix.alloc o, (Below.heap_alloc W o Bb (Array.getElem?_eq_some_iff.1 h.rowb).1).trans h.rowb, (Below.heap_alloc W o Ba (Array.getElem?_eq_some_iff.1 h.rowa).1).trans h.rowa, h.below.alloc h.below.size o⟩
theorem St.drew (h : St w fs Bb Ba b a W) : St w fs Bb Ba b a W.drew := ⟨h.fix, h.rowb, h.rowa, h.below.drew⟩
theorem St.setb (h : St w fs Bb Ba b a W) (hp : Apart w fs Bb Ba) (i x : Nat) : St w fs Bb Ba (b.set i x) a (W.setCell ⟨Bb, i, none⟩ (.int .u16 (x : Int))) := by
  refine ⟨fun p hpp => (Below.heap_setCell _ _ _ _ (hp.all p hpp).1).trans (h.fix p hpp), ?_, (Below.heap_setCell _ _ _ _ hp.ne.symm).trans h.rowa, h.below.setCell (p := ⟨Bb, i, none⟩) hp.geb _⟩
  rw [← row16_set]
  exact heap_setCell_same h.rowb
theorem St.seta (h : St w fs Bb Ba b a W) (hp : Apart w fs Bb Ba) (i x : Nat) : St w fs Bb Ba b (a.set i x) (W.setCell ⟨Ba, i, none⟩ (.int .u16 (x : Int))) := by
  refine ⟨fun p hpp => (Below.heap_setCell _ _ _ _ (hp.all p hpp).2).trans (h.fix p hpp), (Below.heap_setCell _ _ _ _ hp.ne).trans h.rowb, ?_, h.below.setCell (p := ⟨Ba, i, none⟩) hp.gea _⟩
  rw [← row16_set]
  exact heap_setCell_same h.rowa
theorem St.put (h : St w fs Bb Ba b a W) {o : Nat × Obj} (hb : W.heap[o.1]? = some o.2) : St w (o :: fs) Bb Ba b a W := ⟨fun p hp => by
  rcases List.mem_cons.1 hp with rfl | hp
  · exact hb
  · exact h.fix p hp, h.rowb, h.rowa, h.below⟩
theorem St.less (h : St w fs Bb Ba b a W) {fs' : List (Nat × Obj)} (hs : ∀ p, p ∈ fs' → p ∈ fs) : St w fs' Bb Ba b a W := ⟨fun p hp => h.fix p (hs p hp), h.rowb, h.rowa, h.below⟩
/-- It is told by cells, and by blocks below B, alone. -/
theorem st_own {β : Type} (w : World) (fs : List (Nat × Obj)) (Bb Ba : Nat) (f g : β → List Nat) (B : Nat) (hB : w.heap.size ≤ B) (hfs : ∀ p, p ∈ fs → p.2.isCells = true ∨ p.1 < B) : OwnFrom B (fun s W => St w fs Bb Ba (f s) (g s) W) := by
  intro s W W' row hs hg hr
  have ne : ∀ (k : Nat) (o : Obj), W.heap[k]? = some o → o.isCells = true ∨ k < B → some k ≠ row := by
    intro k o hk ho e
    obtain ⟨h1, o', h2, h3⟩ := hr k e.symm
    rw [hk] at h2
    cases h2
    rcases ho with ho | ho
    · rw [ho] at h3
      cases h3
    · omega
  have lt : ∀ (k : Nat) (o : Obj), W.heap[k]? = some o → k < W.heap.size := fun k o hk => (Array.getElem?_eq_some_iff.1 hk).1
  refine ⟨fun p hp => (hg.block _ (lt _ _ (hs.fix p hp)) (ne _ _ (hs.fix p hp) (hfs p hp))).trans (hs.fix p hp), (hg.block _ (lt _ _ hs.rowb) (ne _ _ hs.rowb (.inl rfl))).trans hs.rowb, (hg.block _ (lt _ _ hs.rowa) (ne _ _ hs.rowa (.inl rfl))).trans hs.rowa, ?_⟩
  exact hs.below.grown hg hs.below.size (fun j e => by have := (hr j e).1; omega)
end
/-- A row of the call's own lies in one block, or in none. -/
theorem row_fix {α : Type} {d : Kd α} {e : Nat} {W : World} {base : Nat} {v : Value} {xs : List α} (hd : ∀ (W W' : World) (ok : Nat → Prop) (x : α) (cs : List Value), d.M W base ok x cs → d.M W' base ok x cs) (h : d.R e W base (fun _ => True) v xs) :
    ∃ fs : List (Nat × Obj), Fix fs W ∧ (∀ p, p ∈ fs → p.2.isCells = true ∧ base ≤ p.1) ∧ ∀ W', Fix fs W' → d.R e W' base (fun _ => True) v xs := by
  obtain ⟨h0, inner, ho, hr⟩ := h
  rcases ho.2 with ⟨hv, hn⟩ | ⟨g, cap, cur, hv, hb, hg, hn, hc, hs, ht⟩
  · exact ⟨[], Fix.nil W, fun p hp => absurd hp List.not_mem_nil, fun W' _ => ⟨h0, inner, ⟨ho.1, .inl ⟨hv, hn⟩⟩, hr.imp_ (fun _ _ hp => hd _ _ _ _ _ hp)⟩⟩
  · refine ⟨[(g, .cells cur e (0, 0))], (Fix.nil W).cons hg, fun p hp => ?_, fun W' hf => ⟨h0, inner, ⟨ho.1, .inr ⟨g, cap, cur, hv, hb, hf.head, hn, hc, hs, ht⟩⟩, hr.imp_ (fun _ _ hp => hd _ _ _ _ _ hp)⟩⟩
    rw [List.mem_singleton] at hp
    subst hp
    exact ⟨rfl, hb⟩

/-! ### Loops over functions leave marks -/
def marks (L : List Nat) : List Deferred := L.map fun D => { target := .collected D, args := #[] }
def markObjs (L : List Nat) : List (Nat × Obj) := L.map fun D => (D, .deferred (some []))
theorem leaves_marks {F : Fence} {n : Nat} {P : Program} {fn : Func} {tmps : Array Value} {R : Ending → World → Prop} (base : Nat) (I : World → Prop)
    (hI : ∀ W D, I W → base ≤ D → W.heap[D]? = some (.deferred (some [])) → I (W.putObj D (.deferred none))) (hend : ∀ W, I W → LeavesIn F n P fn tmps R [] .returning W) :
    ∀ (L : List Nat) (W : World), L.Nodup → (∀ D, D ∈ L → base ≤ D) → Fix (markObjs L) W → I W → LeavesInM F n P fn tmps R (marks L) .returning W
  | [], W, _, _, _, h => hend W h
  | D :: L, W, hnd, hb, hf, h => by
    have hD : W.heap[D]? = some (.deferred (some [])) := hf (D, _) List.mem_cons_self
    rw [List.nodup_cons] at hnd
    refine ⟨by simp, .inl ⟨D, _, rfl, run_takeDeferred hD, ?_⟩⟩
    refine leaves_marks base I hI hend L _ hnd.2 (fun x hx => hb x (List.mem_cons_of_mem _ hx)) ?_ (hI W D h (hb D List.mem_cons_self) hD)
    refine Fix.kept (Fix.tail (p := (D, .deferred (some []))) hf) (grownBy_putObj' W D _) (fun p hp e => ?_)
    obtain ⟨x, hx, rfl⟩ := List.mem_map.1 hp
    exact hnd.1 (by cases e; exact hx)
end Go.Proofs.YtokikapljmakbaaDoor.H

namespace Go.Proofs.YtokikapljmakbaaDoor.H
open Go.RowKit Go.Shelf
set_option linter.unusedSimpArgs false
set_option linter.unusedVariables false

theorem wpIn_block_calm {F : Fence} {n : Nat} {P : Program} {id : Nat} {c : Code} {K : Act → World → Prop} {a : Act} {w : World} (h : c.wpIn F n P (calm K) a w) : (Code.block id c).wpIn F n P (calm K) a w :=
  wpIn_block (wpIn_mono h (fun e a w h => by cases e <;> first | exact h | exact h.elim))

theorem over_set (n : Nat) {s : Nat} (hs : s < 256) {g : Operand} {p q id : Nat} {ty : TypeId} {ps : String} {body : Code} {Q : Exit → Act → World → Prop} {a : Act} {w : World} {Bs n₀ : Nat}
    (hg : a.eval g = .func (.func 76) #[] #[.pointer (some ⟨Bs, 0, none⟩)]) (hp : p < a.tmps.size) (hc : w.cell? ⟨Bs, 0, none⟩ = some (.int .u16 s)) (hT : Tab w) (hn₀ : n₀ ≤ w.heap.size) (h0 : 0 < n₀)
    (I : List Nat → World → Prop) (hI : OwnFrom w.heap.size I) (hstart : I [] w)
    (hbody : ∀ (l : Nat) (pre : List Nat) (x : Nat) (W : World), I pre W → x ∈ elems s → (∀ y, y ∈ pre → y ∈ elems s) → body.wpIn (Fence.wide.inRound l) 8 Tryd.prog (calm (fun _ W' => KeepsFrom w.heap.size W W' ∧ Below n₀ W W' ∧ I (pre ++ [x]) W')) { tmps := (a.tmps.setIfInBounds p (.int .i64 (x : Int))).setIfInBounds q (.int .i64 (x : Int)), defers := [] } W)
    (hdone : ∀ (D : Nat) (W : World), w.heap.size ≤ D → I (elems s) W → W.heap[D]? = some (.deferred (some [])) → Q .normal { a with defers := { target := .collected D, args := #[] } :: a.defers } W) :
    (Code.rangeFunc g #[p] (Code.region id #[{ dst := some q, op := .assign (.tmp p), type := ty, pos := ps, after := #[], guard := none }] false) body).wpIn Fence.wide 10 Tryd.prog Q a w := by
  refine wpIn_rangeFunc_ownG rfl (by omega) (gf := 76) (lb := #[.pointer (some ⟨Bs, 0, none⟩)]) hg trivial (enters_of Tryd.func76 (by kernel_rfl) rfl)
    (all_stops Fence.wide 9 trivial trivial rfl (by omega) Bs n₀ s hs w (World.block_lt_of_cell? w _ hc) hn₀ hT h0 hc) belowK_t (belowK_b hn₀) (Below.refl _ _) (fun _ => rfl)
    (fun (pre : List (El s)) W => I (vals pre) W) (fun _ _ _ => False) (fun pre W W' row h1 h2 h3 => hI _ W W' row h1 h2 h3) (fun _ _ _ _ _ h _ _ => h) hstart
    (fun (x : El s) => { tmps := (a.tmps.setIfInBounds p (.int .i64 (x.1 : Int))).setIfInBounds q (.int .i64 (x.1 : Int)), defers := [] }) ?assign ?body ?done ?stop
  case assign =>
    intro l x W K hK
    have ef : ((#[p].zip (enc1 x)).foldl (fun t (p, v) => t.setIfInBounds p v) a.tmps) = a.tmps.setIfInBounds p (.int .i64 (x.1 : Int)) := by simp [enc1]
    rw [ef]
    refine wpIn_region_lit (l := [_]) (wpListIn_plain rfl fun K' hK' => ?_)
    unfold Oper.wpIn
    refine ⟨fun _ _ => trivial, ?_⟩
    rw [Oper.semAt_plain _ _ _ (by intro c h; cases h)]
    have hev : ((a.tmps.setIfInBounds p (Value.int .i64 (x.1 : Int))).getD p undef) = .int .i64 (x.1 : Int) := by
      simp [Array.getD_eq_getD_getElem?, Array.getElem?_setIfInBounds, hp]
    have hr : (execOp (Act.eval { tmps := a.tmps.setIfInBounds p (Value.int .i64 (x.1 : Int)), defers := [] }) { dst := some q, op := .assign (.tmp p), type := ty, pos := ps, after := #[], guard := none }).run Tryd.prog W = .ok (.value (.int .i64 (x.1 : Int))) W := by
      have he : Act.eval { tmps := a.tmps.setIfInBounds p (Value.int .i64 (x.1 : Int)), defers := [] } (.tmp p) = .int .i64 (x.1 : Int) := hev
      simp [execOp, he]
    rw [hr]
    exact hK' _ _ (wpListIn_nil hK)
  case body =>
    intro l pre x W hI hlt
    refine wpIn_mono (hbody l (vals pre) x.1 W hI x.2 (fun y hy => by
      obtain ⟨z, _, rfl⟩ := List.mem_map.1 hy
      exact z.2)) ?_
    intro e a' W' h
    rw [← vals_snoc] at h
    cases e <;> first | exact h | exact h.elim
  case done =>
    intro D ys W hD hys hI hK
    refine hdone D W hD ?_ hK
    rw [← hys]
    exact hI
  case stop =>
    intro D c pre W _ _ h _
    exact h.elim
end Go.Proofs.YtokikapljmakbaaDoor.H

namespace Go.Proofs.YtokikapljmakbaaDoor.H
open Go.RowKit Go.Shelf Go.Proofs.YtokikapljmakbaaDoorW.PrintWords Go.Proofs.YtokikapljmakbaaDoorW.PrintLast Go.Proofs.YtokikapljmakbaaDoorW.PrintMore Go.Proofs.YtokikapljmakbaaDoor.Q
attribute [local go_sem] Oper.semAt_some
set_option linter.unusedSimpArgs false
set_option linter.unusedVariables false

def GraphAt (base : Nat) (W : World) (p v0 : Value) (g : List S29) : Prop := ∃ (X Bb Ba : Nat) (vN vL : Value), p = .pointer (some ⟨X, 0, none⟩) ∧ base ≤ X ∧ base ≤ Bb ∧ base ≤ Ba ∧
  W.heap[X]? = some (.cells #[v0, vN, vL, .slice (some ⟨Bb, 0, none⟩) g.length g.length, .slice (some ⟨Ba, 0, none⟩) g.length g.length] 78 (0, 0)) ∧
  Kd.R (Kd.int .u16) 57 W base (fun _ => True) vN (ints (needs g)) ∧ Kd.R (Kd.int .i64) 3 W base (fun _ => True) vL (ints (order (needs g)).1) ∧
  W.heap[Bb]? = some (.cells (row16 (known (needs g)).1) 57 (0, 0)) ∧ W.heap[Ba]? = some (.cells (row16 (known (needs g)).2) 57 (0, 0))
def GraphOf (w : World) (v0 : Value) (g : List S29) (e : Ending) (w' : World) : Prop := ∃ p : Option Addr, e = .returned (.tuple #[.pointer p, .bool (valid g)]) ∧ Below w.heap.size w w' ∧ (valid g = true → GraphAt w.heap.size w' (.pointer p) v0 g)

/-- The frame while the loop goes round. -/
def gAct (t0 vN vL : Value) (Xp len j : Nat) (us : Nat → Value) (L : List Nat) : Act := { tmps := #[t0, us 1, us 2, us 3, vN, us 5, vL, us 7, .pointer (some ⟨Xp, 0, none⟩), us 9, us 10, us 11, us 12, us 13, us 14, us 15, us 16, us 17, us 18, us 19, us 20, us 21, us 22, us 23, us 24, us 25, us 26, us 27, us 28, us 29, us 30, us 31, us 32, us 33, us 34, us 35, us 36, us 37, us 38, us 39, us 40, vL, .int .i64 (len : Int), .int .i64 (j : Int), us 44, us 45, us 46, us 47, us 48, us 49, us 50, us 51, us 52, us 53, us 54, us 55, us 56, us 57, us 58, us 59, us 60, us 61, us 62, us 63, us 64, us 65, us 66, us 67, us 68, us 69, us 70, us 71, us 72, us 73, us 74, us 75, us 76, us 77, us 78, us 79, us 80, us 81, us 82, us 83, us 84, us 85, us 86, us 87, us 88, us 89, us 90, us 91, us 92, us 93, us 94, us 95, us 96], defers := marks L }
theorem start_at {a : Act} {t0 vN vL : Value} {Xp len : Nat} {G : Nat → List Nat → Prop} (j : Nat) (L : List Nat) (h : a = gAct t0 vN vL Xp len j (fun k => a.tmps.getD k undef) L) (hG : G j L) : ∃ (us : Nat → Value) (j : Nat) (L : List Nat), a = gAct t0 vN vL Xp len j us L ∧ G j L := ⟨_, j, L, h, hG⟩
/-- The struct's block, the block of the variable that points at it, and the rows' blocks. -/
def base0 (t0 vN vL : Value) (n X Xp Bb Ba : Nat) (fsN fsL : List (Nat × Obj)) : List (Nat × Obj) :=
  (X, .cells #[t0, vN, vL, .slice (some ⟨Bb, 0, none⟩) n n, .slice (some ⟨Ba, 0, none⟩) n n] 78 (0, 0)) :: (Xp, .cells #[.pointer (some ⟨X, 0, none⟩)] 49 (0, 0)) :: (fsN ++ fsL)
structure Going (w : World) (nd od : List Nat) (fs : List (Nat × Obj)) (Bb Ba j : Nat) (L : List Nat) (W : World) : Prop where mk ::
  (le : j ≤ od.length) (nodup : L.Nodup) (ge : ∀ D, D ∈ L → w.heap.size ≤ D) (apart : Apart w (markObjs L ++ fs) Bb Ba) (st : St w (markObjs L ++ fs) Bb Ba (kn nd od j).1 (kn nd od j).2 W)
theorem row_cell {k : IntKind} {e : Nat} {W : World} {base : Nat} {ok : Nat → Prop} {A : Option Addr} {n c : Nat} {xs : List Int} (h : Kd.R (Kd.int k) e W base ok (.slice A n c) xs) (j : Nat) (hj : j < xs.length) :
    ∃ g, A = some ⟨g, 0, none⟩ ∧ W.cell? ⟨g, j, none⟩ = some (.int k xs[j]) := by
  obtain ⟨h0, inner, ho, hr⟩ := h
  have hsz : (Kd.int k).sz = 1 := rfl
  have hlen : inner.length = xs.length := by rw [hr.1, hsz, Nat.mul_one]
  have hcell : inner[j]? = some (.int k xs[j]) := by
    have h2 : (inner.drop (j * 1)).take 1 = [.int k xs[j]] := hr.2 j _ (List.getElem?_eq_getElem hj)
    rw [Nat.mul_one, List.drop_eq_getElem_cons (by omega), List.take_succ_cons, List.take_zero] at h2
    rw [List.getElem?_eq_getElem (by omega)]
    exact congrArg some (List.cons.inj h2).1
  rcases ho.2 with ⟨hv, hn⟩ | ⟨g, cap, cur, hv, hb, hg, hn, hc, hs, ht⟩
  · have := ho.1
    rw [hn, Nat.zero_mul] at this
    omega
  · cases hv
    refine ⟨g, rfl, ?_⟩
    have h3 := ho.cells (g := g) (by simp [Value.ownBlock]) j _ hcell
    have e : (⟨g, 0, none⟩ : Addr).add j = ⟨g, j, none⟩ := by
      unfold Addr.add
      simp
      omega
    rw [e] at h3
    exact h3

theorem made_zeros (n : Nat) : madeCells #[Value.int .u16 0] n = row16 (List.replicate n 0) := by
  unfold madeCells row16
  apply Array.ext
  · simp
  · intro i h1 h2
    simp [Nat.mod_one]
theorem start_going {w w3 W : World} {nd od : List Nat} {t0 vN vL : Value} {n X Xp Bb Ba : Nat} {fsN fsL : List (Nat × Obj)} (hn : nd.length = n) (h3 : Below w.heap.size w w3) (hW : Below w3.heap.size w3 W) (hN : Fix fsN w3) (hL : Fix fsL w3)
    (hX : W.heap[X]? = some (.cells #[t0, vN, vL, .slice (some ⟨Bb, 0, none⟩) n n, .slice (some ⟨Ba, 0, none⟩) n n] 78 (0, 0))) (hXp : W.heap[Xp]? = some (.cells #[.pointer (some ⟨X, 0, none⟩)] 49 (0, 0)))
    (hb : W.heap[Bb]? = some (.cells (madeCells #[Value.int .u16 0] n) 57 (0, 0))) (ha : W.heap[Ba]? = some (.cells (madeCells #[Value.int .u16 0] n) 57 (0, 0)))
    (g1 : w3.heap.size ≤ X) (g2 : w3.heap.size ≤ Xp) (g3 : w3.heap.size ≤ Bb) (g4 : w3.heap.size ≤ Ba) (d1 : Bb ≠ Ba) (d2 : X ≠ Bb) (d3 : X ≠ Ba) (d4 : Xp ≠ Bb) (d5 : Xp ≠ Ba) : Going w nd od (base0 t0 vN vL n X Xp Bb Ba fsN fsL) Bb Ba 0 [] W := by
  have hsz := h3.size
  have old : ∀ p : Nat × Obj, p ∈ fsN ++ fsL → W.heap[p.1]? = some p.2 ∧ p.1 < w3.heap.size := fun p hp => by
    rcases List.mem_append.1 hp with hp | hp
    · exact ⟨(hW.block _ (hN.lt hp)).trans (hN p hp), hN.lt hp⟩
    · exact ⟨(hW.block _ (hL.lt hp)).trans (hL p hp), hL.lt hp⟩
  refine ⟨Nat.zero_le _, List.nodup_nil, fun D hD => absurd hD List.not_mem_nil, ⟨d1, by omega, by omega, fun p hp => ?_⟩, ⟨fun p hp => ?_, ?_, ?_, h3.trans (hW.mono hsz)⟩⟩
  · rcases List.mem_cons.1 hp with rfl | hp
    · exact ⟨d2, d3⟩
    · rcases List.mem_cons.1 hp with rfl | hp
      · exact ⟨d4, d5⟩
      · have := (old p hp).2
        exact ⟨by omega, by omega⟩
  · rcases List.mem_cons.1 hp with rfl | hp
    · exact hX
    · rcases List.mem_cons.1 hp with rfl | hp
      · exact hXp
      · exact (old p hp).1
  · rw [hb, made_zeros, ← hn]
    rfl
  · rw [ha, made_zeros, ← hn]
    rfl
theorem going_cells {w w3 : World} {fsN fsL : List (Nat × Obj)} (hb : Below w.heap.size w w3) (hf : (∀ p : Nat × Obj, p ∈ fsN → p.2.isCells = true ∧ w.heap.size ≤ p.1) ∧ (∀ p : Nat × Obj, p ∈ fsL → p.2.isCells = true ∧ w.heap.size ≤ p.1)) {nd od : List Nat} {n : Nat} {t0 vN vL : Value} {X Xp Bb Ba : Nat} {W : World} (hG : Going w nd od (base0 t0 vN vL n X Xp Bb Ba fsN fsL) Bb Ba 0 [] W) (h1 : w3.heap.size ≤ X) (h2 : w3.heap.size ≤ Xp) :
    ∀ p, p ∈ base0 t0 vN vL n X Xp Bb Ba fsN fsL → p.2.isCells = true ∧ w.heap.size ≤ p.1 := by
  intro p hp
  have := hb.size
  rcases List.mem_cons.1 hp with rfl | hp
  · exact ⟨rfl, by show w.heap.size ≤ X; omega⟩
  · rcases List.mem_cons.1 hp with rfl | hp
    · exact ⟨rfl, by show w.heap.size ≤ Xp; omega⟩
    · rcases List.mem_append.1 hp with hp | hp
      · exact hf.1 p hp
      · exact hf.2 p hp
theorem below_draws {B : Nat} {a w : World} (h : Below B a w) (n : Nat) : Below B a (w.drewN n) := h.trans ⟨rfl, rfl, rfl, Nat.le_refl _, fun _ _ => rfl⟩
theorem four (w : World) (o0 o1 o2 o3 : Obj) : Below w.heap.size w ((((w.alloc o0).alloc o1).alloc o2).alloc o3).drew ∧ ((((w.alloc o0).alloc o1).alloc o2).alloc o3).drew.heap[w.heap.size]? = some o0 ∧ ((((w.alloc o0).alloc o1).alloc o2).alloc o3).drew.heap[w.heap.size + 1]? = some o1 ∧
    ((((w.alloc o0).alloc o1).alloc o2).alloc o3).drew.heap[w.heap.size + 1 + 1]? = some o2 ∧ ((((w.alloc o0).alloc o1).alloc o2).alloc o3).drew.heap[w.heap.size + 1 + 1 + 1]? = some o3 := by
  have a0 := World.alloc_heap_new w o0
  have a1 := World.alloc_heap_new (w.alloc o0) o1
  have a2 := World.alloc_heap_new ((w.alloc o0).alloc o1) o2
  have a3 := World.alloc_heap_new (((w.alloc o0).alloc o1).alloc o2) o3
  rw [World.size_alloc] at a1
  rw [World.size_alloc, World.size_alloc] at a2
  rw [World.size_alloc, World.size_alloc, World.size_alloc] at a3
  have k : ∀ (v : World) (o : Obj) (i : Nat) (x : Obj), v.heap[i]? = some x → (v.alloc o).heap[i]? = some x := fun v o i x h => (Below.heap_alloc v o i (Array.getElem?_eq_some_iff.1 h).1).trans h
  exact ⟨((((Below.refl _ w).alloc (Nat.le_refl _) o0).alloc (by simp) o1).alloc (by simp; omega) o2 |>.alloc (by simp; omega) o3).drew, k _ _ _ _ (k _ _ _ _ (k _ _ _ _ a0)), k _ _ _ _ (k _ _ _ _ a1), k _ _ _ _ a2, a3⟩
theorem nearer {nL len j : Nat} (h : nL = len) (hj : j < len) : nL - (intOf (Value.int .i64 ((j + 1 : Nat) : Int))).toNat < nL - (intOf (Value.int .i64 (j : Int))).toNat := by
  simp only [intOf]
  omega
theorem wrap_next (j : Nat) (h : j < 281474976710656) : wrap64 ((j : Int) + 1) = ((j + 1 : Nat) : Int) := by
  rw [w64 _ (by omega) (by omega)]
  omega
theorem with_same (s k : Nat) (hs : s < 256) (hk : k < 8) (w : World) : Calls Tryd.prog 69 #[.int .u16 (s : Int), .int .i64 (k : Int)] w fun e w' => e = .returned (.int .u16 ((s ||| 2 ^ k : Nat) : Int)) ∧ w' = w := by
  refine (callsIn_wide (n := 3)).1 ?_
  refine callsIn_of_wp Tryd.func69 rfl trivial ?_ rfl
  simp only [Tryd.ntmps69, List.size_toArray, List.length_cons, List.length_nil, Nat.reduceAdd, Nat.reduceSub, Array.replicate_succ, Array.replicate_zero, List.push_toArray, List.append_toArray, List.nil_append, List.cons_append]
  have hk0 : (0 : Int) ≤ (k : Int) := by omega
  have hb := with_bits s hs k hk
  unfold shl at hb
  rw [Int.toNat_natCast, show min k IntKind.u16.bits = k by simp [IntKind.bits]; omega, Int.one_mul] at hb
  gi_wp2
  go_ret
  exact ⟨rfl, rfl⟩
structure Rest (A0 : Option Addr) (c0 : Nat) (g : List S29) (w : World) (K : Act → World → Prop) : Prop where mk :: (out : ∀ {t0 : Value} {AN : Option Addr} {nN cN : Nat} {vN : Value} {AL : Option Addr} {nL cL : Nat} {vL : Value} {y1 y2 y3 y5 y7 y9 y10 y11 y12 y13 y14 y15 y16 y17 y18 y19 y20 y21 y22 y23 y24 y25 y26 y27 y28 y29 y30 y31 y32 y33 y34 y35 y36 y37 y38 y39 y40 y41 y42 y43 y44 y45 y46 y47 y48 y49 y50 y51 y52 y53 y54 y55 y56 y57 y58 y59 y60 y61 y62 y63 y64 y65 y66 y67 y68 y69 y70 y71 y72 y73 y74 y75 y76 y77 y78 y79 y80 y81 y82 y83 y84 y85 y86 y87 y88 y89 y90 y91 y92 y93 y94 y95 y96 : Value} (X Xp Bb Ba : Nat) {fsN fsL : List (Nat × Obj)} {W : World}, t0 = .slice A0 g.length c0 → vN = .slice AN nN cN → nN = g.length → vL = .slice AL nL cL → nL = (order (needs g)).1.length →
          Going w (needs g) (order (needs g)).1 (base0 t0 vN vL g.length X Xp Bb Ba fsN fsL) Bb Ba 0 [] W → (∀ p, p ∈ base0 t0 vN vL g.length X Xp Bb Ba fsN fsL → p.2.isCells = true ∧ w.heap.size ≤ p.1) →
          (∀ W', Fix fsN W' → Kd.R (Kd.int .u16) 57 W' w.heap.size (fun _ => True) vN (ints (needs g))) → (∀ W', Fix fsL W' → Kd.R (Kd.int .i64) 3 W' w.heap.size (fun _ => True) vL (ints (order (needs g)).1)) →
          K { tmps := #[t0, y1, y2, y3, vN, y5, vL, y7, .pointer (some ⟨Xp, 0, none⟩), y9, y10, y11, y12, y13, y14, y15, y16, y17, y18, y19, y20, y21, y22, y23, y24, y25, y26, y27, y28, y29, y30, y31, y32, y33, y34, y35, y36, y37, y38, y39, y40, y41, y42, y43, y44, y45, y46, y47, y48, y49, y50, y51, y52, y53, y54, y55, y56, y57, y58, y59, y60, y61, y62, y63, y64, y65, y66, y67, y68, y69, y70, y71, y72, y73, y74, y75, y76, y77, y78, y79, y80, y81, y82, y83, y84, y85, y86, y87, y88, y89, y90, y91, y92, y93, y94, y95, y96], defers := [] } W)
theorem info_set : (Tryd.prog.info? 57).map (fun i => (i.zero, i.size, i.bytes)) = some (some (.int .u16 0), 1, 2) := by kernel_rfl
set_option maxRecDepth 100000 in
set_option maxHeartbeats 4000000 in
theorem graphOf_any (A0 : Option Addr) (c0 : Nat) (g : List S29) (M : Nat) (w : World) (hr0 : Kd.C k29 w A0 g.length g) (hc0 : g.length ≤ c0) (hT : Tab w) (hM : short M g) (hM48 : M ≤ 281474976710656) :
    Calls Tryd.prog 50 #[.slice A0 g.length c0] w (GraphOf w (.slice A0 g.length c0) g) := by
  obtain ⟨i0, hi, hz0, hz1, hz2⟩ := info_parts info_set
  have HI := Aside0.mk (And.intro hi (And.intro hz0 (And.intro hz1 hz2)))
  have HR := Aside0.mk hr0
  have HT := Aside0.mk hT
  clear hr0 hT
  have HN := Aside0.mk (needsOf_is g M hM hM48 (M + 10) (Nat.le_refl _))
  clear hM
  refine (callsIn_wide (n := 10)).1 ?_
  refine callsIn_of_wp_marks Tryd.func50 rfl trivial ?_ rfl
  simp only [Tryd.ntmps50, List.size_toArray, List.length_cons, List.length_nil, Nat.reduceAdd, Nat.reduceSub, Array.replicate_succ, Array.replicate_zero, List.push_toArray, List.append_toArray, List.nil_append, List.cons_append]
  by_cases hf : fine g = true
  · have h8 := fine_len hf
    have HN1 := Aside0.mk (HN.out.trans (by rw [if_pos hf]))
    have HO := Aside0.mk (order_is (needs g) (by rw [needs_len]; exact h8) (needs_lt hf) 100 (Nat.le_refl _))
    have HF := Aside0.mk hf
    clear hf
    have HE := Aside0.mk (everything_is g.length h8)
    gi_wp2_with (first | (refine ⟨trivial, ?_⟩; gi_at_call 67; refine (callsIn_wide.2 (impl_needsOf.calls (M + 10) A0 c0 g _ _ _ HR.out hc0 HN1.out)).mono ?_; rintro e w1 ⟨vN, rfl, RN, hb1⟩; obtain ⟨AN, cN, rfl⟩ := Kd.R_slice RN; have HRN := Aside0.mk RN; have HB1 := Aside0.mk hb1; clear RN hb1) | (refine ⟨trivial, ?_⟩; gi_at_call 68; refine (callsIn_wide.2 (impl_order.calls 100 AN cN (ints (needs g)) _ _ _ (Kd.R_reads' HRN.out).2.2 (Kd.R_reads' HRN.out).2.1 HO.out)).mono ?_; rintro e w2 ⟨vL, rfl, RL, hb2⟩; obtain ⟨AL, cL, rfl⟩ := Kd.R_slice RL; have HRL := Aside0.mk RL; have HB2 := Aside0.mk hb2; clear RL hb2) | (refine ⟨trivial, ?_⟩; gi_at_call 43; refine (callsIn_wide.2 (impl_everything.calls _ _ _ HE.out)).mono ?_; rintro e w3 ⟨rfl, hd⟩; have HD := Aside0.mk hd; clear hd))
    · rename_i hne
      have HV : Aside0 (valid g = false) := Aside0.mk (by
        unfold valid
        rw [HF.out, Bool.true_and, decide_eq_false_iff_not]
        have := bne_iff_ne.1 hne
        omega)
      obtain ⟨nd, hw3⟩ := HD.out.out
      refine ⟨_, results_tmp2 rfl _ _ _, none, by rw [HV.out]; rfl, ?_, fun h => by rw [HV.out] at h; cases h⟩
      rw [hw3]
      exact below_draws (HB1.out.trans (HB2.out.mono HB1.out.size)) nd
    · have hmk := fun W : World => run_make (P := Tryd.prog) W 76 57 i0 (.int .u16 0) Tryd.underlying76 hi hz0 .i64 .i64 (g.length : Int) (g.length : Int) (by omega) (by omega) (by rw [hz2]; omega) (by omega)
      rw [hz1] at hmk
      simp only [Int.toNat_natCast, Nat.mul_one] at hmk
      rename_i hne K hK
      have HV : Aside0 (valid g = true) := Aside0.mk (by
        unfold valid
        rw [HF.out, Bool.true_and, decide_eq_true_eq]
        have := bne_eq_false_iff_eq.1 hne
        omega)
      have HK := Aside0.mk hK
      clear hK hi hz0 hz1 hz2
      have REST : Rest A0 c0 g w K := by
        apply Rest.mk
        intro t0 AN nN cN vN AL nL cL vL y1 y2 y3 y5 y7 y9 y10 y11 y12 y13 y14 y15 y16 y17 y18 y19 y20 y21 y22 y23 y24 y25 y26 y27 y28 y29 y30 y31 y32 y33 y34 y35 y36 y37 y38 y39 y40 y41 y42 y43 y44 y45 y46 y47 y48 y49 y50 y51 y52 y53 y54 y55 y56 y57 y58 y59 y60 y61 y62 y63 y64 y65 y66 y67 y68 y69 y70 y71 y72 y73 y74 y75 y76 y77 y78 y79 y80 y81 y82 y83 y84 y85 y86 y87 y88 y89 y90 y91 y92 y93 y94 y95 y96 X Xp Bb Ba fsN fsL W ht0 hvN hnN hvL hnL hG hcells hN hL
        subst hvL
        subst hvN
        have HNL := Aside0.mk hnL
        have HNN := Aside0.mk hnN
        have HT0 := Aside0.mk ht0
        have HC := Aside0.mk hcells
        clear hnL hnN ht0 hcells
        apply HK.out
        clear HK
        gi_wp2
        refine wpIn_loop (fun a' W' => ∃ (us : Nat → Value) (j : Nat) (L : List Nat), a' = gAct t0 (.slice AN nN cN) (.slice AL nL cL) Xp nL j us L ∧ Going w (needs g) (order (needs g)).1 (base0 t0 (.slice AN nN cN) (.slice AL nL cL) g.length X Xp Bb Ba fsN fsL) Bb Ba j L W')
          (fun a' _ => nL - (intOf (a'.tmps.getD 43 undef)).toNat) ?_ ?_
        · exact start_at 0 [] (by rfl) hG
        · rintro a' W' ⟨us, j, L, rfl, hg⟩
          have HG := Aside0.mk hg
          have HN2 := Aside0.mk hN
          have HL2 := Aside0.mk hL
          clear hG hN hL
          have hXp : W'.cell? ⟨Xp, 0, none⟩ = some (.pointer (some ⟨X, 0, none⟩)) := cell_of (hg.st.fix (Xp, _) (List.mem_append_right _ (List.mem_cons_of_mem _ List.mem_cons_self))) rfl
          have hle := hg.le
          unfold gAct
          by_cases hj : j < (order (needs g)).1.length
          · have fixL : Fix fsL W' := fun p hp => hg.st.fix p (List.mem_append_right _ (List.mem_cons_of_mem _ (List.mem_cons_of_mem _ (List.mem_append_right _ hp))))
            have fixN : Fix fsN W' := fun p hp => hg.st.fix p (List.mem_append_right _ (List.mem_cons_of_mem _ (List.mem_cons_of_mem _ (List.mem_append_left _ hp))))
            obtain ⟨i, hi⟩ : ∃ i, (order (needs g)).1[j] = i := ⟨_, rfl⟩
            have hin : i < g.length := by
              rw [← hi, ← needs_len g]
              exact order_lt _ _ (List.getElem_mem hj)
            obtain ⟨gL, rfl, hcL⟩ := row_cell (HL2.out W' fixL) j (by rw [ints_len]; exact hj)
            obtain ⟨gN, rfl, hcN⟩ := row_cell (HN2.out (W'.alloc (.cells #[.int .i64 (i : Int)] 3)) (fixN.alloc _)) i (by rw [ints_len, needs_len]; exact hin)
            have eL : (ints (order (needs g)).1)[j]'(by rw [ints_len]; exact hj) = (i : Int) := by
              rw [← hi]
              exact List.getElem_map ..
            have eN : (ints (needs g))[i]'(by rw [ints_len, needs_len]; exact hin) = ((at0 (needs g) i : Nat) : Int) := by
              rw [at0_get _ _ (by rw [needs_len]; exact hin)]
              exact List.getElem_map ..
            rw [eL] at hcL
            rw [eN] at hcN
            have hj0 : (0 : Int) ≤ (j : Int) := by omega
            have hj1 : (j : Int) < (nL : Int) := by have := HNL.out; omega
            have hi0 : (0 : Int) ≤ (i : Int) := by omega
            have hi1 : (i : Int) < (nN : Int) := by have := HNN.out; omega
            have HIJ := Aside0.mk hi
            clear eL eN hg hi
            gi_wp2_with (refine ⟨trivial, ?_⟩; gi_at_call 63; refine (all_any Fence.wide _ trivial rfl _ _).mono ?_; rintro e w' ⟨rfl, rfl⟩)
            have hg := HG.out
            have hltL : ∀ x, x ∈ L → x < W'.heap.size := fun x hx => hg.st.fix.lt (p := (x, .deferred (some []))) (List.mem_append_left _ (List.mem_map.2 ⟨x, hx, rfl⟩))
            have hnd := needs_sets HF.out
            have hW1 := ((Below.refl w.heap.size W').alloc hg.st.below.size (.cells #[.int .i64 (i : Int)] 3)).alloc (by have := hg.st.below.size; simp; omega) (.cells #[.int .u16 ((at0 (needs g) i : Nat) : Int)] 57)
            have hst1 := ((hg.st.alloc (.cells #[.int .i64 (i : Int)] 3)).put (o := (W'.heap.size, .cells #[.int .i64 (i : Int)] 3 (0, 0))) (World.alloc_heap_new W' _)).alloc (.cells #[.int .u16 ((at0 (needs g) i : Nat) : Int)] 57)
            have hap1 : Apart w ((W'.heap.size, .cells #[.int .i64 (i : Int)] 3 (0, 0)) :: (markObjs L ++ base0 t0 (.slice (some ⟨gN, 0, none⟩) nN cN) (.slice (some ⟨gL, 0, none⟩) nL cL) g.length X Xp Bb Ba fsN fsL)) Bb Ba := ⟨hg.apart.ne, hg.apart.geb, hg.apart.gea, fun p hp => by
              rcases List.mem_cons.1 hp with rfl | hp
              · have h1 := (Array.getElem?_eq_some_iff.1 hg.st.rowb).1
                have h2 := (Array.getElem?_eq_some_iff.1 hg.st.rowa).1
                exact ⟨by show W'.heap.size ≠ Bb; omega, by show W'.heap.size ≠ Ba; omega⟩
              · exact hg.apart.all p hp⟩
            have hsB := Boxed.new (W'.alloc (.cells #[.int .i64 (i : Int)] 3)) 57 (.int .u16 ((at0 (needs g) i : Nat) : Int))
            rw [World.size_alloc] at hsB
            have hTW : Tab ((W'.alloc (.cells #[.int .i64 (i : Int)] 3)).alloc (.cells #[.int .u16 ((at0 (needs g) i : Nat) : Int)] 57)) := HT.out.below (hg.st.below.trans hW1)
            have hs2 : at0 (needs g) i < 2 ^ g.length := hnd.at i
            have hks := kn_sets hnd (od := (order (needs g)).1) (fun x hx => by rw [← needs_len g]; exact order_lt _ x hx) j
            have h28 := two_le h8
            obtain ⟨W1, hW1e⟩ : ∃ W1, (W'.alloc (.cells #[.int .i64 (i : Int)] 3)).alloc (.cells #[.int .u16 ((at0 (needs g) i : Nat) : Int)] 57) = W1 := ⟨_, rfl⟩
            rw [hW1e] at hst1 hsB hTW hW1 ⊢
            have hsz1 := hW1.size
            have hgsz := hg.st.below.size
            refine over_set 10 (s := at0 (needs g) i) (Nat.lt_of_lt_of_le hs2 h28) (Bs := W'.heap.size + 1) (n₀ := w.heap.size) rfl (by simp) hsB.cell hTW hst1.below.size HT.out.out.1
              (fun pre W => St w ((W'.heap.size, .cells #[.int .i64 (i : Int)] 3 (0, 0)) :: (markObjs L ++ base0 t0 (.slice (some ⟨gN, 0, none⟩) nN cN) (.slice (some ⟨gL, 0, none⟩) nL cL) g.length X Xp Bb Ba fsN fsL)) Bb Ba (pre.foldl (bit1 i) (kn (needs g) (order (needs g)).1 j).1) (kn (needs g) (order (needs g)).1 j).2 W)
              (st_own w _ Bb Ba (fun (pre : List Nat) => pre.foldl (bit1 i) (kn (needs g) (order (needs g)).1 j).1) (fun _ => (kn (needs g) (order (needs g)).1 j).2) _ hst1.below.size (fun p hp => .inr (hst1.fix.lt hp))) hst1 ?body1 ?done1
            case body1 =>
              intro l pre k W hI hk hpre
              have hkn : k < g.length := elem_lt hs2 hk
              have hbs : Sets g.length (pre.foldl (bit1 i) (kn (needs g) (order (needs g)).1 j).1) := Sets.bits1 i _ hks.1 (fun y hy => elem_lt hs2 (hpre y hy))
              obtain ⟨bb, hbb⟩ : ∃ bb, pre.foldl (bit1 i) (kn (needs g) (order (needs g)).1 j).1 = bb := ⟨_, rfl⟩
              have HAP := Aside0.mk hap1
              rw [hbb] at hI hbs
              have hx1 := hbs.at i
              have hx2 := hbs.at k
              have hlen := hbs.len
              have c1 : W.drew.cell? ⟨Xp, 0, none⟩ = some (.pointer (some ⟨X, 0, none⟩)) := cell_of (hI.fix (Xp, _) (List.mem_cons_of_mem _ (List.mem_append_right _ (List.mem_cons_of_mem _ List.mem_cons_self)))) rfl
              have c2 : W.drew.cell? ⟨X, 3, none⟩ = some (.slice (some ⟨Bb, 0, none⟩) g.length g.length) := cell_of (hI.fix (X, _) (List.mem_cons_of_mem _ (List.mem_append_right _ List.mem_cons_self))) rfl
              have c3 : W.drew.cell? ⟨W'.heap.size, 0, none⟩ = some (.int .i64 (i : Int)) := cell_of hI.fix.head rfl
              have c4 : W.drew.cell? ⟨Bb, i, none⟩ = some (.int .u16 ((at0 bb i : Nat) : Int)) := cell_of hI.rowb (row16_at bb i (by omega))
              have c5 : W.drew.cell? ⟨Bb, k, none⟩ = some (.int .u16 ((at0 bb k : Nat) : Int)) := cell_of hI.rowb (row16_at bb k (by omega))
              have f4 : W.drew.frozen? ⟨Bb, i, none⟩ = false := frozen_of hI.rowb
              have hk0 : (0 : Int) ≤ (k : Int) := by omega
              have hk1 : (k : Int) < (g.length : Int) := by omega
              have hi2 : (i : Int) < (g.length : Int) := by omega
              have hor := or_bits (at0 bb i) (at0 bb k ||| 2 ^ k) (by omega) (or_lt (by omega) (pow_lt (by omega)))
              have hcall := with_same (at0 bb k) k (by omega) (by omega) W.drew
              have HI1 := Aside0.mk hI
              clear hI hst1 hap1 hsB hTW hW1 hg hx1 hx2
              simp only [List.setIfInBounds_toArray, List.set_cons_succ, List.set_cons_zero]
              refine wpIn_block_calm ?_
              refine wpIn_round_still l 8 (calm_lets _) (by kernel_rfl) 18 (by kernel_rfl) (by kernel_rfl) ?_
              simp only [List.take_succ_cons, List.take_zero, List.drop_succ_cons, List.drop_zero]
              iterate 15 still_step
              still_call hcall
              iterate 2 still_step
              refine wpStill_nil ?_
              go_wp2
              refine ⟨((KeepsOthers.setCell W _ _).trans (KeepsOthers.drew _)).from _, ((Below.refl _ W).setCell (p := ⟨Bb, i, none⟩) HAP.out.geb _).drew, ?_⟩
              rw [List.foldl_append, hbb]
              exact (HI1.out.setb HAP.out i _).drew
            case done1 =>
              intro D W2 hD hI2 hK2
              have hbs := Sets.bits1 i (elems (at0 (needs g) i)) hks.1 (fun y hy => elem_lt hs2 hy)
              obtain ⟨bb, hbb⟩ : ∃ bb, (elems (at0 (needs g) i)).foldl (bit1 i) (kn (needs g) (order (needs g)).1 j).1 = bb := ⟨_, rfl⟩
              rw [hbb] at hI2 hbs
              have hx1 := hbs.at i
              have hlen := hbs.len
              have c1 : W2.drew.cell? ⟨Xp, 0, none⟩ = some (.pointer (some ⟨X, 0, none⟩)) := cell_of (hI2.fix (Xp, _) (List.mem_cons_of_mem _ (List.mem_append_right _ (List.mem_cons_of_mem _ List.mem_cons_self)))) rfl
              have c2 : W2.drew.cell? ⟨X, 3, none⟩ = some (.slice (some ⟨Bb, 0, none⟩) g.length g.length) := cell_of (hI2.fix (X, _) (List.mem_cons_of_mem _ (List.mem_append_right _ List.mem_cons_self))) rfl
              have c3 : W2.drew.cell? ⟨W'.heap.size, 0, none⟩ = some (.int .i64 (i : Int)) := cell_of hI2.fix.head rfl
              have c4 : W2.drew.cell? ⟨Bb, i, none⟩ = some (.int .u16 ((at0 bb i : Nat) : Int)) := cell_of hI2.rowb (row16_at bb i (by omega))
              have hi2 : (i : Int) < (g.length : Int) := by omega
              have hcall := (callsIn_wide (n := 3)).1 (all_any Fence.wide 3 trivial rfl ((at0 bb i : Nat) : Int) W2.drew)
              have HI2 := Aside0.mk hI2
              have HAP := Aside0.mk hap1
              clear hI2 hst1 hsB hTW hW1 hg hx1 hap1
              gi_wp2
              refine wpIn_wide.2 ?_
              go_still_tail 7, (by kernel_rfl)
              go_wp2_with (go_at_call 63; refine hcall.mono ?_; rintro e w' ⟨rfl, rfl⟩)
              gi_wp2
              have hst2 := ((HI2.out.put (o := (D, .deferred (some []))) hK2).alloc (.cells #[.int .u16 ((at0 bb i : Nat) : Int)] 57)).drew
              have hap2 : Apart w ((D, .deferred (some [])) :: (W'.heap.size, .cells #[.int .i64 (i : Int)] 3 (0, 0)) :: (markObjs L ++ base0 t0 (.slice (some ⟨gN, 0, none⟩) nN cN) (.slice (some ⟨gL, 0, none⟩) nL cL) g.length X Xp Bb Ba fsN fsL)) Bb Ba := ⟨HAP.out.ne, HAP.out.geb, HAP.out.gea, fun p hp => by
                rcases List.mem_cons.1 hp with rfl | hp
                · refine ⟨fun e => ?_, fun e => ?_⟩
                  · have := HI2.out.rowb
                    rw [← show D = Bb from e, hK2] at this
                    cases this
                  · have := HI2.out.rowa
                    rw [← show D = Ba from e, hK2] at this
                    cases this
                · exact HAP.out.all p hp⟩
              have hsB := Boxed.new W2 57 (.int .u16 ((at0 bb i : Nat) : Int))
              have hTW := HT.out.below hst2.below
              have hs3 : at0 bb i < 2 ^ g.length := hbs.at i
              obtain ⟨W3, hW3⟩ : ∃ W3, (W2.alloc (.cells #[.int .u16 ((at0 bb i : Nat) : Int)] 57)).drew = W3 := ⟨_, rfl⟩
              have hsB3 : W3.cell? ⟨W2.heap.size, 0, none⟩ = some (.int .u16 ((at0 bb i : Nat) : Int)) := by rw [← hW3]; exact hsB.cell
              have hD3 : D < W3.heap.size := by
                rw [hW3] at hst2
                exact hst2.fix.lt (p := (D, .deferred (some []))) List.mem_cons_self
              rw [hW3] at hst2 hTW ⊢
              have hW13 : W1.heap.size ≤ W3.heap.size := by omega
              clear hW3 hsB c1 c2 c3 c4
              refine over_set 10 (s := at0 bb i) (Nat.lt_of_lt_of_le hs3 h28) (Bs := W2.heap.size) (n₀ := w.heap.size) rfl (by simp) hsB3 hTW hst2.below.size HT.out.out.1
                (fun pre W => St w ((D, .deferred (some [])) :: (W'.heap.size, .cells #[.int .i64 (i : Int)] 3 (0, 0)) :: (markObjs L ++ base0 t0 (.slice (some ⟨gN, 0, none⟩) nN cN) (.slice (some ⟨gL, 0, none⟩) nL cL) g.length X Xp Bb Ba fsN fsL)) Bb Ba bb (pre.foldl (bit2 i) (kn (needs g) (order (needs g)).1 j).2) W)
                (st_own w _ Bb Ba (fun _ => bb) (fun (pre : List Nat) => pre.foldl (bit2 i) (kn (needs g) (order (needs g)).1 j).2) _ hst2.below.size (fun p hp => .inr (hst2.fix.lt hp))) hst2 ?body2 ?done2
              case body2 =>
                intro l pre k W hI hk hpre
                have hkn : k < g.length := elem_lt hs3 hk
                have has : Sets g.length (pre.foldl (bit2 i) (kn (needs g) (order (needs g)).1 j).2) := Sets.bits2 i hin _ hks.2
                obtain ⟨aa, haa⟩ : ∃ aa, pre.foldl (bit2 i) (kn (needs g) (order (needs g)).1 j).2 = aa := ⟨_, rfl⟩
                rw [haa] at hI has
                have hx2 := has.at k
                have hlen := has.len
                have c1 : W.drew.cell? ⟨Xp, 0, none⟩ = some (.pointer (some ⟨X, 0, none⟩)) := cell_of (hI.fix (Xp, _) (List.mem_cons_of_mem _ (List.mem_cons_of_mem _ (List.mem_append_right _ (List.mem_cons_of_mem _ List.mem_cons_self))))) rfl
                have c2 : W.drew.cell? ⟨X, 4, none⟩ = some (.slice (some ⟨Ba, 0, none⟩) g.length g.length) := cell_of (hI.fix (X, _) (List.mem_cons_of_mem _ (List.mem_cons_of_mem _ (List.mem_append_right _ List.mem_cons_self)))) rfl
                have c3 : W.drew.cell? ⟨W'.heap.size, 0, none⟩ = some (.int .i64 (i : Int)) := cell_of (hI.fix (W'.heap.size, _) (List.mem_cons_of_mem _ List.mem_cons_self)) rfl
                have c5 : W.drew.cell? ⟨Ba, k, none⟩ = some (.int .u16 ((at0 aa k : Nat) : Int)) := cell_of hI.rowa (row16_at aa k (by omega))
                have f4 : W.drew.frozen? ⟨Ba, k, none⟩ = false := frozen_of hI.rowa
                have hk0 : (0 : Int) ≤ (k : Int) := by omega
                have hk1 : (k : Int) < (g.length : Int) := by omega
                have hcall := with_same (at0 aa k) i (by omega) (by omega) W.drew
                have HI3 := Aside0.mk hI
                have HAP2 := Aside0.mk hap2
                clear hI hst2 hap2 hTW hx2
                simp only [List.setIfInBounds_toArray, List.set_cons_succ, List.set_cons_zero]
                refine wpIn_block_calm ?_
                refine wpIn_round_still l 8 (calm_lets _) (by kernel_rfl) 15 (by kernel_rfl) (by kernel_rfl) ?_
                simp only [List.take_succ_cons, List.take_zero, List.drop_succ_cons, List.drop_zero]
                iterate 13 still_step
                still_call hcall
                still_step
                refine wpStill_nil ?_
                go_wp2
                refine ⟨((KeepsOthers.setCell W _ _).trans (KeepsOthers.drew _)).from _, ((Below.refl _ W).setCell (p := ⟨Ba, k, none⟩) HAP2.out.gea _).drew, ?_⟩
                rw [List.foldl_append, haa]
                exact (HI3.out.seta HAP2.out k _).drew
              case done2 =>
                intro D2 W4 hD2 hI4 hK4
                have HI4 := Aside0.mk hI4
                have HAP2 := Aside0.mk hap2
                clear hI4 hst2 hap2 hTW
                gi_wp2
                have hod := order_len (needs g)
                rw [needs_len] at hod
                have hw := wrap_next j (by omega)
                rw [hw]
                have hg := HG.out
                refine ⟨start_at (j + 1) (D2 :: D :: L) (by rfl) ⟨hj, ?_, ?_, ?_, ?_⟩, ?_⟩
                · refine List.nodup_cons.2 ⟨fun h => ?_, List.nodup_cons.2 ⟨fun h => ?_, hg.nodup⟩⟩
                  · rcases List.mem_cons.1 h with h | h
                    · omega
                    · have := hltL _ h
                      omega
                  · have := hltL _ h
                    omega
                · intro x hx
                  rcases List.mem_cons.1 hx with rfl | hx
                  · omega
                  · rcases List.mem_cons.1 hx with rfl | hx
                    · omega
                    · exact hg.ge x hx
                · refine ⟨HAP2.out.ne, HAP2.out.geb, HAP2.out.gea, fun p hp => ?_⟩
                  rcases List.mem_cons.1 hp with rfl | hp
                  · refine ⟨fun e => ?_, fun e => ?_⟩
                    · have := HI4.out.rowb
                      rw [← show D2 = Bb from e, hK4] at this
                      cases this
                    · have := HI4.out.rowa
                      rw [← show D2 = Ba from e, hK4] at this
                      cases this
                  · rcases List.mem_cons.1 hp with rfl | hp
                    · exact HAP2.out.all _ List.mem_cons_self
                    · exact HAP2.out.all p (List.mem_cons_of_mem _ (List.mem_cons_of_mem _ hp))
                · rw [kn_step _ _ j hj, HIJ.out]
                  unfold know1
                  rw [hbb]
                  refine (HI4.out.put (o := (D2, .deferred (some []))) hK4).less (fun p hp => ?_)
                  rcases List.mem_cons.1 hp with rfl | hp
                  · exact List.mem_cons_self
                  · rcases List.mem_cons.1 hp with rfl | hp
                    · exact List.mem_cons_of_mem _ List.mem_cons_self
                    · exact List.mem_cons_of_mem _ (List.mem_cons_of_mem _ (List.mem_cons_of_mem _ hp))
                · exact nearer HNL.out hj
          · have hje : j = (order (needs g)).1.length := by omega
            have hj1 : ¬ (j : Int) < (nL : Int) := by have := HNL.out; omega
            have hg := HG.out
            gi_wp2
            refine leaves_marks w.heap.size (fun W => St w (base0 t0 (.slice AN nN cN) (.slice AL nL cL) g.length X Xp Bb Ba fsN fsL) Bb Ba (known (needs g)).1 (known (needs g)).2 W) (fun W D h hD hK => (st_own (β := Unit) w _ Bb Ba (fun _ => (known (needs g)).1) (fun _ => (known (needs g)).2) w.heap.size (Nat.le_refl _) (fun p hp => .inl (HC.out p hp).1)).putObj (s := ()) _ h hD hK rfl) ?_ L W' hg.nodup hg.ge (fun p hp => hg.st.fix p (List.mem_append_left _ hp)) ?_
            · intro W h
              refine ⟨_, results_tmp2 rfl _ _ _, some ⟨X, 0, none⟩, by rw [HV.out]; rfl, h.below, fun _ => ⟨X, Bb, Ba, .slice AN nN cN, .slice AL nL cL, rfl, (HC.out (X, _) List.mem_cons_self).2, hg.apart.geb, hg.apart.gea, ?_, ?_, ?_, h.rowb, h.rowa⟩⟩
              · rw [← HT0.out]
                exact h.fix (X, _) List.mem_cons_self
              · exact HN2.out W (fun p hp => h.fix p (List.mem_cons_of_mem _ (List.mem_cons_of_mem _ (List.mem_append_left _ hp))))
              · exact HL2.out W (fun p hp => h.fix p (List.mem_cons_of_mem _ (List.mem_cons_of_mem _ (List.mem_append_right _ hp))))
            · have h := hg.st
              rw [hje, kn_all] at h
              exact h.less (fun p hp => List.mem_append_right _ hp)
      obtain ⟨nd, hw3⟩ := HD.out.out
      have hb3 : Below w.heap.size w w3 := by
        rw [hw3]
        exact below_draws (HB1.out.trans (HB2.out.mono HB1.out.size)) nd
      have RN3 := Kd.R_step (w1 := w3) HRN.out (fun k _ hk => by rw [hw3]; exact HB2.out.block k hk)
      have RL3 := Kd.R_step (w1 := w3) (Kd.R_lower HRL.out HB1.out.size) (fun k _ hk => by rw [hw3]; rfl)
      obtain ⟨fsN, n1, n2, n3⟩ := row_fix (fun _ _ _ _ _ h => h) RN3
      obtain ⟨fsL, l1, l2, l3⟩ := row_fix (fun _ _ _ _ _ h => h) RL3
      have HB3 := Aside0.mk hb3
      have HF1 := Aside0.mk (And.intro n1 l1)
      have HF2 := Aside0.mk (And.intro n2 l2)
      have HF3 := Aside0.mk (And.intro n3 l3)
      clear hb3 RN3 RL3 n1 n2 n3 l1 l2 l3 hw3 HRN HRL HB1 HB2 HD
      refine wpIn_calm ?_
      gi_region
      · refine REST.out (w3.heap.size + 1 + 1) (w3.heap.size + 1 + 1 + 1) (w3.heap.size) (w3.heap.size + 1) rfl rfl (by rw [ints_len, needs_len]) rfl (ints_len _) ?hG (going_cells HB3.out HF2.out ?hG (by omega) (by omega)) HF3.out.1 HF3.out.2
        case hG =>
          clear REST HK hmk
          obtain ⟨fB, f0, f1, f2, f3⟩ := four w3 _ _ _ _
          exact start_going (needs_len g) HB3.out fB HF1.out.1 HF1.out.2 f2 f3 f0 f1 (by omega) (by omega) (by omega) (by omega) (by omega) (by omega) (by omega) (by omega) (by omega)
      · refine REST.out (w3.heap.size + 1 + 1 + 1) (w3.heap.size + 1 + 1) (w3.heap.size) (w3.heap.size + 1) rfl rfl (by rw [ints_len, needs_len]) rfl (ints_len _) ?hG (going_cells HB3.out HF2.out ?hG (by omega) (by omega)) HF3.out.1 HF3.out.2
        case hG =>
          clear REST HK hmk
          obtain ⟨fB, f0, f1, f2, f3⟩ := four w3 _ _ _ _
          exact start_going (needs_len g) HB3.out fB HF1.out.1 HF1.out.2 f3 f2 f0 f1 (by omega) (by omega) (by omega) (by omega) (by omega) (by omega) (by omega) (by omega) (by omega)
      · refine REST.out (w3.heap.size + 1 + 1 + 1) (w3.heap.size + 1) (w3.heap.size) (w3.heap.size + 1 + 1) rfl rfl (by rw [ints_len, needs_len]) rfl (ints_len _) ?hG (going_cells HB3.out HF2.out ?hG (by omega) (by omega)) HF3.out.1 HF3.out.2
        case hG =>
          clear REST HK hmk
          obtain ⟨fB, f0, f1, f2, f3⟩ := four w3 _ _ _ _
          exact start_going (needs_len g) HB3.out fB HF1.out.1 HF1.out.2 f3 f1 f0 f2 (by omega) (by omega) (by omega) (by omega) (by omega) (by omega) (by omega) (by omega) (by omega)
      · refine REST.out (w3.heap.size + 1 + 1) (w3.heap.size + 1 + 1 + 1) (w3.heap.size + 1) (w3.heap.size) rfl rfl (by rw [ints_len, needs_len]) rfl (ints_len _) ?hG (going_cells HB3.out HF2.out ?hG (by omega) (by omega)) HF3.out.1 HF3.out.2
        case hG =>
          clear REST HK hmk
          obtain ⟨fB, f0, f1, f2, f3⟩ := four w3 _ _ _ _
          exact start_going (needs_len g) HB3.out fB HF1.out.1 HF1.out.2 f2 f3 f1 f0 (by omega) (by omega) (by omega) (by omega) (by omega) (by omega) (by omega) (by omega) (by omega)
      · refine REST.out (w3.heap.size + 1 + 1 + 1) (w3.heap.size + 1 + 1) (w3.heap.size + 1) (w3.heap.size) rfl rfl (by rw [ints_len, needs_len]) rfl (ints_len _) ?hG (going_cells HB3.out HF2.out ?hG (by omega) (by omega)) HF3.out.1 HF3.out.2
        case hG =>
          clear REST HK hmk
          obtain ⟨fB, f0, f1, f2, f3⟩ := four w3 _ _ _ _
          exact start_going (needs_len g) HB3.out fB HF1.out.1 HF1.out.2 f3 f2 f1 f0 (by omega) (by omega) (by omega) (by omega) (by omega) (by omega) (by omega) (by omega) (by omega)
      · refine REST.out (w3.heap.size + 1 + 1 + 1) (w3.heap.size + 1) (w3.heap.size + 1 + 1) (w3.heap.size) rfl rfl (by rw [ints_len, needs_len]) rfl (ints_len _) ?hG (going_cells HB3.out HF2.out ?hG (by omega) (by omega)) HF3.out.1 HF3.out.2
        case hG =>
          clear REST HK hmk
          obtain ⟨fB, f0, f1, f2, f3⟩ := four w3 _ _ _ _
          exact start_going (needs_len g) HB3.out fB HF1.out.1 HF1.out.2 f3 f1 f2 f0 (by omega) (by omega) (by omega) (by omega) (by omega) (by omega) (by omega) (by omega) (by omega)
      · refine REST.out (w3.heap.size + 1 + 1 + 1) (w3.heap.size) (w3.heap.size + 1) (w3.heap.size + 1 + 1) rfl rfl (by rw [ints_len, needs_len]) rfl (ints_len _) ?hG (going_cells HB3.out HF2.out ?hG (by omega) (by omega)) HF3.out.1 HF3.out.2
        case hG =>
          clear REST HK hmk
          obtain ⟨fB, f0, f1, f2, f3⟩ := four w3 _ _ _ _
          exact start_going (needs_len g) HB3.out fB HF1.out.1 HF1.out.2 f3 f0 f1 f2 (by omega) (by omega) (by omega) (by omega) (by omega) (by omega) (by omega) (by omega) (by omega)
      · refine REST.out (w3.heap.size + 1 + 1 + 1) (w3.heap.size) (w3.heap.size + 1 + 1) (w3.heap.size + 1) rfl rfl (by rw [ints_len, needs_len]) rfl (ints_len _) ?hG (going_cells HB3.out HF2.out ?hG (by omega) (by omega)) HF3.out.1 HF3.out.2
        case hG =>
          clear REST HK hmk
          obtain ⟨fB, f0, f1, f2, f3⟩ := four w3 _ _ _ _
          exact start_going (needs_len g) HB3.out fB HF1.out.1 HF1.out.2 f3 f0 f2 f1 (by omega) (by omega) (by omega) (by omega) (by omega) (by omega) (by omega) (by omega) (by omega)
    -- the needs are not fine
  · have hf' : fine g = false := by simpa using hf
    have HV : Aside0 (valid g = false) := Aside0.mk (by
      unfold valid
      rw [hf', Bool.false_and])
    have HN1 := Aside0.mk (HN.out.trans (by rw [if_neg hf]))
    clear hf hf'
    gi_wp2_with (refine ⟨trivial, ?_⟩; gi_at_call 67; refine (callsIn_wide.2 (impl_needsOf.calls (M + 10) A0 c0 g _ _ _ HR.out hc0 HN1.out)).mono ?_; rintro e w1 ⟨vN, rfl, RN, hb1⟩; obtain ⟨AN, cN, rfl⟩ := Kd.R_slice RN; have HB1 := Aside0.mk hb1; clear RN hb1)
    exact ⟨_, results_tmp2 rfl _ _ _, none, by rw [HV.out]; rfl, HB1.out, fun h => by rw [HV.out] at h; cases h⟩
end Go.Proofs.YtokikapljmakbaaDoor.H

namespace Go.Proofs.YtokikapljmakbaaDoor.H
open Go.RowKit Go.Shelf Go.Proofs.YtokikapljmakbaaDoorW.PrintWords Go.Proofs.YtokikapljmakbaaDoorW.PrintLast Go.Proofs.YtokikapljmakbaaDoorW.PrintMore Go.Proofs.YtokikapljmakbaaDoor.Q
attribute [local go_sem] Oper.semAt_some
set_option linter.unusedSimpArgs false
set_option linter.unusedVariables false

/-- Whether a machine can hold each row of needs. -/
def held (g : List S29) : Bool := g.all fun t => decide (t.f1.length ≤ 281474976710656)
theorem held_short {g : List S29} (h : held g = true) : short 281474976710656 g := fun t ht => of_decide_eq_true (List.all_eq_true.1 h t ht)
def impl_ValidGraph.f (l0 : List S29) : Option Bool := if held l0 then some (valid l0) else none
def topOrder (g : List S29) : List Int := if valid g then ints (order (needs g)).1 else []
/-- Every number below n that is not in the set. -/
def notIn (n d : Nat) : Nat := (2 ^ n - 1) &&& (255 - d)
def stuck (g : List S29) : List Int := if fine g then ints (elems (notIn g.length (order (needs g)).2)) else []
theorem of_held {α : Type} {g : List S29} {x r : α} (h : (if held g then some x else none) = some r) : held g = true ∧ x = r := by
  by_cases hh : held g = true
  · rw [if_pos hh] at h
    exact ⟨hh, Option.some.inj h⟩
  · rw [if_neg hh] at h
    cases h
theorem graphOf_held {A0 : Option Addr} {c0 : Nat} {g : List S29} {w : World} (hr0 : Kd.C k29 w A0 g.length g) (hc0 : g.length ≤ c0) (hT : Tab w) (h : held g = true) :
    Calls Tryd.prog 50 #[.slice A0 g.length c0] w (GraphOf w (.slice A0 g.length c0) g) := graphOf_any A0 c0 g _ w hr0 hc0 hT (held_short h) (Nat.le_refl _)

theorem graphOf_yes {A0 : Option Addr} {c0 : Nat} {g : List S29} {w : World} (hr0 : Kd.C k29 w A0 g.length g) (hc0 : g.length ≤ c0) (hT : Tab w) (h : held g = true) (hv : valid g = true) :
    Calls Tryd.prog 50 #[.slice A0 g.length c0] w fun e w' => ∃ (X Bb Ba : Nat) (AN : Option Addr) (cN : Nat) (AL : Option Addr) (cL : Nat), e = .returned (.tuple #[.pointer (some ⟨X, 0, none⟩), .bool true]) ∧ Below w.heap.size w w' ∧ w.heap.size ≤ X ∧ w.heap.size ≤ Bb ∧ w.heap.size ≤ Ba ∧
      w'.heap[X]? = some (.cells #[.slice A0 g.length c0, .slice AN (ints (needs g)).length cN, .slice AL (ints (order (needs g)).1).length cL, .slice (some ⟨Bb, 0, none⟩) g.length g.length, .slice (some ⟨Ba, 0, none⟩) g.length g.length] 78 (0, 0)) ∧
      Kd.R (Kd.int .u16) 57 w' w.heap.size (fun _ => True) (.slice AN (ints (needs g)).length cN) (ints (needs g)) ∧ Kd.R (Kd.int .i64) 3 w' w.heap.size (fun _ => True) (.slice AL (ints (order (needs g)).1).length cL) (ints (order (needs g)).1) ∧
      w'.heap[Bb]? = some (.cells (row16 (known (needs g)).1) 57 (0, 0)) ∧ w'.heap[Ba]? = some (.cells (row16 (known (needs g)).2) 57 (0, 0)) := by
  refine (graphOf_held hr0 hc0 hT h).mono ?_
  rintro e w' ⟨p, rfl, hb, hg⟩
  obtain ⟨X, Bb, Ba, vN, vL, hp, b1, b2, b3, hX, hN, hL, hB, hA⟩ := hg hv
  cases hp
  obtain ⟨AN, cN, rfl⟩ := Kd.R_slice hN
  obtain ⟨AL, cL, rfl⟩ := Kd.R_slice hL
  exact ⟨X, Bb, Ba, AN, cN, AL, cL, by rw [hv], hb, b1, b2, b3, hX, hN, hL, hB, hA⟩
theorem graphOf_no {A0 : Option Addr} {c0 : Nat} {g : List S29} {w : World} (hr0 : Kd.C k29 w A0 g.length g) (hc0 : g.length ≤ c0) (hT : Tab w) (h : held g = true) (hv : valid g = false) :
    Calls Tryd.prog 50 #[.slice A0 g.length c0] w fun e w' => ∃ p : Option Addr, e = .returned (.tuple #[.pointer p, .bool false]) ∧ Below w.heap.size w w' := by
  refine (graphOf_held hr0 hc0 hT h).mono ?_
  rintro e w' ⟨p, rfl, hb, hg⟩
  exact ⟨p, by rw [hv], hb⟩

set_option maxHeartbeats 4000000 in
set_option maxRecDepth 100000 in
theorem impl_ValidGraph.calls (A0 : Option Addr) (c0 : Nat) (l0 : List S29) (r : Bool) (w : World) (hr0 : Kd.C k29 w A0 l0.length l0) (hc0 : l0.length ≤ c0) (hT : Tab w) (h : impl_ValidGraph.f l0 = some r) :
    Calls Tryd.prog 29 #[.slice A0 l0.length c0] w fun e w' => e = .returned (.bool r) ∧ Below w.heap.size w w' := by
  obtain ⟨hh, rfl⟩ := of_held h
  have HG := Aside0.mk (graphOf_held hr0 hc0 hT hh)
  clear hr0 hT h
  go_enter Tryd.func29, Tryd.ntmps29
  go_wp2_with (go_at_call 50; refine HG.out.mono ?_; rintro e w' ⟨p, rfl, hb, _⟩)
  go_ret
  exact ⟨rfl, hb⟩

theorem notIn_is (n d : Nat) (hn : n ≤ 8) (hd : d < 256) : Go.bits .andNot .u16 ((2 ^ n - 1 : Nat) : Int) (d : Int) = (notIn n d : Int) := minus_bits (2 ^ n - 1) (by have := two_le hn; omega) d hd
theorem run_set (s : List Nat) (hn : s.length ≤ 8) : ∀ (r : Nat) (l : List Nat) (d : Nat), d < 256 → (run r s l d).2 < 256
  | 0, _, _, h => h
  | r + 1, l, d, h => by
    unfold run
    split
    · rename_i i hi
      have := pickFrom_lt _ _ _ _ hi
      exact run_set s hn r _ _ (or_lt h (pow_lt (by omega)))
    · exact run_set s hn r _ _ h
theorem order_set (s : List Nat) (hn : s.length ≤ 8) : (order s).2 < 256 := run_set s hn _ _ _ (by omega)

end Go.Proofs.YtokikapljmakbaaDoor.H

namespace Go.Proofs.YtokikapljmakbaaDoor.H
open Go.RowKit Go.Shelf Go.Proofs.YtokikapljmakbaaDoorW.PrintWords Go.Proofs.YtokikapljmakbaaDoorW.PrintLast Go.Proofs.YtokikapljmakbaaDoorW.PrintMore Go.Proofs.YtokikapljmakbaaDoor.Q
attribute [local go_sem] Oper.semAt_some
set_option linter.unusedSimpArgs false
set_option linter.unusedVariables false

theorem graph_size {w : World} {X n : Nat} {c0 : Nat} {A0 : Option Addr} {vN vL vB vA : Value} (hX : w.heap[X]? = some (.cells #[.slice A0 n c0, vN, vL, vB, vA] 78 (0, 0))) : Calls Tryd.prog 44 #[.pointer (some ⟨X, 0, none⟩)] w fun e w' => e = .returned (.int .i64 (n : Int)) ∧ w' = w := by
  have hc : w.cell? ⟨X, 0, none⟩ = some (.slice A0 n c0) := cell_of hX rfl
  go_enter Tryd.func44, Tryd.ntmps44
  go_wp2
  go_ret
  exact ⟨rfl, rfl⟩
theorem fine_of {g : List S29} (h : valid g = true) : fine g = true := by
  unfold valid at h
  rw [Bool.and_eq_true] at h
  exact h.1
theorem valid_eight {g : List S29} (h : valid g = true) : g.length ≤ 8 := fine_len (fine_of h)
theorem wrap_len (n : Nat) (h : n ≤ 8) : wrap64 ((n : Int) - 1) = (n : Int) - 1 := by
  unfold wrap64
  omega
theorem needs_geti (g : List S29) (i : Nat) (h : i < g.length) : (ints (needs g))[i]'(by rw [ints_len, needs_len]; exact h) = ((at0 (needs g) i : Nat) : Int) := by
  rw [at0_get _ _ (by rw [needs_len]; exact h)]
  exact List.getElem_map ..
end Go.Proofs.YtokikapljmakbaaDoor.H
