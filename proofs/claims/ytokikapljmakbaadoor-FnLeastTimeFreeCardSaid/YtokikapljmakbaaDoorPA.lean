/- 'From some number of rounds on, it answers r': how the pure functions' fuel is done away with; plain Lean. What the reference's functions of graphs answer: the same as the program's, for all graphs whose lists a machine can hold; plain Lean. The reference's order of a graph is the program's, and so is what is valid; plain Lean. What an order of tasks is: each task comes behind its needs, the least that may come comes next, and at the end none may; plain Lean. What valid graphs are; plain Lean. Ascending lists of numbers below eight; plain Lean. -/
import Derived.Test.YtokikapljmakbaaDoorHM
import Derived.Test.YtokikapljmakbaaDoorQx12
import Derived.Test.YtokikapljmakbaaDoorQx13
namespace Go.Proofs.YtokikapljmakbaaDoor.H
open Go.RowKit Go.Proofs.YtokikapljmakbaaDoorW.PrintWords

def Evn {α : Type} (f : Nat → Option α) (r : α) : Prop := ∃ K, ∀ k, K ≤ k → f k = some r
theorem Evn.const {α : Type} {f : Option α} {r : α} (h : f = some r) : Evn (fun _ => f) r := ⟨0, fun _ _ => h⟩
theorem Evn.at_ {α : Type} {f : Nat → Option α} {r : α} (h : Evn f r) : ∃ k, f k = some r := by
  obtain ⟨K, hK⟩ := h
  exact ⟨K, hK K (Nat.le_refl _)⟩
theorem Evn.bind {α β : Type} {f : Nat → Option α} {a : α} {g : Nat → α → Option β} {r : β} (h1 : Evn f a) (h2 : Evn (fun k => g k a) r) : Evn (fun k => (f k).bind (g k)) r := by
  obtain ⟨K1, h1⟩ := h1
  obtain ⟨K2, h2⟩ := h2
  exact ⟨max K1 K2, fun k hk => by show (f k).bind (g k) = some r; rw [h1 k (by omega)]; exact h2 k (by omega)⟩
theorem Evn.step {α : Type} {f g : Nat → Option α} {r : α} (h : Evn g r) (he : ∀ k, f (k + 1) = g k) : Evn f r := by
  obtain ⟨K, h⟩ := h
  refine ⟨K + 1, fun k hk => ?_⟩
  obtain ⟨j, rfl⟩ : ∃ j, k = j + 1 := ⟨k - 1, by omega⟩
  rw [he, h j (by omega)]
theorem Evn.congr {α : Type} {f g : Nat → Option α} {r : α} (h : Evn g r) (he : ∀ k, f k = g k) : Evn f r := by
  obtain ⟨K, h⟩ := h
  exact ⟨K, fun k hk => by rw [he, h k hk]⟩
theorem Evn.cast {α : Type} {f : Nat → Option α} {r r' : α} (h : Evn f r) (he : r = r') : Evn f r' := he ▸ h
theorem Evn.both {α β : Type} {f : Nat → Option α} {g : Nat → Option β} {a : α} {b : β} (h1 : Evn f a) (h2 : Evn g b) : ∃ k, f k = some a ∧ g k = some b := by
  obtain ⟨K1, h1⟩ := h1
  obtain ⟨K2, h2⟩ := h2
  exact ⟨max K1 K2, h1 _ (by omega), h2 _ (by omega)⟩
/-- A loop over a list by an index, that stops at the first element that is not good. -/
theorem Evn.every {β : Type} (n : Nat) (hn : n ≤ 9223372036854775807) (L : Nat → Int → Option β) (good : Nat → Bool) (yes no : β) (hend : Evn (fun k => L k (n : Int)) yes)
    {lo : Nat} (hstep : ∀ i : Nat, lo ≤ i → i < n → ∀ r : β, (good i = true → Evn (fun k => L k ((i + 1 : Nat) : Int)) r) → (good i = false → r = no) → Evn (fun k => L k (i : Int)) r) :
    ∀ d i : Nat, lo ≤ i → i + d = n → Evn (fun k => L k (i : Int)) (if (List.range' i d).all good = true then yes else no)
  | 0, i, _, h => by
    obtain rfl : i = n := by omega
    exact hend
  | d + 1, i, h0, h => by
    refine hstep i h0 (by omega) _ (fun hg => ?_) (fun hg => ?_)
    · have := Evn.every n hn L good yes no hend hstep d (i + 1) (by omega) (by omega)
      refine this.cast ?_
      rw [List.range'_succ, List.all_cons, hg, Bool.true_and]
    · rw [List.range'_succ, List.all_cons, hg]
      rfl
theorem range_all {α : Type} (l : List α) (good : Nat → Bool) (p : α → Bool) (h : ∀ i (hi : i < l.length), good i = p l[i]) : (List.range' 0 l.length).all good = l.all p := by
  rw [Bool.eq_iff_iff, List.all_eq_true, List.all_eq_true]
  constructor
  · intro hg x hx
    obtain ⟨i, hi, rfl⟩ := List.getElem_of_mem hx
    rw [← h i hi]
    exact hg i (List.mem_range'_1.2 ⟨by omega, by omega⟩)
  · intro hp i hi
    have := (List.mem_range'_1.1 hi).2
    rw [h i (by omega)]
    exact hp _ (List.getElem_mem _)
theorem wrap_up (i : Nat) (h : i < 9223372036854775807) : wrap64 ((i : Int) + 1) = ((i + 1 : Nat) : Int) := by
  rw [w64 _ (by omega) (by omega)]
  omega
end Go.Proofs.YtokikapljmakbaaDoor.H

namespace Go.Proofs.YtokikapljmakbaaDoor.H
open Go.RowKit Go.Proofs.YtokikapljmakbaaDoorW.PrintWords Go.Proofs.YtokikapljmakbaaDoor.Q

def Held {α : Type} (l : List α) : Prop := l.length ≤ 9223372036854775807
theorem inRange_is (a b c : Int) : spec_inRange.f a b c = some (decide (b ≤ a ∧ a ≤ c)) := by
  unfold spec_inRange.f
  by_cases h : b ≤ a
  · rw [if_pos h]
    simp [h]
  · rw [if_neg h]
    simp [h]
theorem allIn_is (l : List Int) (hl : Held l) (lo hi : Int) : Evn (fun k => spec_allIn.f k l lo hi) (l.all fun x => decide (lo ≤ x ∧ x ≤ hi)) := by
  have h := Evn.every l.length hl (fun k i => spec_allIn.l0 k l lo hi i) (fun i => decide (lo ≤ rd l i ∧ rd l i ≤ hi)) true false
    (Evn.step (Evn.const rfl) fun k => by
      simp only [spec_allIn.l0]
      rw [if_neg (by omega)])
    (fun i _ hi' r hy hn => by
      refine Evn.step (g := fun k => if decide (lo ≤ rd l i ∧ rd l i ≤ hi) = true then spec_allIn.l0 k l lo hi ((i + 1 : Nat) : Int) else some false) ?_ fun k => ?_
      · cases hg : decide (lo ≤ rd l i ∧ rd l i ≤ hi)
        · rw [hn hg]
          exact Evn.const rfl
        · exact hy hg
      · simp only [spec_allIn.l0]
        rw [if_pos (by omega), if_pos (by omega), inRange_is, wrap_up i (by unfold Held at hl; omega)]
        rfl)
    l.length 0 (Nat.le_refl _) (by omega)
  rw [range_all l _ (fun x => decide (lo ≤ x ∧ x ≤ hi)) (fun i hi' => by simp only [rd_get l i hi'])] at h
  refine h.cast ?_
  cases (l.all fun x => decide (lo ≤ x ∧ x ≤ hi)) <;> rfl
def climbs (l : List Int) : Bool := (List.range' 1 (l.length - 1)).all fun i => decide (rd l ((i - 1 : Nat) : Int) < rd l i)
theorem ascends_is (l : List Int) (hl : Held l) : Evn (fun k => spec_ascends.f k l) (climbs l) := by
  rcases Nat.eq_zero_or_pos l.length with h0 | h0
  · have e : climbs l = true := by
      unfold climbs
      rw [h0]
      rfl
    rw [e]
    refine Evn.step (g := fun _ => some true) (Evn.const rfl) fun k => ?_
    unfold spec_ascends.f
    simp only [spec_ascends.l0]
    rw [if_neg (by omega)]
  · have h := Evn.every l.length hl (fun k i => spec_ascends.l0 k l i) (fun i => decide (rd l ((i - 1 : Nat) : Int) < rd l i)) true false
      (Evn.step (Evn.const rfl) fun k => by
        simp only [spec_ascends.l0]
        rw [if_neg (by omega)])
      (lo := 1) (fun i hi1 hi' r hy hn => by
        have e : wrap64 ((i : Int) - 1) = ((i - 1 : Nat) : Int) := by
          unfold Held at hl
          rw [w64 _ (by omega) (by omega)]
          omega
        refine Evn.step (g := fun k => if decide (rd l ((i - 1 : Nat) : Int) < rd l i) = true then spec_ascends.l0 k l ((i + 1 : Nat) : Int) else some false) ?_ fun k => ?_
        · cases hg : decide (rd l ((i - 1 : Nat) : Int) < rd l i)
          · rw [hn hg]
            exact Evn.const rfl
          · exact hy hg
        · simp only [spec_ascends.l0]
          rw [if_pos (by omega), if_pos (by omega), e, if_pos (by omega), if_pos (by omega), wrap_up i (by unfold Held at hl; omega)]
          by_cases hc : rd l ((i - 1 : Nat) : Int) < rd l i
          · rw [if_neg (by omega), if_pos (by simpa using hc)]
          · rw [if_pos (by omega), if_neg (by simpa using hc)])
      (l.length - 1) 1 (Nat.le_refl _) (by omega)
    refine h.cast ?_
    unfold climbs
    cases (List.range' 1 (l.length - 1)).all fun i => decide (rd l ((i - 1 : Nat) : Int) < rd l i) <;> rfl

/-- Within bounds and ascending: what the program asks in one go. -/
theorem climbs_cons (x : Int) (t : List Int) : climbs (x :: t) = ((match t with | [] => true | y :: _ => decide (x < y)) && climbs t) := by
  cases t with
  | nil => rfl
  | cons y u =>
    unfold climbs
    simp only [List.length_cons, Nat.add_sub_cancel]
    rw [List.range'_succ, List.all_cons]
    congr 1
    rw [Bool.eq_iff_iff, List.all_eq_true, List.all_eq_true]
    have e : ∀ i : Nat, rd (x :: y :: u) ((i + 1 : Nat) : Int) = rd (y :: u) (i : Int) := fun i => by
      unfold rd
      simp
    constructor
    · intro h i hi
      have hi2 := List.mem_range'_1.1 hi
      have := h (i + 1) (List.mem_range'_1.2 ⟨by omega, by omega⟩)
      rw [Nat.add_sub_cancel, e] at this
      have e2 := e (i - 1)
      rw [show i - 1 + 1 = i by omega] at e2
      rw [e2] at this
      exact this
    · intro h i hi
      have hi2 := List.mem_range'_1.1 hi
      have := h (i - 1) (List.mem_range'_1.2 ⟨by omega, by omega⟩)
      have e1 := e (i - 1)
      have e2 := e (i - 1 - 1)
      rw [show i - 1 + 1 = i by omega] at e1
      rw [show i - 1 - 1 + 1 = i - 1 by omega] at e2
      rw [e1, e2]
      exact this
theorem asc_is (n : Nat) : ∀ (l : List Int) (lo : Int), (asc n lo l = true) ↔ ((∀ x, x ∈ l → lo ≤ x ∧ x ≤ (n : Int) - 1) ∧ climbs l = true)
  | [], lo => by simp [asc]; rfl
  | x :: t, lo => by
    rw [asc, Bool.and_eq_true, decide_eq_true_eq, asc_is n t (x + 1), climbs_cons, Bool.and_eq_true]
    constructor
    · rintro ⟨hx, ht, hc⟩
      refine ⟨fun y hy => ?_, ?_, hc⟩
      · rcases List.mem_cons.1 hy with rfl | hy
        · exact hx
        · have := ht y hy
          omega
      · cases t with
        | nil => rfl
        | cons y u =>
          have := ht y List.mem_cons_self
          simp
          omega
    · rintro ⟨hb, hf, hc⟩
      refine ⟨hb x List.mem_cons_self, fun y hy => ⟨?_, (hb y (List.mem_cons_of_mem _ hy)).2⟩, hc⟩
      cases t with
      | nil => cases hy
      | cons z u =>
        have hxz : x < z := by simpa using hf
        have hz : ∀ (v : List Int) (z y : Int), climbs (z :: v) = true → y ∈ z :: v → z ≤ y := by
          intro v
          induction v with
          | nil =>
            intro z y _ hy
            rcases List.mem_cons.1 hy with rfl | hy
            · omega
            · cases hy
          | cons a v ih =>
            intro z y hc hy
            rw [climbs_cons, Bool.and_eq_true] at hc
            have hza : z < a := by simpa using hc.1
            rcases List.mem_cons.1 hy with rfl | hy
            · omega
            · have := ih a y hc.2 hy
              omega
        have := hz u z y hc hy
        omega
theorem asc_eq (n : Nat) (l : List Int) : ((l.all fun x => decide (0 ≤ x ∧ x ≤ (n : Int) - 1)) && climbs l) = asc n 0 l := by
  rw [Bool.eq_iff_iff, asc_is, Bool.and_eq_true, List.all_eq_true]
  simp only [decide_eq_true_eq]
theorem validTask_is (n : Nat) (hn : n ≤ 9223372036854775807) (t : S29) (ht : Held t.f1) : Evn (fun k => spec_validTask.f k t.f0 t.f1 t.f2 t.f3 (n : Int)) (okTask n t) := by
  have e : wrap64 ((n : Int) - 1) = (n : Int) - 1 := w64 _ (by omega) (by omega)
  unfold spec_validTask.f okTask
  rw [← asc_eq]
  simp only [inRange_is, Option.bind_some, e]
  by_cases h1 : 1 ≤ t.f0 ∧ t.f0 ≤ 20
  · by_cases h2 : 0 ≤ t.f2 ∧ t.f2 ≤ 2
    · by_cases h3 : 1 ≤ t.f3 ∧ t.f3 ≤ 4
      · simp only [h1, h2, h3, and_self, decide_true, if_true, Bool.and_true]
        refine Evn.bind (allIn_is t.f1 ht 0 ((n : Int) - 1)) ?_
        cases (t.f1.all fun x => decide (0 ≤ x ∧ x ≤ (n : Int) - 1))
        · exact Evn.const rfl
        · simp only [if_true, Bool.true_and]
          exact Evn.bind (ascends_is t.f1 ht) (Evn.const rfl)
      · simp only [h1, h2, h3, and_self, decide_true, if_true, decide_false, Bool.and_false]
        exact Evn.const rfl
    · simp only [h1, h2, and_self, decide_true, if_true, decide_false, Bool.and_false, Bool.false_and]
      exact Evn.const rfl
  · simp only [h1, decide_false, Bool.and_false, Bool.false_and]
    exact Evn.const rfl
theorem tasksFine_is (g : List S29) (hg : Held g) (ht : ∀ t, t ∈ g → Held t.f1) : Evn (fun k => spec_tasksFine.f k g) (fine g) := by
  have h := Evn.every g.length hg (fun k i => spec_tasksFine.l0 k g i) (fun i => okTask g.length (rd_T29 g i)) (decide ((g.length : Int) ≤ 8)) false
    (Evn.step (Evn.const rfl) fun k => by
      simp only [spec_tasksFine.l0]
      rw [if_neg (by omega)])
    (lo := 0) (fun i _ hi r hy hn => by
      have hm : rd_T29 g i ∈ g := by
        rw [rd_task g i hi]
        exact List.getElem_mem _
      refine Evn.step (g := fun k => (spec_validTask.f k (rd_T29 g i).f0 (rd_T29 g i).f1 (rd_T29 g i).f2 (rd_T29 g i).f3 (g.length : Int)).bind fun b => if b = true then spec_tasksFine.l0 k g ((i + 1 : Nat) : Int) else some false) ?_ fun k => ?_
      · refine Evn.bind (validTask_is g.length hg _ (ht _ hm)) ?_
        cases hg : okTask g.length (rd_T29 g i)
        · rw [hn hg]
          exact Evn.const rfl
        · exact hy hg
      · simp only [spec_tasksFine.l0]
        rw [if_pos (by omega), if_pos (by omega), wrap_up i (by unfold Held at hg; omega)])
    g.length 0 (Nat.le_refl _) (by omega)
  rw [range_all g _ (fun t => okTask g.length t) (fun i hi' => by simp only [rd_task g i hi'])] at h
  refine h.cast ?_
  unfold fine
  rw [show decide ((g.length : Int) ≤ 8) = decide (g.length ≤ 8) by rw [decide_eq_decide]; omega]
  cases g.all (okTask g.length) <;> simp
end Go.Proofs.YtokikapljmakbaaDoor.H

namespace Go.Proofs.YtokikapljmakbaaDoor.H
open Go.RowKit Go.Proofs.YtokikapljmakbaaDoorW.PrintWords Go.Proofs.YtokikapljmakbaaDoor.Q

theorem isIn_is (l : List Int) (hl : Held l) (x : Int) : Evn (fun k => spec_isIn.f k l x) (decide (x ∈ l)) := by
  have h := Evn.every l.length hl (fun k i => spec_isIn.l0 k l x i) (fun i => !decide (rd l i = x)) false true
    (Evn.step (Evn.const rfl) fun k => by
      simp only [spec_isIn.l0]
      rw [if_neg (by omega)])
    (lo := 0) (fun i _ hi r hy hn => by
      refine Evn.step (g := fun k => if rd l i = x then some true else spec_isIn.l0 k l x ((i + 1 : Nat) : Int)) ?_ fun k => ?_
      · by_cases hc : rd l i = x
        · simp only [hc, if_true]
          rw [hn (by simp [hc])]
          exact Evn.const rfl
        · simp only [hc, if_false]
          exact hy (by simp [hc])
      · simp only [spec_isIn.l0]
        rw [if_pos (by omega), if_pos (by omega), wrap_up i (by unfold Held at hl; omega)])
    l.length 0 (Nat.le_refl _) (by omega)
  rw [range_all l _ (fun y => !decide (y = x)) (fun i hi => by simp only [rd_get l i hi])] at h
  refine h.cast ?_
  rw [show (l.all fun y => !decide (y = x)) = !decide (x ∈ l) by
    rw [Bool.eq_iff_iff, List.all_eq_true]
    simp only [Bool.not_eq_true', decide_eq_false_iff_not]
    exact ⟨fun h hx => h x hx rfl, fun h y hy e => h (e ▸ hy)⟩]
  cases decide (x ∈ l) <;> rfl
theorem allDone_is (l ds : List Int) (hl : Held l) (hd : Held ds) : Evn (fun k => spec_allDone.f k l ds) (l.all fun x => decide (x ∈ ds)) := by
  have h := Evn.every l.length hl (fun k i => spec_allDone.l0 k l ds i) (fun i => decide (rd l i ∈ ds)) true false
    (Evn.step (Evn.const rfl) fun k => by
      simp only [spec_allDone.l0]
      rw [if_neg (by omega)])
    (lo := 0) (fun i _ hi r hy hn => by
      refine Evn.step (g := fun k => (spec_isIn.f k ds (rd l i)).bind fun b => if b = true then spec_allDone.l0 k l ds ((i + 1 : Nat) : Int) else some false) ?_ fun k => ?_
      · refine Evn.bind (isIn_is ds hd (rd l i)) ?_
        cases hg : decide (rd l i ∈ ds)
        · rw [hn hg]
          exact Evn.const rfl
        · exact hy hg
      · simp only [spec_allDone.l0]
        rw [if_pos (by omega), if_pos (by omega), wrap_up i (by unfold Held at hl; omega)])
    l.length 0 (Nat.le_refl _) (by omega)
  rw [range_all l _ (fun x => decide (x ∈ ds)) (fun i hi => by simp only [rd_get l i hi])] at h
  refine h.cast ?_
  cases (l.all fun x => decide (x ∈ ds)) <;> rfl

/-- A list of numbers and the set that holds just these. -/
structure Same (l : List Nat) (d : Nat) : Prop where mk :: (lt : d < 256) (eq : ∀ i, i < 8 → d.testBit i = decide (i ∈ l))
theorem mem_ints (l : List Nat) (i : Nat) : ((i : Int) ∈ ints l) ↔ i ∈ l := by
  unfold ints
  rw [List.mem_map]
  constructor
  · rintro ⟨j, hj, e⟩
    obtain rfl : j = i := by omega
    exact hj
  · exact fun h => ⟨i, h, rfl⟩
theorem bits_zero (x : Nat) (hx : x < 256) : ((x == 0) = true) ↔ ∀ i, i < 8 → x.testBit i = false := by
  rw [beq_iff_eq]
  constructor
  · rintro rfl i _
    exact Nat.zero_testBit i
  · intro h
    refine Nat.eq_of_testBit_eq fun i => ?_
    rw [Nat.zero_testBit]
    by_cases hi : i < 8
    · exact h i hi
    · exact Nat.testBit_lt_two_pow (Nat.lt_of_lt_of_le hx (Nat.pow_le_pow_right (n := 2) (by decide) (show 8 ≤ i by omega)))
/-- All needs are in the list: no bit of theirs is missing in the set. -/
theorem done_is (n : Nat) (hn : n ≤ 8) (f : List Int) (ha : asc n 0 f = true) (l : List Nat) (d : Nat) (h : Same l d) : (f.all fun x => decide (x ∈ ints l)) = ((mask f 0 &&& (255 - d)) == 0) := by
  have hm := mask_lt n hn f 0 0 (Int.le_refl _) ha (by omega)
  rw [Bool.eq_iff_iff, bits_zero _ (Nat.and_lt_two_pow (n := 8) _ (by omega)), List.all_eq_true]
  have hb := (asc_is n f 0).1 ha |>.1
  constructor
  · intro hf i hi
    rw [Nat.testBit_and, minus_test d h.lt i hi, h.eq i hi, mask_test n f 0 0 i (Int.le_refl _) ha, Nat.zero_testBit, Bool.false_or]
    by_cases hc : (i : Int) ∈ f
    · have := hf _ hc
      rw [decide_eq_true_eq, mem_ints] at this
      simp [this]
    · simp [hc]
  · intro hz x hx
    have hx2 := hb x hx
    obtain ⟨i, rfl⟩ : ∃ i : Nat, x = (i : Int) := ⟨x.toNat, by omega⟩
    have := hz i (by omega)
    rw [Nat.testBit_and, minus_test d h.lt i (by omega), h.eq i (by omega), mask_test n f 0 0 i (Int.le_refl _) ha, Nat.zero_testBit, Bool.false_or] at this
    rw [decide_eq_true_eq, mem_ints]
    simpa [hx] using this
theorem Same.snoc {l : List Nat} {d i : Nat} (h : Same l d) (hi : i < 8) : Same (l ++ [i]) (d ||| 2 ^ i) := by
  refine ⟨or_lt h.lt (pow_lt hi), fun j hj => ?_⟩
  rw [Nat.testBit_or, h.eq j hj, Nat.testBit_two_pow, Bool.eq_iff_iff]
  simp only [Bool.or_eq_true, decide_eq_true_eq, List.mem_append, List.mem_singleton]
  exact or_congr Iff.rfl eq_comm
theorem Same.nil : Same [] 0 := ⟨by omega, fun i _ => by simp⟩
theorem fine_asc {g : List S29} (h : fine g = true) (i : Nat) (hi : i < g.length) : asc g.length 0 g[i].f1 = true := by
  unfold fine at h
  rw [Bool.and_eq_true, List.all_eq_true] at h
  have := h.2 _ (List.getElem_mem hi)
  unfold okTask at this
  rw [Bool.and_eq_true] at this
  exact this.1
theorem asc_len (n : Nat) : ∀ (l : List Int) (lo : Int), asc n lo l = true → (l.length : Int) ≤ (n : Int) - lo ∨ l = []
  | [], _, _ => .inr rfl
  | x :: t, lo, h => by
    rw [asc, Bool.and_eq_true, decide_eq_true_eq] at h
    rcases asc_len n t (x + 1) h.2 with h2 | rfl
    · left
      rw [List.length_cons]
      omega
    · left
      simp
      omega
theorem fine_held {g : List S29} (h : fine g = true) : ∀ t, t ∈ g → t.f1.length ≤ 8 := fun t ht => by
  obtain ⟨i, hi, rfl⟩ := List.getElem_of_mem ht
  have h8 := fine_len h
  rcases asc_len _ _ _ (fine_asc h i hi) with h2 | h2
  · omega
  · rw [h2]
    exact Nat.zero_le _
theorem needs_get (g : List S29) (i : Nat) (hi : i < g.length) : (needs g)[i]'(by rw [needs_len]; exact hi) = mask g[i].f1 0 := List.getElem_map ..
theorem drop_cons {α : Type} (s : List α) (j : Nat) (hj : j < s.length) : s.drop j = s[j] :: s.drop (j + 1) := List.drop_eq_getElem_cons hj
/-- The inner loop, when the next task is found. -/
theorem l1_found (g : List S29) (l : List Nat) (hl : l.length ≤ 8) (i : Nat) (j : Nat) (R : List Int) (hR : Evn (fun k => spec_topOrder.l0 k g (ints l ++ [(i : Int)])) R) : Evn (fun k => spec_topOrder.l1 k g (ints l) (i : Int) (j : Int)) R := by
  refine Evn.step (g := fun k => spec_topOrder.j2 k g (ints l) (i : Int) (j : Int) false) ?_ fun k => ?_
  · refine Evn.step (g := fun k => spec_topOrder.l0 k g (ints l ++ [(i : Int)])) hR fun k => ?_
    simp only [spec_topOrder.j2]
    rw [if_neg (by simp), if_neg (by omega), if_pos (by rw [ints_len]; omega)]
  · simp only [spec_topOrder.l1]
    have hd : decide ((i : Int) < 0) = false := decide_eq_false (by omega)
    rw [hd]
    split <;> rfl
theorem l1_is (g : List S29) (hf : fine g = true) (l : List Nat) (d : Nat) (hl : l.length ≤ 8) (hs : Same l d) (R : List Int) (hR : ∀ i, pickFrom (needs g) 0 d = some i → Evn (fun k => spec_topOrder.l0 k g (ints l ++ [(i : Int)])) R) (hN : pickFrom (needs g) 0 d = none → R = ints l) :
    ∀ m j : Nat, j + m = g.length → pickFrom (needs g) 0 d = pickFrom ((needs g).drop j) j d → Evn (fun k => spec_topOrder.l1 k g (ints l) (-1) (j : Int)) R
  | 0, j, hj, hp => by
    rw [List.drop_eq_nil_of_le (by rw [needs_len]; omega), pickFrom] at hp
    rw [hN hp]
    refine Evn.step (g := fun k => spec_topOrder.j2 k g (ints l) (-1) (j : Int) false) ?_ fun k => ?_
    · refine Evn.step (g := fun _ => some (ints l)) (Evn.const rfl) fun k => ?_
      simp only [spec_topOrder.j2]
      rw [if_neg (by simp), if_pos (by omega)]
    · simp only [spec_topOrder.l1]
      rw [if_neg (by omega)]
  | m + 1, j, hj, hp => by
    have h8 := fine_len hf
    have hjl : j < (needs g).length := by rw [needs_len]; omega
    rw [drop_cons _ j hjl, pickFrom] at hp
    have hb := hs.eq j (by omega)
    have hd := done_is g.length h8 _ (fine_asc hf j (by omega)) l d hs
    have e : free (needs g)[j] d j = (!decide (j ∈ l) && (g[j].f1.all fun x => decide (x ∈ ints l))) := by
      unfold free
      rw [hb, hd, needs_get g j (by omega)]
    refine Evn.step (g := fun k => spec_topOrder.j2 k g (ints l) (-1) (j : Int) true) ?_ fun k => ?_
    · refine Evn.step (g := fun k => (spec_isIn.f k (ints l) (j : Int)).bind fun b => if b = true then spec_topOrder.l1 k g (ints l) (-1) ((j + 1 : Nat) : Int) else (spec_allDone.f k g[j].f1 (ints l)).bind fun c => if c = true then spec_topOrder.l1 k g (ints l) (j : Int) ((j + 1 : Nat) : Int) else spec_topOrder.l1 k g (ints l) (-1) ((j + 1 : Nat) : Int)) ?_ fun k => ?_
      · refine Evn.bind (isIn_is (ints l) (by unfold Held; rw [ints_len]; omega) (j : Int)) ?_
        by_cases hm : j ∈ l
        · rw [show decide ((j : Int) ∈ ints l) = true from decide_eq_true ((mem_ints l j).2 hm)]
          simp only [if_true]
          refine l1_is g hf l d hl hs R hR hN m (j + 1) (by omega) (hp.trans (if_neg ?_))
          rw [e]
          simp [hm]
        · rw [show decide ((j : Int) ∈ ints l) = false from decide_eq_false (fun h => hm ((mem_ints l j).1 h))]
          simp only [if_false, Bool.false_eq_true]
          refine Evn.bind (allDone_is g[j].f1 (ints l) (by have := fine_held hf _ (List.getElem_mem (show j < g.length by omega)); unfold Held; omega) (by unfold Held; rw [ints_len]; omega)) ?_
          cases hc : (g[j].f1.all fun x => decide (x ∈ ints l))
          · simp only [if_false, Bool.false_eq_true]
            refine l1_is g hf l d hl hs R hR hN m (j + 1) (by omega) (hp.trans (if_neg ?_))
            rw [e, hc]
            simp
          · simp only [if_true]
            exact l1_found g l hl j (j + 1) R (hR j (hp.trans (if_pos (by rw [e, hc]; simp [hm]))))
      · simp only [spec_topOrder.j2]
        rw [if_pos trivial]
        simp only [if_pos (show (0 : Int) ≤ (j : Int) by omega), if_pos (show (j : Int) < (g.length : Int) by omega), rd_task g j (by omega), wrap_up j (by omega)]
    · simp only [spec_topOrder.l1]
      rw [if_pos (by omega)]
      rfl
theorem pick_free : ∀ (s : List Nat) (j d i : Nat), pickFrom s j d = some i → j ≤ i ∧ d.testBit i = false
  | [], _, _, _, h => by cases h
  | x :: t, j, d, i, h => by
    rw [pickFrom] at h
    split at h
    · rename_i hc
      cases h
      unfold free at hc
      simp at hc
      exact ⟨Nat.le_refl _, by simpa using hc.1⟩
    · have := pick_free t (j + 1) d i h
      exact ⟨by omega, this.2⟩
theorem pick_none : ∀ (s : List Nat) (j d : Nat), (∀ i, j ≤ i → i < j + s.length → d.testBit i = true) → pickFrom s j d = none
  | [], _, _, _ => rfl
  | x :: t, j, d, h => by
    rw [pickFrom, if_neg, pick_none t (j + 1) d (fun i h1 h2 => h i (by omega) (by rw [List.length_cons]; omega))]
    unfold free
    rw [h j (Nat.le_refl _) (by rw [List.length_cons]; omega)]
    simp
theorem run_none (s : List Nat) (l : List Nat) (d : Nat) (h : pickFrom s 0 d = none) : ∀ r, run r s l d = (l, d)
  | 0 => rfl
  | r + 1 => by rw [run, h]; exact run_none s l d h r
theorem nodup_sub : ∀ (a b : List Nat), a.Nodup → a ⊆ b → a.length ≤ b.length
  | [], _, _, _ => Nat.zero_le _
  | x :: t, b, hn, hs => by
    have hx : x ∈ b := hs List.mem_cons_self
    have hc := List.nodup_cons.1 hn
    have h := nodup_sub t (b.erase x) hc.2 (fun y hy => (List.mem_erase_of_ne (fun (e : y = x) => by subst e; exact hc.1 hy)).2 (hs (List.mem_cons_of_mem _ hy)))
    rw [List.length_erase_of_mem hx] at h
    have := List.length_pos_of_mem hx
    rw [List.length_cons]
    omega
theorem full_all {l : List Nat} {n : Nat} (hn : l.Nodup) (hlt : ∀ x, x ∈ l → x < n) (hlen : n ≤ l.length) : ∀ i, i < n → i ∈ l := by
  intro i hi
  refine Classical.byContradiction fun hc => ?_
  have h1 : (i :: l).Nodup := List.nodup_cons.2 ⟨hc, hn⟩
  have h2 : (i :: l) ⊆ List.range n := fun x hx => by
    rw [List.mem_range]
    rcases List.mem_cons.1 hx with rfl | hx
    · exact hi
    · exact hlt x hx
  have h3 := nodup_sub _ _ h1 h2
  rw [List.length_range, List.length_cons] at h3
  omega
/-- The orders are the same, from any point on. -/
theorem l0_is (g : List S29) (hf : fine g = true) : ∀ (r : Nat) (l : List Nat) (d : Nat), l.length + r = g.length → Same l d → l.Nodup → (∀ x, x ∈ l → x < g.length) → Evn (fun k => spec_topOrder.l0 k g (ints l)) (ints (run r (needs g) l d).1)
  | 0, l, d, hr, hs, hn, hlt => by
    have h8 := fine_len hf
    have hp : pickFrom (needs g) 0 d = none := pick_none _ 0 d (fun i _ hi => by
      rw [needs_len] at hi
      rw [hs.eq i (by omega)]
      exact decide_eq_true (full_all hn hlt (by omega) i (by omega)))
    rw [run_none _ _ _ hp]
    refine Evn.step (l1_is g hf l d (by omega) hs (ints l) (fun i hi => by rw [hp] at hi; cases hi) (fun _ => rfl) g.length 0 (by omega) rfl) fun k => ?_
    simp only [spec_topOrder.l0]
    rfl
  | r + 1, l, d, hr, hs, hn, hlt => by
    have h8 := fine_len hf
    refine Evn.step (l1_is g hf l d (by omega) hs _ (fun i hi => ?_) (fun hi => ?_) g.length 0 (by omega) rfl) fun k => ?_
    · have hlt2 := pickFrom_lt _ _ _ _ hi
      rw [needs_len] at hlt2
      have hfree := (pick_free _ _ _ _ hi).2
      rw [hs.eq i (by omega)] at hfree
      have hnm : ¬ i ∈ l := of_decide_eq_false hfree
      rw [run, hi, ← ints_snoc]
      refine l0_is g hf r (l ++ [i]) (d ||| 2 ^ i) (by rw [List.length_append]; simp; omega) (hs.snoc (by omega)) ?_ ?_
      · rw [List.nodup_append]
        exact ⟨hn, by simp, fun a ha b hb => by
          rw [List.mem_singleton] at hb
          rintro rfl
          exact hnm (hb ▸ ha)⟩
      · intro x hx
        rcases List.mem_append.1 hx with hx | hx
        · exact hlt x hx
        · rw [List.mem_singleton] at hx
          omega
    · rw [run_none _ _ _ hi]
    · simp only [spec_topOrder.l0]
      rfl
theorem topOrder_is (g : List S29) (hf : fine g = true) : Evn (fun k => spec_topOrder.f k g) (ints (order (needs g)).1) := by
  have := l0_is g hf g.length [] 0 (by simp) Same.nil List.nodup_nil (fun x hx => by cases hx)
  unfold order
  rw [needs_len]
  exact this
/-- What an order holds: each task once, and the set of its tasks. -/
theorem run_same (s : List Nat) (hn : s.length ≤ 8) : ∀ (r : Nat) (l : List Nat) (d : Nat), Same l d → l.Nodup → Same (run r s l d).1 (run r s l d).2 ∧ (run r s l d).1.Nodup
  | 0, _, _, hs, hl => ⟨hs, hl⟩
  | r + 1, l, d, hs, hl => by
    rw [run]
    cases hp : pickFrom s 0 d with
    | none => exact run_same s hn r l d hs hl
    | some i =>
      have hlt := pickFrom_lt _ _ _ _ hp
      have hfree := (pick_free _ _ _ _ hp).2
      rw [hs.eq i (by omega)] at hfree
      refine run_same s hn r _ _ (hs.snoc (by omega)) ?_
      rw [List.nodup_append]
      exact ⟨hl, by simp, fun a ha b hb => by
        rw [List.mem_singleton] at hb
        rintro rfl
        exact of_decide_eq_false hfree (hb ▸ ha)⟩
theorem order_same (s : List Nat) (hn : s.length ≤ 8) : Same (order s).1 (order s).2 ∧ (order s).1.Nodup := run_same s hn _ _ _ Same.nil List.nodup_nil
theorem all_of_len (n : Nat) (hn : n ≤ 8) (l : List Nat) (d : Nat) (hs : Same l d) (hl : l.Nodup) (hlt : ∀ x, x ∈ l → x < n) : l.length = n ↔ d = 2 ^ n - 1 := by
  have hd : ∀ i, i < 8 → n ≤ i → d.testBit i = false := fun i hi hni => by
    rw [hs.eq i hi]
    exact decide_eq_false (fun h => by have := hlt i h; omega)
  constructor
  · intro h
    refine Nat.eq_of_testBit_eq fun i => ?_
    rw [Nat.testBit_two_pow_sub_one]
    by_cases hi : i < 8
    · rw [hs.eq i hi]
      by_cases hin : i < n
      · simp [hin, full_all hl hlt (by omega) i hin]
      · rw [decide_eq_false (fun h => hin (hlt i h)), decide_eq_false hin]
    · rw [Nat.testBit_lt_two_pow (Nat.lt_of_lt_of_le hs.lt (Nat.pow_le_pow_right (n := 2) (by decide) (show 8 ≤ i by omega)))]
      simp
      omega
  · rintro rfl
    have h1 : l ⊆ List.range n := fun x hx => List.mem_range.2 (hlt x hx)
    have h2 : List.range n ⊆ l := fun x hx => by
      rw [List.mem_range] at hx
      have := hs.eq x (by omega)
      rw [Nat.testBit_two_pow_sub_one] at this
      simpa [hx] using this.symm
    have a := nodup_sub _ _ hl h1
    have b := nodup_sub _ _ List.nodup_range h2
    rw [List.length_range] at a b
    omega
theorem valid_len (g : List S29) (hf : fine g = true) : valid g = decide ((order (needs g)).1.length = g.length) := by
  have h8 := fine_len hf
  have ho := order_same (needs g) (by rw [needs_len]; exact h8)
  unfold valid
  rw [hf, Bool.true_and, decide_eq_decide]
  exact (all_of_len g.length h8 _ _ ho.1 ho.2 (fun x hx => by have := order_lt (needs g) x hx; rw [needs_len] at this; exact this)).symm
theorem validGraph_is (g : List S29) (hg : Held g) (ht : ∀ t, t ∈ g → Held t.f1) : Evn (fun k => spec_validGraph.f k g) (valid g) := by
  unfold spec_validGraph.f
  refine Evn.bind (tasksFine_is g hg ht) ?_
  by_cases hf : fine g = true
  · simp only [hf, if_true]
    refine Evn.bind (topOrder_is g hf) (Evn.const ?_)
    rw [valid_len g hf, ints_len]
    congr 1
    rw [Bool.eq_iff_iff]
    simp
    omega
  · have hf' : fine g = false := by simpa using hf
    simp only [hf', if_false, Bool.false_eq_true]
    refine Evn.const ?_
    unfold valid
    rw [hf']
    rfl
end Go.Proofs.YtokikapljmakbaaDoor.H

namespace Go.Proofs.YtokikapljmakbaaDoor.H
open Go.RowKit Go.Proofs.YtokikapljmakbaaDoorW.PrintWords Go.Proofs.YtokikapljmakbaaDoor.Q

def setL (l : List Nat) : Nat := l.foldl (fun d i => d ||| 2 ^ i) 0
theorem setL_snoc (l : List Nat) (i : Nat) : setL (l ++ [i]) = setL l ||| 2 ^ i := by
  unfold setL
  rw [List.foldl_append]
  rfl
theorem foldl_same : ∀ (l l0 : List Nat) (d : Nat), Same l0 d → (∀ x, x ∈ l → x < 8) → Same (l0 ++ l) (l.foldl (fun d i => d ||| 2 ^ i) d)
  | [], l0, d, h, _ => by rw [List.append_nil]; exact h
  | i :: t, l0, d, h, hl => by
    have := foldl_same t (l0 ++ [i]) (d ||| 2 ^ i) (h.snoc (hl i List.mem_cons_self)) (fun x hx => hl x (List.mem_cons_of_mem _ hx))
    rw [List.append_assoc] at this
    exact this
theorem setL_same (l : List Nat) (h : ∀ x, x ∈ l → x < 8) : Same l (setL l) := foldl_same l [] 0 Same.nil h
theorem pick_some : ∀ (s : List Nat) (j d i : Nat), pickFrom s j d = some i → ∃ (h : i - j < s.length), j ≤ i ∧ free s[i - j] d i = true ∧ ∀ k (hk : k < i - j), free (s[k]'(by omega)) d (j + k) = false
  | [], _, _, _, h => by cases h
  | x :: t, j, d, i, h => by
    rw [pickFrom] at h
    split at h
    · rename_i hc
      cases h
      refine ⟨by simp, Nat.le_refl _, ?_, fun k hk => by omega⟩
      simpa using hc
    · rename_i hc
      obtain ⟨h1, h2, h3, h4⟩ := pick_some t (j + 1) d i h
      refine ⟨by rw [List.length_cons]; omega, by omega, ?_, fun k hk => ?_⟩
      · have e : i - j = (i - (j + 1)) + 1 := by omega
        simp only [e, List.getElem_cons_succ]
        exact h3
      · cases k with
        | zero => simpa using hc
        | succ k =>
          have := h4 k (by omega)
          simp only [List.getElem_cons_succ]
          rw [show j + (k + 1) = j + 1 + k by omega]
          exact this
theorem pick_none' : ∀ (s : List Nat) (j d : Nat), pickFrom s j d = none → ∀ k (hk : k < s.length), free s[k] d (j + k) = false
  | [], _, _, _, k, hk => by cases hk
  | x :: t, j, d, h, k, hk => by
    rw [pickFrom] at h
    split at h
    · cases h
    · rename_i hc
      cases k with
      | zero => simpa using hc
      | succ k =>
        have := pick_none' t (j + 1) d h k (by rw [List.length_cons] at hk; omega)
        simp only [List.getElem_cons_succ]
        rw [show j + (k + 1) = j + 1 + k by omega]
        exact this
def Steps (s l : List Nat) : Prop := ∀ j (hj : j < l.length), pickFrom s 0 (setL (l.take j)) = some l[j]
theorem run_steps (s : List Nat) : ∀ (r : Nat) (l : List Nat), Steps s l → Steps s (run r s l (setL l)).1 ∧ (run r s l (setL l)).2 = setL (run r s l (setL l)).1 ∧ ((run r s l (setL l)).1.length = l.length + r ∨ pickFrom s 0 (run r s l (setL l)).2 = none)
  | 0, l, h => ⟨h, rfl, .inl rfl⟩
  | r + 1, l, h => by
    rw [run]
    cases hp : pickFrom s 0 (setL l) with
    | none =>
      dsimp only
      rw [run_none s l _ hp]
      exact ⟨h, rfl, .inr hp⟩
    | some i =>
      dsimp only
      rw [← setL_snoc]
      have hs : Steps s (l ++ [i]) := fun j hj => by
        rcases Nat.lt_or_ge j l.length with h1 | h1
        · rw [List.take_append_of_le_length (by omega), List.getElem_append_left h1]
          exact h j h1
        · rw [List.length_append] at hj
          simp only [List.length_cons, List.length_nil] at hj
          obtain rfl : j = l.length := by omega
          rw [List.take_left', List.getElem_concat_length rfl]
          · exact hp
          · rfl
      obtain ⟨a, b, c⟩ := run_steps s r (l ++ [i]) hs
      refine ⟨a, b, c.imp_left (fun e => ?_)⟩
      rw [e, List.length_append]
      simp
      omega
/-- It may come next. -/
def ready (g : List S29) (l : List Nat) (i : Nat) : Bool := !decide (i ∈ l) && (rd_T29 g i).f1.all fun x => decide (x ∈ ints l)
theorem free_ready {g : List S29} (hf : fine g = true) {l : List Nat} {d : Nat} (hs : Same l d) (i : Nat) (hi : i < g.length) : free ((needs g)[i]'(by rw [needs_len]; exact hi)) d i = ready g l i := by
  have h8 := fine_len hf
  unfold free ready
  rw [hs.eq i (by omega), needs_get g i hi, rd_task g i hi, done_is g.length h8 _ (fine_asc hf i hi) l d hs]
structure Ordered (g : List S29) (l : List Nat) : Prop where mk ::
  (nodup : l.Nodup) (lt : ∀ x, x ∈ l → x < g.length) (next : ∀ j (hj : j < l.length), ready g (l.take j) l[j] = true) (least : ∀ j (hj : j < l.length) (k : Nat), k < l[j] → ready g (l.take j) k = false) (last : ∀ k, k < g.length → ready g l k = false)
theorem order_facts {g : List S29} (hf : fine g = true) : Ordered g (order (needs g)).1 := by
  have h8 := fine_len hf
  have hlen := needs_len g
  have hn8 : (needs g).length ≤ 8 := by omega
  obtain ⟨hs, hnd⟩ := order_same (needs g) hn8
  have hlt : ∀ x, x ∈ (order (needs g)).1 → x < g.length := fun x hx => by
    have := order_lt (needs g) x hx
    omega
  obtain ⟨st, e2, hend⟩ := run_steps (needs g) (needs g).length [] (fun j hj => by cases hj)
  have e0 : run (needs g).length (needs g) [] (setL []) = order (needs g) := rfl
  rw [e0] at st e2 hend
  have htk : ∀ j, Same ((order (needs g)).1.take j) (setL ((order (needs g)).1.take j)) := fun j => setL_same _ (fun x hx => by
    have := hlt x (List.mem_of_mem_take hx)
    omega)
  refine ⟨hnd, hlt, fun j hj => ?_, fun j hj k hk => ?_, fun k hk => ?_⟩
  · obtain ⟨h1, _, h3, _⟩ := pick_some _ _ _ _ (st j hj)
    rw [← free_ready hf (htk j) _ (hlt _ (List.getElem_mem hj))]
    exact h3
  · obtain ⟨h1, _, _, h4⟩ := pick_some _ _ _ _ (st j hj)
    have hkl : k < g.length := Nat.lt_trans hk (hlt _ (List.getElem_mem hj))
    rw [← free_ready hf (htk j) k hkl]
    have := h4 k (by omega)
    rw [Nat.zero_add] at this
    exact this
  · rw [← free_ready hf hs k hk]
    rcases hend with hl | hp
    · have hm := full_all hnd hlt (by rw [hl]; simp; omega) k hk
      unfold free
      rw [hs.eq k (by omega), decide_eq_true hm]
      simp
    · have := pick_none' _ _ _ hp k (by omega)
      rw [Nat.zero_add] at this
      exact this
theorem Ordered.notin {g : List S29} {l : List Nat} (h : Ordered g l) (j : Nat) (hj : j < l.length) : ¬ l[j] ∈ l.take j := by
  have := h.next j hj
  unfold ready at this
  rw [Bool.and_eq_true] at this
  simpa using this.1
theorem Ordered.behind {g : List S29} {l : List Nat} (h : Ordered g l) (j : Nat) (hj : j < l.length) : ∀ x, x ∈ (rd_T29 g l[j]).f1 → x ∈ ints (l.take j) := by
  have := h.next j hj
  unfold ready at this
  rw [Bool.and_eq_true, List.all_eq_true] at this
  exact fun x hx => of_decide_eq_true (this.2 x hx)
theorem filter_lt : ∀ n, n ≤ 8 → (List.range 8).filter (fun i => decide (i < n)) = List.range n := by decide
theorem elems_notIn (n : Nat) (hn : n ≤ 8) (l : List Nat) (d : Nat) (hs : Same l d) : elems (notIn n d) = (List.range n).filter (fun i => !decide (i ∈ l)) := by
  rw [← filter_lt n hn, List.filter_filter]
  unfold elems
  refine List.filter_congr (fun i hi => ?_)
  have hi8 := List.mem_range.1 hi
  unfold notIn
  rw [Nat.testBit_and, Nat.testBit_two_pow_sub_one, minus_test d hs.lt i hi8, hs.eq i hi8, Bool.and_comm]
end Go.Proofs.YtokikapljmakbaaDoor.H

namespace Go.Proofs.YtokikapljmakbaaDoor.H
open Go.RowKit Go.Proofs.YtokikapljmakbaaDoorW.PrintWords Go.Proofs.YtokikapljmakbaaDoor.Q

theorem valid_fine {g : List S29} (h : valid g = true) : fine g = true := by
  unfold valid at h
  rw [Bool.and_eq_true] at h
  exact h.1
theorem implValid_is {g : List S29} (h : held g = true) : impl_ValidGraph.f g = some (valid g) := if_pos h
theorem valid_all {g : List S29} (h : valid g = true) : (order (needs g)).1.length = g.length := by
  rw [valid_len g (valid_fine h)] at h
  exact of_decide_eq_true h
end Go.Proofs.YtokikapljmakbaaDoor.H

namespace Go.Proofs.YtokikapljmakbaaDoor.H
open Go.RowKit Go.Proofs.YtokikapljmakbaaDoorW.PrintWords Go.Proofs.YtokikapljmakbaaDoor.Q

/-- An ascending list of numbers below eight is told by its set. -/
theorem asc_list (n : Nat) (hn : n ≤ 8) : ∀ (l : List Int) (lo : Nat), lo ≤ 8 → asc n (lo : Int) l = true → l = ints ((List.range' lo (8 - lo)).filter fun i => decide ((i : Int) ∈ l))
  | [], lo, _, _ => by simp [ints]
  | x :: t, lo, hlo, h => by
    simp only [asc, Bool.and_eq_true, decide_eq_true_eq] at h
    obtain ⟨⟨h0, h1⟩, h2⟩ := h
    obtain ⟨y, rfl⟩ : ∃ y : Nat, x = (y : Int) := ⟨x.toNat, by omega⟩
    have hb := ((asc_is n t ((y : Int) + 1)).1 h2).1
    have ih := asc_list n hn t (y + 1) (by omega) (by exact_mod_cast h2)
    have e : List.range' lo (8 - lo) = List.range' lo (y - lo) ++ y :: List.range' (y + 1) (8 - (y + 1)) := by
      have e1 := List.range'_append_1 (s := lo) (m := y - lo) (n := 8 - y)
      rw [show lo + (y - lo) = y by omega, show y - lo + (8 - y) = 8 - lo by omega, show 8 - y = (8 - (y + 1)) + 1 by omega, List.range'_succ] at e1
      exact e1.symm
    have f1 : (List.range' lo (y - lo)).filter (fun (i : Nat) => decide ((i : Int) ∈ (y : Int) :: t)) = [] := by
      rw [List.filter_eq_nil_iff]
      intro i hi
      rw [List.mem_range'_1] at hi
      simp only [List.mem_cons, decide_eq_true_eq, not_or]
      exact ⟨by omega, fun hm => by have := hb _ hm; omega⟩
    have f2 : (List.range' (y + 1) (8 - (y + 1))).filter (fun (i : Nat) => decide ((i : Int) ∈ (y : Int) :: t)) = (List.range' (y + 1) (8 - (y + 1))).filter (fun (i : Nat) => decide ((i : Int) ∈ t)) := by
      refine List.filter_congr fun i hi => ?_
      rw [List.mem_range'_1] at hi
      refine decide_eq_decide.2 ?_
      rw [List.mem_cons]
      exact ⟨fun h => h.resolve_left (by omega), .inr⟩
    rw [e, List.filter_append, f1, List.nil_append, List.filter_cons, if_pos (by simp), f2]
    show _ = (y : Int) :: ints _
    rw [← ih]
theorem elems_mask (n : Nat) {l : List Int} (h : asc n 0 l = true) : elems (mask l 0) = (List.range' 0 8).filter fun (i : Nat) => decide ((i : Int) ∈ l) := by
  unfold elems
  rw [List.range_eq_range']
  refine List.filter_congr fun i _ => ?_
  rw [mask_test n l 0 0 i (Int.le_refl _) h, Nat.zero_testBit, Bool.false_or]
theorem set_ints (n : Nat) (hn : n ≤ 8) {l : List Int} (h : asc n 0 l = true) : l = ints (elems (mask l 0)) := by
  rw [elems_mask n h]
  exact asc_list n hn l 0 (by omega) h
theorem needs_at (g : List S29) (i : Nat) (h : i < g.length) : at0 (needs g) i = mask g[i].f1 0 := by
  rw [at0_get _ _ (by rw [needs_len]; exact h), needs_get g i h]
end Go.Proofs.YtokikapljmakbaaDoor.H
