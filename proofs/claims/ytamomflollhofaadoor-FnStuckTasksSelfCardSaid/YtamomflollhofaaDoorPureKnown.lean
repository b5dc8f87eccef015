/- What is known of a valid graph: all needs and all users of each task, and what the reference reckons of them; plain Lean. -/
import Derived.Test.YtamomflollhofaaDoorPA
namespace Go.Proofs.YtamomflollhofaaDoor.H
open Go.RowKit Go.Proofs.YtamomflollhofaaDoorW.PrintWords Go.Proofs.YtamomflollhofaaDoor.Q

/-- Task i needs task k, itself or by way of others. -/
inductive Reach (g : List S32) : Nat → Nat → Prop
  | one {i k : Nat} (h : (k : Int) ∈ (rd_T32 g i).f1) : Reach g i k
  | more {i j k : Nat} (h : (j : Int) ∈ (rd_T32 g i).f1) (hr : Reach g j k) : Reach g i k
theorem Reach.trans {g : List S32} {i j k : Nat} (h1 : Reach g i j) (h2 : Reach g j k) : Reach g i k := by
  induction h1 with
  | one h => exact .more h h2
  | more h _ ih => exact .more h (ih h2)
theorem at0_set_same (b : List Nat) (i x : Nat) (hi : i < b.length) : at0 (b.set i x) i = x := by
  unfold at0
  rw [List.getD_eq_getElem?_getD, List.getElem?_set_self hi]
  rfl
theorem at0_set_other (b : List Nat) (i m x : Nat) (h : i ≠ m) : at0 (b.set i x) m = at0 b m := by
  unfold at0
  rw [List.getD_eq_getElem?_getD, List.getD_eq_getElem?_getD, List.getElem?_set_ne h]
theorem at0_zero (n m : Nat) : at0 (List.replicate n 0) m = 0 := by
  unfold at0
  rw [List.getD_eq_getElem?_getD]
  by_cases h : m < n
  · rw [List.getElem?_replicate_of_lt h]
    rfl
  · rw [List.getElem?_eq_none (by rw [List.length_replicate]; omega)]
    rfl
theorem bits1_is (i : Nat) : ∀ (l : List Nat) (b : List Nat), i < b.length → (∀ k, k ∈ l → k ≠ i) → (∀ m, m ≠ i → at0 (l.foldl (bit1 i) b) m = at0 b m) ∧
    ∀ x, (at0 (l.foldl (bit1 i) b) i).testBit x = true ↔ (at0 b i).testBit x = true ∨ ∃ k, k ∈ l ∧ ((at0 b k).testBit x = true ∨ k = x)
  | [], b, _, _ => ⟨fun _ _ => rfl, fun x => by simp⟩
  | k :: t, b, hi, hl => by
    have hk : k ≠ i := hl k List.mem_cons_self
    have hlen : (bit1 i b k).length = b.length := List.length_set ..
    obtain ⟨h1, h2⟩ := bits1_is i t (bit1 i b k) (by rw [hlen]; exact hi) (fun y hy => hl y (List.mem_cons_of_mem _ hy))
    have hot : ∀ m, m ≠ i → at0 (bit1 i b k) m = at0 b m := fun m hm => at0_set_other _ _ _ _ (fun e => hm e.symm)
    have hsame : at0 (bit1 i b k) i = (at0 b i ||| (at0 b k ||| 2 ^ k)) := at0_set_same _ _ _ hi
    refine ⟨fun m hm => (h1 m hm).trans (hot m hm), fun x => ?_⟩
    rw [List.foldl_cons, h2 x, hsame, Nat.testBit_or, Nat.testBit_or, Nat.testBit_two_pow]
    simp only [Bool.or_eq_true, decide_eq_true_eq]
    constructor
    · rintro ((h | h | h) | ⟨y, hy, h⟩)
      · exact .inl h
      · exact .inr ⟨k, List.mem_cons_self, .inl h⟩
      · exact .inr ⟨k, List.mem_cons_self, .inr h⟩
      · rw [hot y (hl y (List.mem_cons_of_mem _ hy))] at h
        exact .inr ⟨y, List.mem_cons_of_mem _ hy, h⟩
    · rintro (h | ⟨y, hy, h⟩)
      · exact .inl (.inl h)
      · rcases List.mem_cons.1 hy with rfl | hy
        · exact .inl (.inr h)
        · refine .inr ⟨y, hy, ?_⟩
          rw [hot y (hl y (List.mem_cons_of_mem _ hy))]
          exact h
theorem bits2_is (i : Nat) : ∀ (l : List Nat) (a : List Nat), (∀ k, k ∈ l → k < a.length) → ∀ m x, (at0 (l.foldl (bit2 i) a) m).testBit x = true ↔ (at0 a m).testBit x = true ∨ (m ∈ l ∧ i = x)
  | [], a, _, m, x => by simp
  | k :: t, a, hl, m, x => by
    have hlen : (bit2 i a k).length = a.length := List.length_set ..
    rw [List.foldl_cons, bits2_is i t (bit2 i a k) (fun y hy => by rw [hlen]; exact hl y (List.mem_cons_of_mem _ hy)) m x]
    by_cases hm : k = m
    · subst hm
      have e : at0 (bit2 i a k) k = (at0 a k ||| 2 ^ i) := at0_set_same _ _ _ (hl k List.mem_cons_self)
      rw [e, Nat.testBit_or, Nat.testBit_two_pow]
      simp only [Bool.or_eq_true, decide_eq_true_eq, List.mem_cons, true_or, true_and]
      constructor
      · rintro ((h | h) | ⟨_, h⟩)
        · exact .inl h
        · exact .inr h
        · exact .inr h
      · rintro (h | h)
        · exact .inl (.inl h)
        · exact .inl (.inr h)
    · have e : at0 (bit2 i a k) m = at0 a m := at0_set_other _ _ _ _ hm
      rw [e, List.mem_cons]
      constructor
      · rintro (h | ⟨h, h2⟩)
        · exact .inl h
        · exact .inr ⟨.inr h, h2⟩
      · rintro (h | ⟨h | h, h2⟩)
        · exact .inl h
        · exact absurd h.symm hm
        · exact .inr ⟨h, h2⟩
theorem needs_mem {g : List S32} (hf : fine g = true) (i : Nat) (hi : i < g.length) (k : Nat) : k ∈ elems (at0 (needs g) i) ↔ (k : Int) ∈ (rd_T32 g i).f1 := by
  have h8 := fine_len hf
  have ha := fine_asc hf i hi
  rw [mem_elems, at0_get _ i (by rw [needs_len]; exact hi), needs_get g i hi, mask_test g.length _ 0 0 k (Int.le_refl _) ha, Nat.zero_testBit, Bool.false_or, decide_eq_true_eq, rd_task g i hi]
  constructor
  · exact fun h => h.2
  · intro h
    have := (asc_is g.length _ 0).1 ha |>.1 _ h
    exact ⟨by omega, h⟩
theorem needs_range {g : List S32} (hf : fine g = true) (i : Nat) (hi : i < g.length) (k : Int) (hk : k ∈ (rd_T32 g i).f1) : 0 ≤ k ∧ k < g.length := by
  rw [rd_task g i hi] at hk
  have := (asc_is g.length _ 0).1 (fine_asc hf i hi) |>.1 _ hk
  omega
theorem Reach.lt {g : List S32} (hf : fine g = true) {i k : Nat} (h : Reach g i k) : i < g.length → k < g.length := by
  induction h with
  | one h => intro hi; have := needs_range hf _ hi _ h; omega
  | more h _ ih => intro hi; exact ih (by have := needs_range hf _ hi _ h; omega)
/-- Where a task stands in the order, all that it needs stands before. -/
theorem Reach.before {g : List S32} {l : List Nat} (ho : Ordered g l) {i k : Nat} (h : Reach g i k) : ∀ j (hj : j < l.length), l[j] = i → k ∈ l.take j := by
  induction h with
  | one h =>
    intro j hj e
    have := ho.behind j hj _ (by rw [e]; exact h)
    exact (mem_ints _ _).1 this
  | more h _ ih =>
    intro j hj e
    have := (mem_ints _ _).1 (ho.behind j hj _ (by rw [e]; exact h))
    obtain ⟨m, hm, e2⟩ := List.getElem_of_mem this
    rw [List.length_take] at hm
    rw [List.getElem_take] at e2
    have := ih m (by omega) e2
    exact List.mem_of_mem_take (i := m) (by rw [List.take_take, Nat.min_eq_left (by omega)]; exact this)
theorem Reach.irrefl {g : List S32} {l : List Nat} (ho : Ordered g l) {i : Nat} (hi : i ∈ l) : ¬ Reach g i i := fun h => by
  obtain ⟨j, hj, e⟩ := List.getElem_of_mem hi
  have := h.before ho j hj e
  have h2 := ho.notin j hj
  rw [e] at h2
  exact h2 this
theorem kn_is {g : List S32} (hf : fine g = true) {l : List Nat} (ho : Ordered g l) : ∀ j, j ≤ l.length → ∀ m x, m < g.length → ((at0 (kn (needs g) l j).1 m).testBit x = true ↔ m ∈ l.take j ∧ Reach g m x) ∧ ((at0 (kn (needs g) l j).2 m).testBit x = true ↔ x ∈ l.take j ∧ Reach g x m)
  | 0, _, m, x, hm => by
    have e : kn (needs g) l 0 = (List.replicate (needs g).length 0, List.replicate (needs g).length 0) := rfl
    rw [e, at0_zero]
    simp
  | j + 1, hj, m, x, hm => by
    have hj' : j < l.length := by omega
    have h8 := fine_len hf
    have ih := kn_is hf ho j (by omega)
    have hil := ho.lt _ (List.getElem_mem hj')
    have hni := ho.notin j hj'
    have hs := kn_sets (needs_sets hf) (fun i hi => ho.lt i hi) j
    have hbef : ∀ k, k ∈ elems (at0 (needs g) l[j]) → k ∈ l.take j := fun k hk => (mem_ints _ _).1 (ho.behind j hj' _ ((needs_mem hf _ hil k).1 hk))
    have hne : ∀ k, k ∈ elems (at0 (needs g) l[j]) → k ≠ l[j] := fun k hk e => hni (e ▸ hbef k hk)
    obtain ⟨b1, b2⟩ := bits1_is l[j] (elems (at0 (needs g) l[j])) (kn (needs g) l j).1 (by rw [hs.1.len]; exact hil) hne
    have hb0 : ∀ x, (at0 (kn (needs g) l j).1 l[j]).testBit x = true ↔ False := fun x => by
      rw [(ih l[j] x hil).1]
      exact ⟨fun h => hni h.1, False.elim⟩
    -- what the task's own set becomes
    have hown : ∀ x, (at0 ((elems (at0 (needs g) l[j])).foldl (bit1 l[j]) (kn (needs g) l j).1) l[j]).testBit x = true ↔ Reach g l[j] x := fun x => by
      rw [b2 x, hb0 x]
      constructor
      · rintro (h | ⟨k, hk, h⟩)
        · exact h.elim
        · have hk2 := (needs_mem hf _ hil k).1 hk
          rcases h with h | rfl
          · exact .more hk2 ((ih k x (ho.lt _ (List.mem_of_mem_take (hbef k hk)))).1.1 h).2
          · exact .one hk2
      · intro h
        right
        cases h with
        | one h => exact ⟨x, (needs_mem hf _ hil x).2 h, .inr rfl⟩
        | @more _ k _ h hr =>
          have hk := (needs_mem hf _ hil k).2 h
          exact ⟨k, hk, .inl ((ih k x (ho.lt _ (List.mem_of_mem_take (hbef k hk)))).1.2 ⟨hbef k hk, hr⟩)⟩
    have hsb := Sets.bits1 l[j] (elems (at0 (needs g) l[j])) hs.1 (fun k hk => ho.lt _ (List.mem_of_mem_take (hbef k hk)))
    have hstep := kn_step (needs g) l j hj'
    rw [hstep, List.take_succ_eq_append_getElem hj']
    unfold know1
    constructor
    · by_cases hmi : m = l[j]
      · subst hmi
        rw [hown x]
        exact ⟨fun h => ⟨List.mem_append_right _ List.mem_cons_self, h⟩, fun h => h.2⟩
      · show (at0 ((elems (at0 (needs g) l[j])).foldl (bit1 l[j]) (kn (needs g) l j).1) m).testBit x = true ↔ _
        rw [b1 m hmi, (ih m x hm).1, List.mem_append, List.mem_singleton]
        simp [hmi]
    · show (at0 ((elems _).foldl (bit2 l[j]) (kn (needs g) l j).2) m).testBit x = true ↔ _
      rw [bits2_is l[j] _ _ (fun k hk => by rw [hs.2.len]; exact elem_lt (hsb.at l[j]) hk) m x, (ih m x hm).2, mem_elems, hown m, List.mem_append, List.mem_singleton]
      constructor
      · rintro (⟨h1, h2⟩ | ⟨⟨_, h1⟩, rfl⟩)
        · exact ⟨.inl h1, h2⟩
        · exact ⟨.inr rfl, h1⟩
      · rintro ⟨h1 | rfl, h2⟩
        · exact .inl ⟨h1, h2⟩
        · exact .inr ⟨⟨by omega, h2⟩, rfl⟩
/-- All needs, and all users. -/
theorem known_is {g : List S32} (hv : valid g = true) (m x : Nat) (hm : m < g.length) (hx : x < g.length) : ((at0 (known (needs g)).1 m).testBit x = true ↔ Reach g m x) ∧ ((at0 (known (needs g)).2 m).testBit x = true ↔ Reach g x m) := by
  have hf : fine g = true := by
    unfold valid at hv
    rw [Bool.and_eq_true] at hv
    exact hv.1
  have ho := order_facts hf
  have hl : (order (needs g)).1.length = g.length := by
    rw [valid_len g hf] at hv
    exact of_decide_eq_true hv
  have := kn_is hf ho (order (needs g)).1.length (Nat.le_refl _) m x hm
  rw [kn_all, List.take_length] at this
  have hmm := full_all ho.nodup ho.lt (by omega) m hm
  have hxm := full_all ho.nodup ho.lt (by omega) x hx
  exact ⟨this.1.trans ⟨fun h => h.2, fun h => ⟨hmm, h⟩⟩, this.2.trans ⟨fun h => h.2, fun h => ⟨hxm, h⟩⟩⟩
end Go.Proofs.YtamomflollhofaaDoor.H
