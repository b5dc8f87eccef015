/- All needs of a task as the reference finds them; plain Lean. -/
import Derived.Test.YtamomflollhofaaDoorPureRel
import Derived.Test.YtamomflollhofaaDoorQx15
namespace Go.Proofs.YtamomflollhofaaDoor.H
open Go.RowKit Go.Proofs.YtamomflollhofaaDoorW.PrintWords Go.Proofs.YtamomflollhofaaDoor.Q
set_option linter.unusedVariables false

def addOne (s : List Nat) (k : Nat) : List Nat := if k ∈ s then s else s ++ [k]
theorem add_mem : ∀ (ns s : List Nat) (x : Nat), x ∈ ns.foldl addOne s ↔ x ∈ s ∨ x ∈ ns
  | [], s, x => by simp
  | k :: t, s, x => by
    rw [List.foldl_cons, add_mem t]
    unfold addOne
    by_cases hk : k ∈ s
    · rw [if_pos hk, List.mem_cons]
      constructor
      · rintro (h | h)
        · exact .inl h
        · exact .inr (.inr h)
      · rintro (h | rfl | h)
        · exact .inl h
        · exact .inl hk
        · exact .inr h
    · rw [if_neg hk, List.mem_cons, List.mem_append, List.mem_singleton, or_assoc]
theorem add_nodup : ∀ (ns s : List Nat), s.Nodup → (ns.foldl addOne s).Nodup
  | [], s, h => h
  | k :: t, s, h => by
    rw [List.foldl_cons]
    refine add_nodup t _ ?_
    unfold addOne
    by_cases hk : k ∈ s
    · rw [if_pos hk]
      exact h
    · rw [if_neg hk, List.nodup_append]
      exact ⟨h, by simp, fun a ha b hb => by
        rw [List.mem_singleton] at hb
        rintro rfl
        exact hk (hb ▸ ha)⟩
theorem add_pre : ∀ (ns s : List Nat), s <+: ns.foldl addOne s
  | [], s => List.prefix_refl s
  | k :: t, s => by
    rw [List.foldl_cons]
    refine List.IsPrefix.trans ?_ (add_pre t _)
    unfold addOne
    split
    · exact List.prefix_refl s
    · exact List.prefix_append ..
theorem few_eight {s : List Nat} {n : Nat} (hn : n ≤ 8) (h : s.Nodup) (hl : ∀ x, x ∈ s → x < n) : s.length ≤ 8 := by
  have := nodup_sub s (List.range n) h (fun x hx => List.mem_range.2 (hl x hx))
  rw [List.length_range] at this
  omega
theorem specNeeds_l1 {g : List S32} (h8 : g.length ≤ 8) (a : Int) (i : Nat) (hi8 : i ≤ 8) (R : List Int) (ns : List Nat) (hns : ns.length ≤ 8) (hnl : ∀ x, x ∈ ns → x < g.length) : ∀ (d j : Nat) (s : List Nat), j + d = ns.length → s.Nodup → (∀ x, x ∈ s → x < g.length) →
    Evn (fun k => spec_allNeeds.l0 k g a (ints ((ns.drop j).foldl addOne s)) ((i + 1 : Nat) : Int)) R → Evn (fun k => spec_allNeeds.l1 k g a (ints s) (i : Int) (ints ns) (j : Int)) R
  | 0, j, s, h, _, _, hR => by
    rw [List.drop_of_length_le (by omega)] at hR
    refine Evn.step hR fun k => ?_
    simp only [spec_allNeeds.l1]
    rw [if_neg (by rw [ints_len]; omega), wrap_up i (by omega)]
    rfl
  | d + 1, j, s, h, hn, hl, hR => by
    have hj : j < ns.length := by omega
    have hs8 := few_eight h8 hn hl
    have hk := hnl _ (List.getElem_mem hj)
    rw [List.drop_eq_getElem_cons hj, List.foldl_cons] at hR
    refine Evn.step (g := fun k => (spec_isIn.f k (ints s) ((ns[j] : Nat) : Int)).bind fun b => if b = true then spec_allNeeds.l1 k g a (ints s) (i : Int) (ints ns) ((j + 1 : Nat) : Int) else spec_allNeeds.l1 k g a (ints (s ++ [ns[j]])) (i : Int) (ints ns) ((j + 1 : Nat) : Int)) ?_ fun k => ?_
    · refine Evn.bind (isIn_is (ints s) (by unfold Held; rw [ints_len]; omega) _) ?_
      by_cases hm : ns[j] ∈ s
      · rw [decide_eq_true ((mem_ints s _).2 hm)]
        simp only [if_true]
        unfold addOne at hR
        rw [if_pos hm] at hR
        exact specNeeds_l1 h8 a i hi8 R ns hns hnl d (j + 1) s (by omega) hn hl hR
      · rw [decide_eq_false (fun h => hm ((mem_ints s _).1 h))]
        simp only [Bool.false_eq_true, if_false]
        unfold addOne at hR
        rw [if_neg hm] at hR
        refine specNeeds_l1 h8 a i hi8 R ns hns hnl d (j + 1) (s ++ [ns[j]]) (by omega) ?_ ?_ hR
        · rw [List.nodup_append]
          exact ⟨hn, by simp, fun x hx y hy => by
            rw [List.mem_singleton] at hy
            rintro rfl
            exact hm (hy ▸ hx)⟩
        · intro x hx
          rcases List.mem_append.1 hx with hx | hx
          · exact hl x hx
          · rw [List.mem_singleton] at hx
            rw [hx]
            exact hk
    · simp only [spec_allNeeds.l1]
      rw [if_pos (by rw [ints_len]; omega), if_pos (by omega), rd_ints ns j hj, wrap_up j (by omega), ints_snoc]
      simp only [if_pos (show (ints s).length < 17592186044416 by rw [ints_len]; omega)]
theorem specNeeds_l2 {g : List S32} (h8 : g.length ≤ 8) (a : Nat) (s : List Nat) (hs : s.length ≤ 8) : ∀ (d j : Nat) (x : List Nat), j + d = g.length → x.length ≤ j → Evn (fun k => spec_allNeeds.l2 k g (a : Int) (ints s) (ints x) (j : Int)) (ints (x ++ (List.range' j d).filter fun i => decide (i ≠ a) && decide (i ∈ s)))
  | 0, j, x, h, _ => by
    refine Evn.step (Evn.const rfl) fun k => ?_
    simp only [spec_allNeeds.l2]
    rw [if_neg (by omega)]
    simp
  | d + 1, j, x, h, hx => by
    rw [List.range'_succ, List.filter_cons]
    by_cases hja : j = a
    · subst hja
      rw [if_neg (by simp)]
      refine Evn.step (specNeeds_l2 h8 j s hs d (j + 1) x (by omega) (by omega)) fun k => ?_
      simp only [spec_allNeeds.l2]
      rw [if_pos (by omega), if_pos trivial, wrap_up j (by omega)]
    · refine Evn.step (g := fun k => (spec_isIn.f k (ints s) (j : Int)).bind fun b => if b = true then spec_allNeeds.l2 k g (a : Int) (ints s) (ints (x ++ [j])) ((j + 1 : Nat) : Int) else spec_allNeeds.l2 k g (a : Int) (ints s) (ints x) ((j + 1 : Nat) : Int)) ?_ fun k => ?_
      · refine Evn.bind (isIn_is (ints s) (by unfold Held; rw [ints_len]; omega) _) ?_
        by_cases hm : j ∈ s
        · rw [decide_eq_true ((mem_ints s _).2 hm), if_pos (by simp [hja, hm])]
          simp only [if_true]
          have := specNeeds_l2 h8 a s hs d (j + 1) (x ++ [j]) (by omega) (by rw [List.length_append]; simp; omega)
          rw [List.append_assoc] at this
          exact this
        · rw [decide_eq_false (fun h => hm ((mem_ints s _).1 h)), if_neg (by simp [hm])]
          simp only [Bool.false_eq_true, if_false]
          exact specNeeds_l2 h8 a s hs d (j + 1) x (by omega) (by omega)
      · simp only [spec_allNeeds.l2]
        rw [if_pos (by omega), if_neg (by omega), wrap_up j (by omega), ints_snoc]
        simp only [if_pos (show (ints x).length < 17592186044416 by rw [ints_len]; omega)]
theorem below_list {n : Nat} (hn : n ≤ 8) {s : Nat} (hs : s < 2 ^ n) (p : Nat → Bool) (h : ∀ i, i < n → s.testBit i = p i) : elems s = (List.range' 0 n).filter p := by
  rw [← List.range_eq_range', ← filter_lt n hn, List.filter_filter]
  unfold elems
  refine List.filter_congr fun i hi => ?_
  by_cases hin : i < n
  · rw [h i hin, decide_eq_true hin, Bool.and_true]
  · rw [decide_eq_false hin, Bool.and_false]
    exact Nat.testBit_lt_two_pow (Nat.lt_of_lt_of_le hs (Nat.pow_le_pow_right (n := 2) (by decide) (by omega)))
theorem reach_closed {g : List S32} (hf : fine g = true) {s : List Nat} (hc : ∀ x, x ∈ s → ∀ k, k ∈ nbOf g x → k ∈ s) (hl : ∀ x, x ∈ s → x < g.length) {a b : Nat} (h : Go.Proofs.YtamomflollhofaaDoor.H.Reach g a b) : a ∈ s → b ∈ s := by
  induction h with
  | one h => exact fun ha => hc _ ha _ ((nb_mem hf _ (hl _ ha) _).2 h)
  | more h _ ih => exact fun ha => ih (hc _ ha _ ((nb_mem hf _ (hl _ ha) _).2 h))
theorem specNeeds_l0 {g : List S32} (hv : valid g = true) (a : Nat) (ha : a < g.length) : ∀ (m i : Nat) (s : List Nat), i + m = 9 → i ≤ s.length → a ∈ s → s.Nodup → (∀ x, x ∈ s → x < g.length) → (∀ x, x ∈ s → x = a ∨ Go.Proofs.YtamomflollhofaaDoor.H.Reach g a x) → (∀ x, x ∈ s.take i → ∀ k, k ∈ nbOf g x → k ∈ s) →
    Evn (fun k => spec_allNeeds.l0 k g (a : Int) (ints s) (i : Int)) (rel1 g (a : Int))
  | m, i, s, hm, hi, has, hn, hl, hr, hc => by
    have hf := valid_fine hv
    have h8 := fine_len hf
    have hs8 := few_eight h8 hn hl
    by_cases hd : i < s.length
    · obtain ⟨m, rfl⟩ : ∃ q, m = q + 1 := ⟨m - 1, by omega⟩
      have hx := hl _ (List.getElem_mem hd)
      refine Evn.step (specNeeds_l1 h8 (a : Int) i (by omega) _ (nbOf g s[i]) (nb_len _ _) (fun y hy => nb_lt hf _ hx y hy) (nbOf g s[i]).length 0 s (by omega) hn hl ?_) fun k => ?_
      · rw [List.drop_zero]
        have hpre := add_pre (nbOf g s[i]) s
        have hlen := hpre.length_le
        refine specNeeds_l0 hv a ha m (i + 1) _ (by omega) (by omega) ((add_mem _ _ _).2 (.inl has)) (add_nodup _ _ hn) (fun x hx2 => ?_) (fun x hx2 => ?_) (fun x hx2 k hk => ?_)
        · rcases (add_mem _ _ _).1 hx2 with h | h
          · exact hl x h
          · exact nb_lt hf _ hx x h
        · rcases (add_mem _ _ _).1 hx2 with h | h
          · exact hr x h
          · right
            have h1 := (nb_mem hf _ hx x).1 h
            rcases hr _ (List.getElem_mem hd) with e | e
            · rw [e] at h1
              exact .one h1
            · exact e.trans (.one h1)
        · rw [add_mem]
          have e : (List.foldl addOne s (nbOf g s[i])).take (i + 1) = s.take (i + 1) := by
            obtain ⟨t, ht⟩ := hpre
            rw [← ht, List.take_append_of_le_length (by omega)]
          rw [e, List.take_succ_eq_append_getElem hd] at hx2
          rcases List.mem_append.1 hx2 with h | h
          · exact .inl (hc x h k hk)
          · rw [List.mem_singleton] at h
            subst h
            exact .inr hk
      · have er : rd (ints s) (i : Int) = ((s[i] : Nat) : Int) := rd_ints s i hd
        simp only [spec_allNeeds.l0]
        rw [er, if_pos (by rw [ints_len]; omega), if_pos (by omega), if_pos (by omega), if_pos (by omega), f1_is hf _ hx]
        rfl
    · have hie : i = s.length := by omega
      rw [hie, List.take_length] at hc
      refine Evn.step (g := fun k => spec_allNeeds.l2 k g (a : Int) (ints s) (ints []) ((0 : Nat) : Int)) ((specNeeds_l2 h8 a s hs8 g.length 0 [] (by omega) (Nat.le_refl _)).cast ?_) fun k => ?_
      · rw [rel1_is hv a ha, below_list h8 ((known_sets hf).1.at a) (fun i => decide (i ≠ a) && decide (i ∈ s))]
        · rfl
        · intro j hj
          have hk := (known_is hv a j ha hj).1
          rw [Bool.eq_iff_iff, hk]
          simp only [Bool.and_eq_true, decide_eq_true_eq]
          constructor
          · intro h
            refine ⟨fun e => ?_, reach_closed hf hc hl h has⟩
            subst e
            have ho := order_facts hf
            exact Reach.irrefl ho (full_all ho.nodup ho.lt (by rw [valid_all hv]; exact Nat.le_refl _) j hj) h
          · rintro ⟨h1, h2⟩
            rcases hr j h2 with e | e
            · exact absurd e h1
            · exact e
      · simp only [spec_allNeeds.l0]
        rw [if_neg (by rw [ints_len]; omega)]
        rfl
theorem specNeeds_is {g : List S32} (hv : valid g = true) (a : Nat) (ha : a < g.length) : Evn (fun k => spec_allNeeds.f k g (a : Int)) (rel1 g (a : Int)) := by
  have := specNeeds_l0 hv a ha 9 0 [a] (by omega) (Nat.zero_le _) List.mem_cons_self (by simp) (fun x hx => by rw [List.mem_singleton] at hx; omega) (fun x hx => by rw [List.mem_singleton] at hx; exact .inl hx) (fun x hx => by simp at hx)
  unfold spec_allNeeds.f
  exact this
end Go.Proofs.YtamomflollhofaaDoor.H
