/- Tasks that can be done together, and what a task waits for: the program's words and the reference's; plain Lean. -/
import Derived.Test.YtegogaokcafpjaaDoorPV
import Derived.Test.YtegogaokcafpjaaDoorHDone
import Derived.Test.YtegogaokcafpjaaDoorQx29
namespace Go.Proofs.YtegogaokcafpjaaDoor.H
open Go.RowKit Go.Proofs.YtegogaokcafpjaaDoorW.PrintWords Go.Proofs.YtegogaokcafpjaaDoor.Q

/-- An ascending list of numbers below eight is told by its set. -/
theorem asc_list (n : Nat) (hn : n ≤ 8) : ∀ (l : List Int) (lo : Nat), lo ≤ 8 → asc n (lo : Int) l = true → l = ints ((List.range' lo (8 - lo)).filter fun i => decide ((i : Int) ∈ l))
  | [], lo, _, _ => by simp [ints]
  | x :: t, lo, hlo, h => by
    simp only [asc, Bool.and_eq_true, decide_eq_true_eq] at h
    obtain ⟨⟨h0, h1⟩, h2⟩ := h
    obtain ⟨y, rfl⟩ : ∃ y : Nat, x = (y : Int) := ⟨x.toNat, by omega⟩
    have hb := ((asc_is n t ((y : Int) + 1)).1 h2).1
    have ih := asc_list n hn t (y + 1) (by omega) (by exact_mod_cast h2)
    have e : List.range' lo (8 - lo) = List.range' lo (y - lo) ++ y :: List.range' (y + 1) (8 - (y + 1)) := by
      have e1 := List.range'_append_1 (s := lo) (m := y - lo) (n := 8 - y)
      rw [show lo + (y - lo) = y by omega, show y - lo + (8 - y) = 8 - lo by omega, show 8 - y = (8 - (y + 1)) + 1 by omega, List.range'_succ] at e1
      exact e1.symm
    have f1 : (List.range' lo (y - lo)).filter (fun (i : Nat) => decide ((i : Int) ∈ (y : Int) :: t)) = [] := by
      rw [List.filter_eq_nil_iff]
      intro i hi
      rw [List.mem_range'_1] at hi
      simp only [List.mem_cons, decide_eq_true_eq, not_or]
      exact ⟨by omega, fun hm => by have := hb _ hm; omega⟩
    have f2 : (List.range' (y + 1) (8 - (y + 1))).filter (fun (i : Nat) => decide ((i : Int) ∈ (y : Int) :: t)) = (List.range' (y + 1) (8 - (y + 1))).filter (fun (i : Nat) => decide ((i : Int) ∈ t)) := by
      refine List.filter_congr fun i hi => ?_
      rw [List.mem_range'_1] at hi
      refine decide_eq_decide.2 ?_
      rw [List.mem_cons]
      exact ⟨fun h => h.resolve_left (by omega), .inr⟩
    rw [e, List.filter_append, f1, List.nil_append, List.filter_cons, if_pos (by simp), f2]
    show _ = (y : Int) :: ints _
    rw [← ih]
theorem elems_mask (n : Nat) {l : List Int} (h : asc n 0 l = true) : elems (mask l 0) = (List.range' 0 8).filter fun (i : Nat) => decide ((i : Int) ∈ l) := by
  unfold elems
  rw [List.range_eq_range']
  refine List.filter_congr fun i _ => ?_
  rw [mask_test n l 0 0 i (Int.le_refl _) h, Nat.zero_testBit, Bool.false_or]
theorem set_ints (n : Nat) (hn : n ≤ 8) {l : List Int} (h : asc n 0 l = true) : l = ints (elems (mask l 0)) := by
  rw [elems_mask n h]
  exact asc_list n hn l 0 (by omega) h
theorem mask_same (n : Nat) (hn : n ≤ 8) {l : List Int} (h : asc n 0 l = true) : Same (elems (mask l 0)) (mask l 0) := by
  refine ⟨mask_lt n hn l 0 0 (Int.le_refl _) h (by omega), fun i hi => ?_⟩
  unfold elems
  rw [Bool.eq_iff_iff, decide_eq_true_eq, List.mem_filter, List.mem_range]
  exact ⟨fun h => ⟨hi, h⟩, fun h => h.2⟩
theorem elems_minus (a b : Nat) (hb : b < 256) : elems (a &&& (255 - b)) = (elems a).filter fun i => !b.testBit i := by
  unfold elems
  rw [List.filter_filter]
  refine List.filter_congr fun i hi => ?_
  rw [Nat.testBit_and, minus_test b hb i (List.mem_range.1 hi), Bool.and_comm]
theorem needs_at (g : List S33) (i : Nat) (h : i < g.length) : at0 (needs g) i = mask g[i].f1 0 := by
  rw [at0_get _ _ (by rw [needs_len]; exact h), needs_get g i h]
/-- All needs of all tasks that are done are done. -/
theorem closed_is {g : List S33} (hf : fine g = true) {ds : List Int} (ha : asc g.length 0 ds = true) :
    (ds.all fun x => (rd_T33 g x).f1.all fun y => decide (y ∈ ds)) = (elems (mask ds 0)).all fun i => (at0 (needs g) i &&& (255 - mask ds 0)) == 0 := by
  have h8 := fine_len hf
  have hs := mask_same g.length h8 ha
  have e := set_ints g.length h8 ha
  obtain ⟨L, hL⟩ : ∃ L, elems (mask ds 0) = L := ⟨_, rfl⟩
  have hlt : ∀ i, i ∈ L → i < g.length := fun i hi => by
    have := (asc_is g.length ds 0).1 ha |>.1 (i : Int) (by rw [e, hL]; exact (mem_ints L i).2 hi)
    omega
  obtain ⟨m, hm⟩ : ∃ m, mask ds 0 = m := ⟨_, rfl⟩
  rw [hm] at hs hL e ⊢
  rw [hL] at hs e ⊢
  rw [e]
  unfold ints
  rw [List.all_map]
  rw [Bool.eq_iff_iff, List.all_eq_true, List.all_eq_true]
  refine forall_congr' fun i => forall_congr' fun hi => ?_
  have hi2 := hlt i hi
  rw [← Bool.eq_iff_iff]
  have hd := done_is g.length h8 g[i].f1 (fine_asc hf i hi2) L m hs
  rw [needs_at g i hi2, ← hd]
  show ((rd_T33 g ((i : Nat) : Int)).f1.all _) = _
  rw [rd_task g i hi2]
  rfl
theorem specDone_is (g : List S33) (ds : List Int) (hg : Held g) (ht : ∀ t, t ∈ g → Held t.f1) (hd : Held ds) : Evn (fun k => spec_validDone.f k g ds) (doneOk g ds) := by
  unfold spec_validDone.f
  refine Evn.bind (validGraph_is g hg ht) ?_
  unfold doneOk
  by_cases hv : valid g = true
  · have hf := valid_fine hv
    have h8 := fine_len hf
    simp only [hv, if_true, Bool.true_and]
    refine Evn.bind (ascends_is ds hd) ?_
    rw [← asc_eq]
    by_cases hc : climbs ds = true
    · simp only [hc, if_true, Bool.and_true]
      rw [w64 ((g.length : Int) - 1) (by omega) (by omega)]
      refine Evn.bind (allIn_is ds hd 0 ((g.length : Int) - 1)) ?_
      by_cases ha : (ds.all fun x => decide (0 ≤ x ∧ x ≤ (g.length : Int) - 1)) = true
      · have hasc : asc g.length 0 ds = true := by rw [← asc_eq, ha, hc]; rfl
        rw [ha, Bool.true_and, ← closed_is hf hasc]
        refine Evn.step (g := fun k => spec_validDone.l0 k g ds ((0 : Nat) : Int)) ?_ (fun k => by simp [spec_validDone.j0])
        have hb := (asc_is g.length ds 0).1 hasc |>.1
        have h := Evn.every ds.length hd (fun k i => spec_validDone.l0 k g ds i) (fun i => (rd_T33 g (rd ds i)).f1.all fun y => decide (y ∈ ds)) true false
          (Evn.step (Evn.const rfl) fun k => by
            simp only [spec_validDone.l0]
            rw [if_neg (by omega)])
          (lo := 0) (fun i _ hi r hy hn => by
            have hx := hb ds[i] (List.getElem_mem hi)
            refine Evn.step (g := fun k => (spec_allDone.f k ((rd_T33 g (rd ds i)).f1) ds).bind fun b => if b = true then spec_validDone.l0 k g ds ((i + 1 : Nat) : Int) else some false) ?_ fun k => ?_
            · have hn2 : ∃ j : Nat, rd ds i = (j : Int) ∧ j < g.length := by
                rw [rd_get _ i hi]
                exact ⟨ds[i].toNat, by omega, by omega⟩
              obtain ⟨j, hj, hjl⟩ := hn2
              rw [hj] at hy hn ⊢
              refine Evn.bind (allDone_is _ ds (by rw [rd_task g j hjl]; exact ht _ (List.getElem_mem hjl)) hd) ?_
              by_cases hc : ((rd_T33 g ((j : Nat) : Int)).f1.all fun y => decide (y ∈ ds)) = true
              · simp only [hc, if_true]
                exact hy hc
              · simp only [hc]
                rw [hn (by simpa using hc)]
                exact Evn.const rfl
            · simp only [spec_validDone.l0]
              rw [if_pos (by omega), if_pos (by omega), if_pos (by rw [rd_get _ i hi]; omega), if_pos (by rw [rd_get _ i hi]; omega), wrap_up i (by unfold Held at hd; omega)])
          ds.length 0 (Nat.le_refl _) (by omega)
        rw [range_all ds _ (fun x => (rd_T33 g x).f1.all fun y => decide (y ∈ ds)) (fun i hi => by rw [rd_get _ i hi])] at h
        refine h.cast ?_
        cases (ds.all fun x => (rd_T33 g x).f1.all fun y => decide (y ∈ ds)) <;> rfl
      · have ha2 := Bool.eq_false_iff.2 ha
        rw [ha2, Bool.false_and]
        exact Evn.step (Evn.const rfl) (fun k => by simp [spec_validDone.j0])
    · simp only [hc, Bool.and_false, Bool.false_and]
      exact Evn.step (Evn.const rfl) (fun k => by simp [spec_validDone.j0])
  · simp only [hv, Bool.false_and]
    exact Evn.step (Evn.const rfl) (fun k => by simp [spec_validDone.j0])
theorem waits_is {g : List S33} (hf : fine g = true) {ds : List Int} (ha : asc g.length 0 ds = true) (i : Nat) (hi : i < g.length) :
    ints (elems (at0 (needs g) i &&& (255 - mask ds 0))) = g[i].f1.filter fun x => !decide (x ∈ ds) := by
  have h8 := fine_len hf
  have e := set_ints g.length h8 (fine_asc hf i hi)
  rw [elems_minus _ _ (mask_lt g.length h8 ds 0 0 (Int.le_refl _) ha (by omega)), needs_at g i hi]
  obtain ⟨L, hL⟩ : ∃ L, elems (mask g[i].f1 0) = L := ⟨_, rfl⟩
  rw [hL] at e ⊢
  rw [e]
  unfold ints
  rw [List.filter_map]
  refine congrArg _ (List.filter_congr fun x _ => ?_)
  rw [mask_test g.length ds 0 0 x (Int.le_refl _) ha, Nat.zero_testBit, Bool.false_or]
  rfl
theorem specWaits_l0 (g : List S33) (ds : List Int) (hd : Held ds) (a : Nat) (ha : a < g.length) (h8 : g[a].f1.length ≤ 8) : ∀ (d i : Nat) (x : List Int), i + d = g[a].f1.length → x.length ≤ i → Evn (fun k => spec_WaitsFor.l0 k g ds (a : Int) x (i : Int)) (x ++ (g[a].f1.drop i).filter fun y => !decide (y ∈ ds))
  | 0, i, x, h, _ => by
    refine Evn.step (Evn.const rfl) fun k => ?_
    simp only [spec_WaitsFor.l0]
    rw [if_pos (by omega), if_pos (by omega), rd_task g a ha, if_neg (by omega), List.drop_of_length_le (by omega)]
    simp
  | d + 1, i, x, h, hx => by
    have hi : i < g[a].f1.length := by omega
    refine Evn.step (g := fun k => (spec_isIn.f k ds g[a].f1[i]).bind fun b => if b = true then spec_WaitsFor.l0 k g ds (a : Int) x ((i + 1 : Nat) : Int) else spec_WaitsFor.l0 k g ds (a : Int) (x ++ [g[a].f1[i]]) ((i + 1 : Nat) : Int)) ?_ fun k => ?_
    · refine Evn.bind (isIn_is ds hd _) ?_
      rw [List.drop_eq_getElem_cons hi, List.filter_cons]
      by_cases hm : g[a].f1[i] ∈ ds
      · simp only [hm, decide_true, if_true, Bool.not_true, Bool.false_eq_true, if_false]
        exact specWaits_l0 g ds hd a ha h8 d (i + 1) x (by omega) (by omega)
      · simp only [hm, decide_false, Bool.not_false, if_true, Bool.false_eq_true, if_false]
        have := specWaits_l0 g ds hd a ha h8 d (i + 1) (x ++ [g[a].f1[i]]) (by omega) (by rw [List.length_append]; simp; omega)
        rw [List.append_assoc] at this
        exact this
    · simp only [spec_WaitsFor.l0]
      rw [if_pos (by omega), if_pos (by omega), rd_task g a ha, if_pos (by omega), if_pos (by omega), rd_get _ i hi, wrap_up i (by omega)]
      simp only [if_pos (show x.length < 17592186044416 by omega)]
theorem specWaits_is (g : List S33) (ds : List Int) (a : Int) (hg : Held g) (ht : ∀ t, t ∈ g → Held t.f1) (hd : Held ds) : Evn (fun k => spec_WaitsFor.f k g ds a) (waits g ds a) := by
  unfold spec_WaitsFor.f
  refine Evn.bind (Evn.const rfl) (Evn.bind (specDone_is g ds hg ht hd) ?_)
  unfold waits
  by_cases hv : doneOk g ds = true
  · obtain ⟨hv1, hasc, _⟩ := doneOk_eq hv
    have hf := valid_fine hv1
    have h8 := fine_len hf
    simp only [hv, if_true, true_and]
    rw [w64 ((g.length : Int) - 1) (by omega) (by omega), inRange_is]
    by_cases ha : 0 ≤ a ∧ a ≤ (g.length : Int) - 1
    · rw [if_pos ha, decide_eq_true ha]
      obtain ⟨i, rfl⟩ : ∃ i : Nat, a = (i : Int) := ⟨a.toNat, by omega⟩
      have hi : i < g.length := by omega
      rw [Int.toNat_natCast, waits_is hf hasc i hi]
      refine Evn.bind (Evn.const rfl) (Evn.step (g := fun k => spec_WaitsFor.l0 k g ds (i : Int) [] ((0 : Nat) : Int)) ?_ (fun k => by simp [spec_WaitsFor.j0]))
      exact specWaits_l0 g ds hd i hi (fine_held hf _ (List.getElem_mem hi)) g[i].f1.length 0 [] (by omega) (Nat.le_refl _)
    · rw [if_neg ha, decide_eq_false ha]
      exact Evn.bind (Evn.const rfl) (Evn.step (Evn.const rfl) (fun k => by simp [spec_WaitsFor.j0]))
  · simp only [hv]
    exact Evn.step (Evn.const rfl) (fun k => by simp [spec_WaitsFor.j0])
theorem waits_small (g : List S33) (ds : List Int) (a : Int) : (waits g ds a).length ≤ 1048576 := by
  unfold waits
  split
  · rw [ints_len]
    have := elems_len (at0 (needs g) a.toNat &&& (255 - mask ds 0))
    omega
  · simp
theorem implDone_is {g : List S33} (h : held g = true) {ds : List Int} (hd : ds.length ≤ 1048576) : impl_ValidDone.f g ds = some (doneOk g ds) := if_pos ⟨h, by omega⟩
theorem implWaits_is {g : List S33} (h : held g = true) {ds : List Int} (hd : ds.length ≤ 1048576) (a : Int) : impl_WaitsFor.f g ds a = some (waits g ds a) := if_pos ⟨h, by omega⟩
end Go.Proofs.YtegogaokcafpjaaDoor.H
