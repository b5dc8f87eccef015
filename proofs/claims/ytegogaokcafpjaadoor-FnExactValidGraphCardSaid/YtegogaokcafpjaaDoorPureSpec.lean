/- What the reference's functions of graphs answer: the same as the program's, for all graphs whose lists a machine can hold; plain Lean. -/
import Derived.Test.YtegogaokcafpjaaDoorPureEv
import Derived.Test.YtegogaokcafpjaaDoorHKnown
import Derived.Test.YtegogaokcafpjaaDoorQx1
import Derived.Test.YtegogaokcafpjaaDoorQx2
import Derived.Test.YtegogaokcafpjaaDoorQx2
import Derived.Test.YtegogaokcafpjaaDoorQx3
namespace Go.Proofs.YtegogaokcafpjaaDoor.H
open Go.RowKit Go.Proofs.YtegogaokcafpjaaDoorW.PrintWords Go.Proofs.YtegogaokcafpjaaDoor.Q

def Held {α : Type} (l : List α) : Prop := l.length ≤ 9223372036854775807
theorem inRange_is (a b c : Int) : spec_inRange.f a b c = some (decide (b ≤ a ∧ a ≤ c)) := by
  unfold spec_inRange.f
  by_cases h : b ≤ a
  · rw [if_pos h]
    simp [h]
  · rw [if_neg h]
    simp [h]
theorem allIn_is (l : List Int) (hl : Held l) (lo hi : Int) : Evn (fun k => spec_allIn.f k l lo hi) (l.all fun x => decide (lo ≤ x ∧ x ≤ hi)) := by
  have h := Evn.every l.length hl (fun k i => spec_allIn.l0 k l lo hi i) (fun i => decide (lo ≤ rd l i ∧ rd l i ≤ hi)) true false
    (Evn.step (Evn.const rfl) fun k => by
      simp only [spec_allIn.l0]
      rw [if_neg (by omega)])
    (fun i _ hi' r hy hn => by
      refine Evn.step (g := fun k => if decide (lo ≤ rd l i ∧ rd l i ≤ hi) = true then spec_allIn.l0 k l lo hi ((i + 1 : Nat) : Int) else some false) ?_ fun k => ?_
      · cases hg : decide (lo ≤ rd l i ∧ rd l i ≤ hi)
        · rw [hn hg]
          exact Evn.const rfl
        · exact hy hg
      · simp only [spec_allIn.l0]
        rw [if_pos (by omega), if_pos (by omega), inRange_is, wrap_up i (by unfold Held at hl; omega)]
        rfl)
    l.length 0 (Nat.le_refl _) (by omega)
  rw [range_all l _ (fun x => decide (lo ≤ x ∧ x ≤ hi)) (fun i hi' => by simp only [rd_get l i hi'])] at h
  refine h.cast ?_
  cases (l.all fun x => decide (lo ≤ x ∧ x ≤ hi)) <;> rfl
def climbs (l : List Int) : Bool := (List.range' 1 (l.length - 1)).all fun i => decide (rd l ((i - 1 : Nat) : Int) < rd l i)
theorem ascends_is (l : List Int) (hl : Held l) : Evn (fun k => spec_ascends.f k l) (climbs l) := by
  rcases Nat.eq_zero_or_pos l.length with h0 | h0
  · have e : climbs l = true := by
      unfold climbs
      rw [h0]
      rfl
    rw [e]
    refine Evn.step (g := fun _ => some true) (Evn.const rfl) fun k => ?_
    unfold spec_ascends.f
    simp only [spec_ascends.l0]
    rw [if_neg (by omega)]
  · have h := Evn.every l.length hl (fun k i => spec_ascends.l0 k l i) (fun i => decide (rd l ((i - 1 : Nat) : Int) < rd l i)) true false
      (Evn.step (Evn.const rfl) fun k => by
        simp only [spec_ascends.l0]
        rw [if_neg (by omega)])
      (lo := 1) (fun i hi1 hi' r hy hn => by
        have e : wrap64 ((i : Int) - 1) = ((i - 1 : Nat) : Int) := by
          unfold Held at hl
          rw [w64 _ (by omega) (by omega)]
          omega
        refine Evn.step (g := fun k => if decide (rd l ((i - 1 : Nat) : Int) < rd l i) = true then spec_ascends.l0 k l ((i + 1 : Nat) : Int) else some false) ?_ fun k => ?_
        · cases hg : decide (rd l ((i - 1 : Nat) : Int) < rd l i)
          · rw [hn hg]
            exact Evn.const rfl
          · exact hy hg
        · simp only [spec_ascends.l0]
          rw [if_pos (by omega), if_pos (by omega), e, if_pos (by omega), if_pos (by omega), wrap_up i (by unfold Held at hl; omega)]
          by_cases hc : rd l ((i - 1 : Nat) : Int) < rd l i
          · rw [if_neg (by omega), if_pos (by simpa using hc)]
          · rw [if_pos (by omega), if_neg (by simpa using hc)])
      (l.length - 1) 1 (Nat.le_refl _) (by omega)
    refine h.cast ?_
    unfold climbs
    cases (List.range' 1 (l.length - 1)).all fun i => decide (rd l ((i - 1 : Nat) : Int) < rd l i) <;> rfl

/-- Within bounds and ascending: what the program asks in one go. -/
theorem climbs_cons (x : Int) (t : List Int) : climbs (x :: t) = ((match t with | [] => true | y :: _ => decide (x < y)) && climbs t) := by
  cases t with
  | nil => rfl
  | cons y u =>
    unfold climbs
    simp only [List.length_cons, Nat.add_sub_cancel]
    rw [List.range'_succ, List.all_cons]
    congr 1
    rw [Bool.eq_iff_iff, List.all_eq_true, List.all_eq_true]
    have e : ∀ i : Nat, rd (x :: y :: u) ((i + 1 : Nat) : Int) = rd (y :: u) (i : Int) := fun i => by
      unfold rd
      simp
    constructor
    · intro h i hi
      have hi2 := List.mem_range'_1.1 hi
      have := h (i + 1) (List.mem_range'_1.2 ⟨by omega, by omega⟩)
      rw [Nat.add_sub_cancel, e] at this
      have e2 := e (i - 1)
      rw [show i - 1 + 1 = i by omega] at e2
      rw [e2] at this
      exact this
    · intro h i hi
      have hi2 := List.mem_range'_1.1 hi
      have := h (i - 1) (List.mem_range'_1.2 ⟨by omega, by omega⟩)
      have e1 := e (i - 1)
      have e2 := e (i - 1 - 1)
      rw [show i - 1 + 1 = i by omega] at e1
      rw [show i - 1 - 1 + 1 = i - 1 by omega] at e2
      rw [e1, e2]
      exact this
theorem asc_is (n : Nat) : ∀ (l : List Int) (lo : Int), (asc n lo l = true) ↔ ((∀ x, x ∈ l → lo ≤ x ∧ x ≤ (n : Int) - 1) ∧ climbs l = true)
  | [], lo => by simp [asc]; rfl
  | x :: t, lo => by
    rw [asc, Bool.and_eq_true, decide_eq_true_eq, asc_is n t (x + 1), climbs_cons, Bool.and_eq_true]
    constructor
    · rintro ⟨hx, ht, hc⟩
      refine ⟨fun y hy => ?_, ?_, hc⟩
      · rcases List.mem_cons.1 hy with rfl | hy
        · exact hx
        · have := ht y hy
          omega
      · cases t with
        | nil => rfl
        | cons y u =>
          have := ht y List.mem_cons_self
          simp
          omega
    · rintro ⟨hb, hf, hc⟩
      refine ⟨hb x List.mem_cons_self, fun y hy => ⟨?_, (hb y (List.mem_cons_of_mem _ hy)).2⟩, hc⟩
      cases t with
      | nil => cases hy
      | cons z u =>
        have hxz : x < z := by simpa using hf
        have hz : ∀ (v : List Int) (z y : Int), climbs (z :: v) = true → y ∈ z :: v → z ≤ y := by
          intro v
          induction v with
          | nil =>
            intro z y _ hy
            rcases List.mem_cons.1 hy with rfl | hy
            · omega
            · cases hy
          | cons a v ih =>
            intro z y hc hy
            rw [climbs_cons, Bool.and_eq_true] at hc
            have hza : z < a := by simpa using hc.1
            rcases List.mem_cons.1 hy with rfl | hy
            · omega
            · have := ih a y hc.2 hy
              omega
        have := hz u z y hc hy
        omega
theorem asc_eq (n : Nat) (l : List Int) : ((l.all fun x => decide (0 ≤ x ∧ x ≤ (n : Int) - 1)) && climbs l) = asc n 0 l := by
  rw [Bool.eq_iff_iff, asc_is, Bool.and_eq_true, List.all_eq_true]
  simp only [decide_eq_true_eq]
theorem validTask_is (n : Nat) (hn : n ≤ 9223372036854775807) (t : S33) (ht : Held t.f1) : Evn (fun k => spec_validTask.f k t.f0 t.f1 t.f2 t.f3 (n : Int)) (okTask n t) := by
  have e : wrap64 ((n : Int) - 1) = (n : Int) - 1 := w64 _ (by omega) (by omega)
  unfold spec_validTask.f okTask
  rw [← asc_eq]
  simp only [inRange_is, Option.bind_some, e]
  by_cases h1 : 1 ≤ t.f0 ∧ t.f0 ≤ 20
  · by_cases h2 : 0 ≤ t.f2 ∧ t.f2 ≤ 2
    · by_cases h3 : 1 ≤ t.f3 ∧ t.f3 ≤ 4
      · simp only [h1, h2, h3, and_self, decide_true, if_true, Bool.and_true]
        refine Evn.bind (allIn_is t.f1 ht 0 ((n : Int) - 1)) ?_
        cases (t.f1.all fun x => decide (0 ≤ x ∧ x ≤ (n : Int) - 1))
        · exact Evn.const rfl
        · simp only [if_true, Bool.true_and]
          exact Evn.bind (ascends_is t.f1 ht) (Evn.const rfl)
      · simp only [h1, h2, h3, and_self, decide_true, if_true, decide_false, Bool.and_false]
        exact Evn.const rfl
    · simp only [h1, h2, and_self, decide_true, if_true, decide_false, Bool.and_false, Bool.false_and]
      exact Evn.const rfl
  · simp only [h1, decide_false, Bool.and_false, Bool.false_and]
    exact Evn.const rfl
theorem tasksFine_is (g : List S33) (hg : Held g) (ht : ∀ t, t ∈ g → Held t.f1) : Evn (fun k => spec_tasksFine.f k g) (fine g) := by
  have h := Evn.every g.length hg (fun k i => spec_tasksFine.l0 k g i) (fun i => okTask g.length (rd_T33 g i)) (decide ((g.length : Int) ≤ 8)) false
    (Evn.step (Evn.const rfl) fun k => by
      simp only [spec_tasksFine.l0]
      rw [if_neg (by omega)])
    (lo := 0) (fun i _ hi r hy hn => by
      have hm : rd_T33 g i ∈ g := by
        rw [rd_task g i hi]
        exact List.getElem_mem _
      refine Evn.step (g := fun k => (spec_validTask.f k (rd_T33 g i).f0 (rd_T33 g i).f1 (rd_T33 g i).f2 (rd_T33 g i).f3 (g.length : Int)).bind fun b => if b = true then spec_tasksFine.l0 k g ((i + 1 : Nat) : Int) else some false) ?_ fun k => ?_
      · refine Evn.bind (validTask_is g.length hg _ (ht _ hm)) ?_
        cases hg : okTask g.length (rd_T33 g i)
        · rw [hn hg]
          exact Evn.const rfl
        · exact hy hg
      · simp only [spec_tasksFine.l0]
        rw [if_pos (by omega), if_pos (by omega), wrap_up i (by unfold Held at hg; omega)])
    g.length 0 (Nat.le_refl _) (by omega)
  rw [range_all g _ (fun t => okTask g.length t) (fun i hi' => by simp only [rd_task g i hi'])] at h
  refine h.cast ?_
  unfold fine
  rw [show decide ((g.length : Int) ≤ 8) = decide (g.length ≤ 8) by rw [decide_eq_decide]; omega]
  cases g.all (okTask g.length) <;> simp
end Go.Proofs.YtegogaokcafpjaaDoor.H
