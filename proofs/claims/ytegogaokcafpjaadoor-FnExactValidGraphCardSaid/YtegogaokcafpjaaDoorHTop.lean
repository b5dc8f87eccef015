/- The contracts of impl.ValidGraph, impl.TopOrder and impl.StuckTasks: they answer for all graphs whose rows of needs a machine can hold. -/
import Derived.Test.YtegogaokcafpjaaDoorHGraph
namespace Go.Proofs.YtegogaokcafpjaaDoor.H
open Go.RowKit Go.Shelf Go.Proofs.YtegogaokcafpjaaDoorW.PrintWords Go.Proofs.YtegogaokcafpjaaDoorW.PrintLast Go.Proofs.YtegogaokcafpjaaDoorW.PrintMore Go.Proofs.YtegogaokcafpjaaDoor.Q
attribute [local go_sem] Oper.semAt_some
set_option linter.unusedSimpArgs false
set_option linter.unusedVariables false

/-- Whether a machine can hold each row of needs. -/
def held (g : List S33) : Bool := g.all fun t => decide (t.f1.length ≤ 281474976710656)
theorem held_short {g : List S33} (h : held g = true) : short 281474976710656 g := fun t ht => of_decide_eq_true (List.all_eq_true.1 h t ht)
def impl_ValidGraph.f (l0 : List S33) : Option Bool := if held l0 then some (valid l0) else none
def topOrder (g : List S33) : List Int := if valid g then ints (order (needs g)).1 else []
def impl_TopOrder.f (l0 : List S33) : Option (List Int) := if held l0 then some (topOrder l0) else none
/-- Every number below n that is not in the set. -/
def notIn (n d : Nat) : Nat := (2 ^ n - 1) &&& (255 - d)
def stuck (g : List S33) : List Int := if fine g then ints (elems (notIn g.length (order (needs g)).2)) else []
def impl_StuckTasks.f (l0 : List S33) : Option (List Int) := if held l0 then some (stuck l0) else none
theorem of_held {α : Type} {g : List S33} {x r : α} (h : (if held g then some x else none) = some r) : held g = true ∧ x = r := by
  by_cases hh : held g = true
  · rw [if_pos hh] at h
    exact ⟨hh, Option.some.inj h⟩
  · rw [if_neg hh] at h
    cases h
theorem graphOf_held {A0 : Option Addr} {c0 : Nat} {g : List S33} {w : World} (hr0 : Kd.C k33 w A0 g.length g) (hc0 : g.length ≤ c0) (hT : Tab w) (h : held g = true) :
    Calls Tryd.prog 41 #[.slice A0 g.length c0] w (GraphOf w (.slice A0 g.length c0) g) := graphOf_any A0 c0 g _ w hr0 hc0 hT (held_short h) (Nat.le_refl _)

theorem graphOf_yes {A0 : Option Addr} {c0 : Nat} {g : List S33} {w : World} (hr0 : Kd.C k33 w A0 g.length g) (hc0 : g.length ≤ c0) (hT : Tab w) (h : held g = true) (hv : valid g = true) :
    Calls Tryd.prog 41 #[.slice A0 g.length c0] w fun e w' => ∃ (X Bb Ba : Nat) (AN : Option Addr) (cN : Nat) (AL : Option Addr) (cL : Nat), e = .returned (.tuple #[.pointer (some ⟨X, 0, none⟩), .bool true]) ∧ Below w.heap.size w w' ∧ w.heap.size ≤ X ∧ w.heap.size ≤ Bb ∧ w.heap.size ≤ Ba ∧
      w'.heap[X]? = some (.cells #[.slice A0 g.length c0, .slice AN (ints (needs g)).length cN, .slice AL (ints (order (needs g)).1).length cL, .slice (some ⟨Bb, 0, none⟩) g.length g.length, .slice (some ⟨Ba, 0, none⟩) g.length g.length] 57 (0, 0)) ∧
      Kd.R (Kd.int .u16) 61 w' w.heap.size (fun _ => True) (.slice AN (ints (needs g)).length cN) (ints (needs g)) ∧ Kd.R (Kd.int .i64) 3 w' w.heap.size (fun _ => True) (.slice AL (ints (order (needs g)).1).length cL) (ints (order (needs g)).1) ∧
      w'.heap[Bb]? = some (.cells (row16 (known (needs g)).1) 61 (0, 0)) ∧ w'.heap[Ba]? = some (.cells (row16 (known (needs g)).2) 61 (0, 0)) := by
  refine (graphOf_held hr0 hc0 hT h).mono ?_
  rintro e w' ⟨p, rfl, hb, hg⟩
  obtain ⟨X, Bb, Ba, vN, vL, rfl, b1, b2, b3, hX, hN, hL, hB, hA⟩ := hg hv
  obtain ⟨AN, cN, rfl⟩ := Kd.R_slice hN
  obtain ⟨AL, cL, rfl⟩ := Kd.R_slice hL
  exact ⟨X, Bb, Ba, AN, cN, AL, cL, by rw [hv], hb, b1, b2, b3, hX, hN, hL, hB, hA⟩
theorem graphOf_no {A0 : Option Addr} {c0 : Nat} {g : List S33} {w : World} (hr0 : Kd.C k33 w A0 g.length g) (hc0 : g.length ≤ c0) (hT : Tab w) (h : held g = true) (hv : valid g = false) :
    Calls Tryd.prog 41 #[.slice A0 g.length c0] w fun e w' => ∃ p, e = .returned (.tuple #[p, .bool false]) ∧ Below w.heap.size w w' := by
  refine (graphOf_held hr0 hc0 hT h).mono ?_
  rintro e w' ⟨p, rfl, hb, hg⟩
  exact ⟨p, by rw [hv], hb⟩

set_option maxHeartbeats 4000000 in
set_option maxRecDepth 100000 in
theorem impl_ValidGraph.calls (A0 : Option Addr) (c0 : Nat) (l0 : List S33) (r : Bool) (w : World) (hr0 : Kd.C k33 w A0 l0.length l0) (hc0 : l0.length ≤ c0) (hT : Tab w) (h : impl_ValidGraph.f l0 = some r) :
    Calls Tryd.prog 18 #[.slice A0 l0.length c0] w fun e w' => e = .returned (.bool r) ∧ Below w.heap.size w w' := by
  obtain ⟨hh, rfl⟩ := of_held h
  have HG := Aside0.mk (graphOf_held hr0 hc0 hT hh)
  clear hr0 hT h
  go_enter Tryd.func18, Tryd.ntmps18
  go_wp2_with (go_at_call 41; refine HG.out.mono ?_; rintro e w' ⟨p, rfl, hb, _⟩)
  go_ret
  exact ⟨rfl, hb⟩

set_option maxHeartbeats 4000000 in
set_option maxRecDepth 100000 in
theorem impl_TopOrder.calls (A0 : Option Addr) (c0 : Nat) (l0 : List S33) (r : List Int) (w : World) (hr0 : Kd.C k33 w A0 l0.length l0) (hc0 : l0.length ≤ c0) (hT : Tab w) (h : impl_TopOrder.f l0 = some r) :
    Calls Tryd.prog 22 #[.slice A0 l0.length c0] w fun e w' => ∃ v0_ : Value, e = .returned v0_ ∧ Kd.R (Kd.int .i64) 3 w' w.heap.size (fun _ => True) v0_ r ∧ Below w.heap.size w w' := by
  obtain ⟨hh, rfl⟩ := of_held h
  unfold topOrder
  rcases Bool.eq_false_or_eq_true (valid l0) with hv | hv
  · have HG := Aside0.mk (graphOf_yes hr0 hc0 hT hh hv)
    rw [if_pos hv]
    clear hr0 hT h
    go_enter Tryd.func22, Tryd.ntmps22
    go_wp2_with (go_at_call 41; refine HG.out.mono ?_; rintro e w' ⟨X, Bb, Ba, AN, cN, AL, cL, rfl, hb, _, _, _, hX, _, hL, _⟩; have hc : w'.cell? ⟨X, 2, none⟩ = some (.slice AL (ints (order (needs l0)).1).length cL) := cell_of hX rfl)
    go_ret
    exact ⟨_, rfl, hL, hb⟩
  · have HG := Aside0.mk (graphOf_no hr0 hc0 hT hh hv)
    rw [if_neg (by rw [hv]; decide)]
    clear hr0 hT h
    go_enter Tryd.func22, Tryd.ntmps22
    go_wp2_with (go_at_call 41; refine HG.out.mono ?_; rintro e w' ⟨p, rfl, hb⟩)
    go_ret
    exact ⟨_, rfl, Kd.R_nil _ _ _ _ _, hb⟩

theorem notIn_is (n d : Nat) (hn : n ≤ 8) (hd : d < 256) : Go.bits .andNot .u16 ((2 ^ n - 1 : Nat) : Int) (d : Int) = (notIn n d : Int) := minus_bits (2 ^ n - 1) (by have := two_le hn; omega) d hd
theorem run_set (s : List Nat) (hn : s.length ≤ 8) : ∀ (r : Nat) (l : List Nat) (d : Nat), d < 256 → (run r s l d).2 < 256
  | 0, _, _, h => h
  | r + 1, l, d, h => by
    unfold run
    split
    · rename_i i hi
      have := pickFrom_lt _ _ _ _ hi
      exact run_set s hn r _ _ (or_lt h (pow_lt (by omega)))
    · exact run_set s hn r _ _ h
theorem order_set (s : List Nat) (hn : s.length ≤ 8) : (order s).2 < 256 := run_set s hn _ _ _ (by omega)

set_option maxHeartbeats 4000000 in
set_option maxRecDepth 100000 in
theorem impl_StuckTasks.calls (A0 : Option Addr) (c0 : Nat) (l0 : List S33) (r : List Int) (w : World) (hr0 : Kd.C k33 w A0 l0.length l0) (hc0 : l0.length ≤ c0) (hT : Tab w) (h : impl_StuckTasks.f l0 = some r) :
    Calls Tryd.prog 31 #[.slice A0 l0.length c0] w fun e w' => ∃ v0_ : Value, e = .returned v0_ ∧ Kd.R (Kd.int .i64) 3 w' w.heap.size (fun _ => True) v0_ r ∧ Below w.heap.size w w' := by
  obtain ⟨hh, rfl⟩ := of_held h
  have HN := needsOf_is l0 _ (held_short hh) (Nat.le_refl _) (281474976710656 + 10) (Nat.le_refl _)
  unfold stuck
  have HR := Aside0.mk hr0
  have HT := Aside0.mk hT
  rcases Bool.eq_false_or_eq_true (fine l0) with hv | hv
  · rw [if_pos hv] at HN ⊢
    have h8 := fine_len hv
    have HO := Aside0.mk (order_is (needs l0) (by rw [needs_len]; exact h8) (needs_lt hv) 100 (Nat.le_refl _))
    have HE := Aside0.mk (everything_is l0.length h8)
    have HN1 := Aside0.mk HN
    have h2 : (order (needs l0)).2 < 256 := order_set (needs l0) (by rw [needs_len]; exact h8)
    clear hr0 hT h HN
    go_enter Tryd.func31, Tryd.ntmps31
    have HM := Aside0.mk (notIn_is l0.length (order (needs l0)).2 h8 h2)
    have HL := Aside0.mk (fun (w : World) (hT : Tab w) => list_any (notIn l0.length (order (needs l0)).2) (Nat.and_lt_two_pow (n := 8) _ (by omega)) w hT)
    go_wp2_with (first | (go_at_call 48; refine (impl_needsOf.calls (281474976710656 + 10) A0 c0 l0 _ _ _ HR.out hc0 HN1.out).mono ?_; rintro e w1 ⟨vN, rfl, RN, hb1⟩; obtain ⟨AN, cN, rfl⟩ := Kd.R_slice RN; have HRN := Aside0.mk RN; have HB1 := Aside0.mk hb1; clear RN hb1) | (go_at_call 49; refine (impl_order.calls 100 AN cN (ints (needs l0)) _ _ _ (Kd.R_reads' HRN.out).2.2 (Kd.R_reads' HRN.out).2.1 HO.out).mono ?_; rintro e w2 ⟨vL, rfl, RL, hb2⟩; obtain ⟨AL, cL, rfl⟩ := Kd.R_slice RL; have HB2 := Aside0.mk hb2; clear RL hb2) | (go_at_call 50; refine (impl_everything.calls _ _ _ HE.out).mono ?_; rintro e w3 ⟨rfl, ⟨nd, rfl⟩⟩) | (go_at_call 51; rw [HM.out]; have hb3 := below_draws (HB1.out.trans (HB2.out.mono HB1.out.size)) nd; refine (HL.out _ (HT.out.below hb3)).mono ?_; rintro e w4 ⟨v, rfl, h1, h2⟩))
    go_ret
    exact ⟨_, rfl, Kd.R_lower h1 hb3.size, hb3.trans (h2.mono hb3.size)⟩
  · rw [if_neg (by rw [hv]; decide)] at HN ⊢
    have HN1 := Aside0.mk HN
    clear hr0 hT h HN
    go_enter Tryd.func31, Tryd.ntmps31
    go_wp2_with (go_at_call 48; refine (impl_needsOf.calls (281474976710656 + 10) A0 c0 l0 _ _ _ HR.out hc0 HN1.out).mono ?_; rintro e w1 ⟨vN, rfl, RN, hb1⟩)
    go_ret
    exact ⟨_, rfl, Kd.R_nil _ _ _ _ _, hb1⟩
end Go.Proofs.YtegogaokcafpjaaDoor.H
