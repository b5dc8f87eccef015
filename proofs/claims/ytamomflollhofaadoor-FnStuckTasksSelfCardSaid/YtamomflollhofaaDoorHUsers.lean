/- The contract of impl.AllUsers: it answers for all graphs whose rows of needs a machine can hold, and all numbers. -/
import Derived.Test.YtamomflollhofaaDoorHKnownAt
namespace Go.Proofs.YtamomflollhofaaDoor.H
open Go.RowKit Go.Shelf Go.Proofs.YtamomflollhofaaDoorW.PrintWords Go.Proofs.YtamomflollhofaaDoorW.PrintLast Go.Proofs.YtamomflollhofaaDoorW.PrintMore Go.Proofs.YtamomflollhofaaDoor.Q
attribute [local go_sem] Oper.semAt_some
set_option linter.unusedSimpArgs false
set_option linter.unusedVariables false

def impl_AllUsers.f (l0 : List S32) (a1 : Int) : Option (List Int) := if held l0 then some (rel2 l0 a1) else none
theorem pickOf_2 {w : World} {X : Nat} {A0 : Option Addr} {c0 : Nat} {AN : Option Addr} {cN : Nat} {AL : Option Addr} {cL : Nat} {vB vA : Value} {g : List S32} {od : List Nat} (h : GraphHere w X A0 c0 AN cN AL cL vB vA g od) :
    Calls Tryd.prog 48 #[.pointer (some ⟨X, 0, none⟩)] w fun e w' => e = .returned vA ∧ w' = w := by
  have hc := h.cells.2.2.2.2
  go_enter Tryd.func48, Tryd.ntmps48
  go_wp2
  go_ret
  exact ⟨rfl, rfl⟩
set_option maxHeartbeats 4000000 in
set_option maxRecDepth 100000 in
theorem related_2 (A0 : Option Addr) (c0 : Nat) (l0 : List S32) (a1 : Int) (w : World) (hr0 : Kd.C k32 w A0 l0.length l0) (hc0 : l0.length ≤ c0) (hT : Tab w) (hh : held l0 = true) :
    Calls Tryd.prog 47 #[.slice A0 l0.length c0, .int .i64 a1, .func (.func 48) #[] #[]] w fun e w' => ∃ v0_ : Value, e = .returned v0_ ∧ Kd.R (Kd.int .i64) 3 w' w.heap.size (fun _ => True) v0_ (rel2 l0 a1) ∧ Below w.heap.size w w' := by
  have HT := Aside0.mk hT
  unfold rel2
  rcases Bool.eq_false_or_eq_true (valid l0) with hv | hv
  · have HG := Aside0.mk (graphOf_here hr0 hc0 hT hh hv)
    have h8 := valid_eight hv
    have hw := wrap_len l0.length h8
    have hks := (known_sets (fine_of hv)).2
    clear hr0 hT
    by_cases ha : 0 ≤ a1 ∧ a1 ≤ (l0.length : Int) - 1
    · rw [if_pos ⟨hv, ha⟩]
      obtain ⟨i, rfl⟩ : ∃ i : Nat, a1 = (i : Int) := ⟨a1.toNat, by omega⟩
      have hin : i < l0.length := by omega
      have HWI := Aside0.mk (within_is (i : Int) 0 ((l0.length : Int) - 1))
      rw [decide_eq_true ha] at HWI
      rw [Int.toNat_natCast]
      go_enter Tryd.func47, Tryd.ntmps47
      have hi0 : (0 : Int) ≤ (i : Int) := by omega
      have hi1 : (i : Int) < (l0.length : Int) := by omega
      have hlt : at0 (known (needs l0)).2 i < 256 := Nat.lt_of_lt_of_le (hks.at i) (two_le h8)
      go_wp2_with (first | (go_at_call 45; refine HG.out.mono ?_; rintro e w1 ⟨X, Bb, Ba, AN, cN, AL, cL, rfl, hb, hG, hB1, hA2⟩; have HGH := Aside0.mk hG; have HB := Aside0.mk hb; have hck := cell_of hA2 (row16_at (known (needs l0)).2 i (by rw [hks.len]; exact hin)); clear hB1 hA2 hG hb) | (go_at_call 68; refine (Q.impl_within.calls _ _ _ _ _ HWI.out).mono ?_; rintro e w3 ⟨rfl, ⟨nd, rfl⟩⟩) | (go_at_call 48; refine (pickOf_2 (GraphHere.below HGH.out (below_draws (Below.refl _ _) nd))).mono ?_; rintro e w4 ⟨rfl, hw4⟩; subst hw4) | (go_at_call 53; refine (list_any _ hlt _ (HT.out.below (below_draws HB.out nd))).mono ?_; rintro e w5 ⟨v, rfl, h1, h2⟩))
      go_ret
      have hb3 := below_draws HB.out nd
      exact ⟨_, rfl, Kd.R_lower h1 hb3.size, hb3.trans (h2.mono hb3.size)⟩
    · rw [if_neg (fun h => ha h.2)]
      have HWI := Aside0.mk (within_is a1 0 ((l0.length : Int) - 1))
      rw [decide_eq_false ha] at HWI
      go_enter Tryd.func47, Tryd.ntmps47
      go_wp2_with (first | (go_at_call 45; refine HG.out.mono ?_; rintro e w1 ⟨X, Bb, Ba, AN, cN, AL, cL, rfl, hb, hG, hB1, hA2⟩) | (go_at_call 68; refine (Q.impl_within.calls _ _ _ _ _ HWI.out).mono ?_; rintro e w3 ⟨rfl, ⟨nd, rfl⟩⟩))
      go_ret
      exact ⟨_, rfl, Kd.R_nil _ _ _ _ _, below_draws hb nd⟩
  · have HG := Aside0.mk (graphOf_no hr0 hc0 hT hh hv)
    rw [if_neg (by rw [hv]; simp)]
    clear hr0 hT
    go_enter Tryd.func47, Tryd.ntmps47
    go_wp2_with (go_at_call 45; refine HG.out.mono ?_; rintro e w' ⟨p, rfl, hb⟩)
    go_ret
    exact ⟨_, rfl, Kd.R_nil _ _ _ _ _, hb⟩
theorem impl_AllUsers.calls (A0 : Option Addr) (c0 : Nat) (l0 : List S32) (a1 : Int) (r : List Int) (w : World) (hr0 : Kd.C k32 w A0 l0.length l0) (hc0 : l0.length ≤ c0) (hT : Tab w) (h : impl_AllUsers.f l0 a1 = some r) :
    Calls Tryd.prog 18 #[.slice A0 l0.length c0, .int .i64 a1] w fun e w' => ∃ v0_ : Value, e = .returned v0_ ∧ Kd.R (Kd.int .i64) 3 w' w.heap.size (fun _ => True) v0_ r ∧ Below w.heap.size w w' := by
  obtain ⟨hh, rfl⟩ := of_held h
  have HG := Aside0.mk (related_2 A0 c0 l0 a1 w hr0 hc0 hT hh)
  clear hr0 hT h
  go_enter Tryd.func18, Tryd.ntmps18
  go_wp2_with (go_at_call 47; refine HG.out.mono ?_; rintro e w' ⟨v, rfl, h1, h2⟩)
  go_ret
  exact ⟨_, rfl, h1, h2⟩
end Go.Proofs.YtamomflollhofaaDoor.H
