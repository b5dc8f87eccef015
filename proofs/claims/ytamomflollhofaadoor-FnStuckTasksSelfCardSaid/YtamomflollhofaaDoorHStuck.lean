/- The contract of impl.StuckTasks: it answers for all graphs whose rows of needs a machine can hold. -/
import Derived.Test.YtamomflollhofaaDoorHM
namespace Go.Proofs.YtamomflollhofaaDoor.H
open Go.RowKit Go.Shelf Go.Proofs.YtamomflollhofaaDoorW.PrintWords Go.Proofs.YtamomflollhofaaDoorW.PrintLast Go.Proofs.YtamomflollhofaaDoorW.PrintMore Go.Proofs.YtamomflollhofaaDoor.Q
attribute [local go_sem] Oper.semAt_some
set_option linter.unusedSimpArgs false
set_option linter.unusedVariables false

def impl_StuckTasks.f (l0 : List S32) : Option (List Int) := if held l0 then some (stuck l0) else none
set_option maxHeartbeats 4000000 in
set_option maxRecDepth 100000 in
theorem impl_StuckTasks.calls (A0 : Option Addr) (c0 : Nat) (l0 : List S32) (r : List Int) (w : World) (hr0 : Kd.C k32 w A0 l0.length l0) (hc0 : l0.length ≤ c0) (hT : Tab w) (h : impl_StuckTasks.f l0 = some r) :
    Calls Tryd.prog 20 #[.slice A0 l0.length c0] w fun e w' => ∃ v0_ : Value, e = .returned v0_ ∧ Kd.R (Kd.int .i64) 3 w' w.heap.size (fun _ => True) v0_ r ∧ Below w.heap.size w w' := by
  obtain ⟨hh, rfl⟩ := of_held h
  have HN := needsOf_is l0 _ (held_short hh) (Nat.le_refl _) (281474976710656 + 10) (Nat.le_refl _)
  unfold stuck
  have HR := Aside0.mk hr0
  have HT := Aside0.mk hT
  rcases Bool.eq_false_or_eq_true (fine l0) with hv | hv
  · rw [if_pos hv] at HN ⊢
    have h8 := fine_len hv
    have HO := Aside0.mk (order_is (needs l0) (by rw [needs_len]; exact h8) (needs_lt hv) 100 (Nat.le_refl _))
    have HE := Aside0.mk (everything_is l0.length h8)
    have HN1 := Aside0.mk HN
    have h2 : (order (needs l0)).2 < 256 := order_set (needs l0) (by rw [needs_len]; exact h8)
    clear hr0 hT h HN
    go_enter Tryd.func20, Tryd.ntmps20
    have HM := Aside0.mk (notIn_is l0.length (order (needs l0)).2 h8 h2)
    have HL := Aside0.mk (fun (w : World) (hT : Tab w) => list_any (notIn l0.length (order (needs l0)).2) (Nat.and_lt_two_pow (n := 8) _ (by omega)) w hT)
    go_wp2_with (first | (go_at_call 50; refine (impl_needsOf.calls (281474976710656 + 10) A0 c0 l0 _ _ _ HR.out hc0 HN1.out).mono ?_; rintro e w1 ⟨vN, rfl, RN, hb1⟩; obtain ⟨AN, cN, rfl⟩ := Kd.R_slice RN; have HRN := Aside0.mk RN; have HB1 := Aside0.mk hb1; clear RN hb1) | (go_at_call 51; refine (impl_order.calls 100 AN cN (ints (needs l0)) _ _ _ (Kd.R_reads' HRN.out).2.2 (Kd.R_reads' HRN.out).2.1 HO.out).mono ?_; rintro e w2 ⟨vL, rfl, RL, hb2⟩; obtain ⟨AL, cL, rfl⟩ := Kd.R_slice RL; have HB2 := Aside0.mk hb2; clear RL hb2) | (go_at_call 52; refine (impl_everything.calls _ _ _ HE.out).mono ?_; rintro e w3 ⟨rfl, ⟨nd, rfl⟩⟩) | (go_at_call 53; rw [HM.out]; have hb3 := below_draws (HB1.out.trans (HB2.out.mono HB1.out.size)) nd; refine (HL.out _ (HT.out.below hb3)).mono ?_; rintro e w4 ⟨v, rfl, h1, h2⟩))
    go_ret
    exact ⟨_, rfl, Kd.R_lower h1 hb3.size, hb3.trans (h2.mono hb3.size)⟩
  · rw [if_neg (by rw [hv]; decide)] at HN ⊢
    have HN1 := Aside0.mk HN
    clear hr0 hT h HN
    go_enter Tryd.func20, Tryd.ntmps20
    go_wp2_with (go_at_call 50; refine (impl_needsOf.calls (281474976710656 + 10) A0 c0 l0 _ _ _ HR.out hc0 HN1.out).mono ?_; rintro e w1 ⟨vN, rfl, RN, hb1⟩)
    go_ret
    exact ⟨_, rfl, Kd.R_nil _ _ _ _ _, hb1⟩
end Go.Proofs.YtamomflollhofaaDoor.H
