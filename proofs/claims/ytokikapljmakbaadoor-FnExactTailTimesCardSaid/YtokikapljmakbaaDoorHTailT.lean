/- The contract of impl.TailTimes: it answers for all graphs whose rows of needs a machine can hold. -/
import Derived.Test.YtokikapljmakbaaDoorHB
namespace Go.Proofs.YtokikapljmakbaaDoor.H
open Go.RowKit Go.Shelf Go.Proofs.YtokikapljmakbaaDoorW.PrintWords Go.Proofs.YtokikapljmakbaaDoorW.PrintLast Go.Proofs.YtokikapljmakbaaDoorW.PrintMore Go.Proofs.YtokikapljmakbaaDoor.Q
attribute [local go_sem] Oper.semAt_some
set_option linter.unusedSimpArgs false
set_option linter.unusedVariables false

def impl_TailTimes.f (l0 : List S29) : Option (List Int) := if held l0 then some (tailTimes l0) else none
set_option maxRecDepth 100000 in
set_option maxHeartbeats 4000000 in
theorem impl_TailTimes.calls (A0 : Option Addr) (c0 : Nat) (l0 : List S29) (r : List Int) (w : World) (hr0 : Kd.C k29 w A0 l0.length l0) (hc0 : l0.length ≤ c0) (hT : Tab w) (h : impl_TailTimes.f l0 = some r) :
    Calls Tryd.prog 31 #[.slice A0 l0.length c0] w fun e w' => ∃ v0_ : Value, e = .returned v0_ ∧ Kd.R (Kd.int .i64) 3 w' w.heap.size (fun _ => True) v0_ r ∧ Below w.heap.size w w' := by
  obtain ⟨hh, rfl⟩ := of_held h
  unfold tailTimes
  rcases Bool.eq_false_or_eq_true (valid l0) with hv | hv
  · have HG := Aside0.mk (graphOf_here hr0 hc0 hT hh hv)
    have HT := Aside0.mk hT
    have hf := fine_of hv
    have ho := orderOf_len hf
    rw [if_pos hv]
    clear hr0 hT h
    go_enter Tryd.func31, Tryd.ntmps31
    go_wp2_with (first | (go_at_call 50; refine HG.out.mono ?_; rintro e w1 ⟨X, Bb, Ba, AN, cN, AL, cL, rfl, hb, hG, _, _⟩) | (go_at_call 40; refine (tails_any hG (HT.out.below hb) hf ho).mono ?_; rintro e w2 ⟨v, rfl, h1, h2⟩))
    go_ret
    exact ⟨_, rfl, Kd.R_lower h1 hb.size, hb.trans (h2.mono hb.size)⟩
  · have HG := Aside0.mk (graphOf_no hr0 hc0 hT hh hv)
    rw [if_neg (by rw [hv]; simp)]
    clear hr0 hT h
    go_enter Tryd.func31, Tryd.ntmps31
    go_wp2_with (go_at_call 50; refine HG.out.mono ?_; rintro e w' ⟨p, rfl, hb⟩)
    go_ret
    exact ⟨_, rfl, Kd.R_nil _ _ _ _ _, hb⟩
end Go.Proofs.YtokikapljmakbaaDoor.H
