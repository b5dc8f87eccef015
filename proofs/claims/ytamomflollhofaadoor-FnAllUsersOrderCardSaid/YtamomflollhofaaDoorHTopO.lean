/- The contract of impl.TopOrder: it answers for all graphs whose rows of needs a machine can hold. -/
import Derived.Test.YtamomflollhofaaDoorHM
namespace Go.Proofs.YtamomflollhofaaDoor.H
open Go.RowKit Go.Shelf Go.Proofs.YtamomflollhofaaDoorW.PrintWords Go.Proofs.YtamomflollhofaaDoorW.PrintLast Go.Proofs.YtamomflollhofaaDoorW.PrintMore Go.Proofs.YtamomflollhofaaDoor.Q
attribute [local go_sem] Oper.semAt_some
set_option linter.unusedSimpArgs false
set_option linter.unusedVariables false

def impl_TopOrder.f (l0 : List S32) : Option (List Int) := if held l0 then some (topOrder l0) else none
set_option maxHeartbeats 4000000 in
set_option maxRecDepth 100000 in
theorem impl_TopOrder.calls (A0 : Option Addr) (c0 : Nat) (l0 : List S32) (r : List Int) (w : World) (hr0 : Kd.C k32 w A0 l0.length l0) (hc0 : l0.length ≤ c0) (hT : Tab w) (h : impl_TopOrder.f l0 = some r) :
    Calls Tryd.prog 36 #[.slice A0 l0.length c0] w fun e w' => ∃ v0_ : Value, e = .returned v0_ ∧ Kd.R (Kd.int .i64) 3 w' w.heap.size (fun _ => True) v0_ r ∧ Below w.heap.size w w' := by
  obtain ⟨hh, rfl⟩ := of_held h
  unfold topOrder
  rcases Bool.eq_false_or_eq_true (valid l0) with hv | hv
  · have HG := Aside0.mk (graphOf_yes hr0 hc0 hT hh hv)
    rw [if_pos hv]
    clear hr0 hT h
    go_enter Tryd.func36, Tryd.ntmps36
    go_wp2_with (go_at_call 45; refine HG.out.mono ?_; rintro e w' ⟨X, Bb, Ba, AN, cN, AL, cL, rfl, hb, _, _, _, hX, _, hL, _⟩; have hc : w'.cell? ⟨X, 2, none⟩ = some (.slice AL (ints (order (needs l0)).1).length cL) := cell_of hX rfl)
    go_ret
    exact ⟨_, rfl, hL, hb⟩
  · have HG := Aside0.mk (graphOf_no hr0 hc0 hT hh hv)
    rw [if_neg (by rw [hv]; decide)]
    clear hr0 hT h
    go_enter Tryd.func36, Tryd.ntmps36
    go_wp2_with (go_at_call 45; refine HG.out.mono ?_; rintro e w' ⟨p, rfl, hb⟩)
    go_ret
    exact ⟨_, rfl, Kd.R_nil _ _ _ _ _, hb⟩

end Go.Proofs.YtamomflollhofaaDoor.H
