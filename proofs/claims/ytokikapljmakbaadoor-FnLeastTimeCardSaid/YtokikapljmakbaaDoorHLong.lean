/- The contract of impl.LongestTime: it answers for all graphs whose rows of needs a machine can hold. -/
import Derived.Test.YtokikapljmakbaaDoorHB
import Derived.Test.YtokikapljmakbaaDoorQx7
namespace Go.Proofs.YtokikapljmakbaaDoor.H
open Go.RowKit Go.Shelf Go.Proofs.YtokikapljmakbaaDoorW.PrintWords Go.Proofs.YtokikapljmakbaaDoorW.PrintLast Go.Proofs.YtokikapljmakbaaDoorW.PrintMore Go.Proofs.YtokikapljmakbaaDoor.Q
attribute [local go_sem] Oper.semAt_some
set_option linter.unusedSimpArgs false
set_option linter.unusedVariables false

theorem longest_l0 (l : List Int) (h : l.length ≤ 1000) : ∀ (d j : Nat) (x : Int), j + d = l.length → ∀ k, d + 1 ≤ k → impl_longest.l0 k x l (l.length : Int) (j : Int) = some ((l.drop j).foldl mx x)
  | 0, j, x, hj, k, hk => by
    obtain ⟨k, rfl⟩ : ∃ q, k = q + 1 := ⟨k - 1, by omega⟩
    rw [impl_longest.l0, if_neg (by omega), List.drop_of_length_le (by omega)]
    rfl
  | d + 1, j, x, hj, k, hk => by
    obtain ⟨k, rfl⟩ : ∃ q, k = q + 1 := ⟨k - 1, by omega⟩
    have hjl : j < l.length := by omega
    rw [impl_longest.l0, if_pos (by omega), if_pos (by omega), if_pos (by omega), w64 ((j : Int) + 1) (by omega) (by omega), rd_get l j hjl, List.drop_eq_getElem_cons hjl]
    exact longest_l0 l h d (j + 1) _ (by omega) k (by omega)
theorem longest_is (l : List Int) (h : l.length ≤ 1000) : impl_longest.f 1002 l = some (topOf l) := longest_l0 l h l.length 0 0 (by omega) 1002 (by omega)
def impl_LongestTime.f (l0 : List S29) : Option Int := if held l0 then some (longestTime l0) else none
set_option maxRecDepth 100000 in
set_option maxHeartbeats 4000000 in
theorem impl_LongestTime.calls (A0 : Option Addr) (c0 : Nat) (l0 : List S29) (r : Int) (w : World) (hr0 : Kd.C k29 w A0 l0.length l0) (hc0 : l0.length ≤ c0) (hT : Tab w) (h : impl_LongestTime.f l0 = some r) :
    Calls Tryd.prog 18 #[.slice A0 l0.length c0] w fun e w' => e = .returned (.int .i64 r) ∧ Below w.heap.size w w' := by
  obtain ⟨hh, rfl⟩ := of_held h
  unfold longestTime
  rcases Bool.eq_false_or_eq_true (valid l0) with hv | hv
  · have HG := Aside0.mk (graphOf_here hr0 hc0 hT hh hv)
    have HT := Aside0.mk hT
    have hf := fine_of hv
    have ho := orderOf_len hf
    have HL := Aside0.mk (longest_is (tailTimes l0) (by rw [tailTimes_len hv]; have := valid_eight hv; omega))
    rw [if_pos hv]
    have et : tailsBy (tmOf l0) (nbOf l0) l0.length (orderOf l0) = tailTimes l0 := by unfold tailTimes; rw [if_pos hv]
    clear hr0 hT h
    go_enter Tryd.func18, Tryd.ntmps18
    go_wp2_with (first | (go_at_call 50; refine HG.out.mono ?_; rintro e w1 ⟨X, Bb, Ba, AN, cN, AL, cL, rfl, hb, hG, _, _⟩) | (go_at_call 40; refine (tails_any hG (HT.out.below hb) hf ho).mono ?_; rintro e w2 ⟨v, rfl, h1, h2⟩; rw [et] at h1; obtain ⟨AT, cT, rfl⟩ := Kd.R_slice h1) | (go_at_call 39; refine (impl_longest.calls 1002 AT cT _ _ _ (Kd.R_reads' h1).2.2 (Kd.R_reads' h1).2.1 HL.out).mono ?_; rintro e w3 ⟨rfl, h3⟩))
    go_ret
    exact ⟨rfl, (hb.trans (h2.mono hb.size)).trans (h3.mono (hb.trans (h2.mono hb.size)).size)⟩
  · have HG := Aside0.mk (graphOf_no hr0 hc0 hT hh hv)
    rw [if_neg (by rw [hv]; simp)]
    clear hr0 hT h
    go_enter Tryd.func18, Tryd.ntmps18
    go_wp2_with (go_at_call 50; refine HG.out.mono ?_; rintro e w' ⟨p, rfl, hb⟩)
    go_ret
    exact ⟨rfl, hb⟩
end Go.Proofs.YtokikapljmakbaaDoor.H
