/- The heads of a valid graph in the reference's words; plain Lean. -/
import Derived.Test.YtgpnododcbkflaaDoorPureHeadI
import Derived.Test.YtgpnododcbkflaaDoorQx18
namespace Go.Proofs.YtgpnododcbkflaaDoor.H
open Go.RowKit Go.Proofs.YtgpnododcbkflaaDoorW.PrintWords Go.Proofs.YtgpnododcbkflaaDoorW.PrintLast Go.Proofs.YtgpnododcbkflaaDoorW.PrintMore Go.Proofs.YtgpnododcbkflaaDoor.Q
set_option linter.unusedVariables false

theorem specHeads_l1 {g : List S30} (hf : fine g = true) {od : List Nat} {x5 : Nat} (h5 : x5 < od.length) (ho8 : od.length ≤ 8) {i : Nat} (hi : i < g.length) (ei : od[x5] = i) {t0 t2 t3 : Int} (R : List Int) : ∀ (d j : Nat) (o : List Int), j + d = (nbOf g i).length → o.length = g.length →
    Evn (fun k => spec_heads.l0 k g (((nbOf g i).drop j).foldl (hd1 (tmOf g) i) o) (ints od) ((x5 + 1 : Nat) : Int)) R → Evn (fun k => spec_heads.l1 k g o (ints od) (x5 : Int) (j : Int) t0 (ints (nbOf g i)) t2 t3) R
  | 0, j, o, h, hl, hR => by
    have h8 := nb_len g i
    rw [List.drop_of_length_le (by omega)] at hR
    refine Evn.step hR fun k => ?_
    simp only [spec_heads.l1]
    rw [if_neg (by rw [ints_len]; omega), wrap_up x5 (by omega)]
    rfl
  | d + 1, j, o, h, hl, hR => by
    have h8 := nb_len g i
    have hj : j < (nbOf g i).length := by omega
    have hk : (nbOf g i)[j] < g.length := nb_lt hf i hi _ (List.getElem_mem hj)
    rw [List.drop_eq_getElem_cons hj, List.foldl_cons] at hR
    refine Evn.step (specHeads_l1 (t0 := t0) (t2 := t2) (t3 := t3) hf h5 ho8 hi ei R d (j + 1) (hd1 (tmOf g) i o (nbOf g i)[j]) (by omega) (by unfold hd1; rw [List.length_set]; exact hl) hR) fun k => ?_
    have er : rd (ints od) (x5 : Int) = (i : Int) := by rw [rd_ints od x5 h5, ei]
    have ek : rd (ints (nbOf g i)) (j : Int) = (((nbOf g i)[j] : Nat) : Int) := rd_ints _ j hj
    simp only [spec_heads.l1]
    rw [er, ek, if_pos (by rw [ints_len]; omega), if_pos (by omega), if_pos (by rw [ints_len]; omega), if_pos (by omega), if_pos (by omega), if_pos (by omega), if_pos (by omega), if_pos (by omega), if_pos (by omega), wrap_up j (by omega), rd_atI o i (by omega), rd_atI o _ (by omega), Int.toNat_natCast]
    rfl
theorem specHeads_l0 {g : List S30} (hf : fine g = true) {od : List Nat} (ho8 : od.length ≤ 8) (hlt : ∀ j (hj : j < od.length), od[j] < g.length) : ∀ (d j : Nat) (o : List Int), j + d = od.length → o.length = g.length →
    Evn (fun k => spec_heads.l0 k g o (ints od) (j : Int)) ((od.drop j).foldl (hdAt (tmOf g) (nbOf g)) o)
  | 0, j, o, h, hl => by
    rw [List.drop_of_length_le (by omega)]
    refine Evn.step (Evn.const rfl) fun k => ?_
    simp only [spec_heads.l0]
    rw [if_neg (by rw [ints_len]; omega)]
    rfl
  | d + 1, j, o, h, hl => by
    have hj : j < od.length := by omega
    have hi := hlt j hj
    have er : rd (ints od) (j : Int) = ((od[j] : Nat) : Int) := rd_ints od j hj
    rw [List.drop_eq_getElem_cons hj, List.foldl_cons]
    refine Evn.step (specHeads_l1 (t0 := (rd_T30 g ((od[j] : Nat) : Int)).f0) (t2 := (rd_T30 g ((od[j] : Nat) : Int)).f2) (t3 := (rd_T30 g ((od[j] : Nat) : Int)).f3) hf hj ho8 hi rfl _ (nbOf g od[j]).length 0 o (by omega) hl (specHeads_l0 hf ho8 hlt d (j + 1) (hdAt (tmOf g) (nbOf g) o od[j]) (by omega) (by unfold hdAt; rw [hd1_len]; exact hl))) fun k => ?_
    simp only [spec_heads.l0]
    rw [er, if_pos (by rw [ints_len]; omega), if_pos (by omega), if_pos (by omega), if_pos (by omega), f1_is hf _ hi]
    rfl
theorem specHeads_is {g : List S30} (hv : valid g = true) : Evn (fun k => spec_heads.f k g) (headTimes g) := by
  have hf := valid_fine hv
  have h8 := fine_len hf
  unfold spec_heads.f headTimes
  rw [if_pos hv]
  simp only [if_pos (show (0 : Int) ≤ (g.length : Int) by omega), Int.toNat_natCast, if_pos (show g.length ≤ 35184372088832 by omega)]
  refine Evn.bind (topOrder_is g hf) ?_
  exact specHeads_l0 hf (order_eight hv) (fun j hj => order_lt' hv j hj) (orderOf g).length 0 _ (by omega) (List.length_replicate ..)
end Go.Proofs.YtgpnododcbkflaaDoor.H
