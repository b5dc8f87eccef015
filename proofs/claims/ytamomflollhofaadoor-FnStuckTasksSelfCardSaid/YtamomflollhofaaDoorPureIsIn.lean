/- The laws' own search in a list; plain Lean. -/
import Derived.Test.YtamomflollhofaaDoorPA
import Derived.Test.YtamomflollhofaaDoorQx18
namespace Go.Proofs.YtamomflollhofaaDoor.H
open Go.RowKit Go.Proofs.YtamomflollhofaaDoorW.PrintWords Go.Proofs.YtamomflollhofaaDoor.Q

theorem lawIn_is (l : List Int) (hl : Held l) (x : Int) : Evn (fun k => laws_isIn.f k l x) (decide (x ∈ l)) := by
  have h := Evn.every l.length hl (fun k i => laws_isIn.l0 k l x i) (fun i => !decide (rd l i = x)) false true
    (Evn.step (Evn.const rfl) fun k => by
      simp only [laws_isIn.l0]
      rw [if_neg (by omega)])
    (lo := 0) (fun i _ hi r hy hn => by
      refine Evn.step (g := fun k => if rd l i = x then some true else laws_isIn.l0 k l x ((i + 1 : Nat) : Int)) ?_ fun k => ?_
      · by_cases hc : rd l i = x
        · simp only [hc, if_true]
          rw [hn (by simp [hc])]
          exact Evn.const rfl
        · simp only [hc, if_false]
          exact hy (by simp [hc])
      · simp only [laws_isIn.l0]
        rw [if_pos (by omega), if_pos (by omega), wrap_up i (by unfold Held at hl; omega)])
    l.length 0 (Nat.le_refl _) (by omega)
  rw [range_all l _ (fun y => !decide (y = x)) (fun i hi => by simp only [rd_get l i hi])] at h
  refine h.cast ?_
  rw [show (l.all fun y => !decide (y = x)) = !decide (x ∈ l) by
    rw [Bool.eq_iff_iff, List.all_eq_true]
    simp only [Bool.not_eq_true', decide_eq_false_iff_not]
    exact ⟨fun h => fun hx => h x hx rfl, fun h y hy e => h (e ▸ hy)⟩]
  cases decide (x ∈ l) <;> rfl
end Go.Proofs.YtamomflollhofaaDoor.H
