/- What impl.AllNeeds and impl.AllUsers answer; no condition. -/
import Derived.Test.YtamomflollhofaaDoorHV
namespace Go.Proofs.YtamomflollhofaaDoor.H
open Go.RowKit Go.Shelf Go.Proofs.YtamomflollhofaaDoorW.PrintWords Go.Proofs.YtamomflollhofaaDoorW.PrintLast Go.Proofs.YtamomflollhofaaDoorW.PrintMore Go.Proofs.YtamomflollhofaaDoor.Q
attribute [local go_sem] Oper.semAt_some
set_option linter.unusedSimpArgs false
set_option linter.unusedVariables false

theorem known_sets {g : List S32} (hf : fine g = true) : Sets g.length (known (needs g)).1 ∧ Sets g.length (known (needs g)).2 := by
  rw [← kn_all]
  exact kn_sets (needs_sets hf) (fun x hx => by rw [← needs_len g]; exact order_lt _ x hx) _
def rel1 (g : List S32) (a : Int) : List Int := if valid g = true ∧ 0 ≤ a ∧ a ≤ (g.length : Int) - 1 then ints (elems (at0 (known (needs g)).1 a.toNat)) else []
def rel2 (g : List S32) (a : Int) : List Int := if valid g = true ∧ 0 ≤ a ∧ a ≤ (g.length : Int) - 1 then ints (elems (at0 (known (needs g)).2 a.toNat)) else []
end Go.Proofs.YtamomflollhofaaDoor.H
