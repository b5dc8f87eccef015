/- Plain facts on 64-bit numbers, no condition. -/
import Derived.Laws.BitsLemmas
import Derived.Test.YtidicbddlpeiiaaWMore
import Derived.Test.YtidicbddlpeiiaaWLast
namespace Go.Proofs.Ytidicbddlpeiiaa.Pure
open Go.RowKit Go.Proofs.YtidicbddlpeiiaaW.PrintWords Go.Proofs.YtidicbddlpeiiaaW.PrintLast Go.Proofs.YtidicbddlpeiiaaW.PrintMore
set_option linter.unusedSimpArgs false
set_option linter.unusedVariables false

/-! ### The reader's numbers -/
theorem w64 (n : Int) (h0 : -9223372036854775808 ≤ n) (h1 : n ≤ 9223372036854775807) : wrap64 n = n := by
  unfold wrap64
  omega

end Go.Proofs.Ytidicbddlpeiiaa.Pure
