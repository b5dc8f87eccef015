/- The operations on sets of numbers below eight. -/
import Derived.Laws.BitsLemmas
import Derived.Test.YtegogaokcafpjaaDoorWMore
namespace Go.Proofs.YtegogaokcafpjaaDoor.H
open Go.RowKit Go.Proofs.YtegogaokcafpjaaDoorW.PrintWords Go.Proofs.YtegogaokcafpjaaDoorW.PrintLast Go.Proofs.YtegogaokcafpjaaDoorW.PrintMore
set_option maxRecDepth 100000 in
theorem with_bits : ∀ s : Nat, s < 256 → ∀ i : Nat, i < 8 → Go.bits .or .u16 (s : Int) (shl .u16 1 (i : Int)) = ((s ||| 2 ^ i : Nat) : Int) := by decide +kernel
set_option maxRecDepth 100000 in
theorem has_bits : ∀ s : Nat, s < 256 → ∀ i : Nat, i < 8 → (Go.bits .and .u16 (shr .u16 (s : Int) (i : Int)) 1 == 1) = s.testBit i := by decide +kernel
set_option maxRecDepth 100000 in
theorem minus_bits : ∀ s : Nat, s < 256 → ∀ d : Nat, d < 256 → Go.bits .andNot .u16 (s : Int) (d : Int) = ((s &&& (255 - d) : Nat) : Int) := by decide +kernel
set_option maxRecDepth 100000 in
theorem all_bits : ∀ n : Nat, n ≤ 8 → IntKind.u16.wrap (shl .u16 1 (n : Int) - 1) = ((2 ^ n - 1 : Nat) : Int) := by decide +kernel
set_option maxRecDepth 100000 in
theorem minus_test : ∀ d : Nat, d < 256 → ∀ i : Nat, i < 8 → (255 - d).testBit i = !d.testBit i := by decide +kernel
end Go.Proofs.YtegogaokcafpjaaDoor.H
