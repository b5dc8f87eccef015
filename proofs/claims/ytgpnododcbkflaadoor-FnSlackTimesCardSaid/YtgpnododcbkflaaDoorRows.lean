/-
  NARROWER THAN 'FOR EVERY INPUT', by the rows' own cells (each row's printed sentence says how): FnCriticalChainSlack: laid · FnHeadTimes: laid · FnExactHeadTimes: laid · FnTailTimesHeads: laid · FnSlackTimesZero: laid · FnExactSlackTimes: laid · FnSlackTimes: laid · FnSlackTimesMore: laid · FnExactCriticalChain: laid · FnCriticalChainLonger: laid · FnCriticalChain: laid · FnTailTimesLast: laid.
  DERIVED. THE GIVEN ROWS OF THIS SEAT. 12 by the template 'for every input the law returns true; each argument reads behind the call as it read before'; 0 by the template 'total and deterministic' (their statements: YtgpnododcbkflaaDoorTotals.lean).
  GIVEN WITH THE SEED: the statements are not yours to turn. If you find one false, say at which input.
  Laid BY PROGRAM, IN A SANDBOX (cutbox-rows.mjs): the forced cells as the released guide's own fill.sh prints them over the translation 8f4c96681511b0db… (all of the seat's roots in one cut). By AI agents, Wed Nov 11 2026. No macro, syntax, notation, axiom, sorry.
-/
import Derived.Test.YtgpnododcbkflaaDoorChecked
import GoSem.Claim
import GoSem.ClaimJoined
import GoSem.ClaimMapViews
import Derived.JoinedTies
import Derived.KernelRfl
namespace Go.Proofs.YtgpnododcbkflaaDoor
/- THE CELL 'sum', in the pinned program and in every row, IS THE sha256 OF THE DUMP (.gsa) THAT YtgpnododcbkflaaDoorProg.lean LOADS. Nothing in Lean hashes anything: it is a label: what it is worth is what the hold of that sum in a sandbox is worth. -/
noncomputable def Tryd.pinned : Pinned := { name := "ytgpnododcbkflaadoor", sum := "8f4c96681511b0db95620027336a1678777a8f49f5b622414c2202e482d95d99", checked := Tryd.checked }
namespace Rows
def none {H : Type} : Left H := { results := [], args := [] }

/- WHAT THE LISTED PACKAGE-LEVEL VARIABLES READ AS WHEN THE CALL BEGINS. Each datum BY PROGRAM (the guide's laid-datum.mjs) off the statement by which the dump's own 'gosem.cut.vars' lays the variable. In a bare row this is a premise. The card (YtgpnododcbkflaaDoorCards.lean) ties it to the program's text. -/
def laid_math_bits_deBruijn32tab {H : Type} : DataW H := .agg [.lit (.int .u8 0), .lit (.int .u8 1), .lit (.int .u8 28), .lit (.int .u8 2), .lit (.int .u8 29), .lit (.int .u8 14), .lit (.int .u8 24), .lit (.int .u8 3), .lit (.int .u8 30), .lit (.int .u8 22), .lit (.int .u8 20), .lit (.int .u8 15), .lit (.int .u8 25), .lit (.int .u8 17), .lit (.int .u8 4), .lit (.int .u8 8), .lit (.int .u8 31), .lit (.int .u8 27), .lit (.int .u8 13), .lit (.int .u8 23), .lit (.int .u8 21), .lit (.int .u8 19), .lit (.int .u8 16), .lit (.int .u8 7), .lit (.int .u8 26), .lit (.int .u8 12), .lit (.int .u8 18), .lit (.int .u8 6), .lit (.int .u8 11), .lit (.int .u8 5), .lit (.int .u8 10), .lit (.int .u8 9)]

/-- 'laws.FnCriticalChainSlack': WHATEVER THE INPUT: true; the input reads as it did. -/
def fnCriticalChainSlackSpec : ChangeSpec := { name := "fnCriticalChainSlack", fn := fun _ => fun
  | [d] => { results := [.lit (.bool true)], args := [d] }
  | _ => none }
def fnCriticalChainSlackRow : OpenClaim := { program := "ytgpnododcbkflaadoor", sum := "8f4c96681511b0db95620027336a1678777a8f49f5b622414c2202e482d95d99", func := "loop.example/buildscheduler/laws.FnCriticalChainSlack", spec := "fnCriticalChainSlack", unfollowed := true, recurses := true, named := ["math/bits.deBruijn32tab"], apart := false, laid := [("math/bits.deBruijn32tab", laid_math_bits_deBruijn32tab)] }
def FnCriticalChainSlackSaid : Prop := fnCriticalChainSlackRow.holds Tryd.pinned (OpenSpec.ofChange fnCriticalChainSlackSpec)

/-- ITS FALSE NEIGHBOUR: 'it returns false'. Refute it at one input. -/
def fnCriticalChainSlackWrong : ChangeSpec := { name := "fnCriticalChainSlack", fn := fun _ => fun
  | [d] => { results := [.lit (.bool false)], args := [d] }
  | _ => none }
def FnCriticalChainSlackWrongFalsely : Prop := fnCriticalChainSlackRow.holds Tryd.pinned (OpenSpec.ofChange fnCriticalChainSlackWrong)

/-- 'laws.FnHeadTimes': WHATEVER THE INPUT: true; the input reads as it did. -/
def fnHeadTimesSpec : ChangeSpec := { name := "fnHeadTimes", fn := fun _ => fun
  | [d] => { results := [.lit (.bool true)], args := [d] }
  | _ => none }
def fnHeadTimesRow : OpenClaim := { program := "ytgpnododcbkflaadoor", sum := "8f4c96681511b0db95620027336a1678777a8f49f5b622414c2202e482d95d99", func := "loop.example/buildscheduler/laws.FnHeadTimes", spec := "fnHeadTimes", unfollowed := true, recurses := true, named := ["math/bits.deBruijn32tab"], apart := false, laid := [("math/bits.deBruijn32tab", laid_math_bits_deBruijn32tab)] }
def FnHeadTimesSaid : Prop := fnHeadTimesRow.holds Tryd.pinned (OpenSpec.ofChange fnHeadTimesSpec)

/-- ITS FALSE NEIGHBOUR: 'it returns false'. Refute it at one input. -/
def fnHeadTimesWrong : ChangeSpec := { name := "fnHeadTimes", fn := fun _ => fun
  | [d] => { results := [.lit (.bool false)], args := [d] }
  | _ => none }
def FnHeadTimesWrongFalsely : Prop := fnHeadTimesRow.holds Tryd.pinned (OpenSpec.ofChange fnHeadTimesWrong)

/-- 'laws.FnExactHeadTimes': WHATEVER THE INPUT: true; the input reads as it did. -/
def fnExactHeadTimesSpec : ChangeSpec := { name := "fnExactHeadTimes", fn := fun _ => fun
  | [d] => { results := [.lit (.bool true)], args := [d] }
  | _ => none }
def fnExactHeadTimesRow : OpenClaim := { program := "ytgpnododcbkflaadoor", sum := "8f4c96681511b0db95620027336a1678777a8f49f5b622414c2202e482d95d99", func := "loop.example/buildscheduler/laws.FnExactHeadTimes", spec := "fnExactHeadTimes", unfollowed := true, recurses := true, named := ["math/bits.deBruijn32tab"], apart := false, laid := [("math/bits.deBruijn32tab", laid_math_bits_deBruijn32tab)] }
def FnExactHeadTimesSaid : Prop := fnExactHeadTimesRow.holds Tryd.pinned (OpenSpec.ofChange fnExactHeadTimesSpec)

/-- ITS FALSE NEIGHBOUR: 'it returns false'. Refute it at one input. -/
def fnExactHeadTimesWrong : ChangeSpec := { name := "fnExactHeadTimes", fn := fun _ => fun
  | [d] => { results := [.lit (.bool false)], args := [d] }
  | _ => none }
def FnExactHeadTimesWrongFalsely : Prop := fnExactHeadTimesRow.holds Tryd.pinned (OpenSpec.ofChange fnExactHeadTimesWrong)

/-- 'laws.FnTailTimesHeads': WHATEVER THE INPUT: true; the input reads as it did. -/
def fnTailTimesHeadsSpec : ChangeSpec := { name := "fnTailTimesHeads", fn := fun _ => fun
  | [d] => { results := [.lit (.bool true)], args := [d] }
  | _ => none }
def fnTailTimesHeadsRow : OpenClaim := { program := "ytgpnododcbkflaadoor", sum := "8f4c96681511b0db95620027336a1678777a8f49f5b622414c2202e482d95d99", func := "loop.example/buildscheduler/laws.FnTailTimesHeads", spec := "fnTailTimesHeads", unfollowed := true, recurses := true, named := ["math/bits.deBruijn32tab"], apart := false, laid := [("math/bits.deBruijn32tab", laid_math_bits_deBruijn32tab)] }
def FnTailTimesHeadsSaid : Prop := fnTailTimesHeadsRow.holds Tryd.pinned (OpenSpec.ofChange fnTailTimesHeadsSpec)

/-- ITS FALSE NEIGHBOUR: 'it returns false'. Refute it at one input. -/
def fnTailTimesHeadsWrong : ChangeSpec := { name := "fnTailTimesHeads", fn := fun _ => fun
  | [d] => { results := [.lit (.bool false)], args := [d] }
  | _ => none }
def FnTailTimesHeadsWrongFalsely : Prop := fnTailTimesHeadsRow.holds Tryd.pinned (OpenSpec.ofChange fnTailTimesHeadsWrong)

/-- 'laws.FnSlackTimesZero': WHATEVER THE INPUT: true; the input reads as it did. -/
def fnSlackTimesZeroSpec : ChangeSpec := { name := "fnSlackTimesZero", fn := fun _ => fun
  | [d] => { results := [.lit (.bool true)], args := [d] }
  | _ => none }
def fnSlackTimesZeroRow : OpenClaim := { program := "ytgpnododcbkflaadoor", sum := "8f4c96681511b0db95620027336a1678777a8f49f5b622414c2202e482d95d99", func := "loop.example/buildscheduler/laws.FnSlackTimesZero", spec := "fnSlackTimesZero", unfollowed := true, recurses := true, named := ["math/bits.deBruijn32tab"], apart := false, laid := [("math/bits.deBruijn32tab", laid_math_bits_deBruijn32tab)] }
def FnSlackTimesZeroSaid : Prop := fnSlackTimesZeroRow.holds Tryd.pinned (OpenSpec.ofChange fnSlackTimesZeroSpec)

/-- ITS FALSE NEIGHBOUR: 'it returns false'. Refute it at one input. -/
def fnSlackTimesZeroWrong : ChangeSpec := { name := "fnSlackTimesZero", fn := fun _ => fun
  | [d] => { results := [.lit (.bool false)], args := [d] }
  | _ => none }
def FnSlackTimesZeroWrongFalsely : Prop := fnSlackTimesZeroRow.holds Tryd.pinned (OpenSpec.ofChange fnSlackTimesZeroWrong)

/-- 'laws.FnExactSlackTimes': WHATEVER THE INPUT: true; the input reads as it did. -/
def fnExactSlackTimesSpec : ChangeSpec := { name := "fnExactSlackTimes", fn := fun _ => fun
  | [d] => { results := [.lit (.bool true)], args := [d] }
  | _ => none }
def fnExactSlackTimesRow : OpenClaim := { program := "ytgpnododcbkflaadoor", sum := "8f4c96681511b0db95620027336a1678777a8f49f5b622414c2202e482d95d99", func := "loop.example/buildscheduler/laws.FnExactSlackTimes", spec := "fnExactSlackTimes", unfollowed := true, recurses := true, named := ["math/bits.deBruijn32tab"], apart := false, laid := [("math/bits.deBruijn32tab", laid_math_bits_deBruijn32tab)] }
def FnExactSlackTimesSaid : Prop := fnExactSlackTimesRow.holds Tryd.pinned (OpenSpec.ofChange fnExactSlackTimesSpec)

/-- ITS FALSE NEIGHBOUR: 'it returns false'. Refute it at one input. -/
def fnExactSlackTimesWrong : ChangeSpec := { name := "fnExactSlackTimes", fn := fun _ => fun
  | [d] => { results := [.lit (.bool false)], args := [d] }
  | _ => none }
def FnExactSlackTimesWrongFalsely : Prop := fnExactSlackTimesRow.holds Tryd.pinned (OpenSpec.ofChange fnExactSlackTimesWrong)

/-- 'laws.FnSlackTimes': WHATEVER THE INPUT: true; the input reads as it did. -/
def fnSlackTimesSpec : ChangeSpec := { name := "fnSlackTimes", fn := fun _ => fun
  | [d] => { results := [.lit (.bool true)], args := [d] }
  | _ => none }
def fnSlackTimesRow : OpenClaim := { program := "ytgpnododcbkflaadoor", sum := "8f4c96681511b0db95620027336a1678777a8f49f5b622414c2202e482d95d99", func := "loop.example/buildscheduler/laws.FnSlackTimes", spec := "fnSlackTimes", unfollowed := true, recurses := true, named := ["math/bits.deBruijn32tab"], apart := false, laid := [("math/bits.deBruijn32tab", laid_math_bits_deBruijn32tab)] }
def FnSlackTimesSaid : Prop := fnSlackTimesRow.holds Tryd.pinned (OpenSpec.ofChange fnSlackTimesSpec)

/-- ITS FALSE NEIGHBOUR: 'it returns false'. Refute it at one input. -/
def fnSlackTimesWrong : ChangeSpec := { name := "fnSlackTimes", fn := fun _ => fun
  | [d] => { results := [.lit (.bool false)], args := [d] }
  | _ => none }
def FnSlackTimesWrongFalsely : Prop := fnSlackTimesRow.holds Tryd.pinned (OpenSpec.ofChange fnSlackTimesWrong)

/-- 'laws.FnSlackTimesMore': WHATEVER THE INPUT: true; the input reads as it did. -/
def fnSlackTimesMoreSpec : ChangeSpec := { name := "fnSlackTimesMore", fn := fun _ => fun
  | [d] => { results := [.lit (.bool true)], args := [d] }
  | _ => none }
def fnSlackTimesMoreRow : OpenClaim := { program := "ytgpnododcbkflaadoor", sum := "8f4c96681511b0db95620027336a1678777a8f49f5b622414c2202e482d95d99", func := "loop.example/buildscheduler/laws.FnSlackTimesMore", spec := "fnSlackTimesMore", unfollowed := true, recurses := true, named := ["math/bits.deBruijn32tab"], apart := false, laid := [("math/bits.deBruijn32tab", laid_math_bits_deBruijn32tab)] }
def FnSlackTimesMoreSaid : Prop := fnSlackTimesMoreRow.holds Tryd.pinned (OpenSpec.ofChange fnSlackTimesMoreSpec)

/-- ITS FALSE NEIGHBOUR: 'it returns false'. Refute it at one input. -/
def fnSlackTimesMoreWrong : ChangeSpec := { name := "fnSlackTimesMore", fn := fun _ => fun
  | [d] => { results := [.lit (.bool false)], args := [d] }
  | _ => none }
def FnSlackTimesMoreWrongFalsely : Prop := fnSlackTimesMoreRow.holds Tryd.pinned (OpenSpec.ofChange fnSlackTimesMoreWrong)

/-- 'laws.FnExactCriticalChain': WHATEVER THE INPUT: true; the input reads as it did. -/
def fnExactCriticalChainSpec : ChangeSpec := { name := "fnExactCriticalChain", fn := fun _ => fun
  | [d] => { results := [.lit (.bool true)], args := [d] }
  | _ => none }
def fnExactCriticalChainRow : OpenClaim := { program := "ytgpnododcbkflaadoor", sum := "8f4c96681511b0db95620027336a1678777a8f49f5b622414c2202e482d95d99", func := "loop.example/buildscheduler/laws.FnExactCriticalChain", spec := "fnExactCriticalChain", unfollowed := true, recurses := true, named := ["math/bits.deBruijn32tab"], apart := false, laid := [("math/bits.deBruijn32tab", laid_math_bits_deBruijn32tab)] }
def FnExactCriticalChainSaid : Prop := fnExactCriticalChainRow.holds Tryd.pinned (OpenSpec.ofChange fnExactCriticalChainSpec)

/-- ITS FALSE NEIGHBOUR: 'it returns false'. Refute it at one input. -/
def fnExactCriticalChainWrong : ChangeSpec := { name := "fnExactCriticalChain", fn := fun _ => fun
  | [d] => { results := [.lit (.bool false)], args := [d] }
  | _ => none }
def FnExactCriticalChainWrongFalsely : Prop := fnExactCriticalChainRow.holds Tryd.pinned (OpenSpec.ofChange fnExactCriticalChainWrong)

/-- 'laws.FnCriticalChainLonger': WHATEVER THE INPUT: true; the input reads as it did. -/
def fnCriticalChainLongerSpec : ChangeSpec := { name := "fnCriticalChainLonger", fn := fun _ => fun
  | [d] => { results := [.lit (.bool true)], args := [d] }
  | _ => none }
def fnCriticalChainLongerRow : OpenClaim := { program := "ytgpnododcbkflaadoor", sum := "8f4c96681511b0db95620027336a1678777a8f49f5b622414c2202e482d95d99", func := "loop.example/buildscheduler/laws.FnCriticalChainLonger", spec := "fnCriticalChainLonger", unfollowed := true, recurses := true, named := ["math/bits.deBruijn32tab"], apart := false, laid := [("math/bits.deBruijn32tab", laid_math_bits_deBruijn32tab)] }
def FnCriticalChainLongerSaid : Prop := fnCriticalChainLongerRow.holds Tryd.pinned (OpenSpec.ofChange fnCriticalChainLongerSpec)

/-- ITS FALSE NEIGHBOUR: 'it returns false'. Refute it at one input. -/
def fnCriticalChainLongerWrong : ChangeSpec := { name := "fnCriticalChainLonger", fn := fun _ => fun
  | [d] => { results := [.lit (.bool false)], args := [d] }
  | _ => none }
def FnCriticalChainLongerWrongFalsely : Prop := fnCriticalChainLongerRow.holds Tryd.pinned (OpenSpec.ofChange fnCriticalChainLongerWrong)

/-- 'laws.FnCriticalChain': WHATEVER THE INPUT: true; the input reads as it did. -/
def fnCriticalChainSpec : ChangeSpec := { name := "fnCriticalChain", fn := fun _ => fun
  | [d] => { results := [.lit (.bool true)], args := [d] }
  | _ => none }
def fnCriticalChainRow : OpenClaim := { program := "ytgpnododcbkflaadoor", sum := "8f4c96681511b0db95620027336a1678777a8f49f5b622414c2202e482d95d99", func := "loop.example/buildscheduler/laws.FnCriticalChain", spec := "fnCriticalChain", unfollowed := true, recurses := true, named := ["math/bits.deBruijn32tab"], apart := false, laid := [("math/bits.deBruijn32tab", laid_math_bits_deBruijn32tab)] }
def FnCriticalChainSaid : Prop := fnCriticalChainRow.holds Tryd.pinned (OpenSpec.ofChange fnCriticalChainSpec)

/-- ITS FALSE NEIGHBOUR: 'it returns false'. Refute it at one input. -/
def fnCriticalChainWrong : ChangeSpec := { name := "fnCriticalChain", fn := fun _ => fun
  | [d] => { results := [.lit (.bool false)], args := [d] }
  | _ => none }
def FnCriticalChainWrongFalsely : Prop := fnCriticalChainRow.holds Tryd.pinned (OpenSpec.ofChange fnCriticalChainWrong)

/-- 'laws.FnTailTimesLast': WHATEVER THE INPUT: true; the input reads as it did. -/
def fnTailTimesLastSpec : ChangeSpec := { name := "fnTailTimesLast", fn := fun _ => fun
  | [d] => { results := [.lit (.bool true)], args := [d] }
  | _ => none }
def fnTailTimesLastRow : OpenClaim := { program := "ytgpnododcbkflaadoor", sum := "8f4c96681511b0db95620027336a1678777a8f49f5b622414c2202e482d95d99", func := "loop.example/buildscheduler/laws.FnTailTimesLast", spec := "fnTailTimesLast", unfollowed := true, recurses := true, named := ["math/bits.deBruijn32tab"], apart := false, laid := [("math/bits.deBruijn32tab", laid_math_bits_deBruijn32tab)] }
def FnTailTimesLastSaid : Prop := fnTailTimesLastRow.holds Tryd.pinned (OpenSpec.ofChange fnTailTimesLastSpec)

/-- ITS FALSE NEIGHBOUR: 'it returns false'. Refute it at one input. -/
def fnTailTimesLastWrong : ChangeSpec := { name := "fnTailTimesLast", fn := fun _ => fun
  | [d] => { results := [.lit (.bool false)], args := [d] }
  | _ => none }
def FnTailTimesLastWrongFalsely : Prop := fnTailTimesLastRow.holds Tryd.pinned (OpenSpec.ofChange fnTailTimesLastWrong)

/- THE SECOND FORM. 'bulk': how many values and letters a reading holds, each counted each time it is reached (what is shared counts as often as it is met; a slice's spare places count too). A statement '..UptoSaid' is the law's where the arguments, and the package variables that the reading takes, are together of bulk at most 1048576: NARROWER than '..Said'. Prove '..Said' where nothing that the law and all that it calls make is longer than what came in: it says more and counts as full. Else prove '..UptoSaid'. A law counts once. -/
mutual
def uptoBulk {H : Type} : DataW H → Nat
  | .lit (.string bytes) => bytes.length + 1
  | .lit _ => 1
  | .nil => 1
  | .ptr d => uptoBulk d + 1
  | .slice elems spare => uptoBulkAll elems + uptoBulkAll spare + 1
  | .agg parts => uptoBulkAll parts + 1
  | .iface _ d => uptoBulk d + 1
  | .map entries => uptoBulkEntries entries + 1
  | .held _ => 1
def uptoBulkAll {H : Type} : List (DataW H) → Nat
  | [] => 0
  | d :: r => uptoBulk d + uptoBulkAll r
def uptoBulkEntries {H : Type} : List (Lit × DataW H) → Nat
  | [] => 0
  | x :: r => uptoBulkEntry x + uptoBulkEntries r
def uptoBulkEntry {H : Type} : Lit × DataW H → Nat
  | (.string bytes, d) => bytes.length + uptoBulk d + 1
  | (_, d) => uptoBulk d + 1
 end
def uptoSmall : (H : Type) → List (DataW H) → Bool := fun _ ds => decide (uptoBulkAll ds ≤ 1048576)
def OpenSpec.upto (s : _root_.Go.ChangeSpec) : _root_.Go.OpenSpec := { _root_.Go.OpenSpec.ofChange s with cond := some uptoSmall }

/-- 'laws.FnCriticalChainSlack', WHERE WHAT IT READS IS OF BULK AT MOST 1048576: true; the input reads as it did. -/
def fnCriticalChainSlackUptoRow : OpenClaim := { program := "ytgpnododcbkflaadoor", sum := "8f4c96681511b0db95620027336a1678777a8f49f5b622414c2202e482d95d99", func := "loop.example/buildscheduler/laws.FnCriticalChainSlack", spec := "fnCriticalChainSlack", unfollowed := true, recurses := true, named := ["math/bits.deBruijn32tab"], apart := false, laid := [("math/bits.deBruijn32tab", laid_math_bits_deBruijn32tab)], narrowed := true }
def FnCriticalChainSlackUptoSaid : Prop := fnCriticalChainSlackUptoRow.holds Tryd.pinned (OpenSpec.upto fnCriticalChainSlackSpec)

/-- 'laws.FnHeadTimes', WHERE WHAT IT READS IS OF BULK AT MOST 1048576: true; the input reads as it did. -/
def fnHeadTimesUptoRow : OpenClaim := { program := "ytgpnododcbkflaadoor", sum := "8f4c96681511b0db95620027336a1678777a8f49f5b622414c2202e482d95d99", func := "loop.example/buildscheduler/laws.FnHeadTimes", spec := "fnHeadTimes", unfollowed := true, recurses := true, named := ["math/bits.deBruijn32tab"], apart := false, laid := [("math/bits.deBruijn32tab", laid_math_bits_deBruijn32tab)], narrowed := true }
def FnHeadTimesUptoSaid : Prop := fnHeadTimesUptoRow.holds Tryd.pinned (OpenSpec.upto fnHeadTimesSpec)

/-- 'laws.FnExactHeadTimes', WHERE WHAT IT READS IS OF BULK AT MOST 1048576: true; the input reads as it did. -/
def fnExactHeadTimesUptoRow : OpenClaim := { program := "ytgpnododcbkflaadoor", sum := "8f4c96681511b0db95620027336a1678777a8f49f5b622414c2202e482d95d99", func := "loop.example/buildscheduler/laws.FnExactHeadTimes", spec := "fnExactHeadTimes", unfollowed := true, recurses := true, named := ["math/bits.deBruijn32tab"], apart := false, laid := [("math/bits.deBruijn32tab", laid_math_bits_deBruijn32tab)], narrowed := true }
def FnExactHeadTimesUptoSaid : Prop := fnExactHeadTimesUptoRow.holds Tryd.pinned (OpenSpec.upto fnExactHeadTimesSpec)

/-- 'laws.FnTailTimesHeads', WHERE WHAT IT READS IS OF BULK AT MOST 1048576: true; the input reads as it did. -/
def fnTailTimesHeadsUptoRow : OpenClaim := { program := "ytgpnododcbkflaadoor", sum := "8f4c96681511b0db95620027336a1678777a8f49f5b622414c2202e482d95d99", func := "loop.example/buildscheduler/laws.FnTailTimesHeads", spec := "fnTailTimesHeads", unfollowed := true, recurses := true, named := ["math/bits.deBruijn32tab"], apart := false, laid := [("math/bits.deBruijn32tab", laid_math_bits_deBruijn32tab)], narrowed := true }
def FnTailTimesHeadsUptoSaid : Prop := fnTailTimesHeadsUptoRow.holds Tryd.pinned (OpenSpec.upto fnTailTimesHeadsSpec)

/-- 'laws.FnSlackTimesZero', WHERE WHAT IT READS IS OF BULK AT MOST 1048576: true; the input reads as it did. -/
def fnSlackTimesZeroUptoRow : OpenClaim := { program := "ytgpnododcbkflaadoor", sum := "8f4c96681511b0db95620027336a1678777a8f49f5b622414c2202e482d95d99", func := "loop.example/buildscheduler/laws.FnSlackTimesZero", spec := "fnSlackTimesZero", unfollowed := true, recurses := true, named := ["math/bits.deBruijn32tab"], apart := false, laid := [("math/bits.deBruijn32tab", laid_math_bits_deBruijn32tab)], narrowed := true }
def FnSlackTimesZeroUptoSaid : Prop := fnSlackTimesZeroUptoRow.holds Tryd.pinned (OpenSpec.upto fnSlackTimesZeroSpec)

/-- 'laws.FnExactSlackTimes', WHERE WHAT IT READS IS OF BULK AT MOST 1048576: true; the input reads as it did. -/
def fnExactSlackTimesUptoRow : OpenClaim := { program := "ytgpnododcbkflaadoor", sum := "8f4c96681511b0db95620027336a1678777a8f49f5b622414c2202e482d95d99", func := "loop.example/buildscheduler/laws.FnExactSlackTimes", spec := "fnExactSlackTimes", unfollowed := true, recurses := true, named := ["math/bits.deBruijn32tab"], apart := false, laid := [("math/bits.deBruijn32tab", laid_math_bits_deBruijn32tab)], narrowed := true }
def FnExactSlackTimesUptoSaid : Prop := fnExactSlackTimesUptoRow.holds Tryd.pinned (OpenSpec.upto fnExactSlackTimesSpec)

/-- 'laws.FnSlackTimes', WHERE WHAT IT READS IS OF BULK AT MOST 1048576: true; the input reads as it did. -/
def fnSlackTimesUptoRow : OpenClaim := { program := "ytgpnododcbkflaadoor", sum := "8f4c96681511b0db95620027336a1678777a8f49f5b622414c2202e482d95d99", func := "loop.example/buildscheduler/laws.FnSlackTimes", spec := "fnSlackTimes", unfollowed := true, recurses := true, named := ["math/bits.deBruijn32tab"], apart := false, laid := [("math/bits.deBruijn32tab", laid_math_bits_deBruijn32tab)], narrowed := true }
def FnSlackTimesUptoSaid : Prop := fnSlackTimesUptoRow.holds Tryd.pinned (OpenSpec.upto fnSlackTimesSpec)

/-- 'laws.FnSlackTimesMore', WHERE WHAT IT READS IS OF BULK AT MOST 1048576: true; the input reads as it did. -/
def fnSlackTimesMoreUptoRow : OpenClaim := { program := "ytgpnododcbkflaadoor", sum := "8f4c96681511b0db95620027336a1678777a8f49f5b622414c2202e482d95d99", func := "loop.example/buildscheduler/laws.FnSlackTimesMore", spec := "fnSlackTimesMore", unfollowed := true, recurses := true, named := ["math/bits.deBruijn32tab"], apart := false, laid := [("math/bits.deBruijn32tab", laid_math_bits_deBruijn32tab)], narrowed := true }
def FnSlackTimesMoreUptoSaid : Prop := fnSlackTimesMoreUptoRow.holds Tryd.pinned (OpenSpec.upto fnSlackTimesMoreSpec)

/-- 'laws.FnExactCriticalChain', WHERE WHAT IT READS IS OF BULK AT MOST 1048576: true; the input reads as it did. -/
def fnExactCriticalChainUptoRow : OpenClaim := { program := "ytgpnododcbkflaadoor", sum := "8f4c96681511b0db95620027336a1678777a8f49f5b622414c2202e482d95d99", func := "loop.example/buildscheduler/laws.FnExactCriticalChain", spec := "fnExactCriticalChain", unfollowed := true, recurses := true, named := ["math/bits.deBruijn32tab"], apart := false, laid := [("math/bits.deBruijn32tab", laid_math_bits_deBruijn32tab)], narrowed := true }
def FnExactCriticalChainUptoSaid : Prop := fnExactCriticalChainUptoRow.holds Tryd.pinned (OpenSpec.upto fnExactCriticalChainSpec)

/-- 'laws.FnCriticalChainLonger', WHERE WHAT IT READS IS OF BULK AT MOST 1048576: true; the input reads as it did. -/
def fnCriticalChainLongerUptoRow : OpenClaim := { program := "ytgpnododcbkflaadoor", sum := "8f4c96681511b0db95620027336a1678777a8f49f5b622414c2202e482d95d99", func := "loop.example/buildscheduler/laws.FnCriticalChainLonger", spec := "fnCriticalChainLonger", unfollowed := true, recurses := true, named := ["math/bits.deBruijn32tab"], apart := false, laid := [("math/bits.deBruijn32tab", laid_math_bits_deBruijn32tab)], narrowed := true }
def FnCriticalChainLongerUptoSaid : Prop := fnCriticalChainLongerUptoRow.holds Tryd.pinned (OpenSpec.upto fnCriticalChainLongerSpec)

/-- 'laws.FnCriticalChain', WHERE WHAT IT READS IS OF BULK AT MOST 1048576: true; the input reads as it did. -/
def fnCriticalChainUptoRow : OpenClaim := { program := "ytgpnododcbkflaadoor", sum := "8f4c96681511b0db95620027336a1678777a8f49f5b622414c2202e482d95d99", func := "loop.example/buildscheduler/laws.FnCriticalChain", spec := "fnCriticalChain", unfollowed := true, recurses := true, named := ["math/bits.deBruijn32tab"], apart := false, laid := [("math/bits.deBruijn32tab", laid_math_bits_deBruijn32tab)], narrowed := true }
def FnCriticalChainUptoSaid : Prop := fnCriticalChainUptoRow.holds Tryd.pinned (OpenSpec.upto fnCriticalChainSpec)

/-- 'laws.FnTailTimesLast', WHERE WHAT IT READS IS OF BULK AT MOST 1048576: true; the input reads as it did. -/
def fnTailTimesLastUptoRow : OpenClaim := { program := "ytgpnododcbkflaadoor", sum := "8f4c96681511b0db95620027336a1678777a8f49f5b622414c2202e482d95d99", func := "loop.example/buildscheduler/laws.FnTailTimesLast", spec := "fnTailTimesLast", unfollowed := true, recurses := true, named := ["math/bits.deBruijn32tab"], apart := false, laid := [("math/bits.deBruijn32tab", laid_math_bits_deBruijn32tab)], narrowed := true }
def FnTailTimesLastUptoSaid : Prop := fnTailTimesLastUptoRow.holds Tryd.pinned (OpenSpec.upto fnTailTimesLastSpec)

end Rows
end Go.Proofs.YtgpnododcbkflaaDoor
