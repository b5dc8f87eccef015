/-
  NARROWER THAN 'FOR EVERY INPUT', by the rows' own cells (each row's printed sentence says how): FnExactValidGraph: laid · FnValidGraph: laid · FnTopOrderBegin: laid · FnTopOrderFree: laid · FnTopOrderLeast: laid · FnExactTopOrder: laid · FnTopOrder: laid · FnExactStuckTasks: laid · FnStuckTasksNeeds: laid · FnStuckTasks: laid · FnExactValidDone: laid · FnExactWaitsFor: laid.
  DERIVED. THE GIVEN ROWS OF THIS SEAT. 12 by the template 'for every input the law returns true; each argument reads behind the call as it read before'; 0 by the template 'total and deterministic' (their statements: YtegogaokcafpjaaDoorTotals.lean).
  GIVEN WITH THE SEED: the statements are not yours to turn. If you find one false, say at which input.
  Laid BY PROGRAM, IN A SANDBOX (cutbox-rows.mjs): the forced cells as the released guide's own fill.sh prints them over the translation 9f5220f433e855cc… (all of the seat's roots in one cut). By AI agents, Wed Nov 11 2026. No macro, syntax, notation, axiom, sorry.
-/
import Derived.Test.YtegogaokcafpjaaDoorChecked
import GoSem.Claim
import GoSem.ClaimJoined
import GoSem.ClaimMapViews
import Derived.JoinedTies
import Derived.KernelRfl
namespace Go.Proofs.YtegogaokcafpjaaDoor
/- THE CELL 'sum', in the pinned program and in every row, IS THE sha256 OF THE DUMP (.gsa) THAT YtegogaokcafpjaaDoorProg.lean LOADS. Nothing in Lean hashes anything: it is a label: what it is worth is what the hold of that sum in a sandbox is worth. -/
noncomputable def Tryd.pinned : Pinned := { name := "ytegogaokcafpjaadoor", sum := "9f5220f433e855cc6ebe4ad788f148d29b6d43078c3f440e1a60b5aaab1bb6e4", checked := Tryd.checked }
namespace Rows
def none {H : Type} : Left H := { results := [], args := [] }

/- WHAT THE LISTED PACKAGE-LEVEL VARIABLES READ AS WHEN THE CALL BEGINS. Each datum BY PROGRAM (the guide's laid-datum.mjs) off the statement by which the dump's own 'gosem.cut.vars' lays the variable. In a bare row this is a premise. The card (YtegogaokcafpjaaDoorCards.lean) ties it to the program's text. -/
def laid_math_bits_deBruijn32tab {H : Type} : DataW H := .agg [.lit (.int .u8 0), .lit (.int .u8 1), .lit (.int .u8 28), .lit (.int .u8 2), .lit (.int .u8 29), .lit (.int .u8 14), .lit (.int .u8 24), .lit (.int .u8 3), .lit (.int .u8 30), .lit (.int .u8 22), .lit (.int .u8 20), .lit (.int .u8 15), .lit (.int .u8 25), .lit (.int .u8 17), .lit (.int .u8 4), .lit (.int .u8 8), .lit (.int .u8 31), .lit (.int .u8 27), .lit (.int .u8 13), .lit (.int .u8 23), .lit (.int .u8 21), .lit (.int .u8 19), .lit (.int .u8 16), .lit (.int .u8 7), .lit (.int .u8 26), .lit (.int .u8 12), .lit (.int .u8 18), .lit (.int .u8 6), .lit (.int .u8 11), .lit (.int .u8 5), .lit (.int .u8 10), .lit (.int .u8 9)]

/-- 'laws.FnExactValidGraph': WHATEVER THE INPUT: true; the input reads as it did. -/
def fnExactValidGraphSpec : ChangeSpec := { name := "fnExactValidGraph", fn := fun _ => fun
  | [d] => { results := [.lit (.bool true)], args := [d] }
  | _ => none }
def fnExactValidGraphRow : OpenClaim := { program := "ytegogaokcafpjaadoor", sum := "9f5220f433e855cc6ebe4ad788f148d29b6d43078c3f440e1a60b5aaab1bb6e4", func := "loop.example/buildscheduler/laws.FnExactValidGraph", spec := "fnExactValidGraph", unfollowed := true, recurses := true, named := ["math/bits.deBruijn32tab"], apart := false, laid := [("math/bits.deBruijn32tab", laid_math_bits_deBruijn32tab)] }
def FnExactValidGraphSaid : Prop := fnExactValidGraphRow.holds Tryd.pinned (OpenSpec.ofChange fnExactValidGraphSpec)

/-- ITS FALSE NEIGHBOUR: 'it returns false'. Refute it at one input. -/
def fnExactValidGraphWrong : ChangeSpec := { name := "fnExactValidGraph", fn := fun _ => fun
  | [d] => { results := [.lit (.bool false)], args := [d] }
  | _ => none }
def FnExactValidGraphWrongFalsely : Prop := fnExactValidGraphRow.holds Tryd.pinned (OpenSpec.ofChange fnExactValidGraphWrong)

/-- 'laws.FnValidGraph': WHATEVER THE INPUT: true; the input reads as it did. -/
def fnValidGraphSpec : ChangeSpec := { name := "fnValidGraph", fn := fun _ => fun
  | [d] => { results := [.lit (.bool true)], args := [d] }
  | _ => none }
def fnValidGraphRow : OpenClaim := { program := "ytegogaokcafpjaadoor", sum := "9f5220f433e855cc6ebe4ad788f148d29b6d43078c3f440e1a60b5aaab1bb6e4", func := "loop.example/buildscheduler/laws.FnValidGraph", spec := "fnValidGraph", unfollowed := true, recurses := true, named := ["math/bits.deBruijn32tab"], apart := false, laid := [("math/bits.deBruijn32tab", laid_math_bits_deBruijn32tab)] }
def FnValidGraphSaid : Prop := fnValidGraphRow.holds Tryd.pinned (OpenSpec.ofChange fnValidGraphSpec)

/-- ITS FALSE NEIGHBOUR: 'it returns false'. Refute it at one input. -/
def fnValidGraphWrong : ChangeSpec := { name := "fnValidGraph", fn := fun _ => fun
  | [d] => { results := [.lit (.bool false)], args := [d] }
  | _ => none }
def FnValidGraphWrongFalsely : Prop := fnValidGraphRow.holds Tryd.pinned (OpenSpec.ofChange fnValidGraphWrong)

/-- 'laws.FnTopOrderBegin': WHATEVER THE INPUT: true; the input reads as it did. -/
def fnTopOrderBeginSpec : ChangeSpec := { name := "fnTopOrderBegin", fn := fun _ => fun
  | [d] => { results := [.lit (.bool true)], args := [d] }
  | _ => none }
def fnTopOrderBeginRow : OpenClaim := { program := "ytegogaokcafpjaadoor", sum := "9f5220f433e855cc6ebe4ad788f148d29b6d43078c3f440e1a60b5aaab1bb6e4", func := "loop.example/buildscheduler/laws.FnTopOrderBegin", spec := "fnTopOrderBegin", unfollowed := true, recurses := true, named := ["math/bits.deBruijn32tab"], apart := false, laid := [("math/bits.deBruijn32tab", laid_math_bits_deBruijn32tab)] }
def FnTopOrderBeginSaid : Prop := fnTopOrderBeginRow.holds Tryd.pinned (OpenSpec.ofChange fnTopOrderBeginSpec)

/-- ITS FALSE NEIGHBOUR: 'it returns false'. Refute it at one input. -/
def fnTopOrderBeginWrong : ChangeSpec := { name := "fnTopOrderBegin", fn := fun _ => fun
  | [d] => { results := [.lit (.bool false)], args := [d] }
  | _ => none }
def FnTopOrderBeginWrongFalsely : Prop := fnTopOrderBeginRow.holds Tryd.pinned (OpenSpec.ofChange fnTopOrderBeginWrong)

/-- 'laws.FnTopOrderFree': WHATEVER THE INPUT: true; the input reads as it did. -/
def fnTopOrderFreeSpec : ChangeSpec := { name := "fnTopOrderFree", fn := fun _ => fun
  | [d] => { results := [.lit (.bool true)], args := [d] }
  | _ => none }
def fnTopOrderFreeRow : OpenClaim := { program := "ytegogaokcafpjaadoor", sum := "9f5220f433e855cc6ebe4ad788f148d29b6d43078c3f440e1a60b5aaab1bb6e4", func := "loop.example/buildscheduler/laws.FnTopOrderFree", spec := "fnTopOrderFree", unfollowed := true, recurses := true, named := ["math/bits.deBruijn32tab"], apart := false, laid := [("math/bits.deBruijn32tab", laid_math_bits_deBruijn32tab)] }
def FnTopOrderFreeSaid : Prop := fnTopOrderFreeRow.holds Tryd.pinned (OpenSpec.ofChange fnTopOrderFreeSpec)

/-- ITS FALSE NEIGHBOUR: 'it returns false'. Refute it at one input. -/
def fnTopOrderFreeWrong : ChangeSpec := { name := "fnTopOrderFree", fn := fun _ => fun
  | [d] => { results := [.lit (.bool false)], args := [d] }
  | _ => none }
def FnTopOrderFreeWrongFalsely : Prop := fnTopOrderFreeRow.holds Tryd.pinned (OpenSpec.ofChange fnTopOrderFreeWrong)

/-- 'laws.FnTopOrderLeast': WHATEVER THE INPUT: true; the input reads as it did. -/
def fnTopOrderLeastSpec : ChangeSpec := { name := "fnTopOrderLeast", fn := fun _ => fun
  | [d] => { results := [.lit (.bool true)], args := [d] }
  | _ => none }
def fnTopOrderLeastRow : OpenClaim := { program := "ytegogaokcafpjaadoor", sum := "9f5220f433e855cc6ebe4ad788f148d29b6d43078c3f440e1a60b5aaab1bb6e4", func := "loop.example/buildscheduler/laws.FnTopOrderLeast", spec := "fnTopOrderLeast", unfollowed := true, recurses := true, named := ["math/bits.deBruijn32tab"], apart := false, laid := [("math/bits.deBruijn32tab", laid_math_bits_deBruijn32tab)] }
def FnTopOrderLeastSaid : Prop := fnTopOrderLeastRow.holds Tryd.pinned (OpenSpec.ofChange fnTopOrderLeastSpec)

/-- ITS FALSE NEIGHBOUR: 'it returns false'. Refute it at one input. -/
def fnTopOrderLeastWrong : ChangeSpec := { name := "fnTopOrderLeast", fn := fun _ => fun
  | [d] => { results := [.lit (.bool false)], args := [d] }
  | _ => none }
def FnTopOrderLeastWrongFalsely : Prop := fnTopOrderLeastRow.holds Tryd.pinned (OpenSpec.ofChange fnTopOrderLeastWrong)

/-- 'laws.FnExactTopOrder': WHATEVER THE INPUT: true; the input reads as it did. -/
def fnExactTopOrderSpec : ChangeSpec := { name := "fnExactTopOrder", fn := fun _ => fun
  | [d] => { results := [.lit (.bool true)], args := [d] }
  | _ => none }
def fnExactTopOrderRow : OpenClaim := { program := "ytegogaokcafpjaadoor", sum := "9f5220f433e855cc6ebe4ad788f148d29b6d43078c3f440e1a60b5aaab1bb6e4", func := "loop.example/buildscheduler/laws.FnExactTopOrder", spec := "fnExactTopOrder", unfollowed := true, recurses := true, named := ["math/bits.deBruijn32tab"], apart := false, laid := [("math/bits.deBruijn32tab", laid_math_bits_deBruijn32tab)] }
def FnExactTopOrderSaid : Prop := fnExactTopOrderRow.holds Tryd.pinned (OpenSpec.ofChange fnExactTopOrderSpec)

/-- ITS FALSE NEIGHBOUR: 'it returns false'. Refute it at one input. -/
def fnExactTopOrderWrong : ChangeSpec := { name := "fnExactTopOrder", fn := fun _ => fun
  | [d] => { results := [.lit (.bool false)], args := [d] }
  | _ => none }
def FnExactTopOrderWrongFalsely : Prop := fnExactTopOrderRow.holds Tryd.pinned (OpenSpec.ofChange fnExactTopOrderWrong)

/-- 'laws.FnTopOrder': WHATEVER THE INPUT: true; the input reads as it did. -/
def fnTopOrderSpec : ChangeSpec := { name := "fnTopOrder", fn := fun _ => fun
  | [d] => { results := [.lit (.bool true)], args := [d] }
  | _ => none }
def fnTopOrderRow : OpenClaim := { program := "ytegogaokcafpjaadoor", sum := "9f5220f433e855cc6ebe4ad788f148d29b6d43078c3f440e1a60b5aaab1bb6e4", func := "loop.example/buildscheduler/laws.FnTopOrder", spec := "fnTopOrder", unfollowed := true, recurses := true, named := ["math/bits.deBruijn32tab"], apart := false, laid := [("math/bits.deBruijn32tab", laid_math_bits_deBruijn32tab)] }
def FnTopOrderSaid : Prop := fnTopOrderRow.holds Tryd.pinned (OpenSpec.ofChange fnTopOrderSpec)

/-- ITS FALSE NEIGHBOUR: 'it returns false'. Refute it at one input. -/
def fnTopOrderWrong : ChangeSpec := { name := "fnTopOrder", fn := fun _ => fun
  | [d] => { results := [.lit (.bool false)], args := [d] }
  | _ => none }
def FnTopOrderWrongFalsely : Prop := fnTopOrderRow.holds Tryd.pinned (OpenSpec.ofChange fnTopOrderWrong)

/-- 'laws.FnExactStuckTasks': WHATEVER THE INPUT: true; the input reads as it did. -/
def fnExactStuckTasksSpec : ChangeSpec := { name := "fnExactStuckTasks", fn := fun _ => fun
  | [d] => { results := [.lit (.bool true)], args := [d] }
  | _ => none }
def fnExactStuckTasksRow : OpenClaim := { program := "ytegogaokcafpjaadoor", sum := "9f5220f433e855cc6ebe4ad788f148d29b6d43078c3f440e1a60b5aaab1bb6e4", func := "loop.example/buildscheduler/laws.FnExactStuckTasks", spec := "fnExactStuckTasks", unfollowed := true, recurses := true, named := ["math/bits.deBruijn32tab"], apart := false, laid := [("math/bits.deBruijn32tab", laid_math_bits_deBruijn32tab)] }
def FnExactStuckTasksSaid : Prop := fnExactStuckTasksRow.holds Tryd.pinned (OpenSpec.ofChange fnExactStuckTasksSpec)

/-- ITS FALSE NEIGHBOUR: 'it returns false'. Refute it at one input. -/
def fnExactStuckTasksWrong : ChangeSpec := { name := "fnExactStuckTasks", fn := fun _ => fun
  | [d] => { results := [.lit (.bool false)], args := [d] }
  | _ => none }
def FnExactStuckTasksWrongFalsely : Prop := fnExactStuckTasksRow.holds Tryd.pinned (OpenSpec.ofChange fnExactStuckTasksWrong)

/-- 'laws.FnStuckTasksNeeds': WHATEVER THE INPUT: true; the input reads as it did. -/
def fnStuckTasksNeedsSpec : ChangeSpec := { name := "fnStuckTasksNeeds", fn := fun _ => fun
  | [d] => { results := [.lit (.bool true)], args := [d] }
  | _ => none }
def fnStuckTasksNeedsRow : OpenClaim := { program := "ytegogaokcafpjaadoor", sum := "9f5220f433e855cc6ebe4ad788f148d29b6d43078c3f440e1a60b5aaab1bb6e4", func := "loop.example/buildscheduler/laws.FnStuckTasksNeeds", spec := "fnStuckTasksNeeds", unfollowed := true, recurses := true, named := ["math/bits.deBruijn32tab"], apart := false, laid := [("math/bits.deBruijn32tab", laid_math_bits_deBruijn32tab)] }
def FnStuckTasksNeedsSaid : Prop := fnStuckTasksNeedsRow.holds Tryd.pinned (OpenSpec.ofChange fnStuckTasksNeedsSpec)

/-- ITS FALSE NEIGHBOUR: 'it returns false'. Refute it at one input. -/
def fnStuckTasksNeedsWrong : ChangeSpec := { name := "fnStuckTasksNeeds", fn := fun _ => fun
  | [d] => { results := [.lit (.bool false)], args := [d] }
  | _ => none }
def FnStuckTasksNeedsWrongFalsely : Prop := fnStuckTasksNeedsRow.holds Tryd.pinned (OpenSpec.ofChange fnStuckTasksNeedsWrong)

/-- 'laws.FnStuckTasks': WHATEVER THE INPUT: true; the input reads as it did. -/
def fnStuckTasksSpec : ChangeSpec := { name := "fnStuckTasks", fn := fun _ => fun
  | [d] => { results := [.lit (.bool true)], args := [d] }
  | _ => none }
def fnStuckTasksRow : OpenClaim := { program := "ytegogaokcafpjaadoor", sum := "9f5220f433e855cc6ebe4ad788f148d29b6d43078c3f440e1a60b5aaab1bb6e4", func := "loop.example/buildscheduler/laws.FnStuckTasks", spec := "fnStuckTasks", unfollowed := true, recurses := true, named := ["math/bits.deBruijn32tab"], apart := false, laid := [("math/bits.deBruijn32tab", laid_math_bits_deBruijn32tab)] }
def FnStuckTasksSaid : Prop := fnStuckTasksRow.holds Tryd.pinned (OpenSpec.ofChange fnStuckTasksSpec)

/-- ITS FALSE NEIGHBOUR: 'it returns false'. Refute it at one input. -/
def fnStuckTasksWrong : ChangeSpec := { name := "fnStuckTasks", fn := fun _ => fun
  | [d] => { results := [.lit (.bool false)], args := [d] }
  | _ => none }
def FnStuckTasksWrongFalsely : Prop := fnStuckTasksRow.holds Tryd.pinned (OpenSpec.ofChange fnStuckTasksWrong)

/-- 'laws.FnExactValidDone': WHATEVER THE INPUT: true; the input reads as it did. -/
def fnExactValidDoneSpec : ChangeSpec := { name := "fnExactValidDone", fn := fun _ => fun
  | [d1, d2] => { results := [.lit (.bool true)], args := [d1, d2] }
  | _ => none }
def fnExactValidDoneRow : OpenClaim := { program := "ytegogaokcafpjaadoor", sum := "9f5220f433e855cc6ebe4ad788f148d29b6d43078c3f440e1a60b5aaab1bb6e4", func := "loop.example/buildscheduler/laws.FnExactValidDone", spec := "fnExactValidDone", unfollowed := true, recurses := true, named := ["math/bits.deBruijn32tab"], apart := false, laid := [("math/bits.deBruijn32tab", laid_math_bits_deBruijn32tab)] }
def FnExactValidDoneSaid : Prop := fnExactValidDoneRow.holds Tryd.pinned (OpenSpec.ofChange fnExactValidDoneSpec)

/-- ITS FALSE NEIGHBOUR: 'it returns false'. Refute it at one input. -/
def fnExactValidDoneWrong : ChangeSpec := { name := "fnExactValidDone", fn := fun _ => fun
  | [d1, d2] => { results := [.lit (.bool false)], args := [d1, d2] }
  | _ => none }
def FnExactValidDoneWrongFalsely : Prop := fnExactValidDoneRow.holds Tryd.pinned (OpenSpec.ofChange fnExactValidDoneWrong)

/-- 'laws.FnExactWaitsFor': WHATEVER THE INPUT: true; the input reads as it did. -/
def fnExactWaitsForSpec : ChangeSpec := { name := "fnExactWaitsFor", fn := fun _ => fun
  | [d1, d2, d3] => { results := [.lit (.bool true)], args := [d1, d2, d3] }
  | _ => none }
def fnExactWaitsForRow : OpenClaim := { program := "ytegogaokcafpjaadoor", sum := "9f5220f433e855cc6ebe4ad788f148d29b6d43078c3f440e1a60b5aaab1bb6e4", func := "loop.example/buildscheduler/laws.FnExactWaitsFor", spec := "fnExactWaitsFor", unfollowed := true, recurses := true, named := ["math/bits.deBruijn32tab"], apart := false, laid := [("math/bits.deBruijn32tab", laid_math_bits_deBruijn32tab)] }
def FnExactWaitsForSaid : Prop := fnExactWaitsForRow.holds Tryd.pinned (OpenSpec.ofChange fnExactWaitsForSpec)

/-- ITS FALSE NEIGHBOUR: 'it returns false'. Refute it at one input. -/
def fnExactWaitsForWrong : ChangeSpec := { name := "fnExactWaitsFor", fn := fun _ => fun
  | [d1, d2, d3] => { results := [.lit (.bool false)], args := [d1, d2, d3] }
  | _ => none }
def FnExactWaitsForWrongFalsely : Prop := fnExactWaitsForRow.holds Tryd.pinned (OpenSpec.ofChange fnExactWaitsForWrong)

/- THE SECOND FORM. 'bulk': how many values and letters a reading holds, each counted each time it is reached (what is shared counts as often as it is met; a slice's spare places count too). A statement '..UptoSaid' is the law's where the arguments, and the package variables that the reading takes, are together of bulk at most 1048576: NARROWER than '..Said'. Prove '..Said' where nothing that the law and all that it calls make is longer than what came in: it says more and counts as full. Else prove '..UptoSaid'. A law counts once. -/
mutual
def uptoBulk {H : Type} : DataW H → Nat
  | .lit (.string bytes) => bytes.length + 1
  | .lit _ => 1
  | .nil => 1
  | .ptr d => uptoBulk d + 1
  | .slice elems spare => uptoBulkAll elems + uptoBulkAll spare + 1
  | .agg parts => uptoBulkAll parts + 1
  | .iface _ d => uptoBulk d + 1
  | .map entries => uptoBulkEntries entries + 1
  | .held _ => 1
def uptoBulkAll {H : Type} : List (DataW H) → Nat
  | [] => 0
  | d :: r => uptoBulk d + uptoBulkAll r
def uptoBulkEntries {H : Type} : List (Lit × DataW H) → Nat
  | [] => 0
  | x :: r => uptoBulkEntry x + uptoBulkEntries r
def uptoBulkEntry {H : Type} : Lit × DataW H → Nat
  | (.string bytes, d) => bytes.length + uptoBulk d + 1
  | (_, d) => uptoBulk d + 1
 end
def uptoSmall : (H : Type) → List (DataW H) → Bool := fun _ ds => decide (uptoBulkAll ds ≤ 1048576)
def OpenSpec.upto (s : _root_.Go.ChangeSpec) : _root_.Go.OpenSpec := { _root_.Go.OpenSpec.ofChange s with cond := some uptoSmall }

/-- 'laws.FnExactValidGraph', WHERE WHAT IT READS IS OF BULK AT MOST 1048576: true; the input reads as it did. -/
def fnExactValidGraphUptoRow : OpenClaim := { program := "ytegogaokcafpjaadoor", sum := "9f5220f433e855cc6ebe4ad788f148d29b6d43078c3f440e1a60b5aaab1bb6e4", func := "loop.example/buildscheduler/laws.FnExactValidGraph", spec := "fnExactValidGraph", unfollowed := true, recurses := true, named := ["math/bits.deBruijn32tab"], apart := false, laid := [("math/bits.deBruijn32tab", laid_math_bits_deBruijn32tab)], narrowed := true }
def FnExactValidGraphUptoSaid : Prop := fnExactValidGraphUptoRow.holds Tryd.pinned (OpenSpec.upto fnExactValidGraphSpec)

/-- 'laws.FnValidGraph', WHERE WHAT IT READS IS OF BULK AT MOST 1048576: true; the input reads as it did. -/
def fnValidGraphUptoRow : OpenClaim := { program := "ytegogaokcafpjaadoor", sum := "9f5220f433e855cc6ebe4ad788f148d29b6d43078c3f440e1a60b5aaab1bb6e4", func := "loop.example/buildscheduler/laws.FnValidGraph", spec := "fnValidGraph", unfollowed := true, recurses := true, named := ["math/bits.deBruijn32tab"], apart := false, laid := [("math/bits.deBruijn32tab", laid_math_bits_deBruijn32tab)], narrowed := true }
def FnValidGraphUptoSaid : Prop := fnValidGraphUptoRow.holds Tryd.pinned (OpenSpec.upto fnValidGraphSpec)

/-- 'laws.FnTopOrderBegin', WHERE WHAT IT READS IS OF BULK AT MOST 1048576: true; the input reads as it did. -/
def fnTopOrderBeginUptoRow : OpenClaim := { program := "ytegogaokcafpjaadoor", sum := "9f5220f433e855cc6ebe4ad788f148d29b6d43078c3f440e1a60b5aaab1bb6e4", func := "loop.example/buildscheduler/laws.FnTopOrderBegin", spec := "fnTopOrderBegin", unfollowed := true, recurses := true, named := ["math/bits.deBruijn32tab"], apart := false, laid := [("math/bits.deBruijn32tab", laid_math_bits_deBruijn32tab)], narrowed := true }
def FnTopOrderBeginUptoSaid : Prop := fnTopOrderBeginUptoRow.holds Tryd.pinned (OpenSpec.upto fnTopOrderBeginSpec)

/-- 'laws.FnTopOrderFree', WHERE WHAT IT READS IS OF BULK AT MOST 1048576: true; the input reads as it did. -/
def fnTopOrderFreeUptoRow : OpenClaim := { program := "ytegogaokcafpjaadoor", sum := "9f5220f433e855cc6ebe4ad788f148d29b6d43078c3f440e1a60b5aaab1bb6e4", func := "loop.example/buildscheduler/laws.FnTopOrderFree", spec := "fnTopOrderFree", unfollowed := true, recurses := true, named := ["math/bits.deBruijn32tab"], apart := false, laid := [("math/bits.deBruijn32tab", laid_math_bits_deBruijn32tab)], narrowed := true }
def FnTopOrderFreeUptoSaid : Prop := fnTopOrderFreeUptoRow.holds Tryd.pinned (OpenSpec.upto fnTopOrderFreeSpec)

/-- 'laws.FnTopOrderLeast', WHERE WHAT IT READS IS OF BULK AT MOST 1048576: true; the input reads as it did. -/
def fnTopOrderLeastUptoRow : OpenClaim := { program := "ytegogaokcafpjaadoor", sum := "9f5220f433e855cc6ebe4ad788f148d29b6d43078c3f440e1a60b5aaab1bb6e4", func := "loop.example/buildscheduler/laws.FnTopOrderLeast", spec := "fnTopOrderLeast", unfollowed := true, recurses := true, named := ["math/bits.deBruijn32tab"], apart := false, laid := [("math/bits.deBruijn32tab", laid_math_bits_deBruijn32tab)], narrowed := true }
def FnTopOrderLeastUptoSaid : Prop := fnTopOrderLeastUptoRow.holds Tryd.pinned (OpenSpec.upto fnTopOrderLeastSpec)

/-- 'laws.FnExactTopOrder', WHERE WHAT IT READS IS OF BULK AT MOST 1048576: true; the input reads as it did. -/
def fnExactTopOrderUptoRow : OpenClaim := { program := "ytegogaokcafpjaadoor", sum := "9f5220f433e855cc6ebe4ad788f148d29b6d43078c3f440e1a60b5aaab1bb6e4", func := "loop.example/buildscheduler/laws.FnExactTopOrder", spec := "fnExactTopOrder", unfollowed := true, recurses := true, named := ["math/bits.deBruijn32tab"], apart := false, laid := [("math/bits.deBruijn32tab", laid_math_bits_deBruijn32tab)], narrowed := true }
def FnExactTopOrderUptoSaid : Prop := fnExactTopOrderUptoRow.holds Tryd.pinned (OpenSpec.upto fnExactTopOrderSpec)

/-- 'laws.FnTopOrder', WHERE WHAT IT READS IS OF BULK AT MOST 1048576: true; the input reads as it did. -/
def fnTopOrderUptoRow : OpenClaim := { program := "ytegogaokcafpjaadoor", sum := "9f5220f433e855cc6ebe4ad788f148d29b6d43078c3f440e1a60b5aaab1bb6e4", func := "loop.example/buildscheduler/laws.FnTopOrder", spec := "fnTopOrder", unfollowed := true, recurses := true, named := ["math/bits.deBruijn32tab"], apart := false, laid := [("math/bits.deBruijn32tab", laid_math_bits_deBruijn32tab)], narrowed := true }
def FnTopOrderUptoSaid : Prop := fnTopOrderUptoRow.holds Tryd.pinned (OpenSpec.upto fnTopOrderSpec)

/-- 'laws.FnExactStuckTasks', WHERE WHAT IT READS IS OF BULK AT MOST 1048576: true; the input reads as it did. -/
def fnExactStuckTasksUptoRow : OpenClaim := { program := "ytegogaokcafpjaadoor", sum := "9f5220f433e855cc6ebe4ad788f148d29b6d43078c3f440e1a60b5aaab1bb6e4", func := "loop.example/buildscheduler/laws.FnExactStuckTasks", spec := "fnExactStuckTasks", unfollowed := true, recurses := true, named := ["math/bits.deBruijn32tab"], apart := false, laid := [("math/bits.deBruijn32tab", laid_math_bits_deBruijn32tab)], narrowed := true }
def FnExactStuckTasksUptoSaid : Prop := fnExactStuckTasksUptoRow.holds Tryd.pinned (OpenSpec.upto fnExactStuckTasksSpec)

/-- 'laws.FnStuckTasksNeeds', WHERE WHAT IT READS IS OF BULK AT MOST 1048576: true; the input reads as it did. -/
def fnStuckTasksNeedsUptoRow : OpenClaim := { program := "ytegogaokcafpjaadoor", sum := "9f5220f433e855cc6ebe4ad788f148d29b6d43078c3f440e1a60b5aaab1bb6e4", func := "loop.example/buildscheduler/laws.FnStuckTasksNeeds", spec := "fnStuckTasksNeeds", unfollowed := true, recurses := true, named := ["math/bits.deBruijn32tab"], apart := false, laid := [("math/bits.deBruijn32tab", laid_math_bits_deBruijn32tab)], narrowed := true }
def FnStuckTasksNeedsUptoSaid : Prop := fnStuckTasksNeedsUptoRow.holds Tryd.pinned (OpenSpec.upto fnStuckTasksNeedsSpec)

/-- 'laws.FnStuckTasks', WHERE WHAT IT READS IS OF BULK AT MOST 1048576: true; the input reads as it did. -/
def fnStuckTasksUptoRow : OpenClaim := { program := "ytegogaokcafpjaadoor", sum := "9f5220f433e855cc6ebe4ad788f148d29b6d43078c3f440e1a60b5aaab1bb6e4", func := "loop.example/buildscheduler/laws.FnStuckTasks", spec := "fnStuckTasks", unfollowed := true, recurses := true, named := ["math/bits.deBruijn32tab"], apart := false, laid := [("math/bits.deBruijn32tab", laid_math_bits_deBruijn32tab)], narrowed := true }
def FnStuckTasksUptoSaid : Prop := fnStuckTasksUptoRow.holds Tryd.pinned (OpenSpec.upto fnStuckTasksSpec)

/-- 'laws.FnExactValidDone', WHERE WHAT IT READS IS OF BULK AT MOST 1048576: true; the input reads as it did. -/
def fnExactValidDoneUptoRow : OpenClaim := { program := "ytegogaokcafpjaadoor", sum := "9f5220f433e855cc6ebe4ad788f148d29b6d43078c3f440e1a60b5aaab1bb6e4", func := "loop.example/buildscheduler/laws.FnExactValidDone", spec := "fnExactValidDone", unfollowed := true, recurses := true, named := ["math/bits.deBruijn32tab"], apart := false, laid := [("math/bits.deBruijn32tab", laid_math_bits_deBruijn32tab)], narrowed := true }
def FnExactValidDoneUptoSaid : Prop := fnExactValidDoneUptoRow.holds Tryd.pinned (OpenSpec.upto fnExactValidDoneSpec)

/-- 'laws.FnExactWaitsFor', WHERE WHAT IT READS IS OF BULK AT MOST 1048576: true; the input reads as it did. -/
def fnExactWaitsForUptoRow : OpenClaim := { program := "ytegogaokcafpjaadoor", sum := "9f5220f433e855cc6ebe4ad788f148d29b6d43078c3f440e1a60b5aaab1bb6e4", func := "loop.example/buildscheduler/laws.FnExactWaitsFor", spec := "fnExactWaitsFor", unfollowed := true, recurses := true, named := ["math/bits.deBruijn32tab"], apart := false, laid := [("math/bits.deBruijn32tab", laid_math_bits_deBruijn32tab)], narrowed := true }
def FnExactWaitsForUptoSaid : Prop := fnExactWaitsForUptoRow.holds Tryd.pinned (OpenSpec.upto fnExactWaitsForSpec)

end Rows
end Go.Proofs.YtegogaokcafpjaaDoor
