/-
  NARROWER THAN 'FOR EVERY INPUT', by the rows' own cells (each row's printed sentence says how): FnValidGraphLess: laid · FnStuckTasksSelf: laid · FnExactAllNeeds: laid · FnExactAllUsers: laid · FnAllNeedsLess: laid · FnAllNeeds: laid · FnAllUsersCount: laid · FnAllUsers: laid · FnAllUsersOrder: laid · FnAllNeedsTime: laid · FnExactOutcomes: laid · FnExactCountOutcome: laid.
  DERIVED. THE GIVEN ROWS OF THIS SEAT. 12 by the template 'for every input the law returns true; each argument reads behind the call as it read before'; 0 by the template 'total and deterministic' (their statements: YtamomflollhofaaDoorTotals.lean).
  GIVEN WITH THE SEED: the statements are not yours to turn. If you find one false, say at which input.
  Laid BY PROGRAM, IN A SANDBOX (cutbox-rows.mjs): the forced cells as the released guide's own fill.sh prints them over the translation 2d4465288920c718… (all of the seat's roots in one cut). By AI agents, Wed Nov 11 2026. No macro, syntax, notation, axiom, sorry.
-/
import Derived.Test.YtamomflollhofaaDoorChecked
import GoSem.Claim
import GoSem.ClaimJoined
import GoSem.ClaimMapViews
import Derived.JoinedTies
import Derived.KernelRfl
namespace Go.Proofs.YtamomflollhofaaDoor
/- THE CELL 'sum', in the pinned program and in every row, IS THE sha256 OF THE DUMP (.gsa) THAT YtamomflollhofaaDoorProg.lean LOADS. Nothing in Lean hashes anything: it is a label: what it is worth is what the hold of that sum in a sandbox is worth. -/
noncomputable def Tryd.pinned : Pinned := { name := "ytamomflollhofaadoor", sum := "2d4465288920c718f4ee67798b08de32a53f55baf26348b90476c19918405aa7", checked := Tryd.checked }
namespace Rows
def none {H : Type} : Left H := { results := [], args := [] }

/- WHAT THE LISTED PACKAGE-LEVEL VARIABLES READ AS WHEN THE CALL BEGINS. Each datum BY PROGRAM (the guide's laid-datum.mjs) off the statement by which the dump's own 'gosem.cut.vars' lays the variable. In a bare row this is a premise. The card (YtamomflollhofaaDoorCards.lean) ties it to the program's text. -/
def laid_math_bits_deBruijn32tab {H : Type} : DataW H := .agg [.lit (.int .u8 0), .lit (.int .u8 1), .lit (.int .u8 28), .lit (.int .u8 2), .lit (.int .u8 29), .lit (.int .u8 14), .lit (.int .u8 24), .lit (.int .u8 3), .lit (.int .u8 30), .lit (.int .u8 22), .lit (.int .u8 20), .lit (.int .u8 15), .lit (.int .u8 25), .lit (.int .u8 17), .lit (.int .u8 4), .lit (.int .u8 8), .lit (.int .u8 31), .lit (.int .u8 27), .lit (.int .u8 13), .lit (.int .u8 23), .lit (.int .u8 21), .lit (.int .u8 19), .lit (.int .u8 16), .lit (.int .u8 7), .lit (.int .u8 26), .lit (.int .u8 12), .lit (.int .u8 18), .lit (.int .u8 6), .lit (.int .u8 11), .lit (.int .u8 5), .lit (.int .u8 10), .lit (.int .u8 9)]

/-- 'laws.FnValidGraphLess': WHATEVER THE INPUT: true; the input reads as it did. -/
def fnValidGraphLessSpec : ChangeSpec := { name := "fnValidGraphLess", fn := fun _ => fun
  | [d] => { results := [.lit (.bool true)], args := [d] }
  | _ => none }
def fnValidGraphLessRow : OpenClaim := { program := "ytamomflollhofaadoor", sum := "2d4465288920c718f4ee67798b08de32a53f55baf26348b90476c19918405aa7", func := "loop.example/buildscheduler/laws.FnValidGraphLess", spec := "fnValidGraphLess", unfollowed := true, recurses := true, named := ["math/bits.deBruijn32tab"], apart := false, laid := [("math/bits.deBruijn32tab", laid_math_bits_deBruijn32tab)] }
def FnValidGraphLessSaid : Prop := fnValidGraphLessRow.holds Tryd.pinned (OpenSpec.ofChange fnValidGraphLessSpec)

/-- ITS FALSE NEIGHBOUR: 'it returns false'. Refute it at one input. -/
def fnValidGraphLessWrong : ChangeSpec := { name := "fnValidGraphLess", fn := fun _ => fun
  | [d] => { results := [.lit (.bool false)], args := [d] }
  | _ => none }
def FnValidGraphLessWrongFalsely : Prop := fnValidGraphLessRow.holds Tryd.pinned (OpenSpec.ofChange fnValidGraphLessWrong)

/-- 'laws.FnStuckTasksSelf': WHATEVER THE INPUT: true; the input reads as it did. -/
def fnStuckTasksSelfSpec : ChangeSpec := { name := "fnStuckTasksSelf", fn := fun _ => fun
  | [d] => { results := [.lit (.bool true)], args := [d] }
  | _ => none }
def fnStuckTasksSelfRow : OpenClaim := { program := "ytamomflollhofaadoor", sum := "2d4465288920c718f4ee67798b08de32a53f55baf26348b90476c19918405aa7", func := "loop.example/buildscheduler/laws.FnStuckTasksSelf", spec := "fnStuckTasksSelf", unfollowed := true, recurses := true, named := ["math/bits.deBruijn32tab"], apart := false, laid := [("math/bits.deBruijn32tab", laid_math_bits_deBruijn32tab)] }
def FnStuckTasksSelfSaid : Prop := fnStuckTasksSelfRow.holds Tryd.pinned (OpenSpec.ofChange fnStuckTasksSelfSpec)

/-- ITS FALSE NEIGHBOUR: 'it returns false'. Refute it at one input. -/
def fnStuckTasksSelfWrong : ChangeSpec := { name := "fnStuckTasksSelf", fn := fun _ => fun
  | [d] => { results := [.lit (.bool false)], args := [d] }
  | _ => none }
def FnStuckTasksSelfWrongFalsely : Prop := fnStuckTasksSelfRow.holds Tryd.pinned (OpenSpec.ofChange fnStuckTasksSelfWrong)

/-- 'laws.FnExactAllNeeds': WHATEVER THE INPUT: true; the input reads as it did. -/
def fnExactAllNeedsSpec : ChangeSpec := { name := "fnExactAllNeeds", fn := fun _ => fun
  | [d1, d2] => { results := [.lit (.bool true)], args := [d1, d2] }
  | _ => none }
def fnExactAllNeedsRow : OpenClaim := { program := "ytamomflollhofaadoor", sum := "2d4465288920c718f4ee67798b08de32a53f55baf26348b90476c19918405aa7", func := "loop.example/buildscheduler/laws.FnExactAllNeeds", spec := "fnExactAllNeeds", unfollowed := true, recurses := true, named := ["math/bits.deBruijn32tab"], apart := false, laid := [("math/bits.deBruijn32tab", laid_math_bits_deBruijn32tab)] }
def FnExactAllNeedsSaid : Prop := fnExactAllNeedsRow.holds Tryd.pinned (OpenSpec.ofChange fnExactAllNeedsSpec)

/-- ITS FALSE NEIGHBOUR: 'it returns false'. Refute it at one input. -/
def fnExactAllNeedsWrong : ChangeSpec := { name := "fnExactAllNeeds", fn := fun _ => fun
  | [d1, d2] => { results := [.lit (.bool false)], args := [d1, d2] }
  | _ => none }
def FnExactAllNeedsWrongFalsely : Prop := fnExactAllNeedsRow.holds Tryd.pinned (OpenSpec.ofChange fnExactAllNeedsWrong)

/-- 'laws.FnExactAllUsers': WHATEVER THE INPUT: true; the input reads as it did. -/
def fnExactAllUsersSpec : ChangeSpec := { name := "fnExactAllUsers", fn := fun _ => fun
  | [d1, d2] => { results := [.lit (.bool true)], args := [d1, d2] }
  | _ => none }
def fnExactAllUsersRow : OpenClaim := { program := "ytamomflollhofaadoor", sum := "2d4465288920c718f4ee67798b08de32a53f55baf26348b90476c19918405aa7", func := "loop.example/buildscheduler/laws.FnExactAllUsers", spec := "fnExactAllUsers", unfollowed := true, recurses := true, named := ["math/bits.deBruijn32tab"], apart := false, laid := [("math/bits.deBruijn32tab", laid_math_bits_deBruijn32tab)] }
def FnExactAllUsersSaid : Prop := fnExactAllUsersRow.holds Tryd.pinned (OpenSpec.ofChange fnExactAllUsersSpec)

/-- ITS FALSE NEIGHBOUR: 'it returns false'. Refute it at one input. -/
def fnExactAllUsersWrong : ChangeSpec := { name := "fnExactAllUsers", fn := fun _ => fun
  | [d1, d2] => { results := [.lit (.bool false)], args := [d1, d2] }
  | _ => none }
def FnExactAllUsersWrongFalsely : Prop := fnExactAllUsersRow.holds Tryd.pinned (OpenSpec.ofChange fnExactAllUsersWrong)

/-- 'laws.FnAllNeedsLess': WHATEVER THE INPUT: true; the input reads as it did. -/
def fnAllNeedsLessSpec : ChangeSpec := { name := "fnAllNeedsLess", fn := fun _ => fun
  | [d] => { results := [.lit (.bool true)], args := [d] }
  | _ => none }
def fnAllNeedsLessRow : OpenClaim := { program := "ytamomflollhofaadoor", sum := "2d4465288920c718f4ee67798b08de32a53f55baf26348b90476c19918405aa7", func := "loop.example/buildscheduler/laws.FnAllNeedsLess", spec := "fnAllNeedsLess", unfollowed := true, recurses := true, named := ["math/bits.deBruijn32tab"], apart := false, laid := [("math/bits.deBruijn32tab", laid_math_bits_deBruijn32tab)] }
def FnAllNeedsLessSaid : Prop := fnAllNeedsLessRow.holds Tryd.pinned (OpenSpec.ofChange fnAllNeedsLessSpec)

/-- ITS FALSE NEIGHBOUR: 'it returns false'. Refute it at one input. -/
def fnAllNeedsLessWrong : ChangeSpec := { name := "fnAllNeedsLess", fn := fun _ => fun
  | [d] => { results := [.lit (.bool false)], args := [d] }
  | _ => none }
def FnAllNeedsLessWrongFalsely : Prop := fnAllNeedsLessRow.holds Tryd.pinned (OpenSpec.ofChange fnAllNeedsLessWrong)

/-- 'laws.FnAllNeeds': WHATEVER THE INPUT: true; the input reads as it did. -/
def fnAllNeedsSpec : ChangeSpec := { name := "fnAllNeeds", fn := fun _ => fun
  | [d] => { results := [.lit (.bool true)], args := [d] }
  | _ => none }
def fnAllNeedsRow : OpenClaim := { program := "ytamomflollhofaadoor", sum := "2d4465288920c718f4ee67798b08de32a53f55baf26348b90476c19918405aa7", func := "loop.example/buildscheduler/laws.FnAllNeeds", spec := "fnAllNeeds", unfollowed := true, recurses := true, named := ["math/bits.deBruijn32tab"], apart := false, laid := [("math/bits.deBruijn32tab", laid_math_bits_deBruijn32tab)] }
def FnAllNeedsSaid : Prop := fnAllNeedsRow.holds Tryd.pinned (OpenSpec.ofChange fnAllNeedsSpec)

/-- ITS FALSE NEIGHBOUR: 'it returns false'. Refute it at one input. -/
def fnAllNeedsWrong : ChangeSpec := { name := "fnAllNeeds", fn := fun _ => fun
  | [d] => { results := [.lit (.bool false)], args := [d] }
  | _ => none }
def FnAllNeedsWrongFalsely : Prop := fnAllNeedsRow.holds Tryd.pinned (OpenSpec.ofChange fnAllNeedsWrong)

/-- 'laws.FnAllUsersCount': WHATEVER THE INPUT: true; the input reads as it did. -/
def fnAllUsersCountSpec : ChangeSpec := { name := "fnAllUsersCount", fn := fun _ => fun
  | [d] => { results := [.lit (.bool true)], args := [d] }
  | _ => none }
def fnAllUsersCountRow : OpenClaim := { program := "ytamomflollhofaadoor", sum := "2d4465288920c718f4ee67798b08de32a53f55baf26348b90476c19918405aa7", func := "loop.example/buildscheduler/laws.FnAllUsersCount", spec := "fnAllUsersCount", unfollowed := true, recurses := true, named := ["math/bits.deBruijn32tab"], apart := false, laid := [("math/bits.deBruijn32tab", laid_math_bits_deBruijn32tab)] }
def FnAllUsersCountSaid : Prop := fnAllUsersCountRow.holds Tryd.pinned (OpenSpec.ofChange fnAllUsersCountSpec)

/-- ITS FALSE NEIGHBOUR: 'it returns false'. Refute it at one input. -/
def fnAllUsersCountWrong : ChangeSpec := { name := "fnAllUsersCount", fn := fun _ => fun
  | [d] => { results := [.lit (.bool false)], args := [d] }
  | _ => none }
def FnAllUsersCountWrongFalsely : Prop := fnAllUsersCountRow.holds Tryd.pinned (OpenSpec.ofChange fnAllUsersCountWrong)

/-- 'laws.FnAllUsers': WHATEVER THE INPUT: true; the input reads as it did. -/
def fnAllUsersSpec : ChangeSpec := { name := "fnAllUsers", fn := fun _ => fun
  | [d] => { results := [.lit (.bool true)], args := [d] }
  | _ => none }
def fnAllUsersRow : OpenClaim := { program := "ytamomflollhofaadoor", sum := "2d4465288920c718f4ee67798b08de32a53f55baf26348b90476c19918405aa7", func := "loop.example/buildscheduler/laws.FnAllUsers", spec := "fnAllUsers", unfollowed := true, recurses := true, named := ["math/bits.deBruijn32tab"], apart := false, laid := [("math/bits.deBruijn32tab", laid_math_bits_deBruijn32tab)] }
def FnAllUsersSaid : Prop := fnAllUsersRow.holds Tryd.pinned (OpenSpec.ofChange fnAllUsersSpec)

/-- ITS FALSE NEIGHBOUR: 'it returns false'. Refute it at one input. -/
def fnAllUsersWrong : ChangeSpec := { name := "fnAllUsers", fn := fun _ => fun
  | [d] => { results := [.lit (.bool false)], args := [d] }
  | _ => none }
def FnAllUsersWrongFalsely : Prop := fnAllUsersRow.holds Tryd.pinned (OpenSpec.ofChange fnAllUsersWrong)

/-- 'laws.FnAllUsersOrder': WHATEVER THE INPUT: true; the input reads as it did. -/
def fnAllUsersOrderSpec : ChangeSpec := { name := "fnAllUsersOrder", fn := fun _ => fun
  | [d] => { results := [.lit (.bool true)], args := [d] }
  | _ => none }
def fnAllUsersOrderRow : OpenClaim := { program := "ytamomflollhofaadoor", sum := "2d4465288920c718f4ee67798b08de32a53f55baf26348b90476c19918405aa7", func := "loop.example/buildscheduler/laws.FnAllUsersOrder", spec := "fnAllUsersOrder", unfollowed := true, recurses := true, named := ["math/bits.deBruijn32tab"], apart := false, laid := [("math/bits.deBruijn32tab", laid_math_bits_deBruijn32tab)] }
def FnAllUsersOrderSaid : Prop := fnAllUsersOrderRow.holds Tryd.pinned (OpenSpec.ofChange fnAllUsersOrderSpec)

/-- ITS FALSE NEIGHBOUR: 'it returns false'. Refute it at one input. -/
def fnAllUsersOrderWrong : ChangeSpec := { name := "fnAllUsersOrder", fn := fun _ => fun
  | [d] => { results := [.lit (.bool false)], args := [d] }
  | _ => none }
def FnAllUsersOrderWrongFalsely : Prop := fnAllUsersOrderRow.holds Tryd.pinned (OpenSpec.ofChange fnAllUsersOrderWrong)

/-- 'laws.FnAllNeedsTime': WHATEVER THE INPUT: true; the input reads as it did. -/
def fnAllNeedsTimeSpec : ChangeSpec := { name := "fnAllNeedsTime", fn := fun _ => fun
  | [d] => { results := [.lit (.bool true)], args := [d] }
  | _ => none }
def fnAllNeedsTimeRow : OpenClaim := { program := "ytamomflollhofaadoor", sum := "2d4465288920c718f4ee67798b08de32a53f55baf26348b90476c19918405aa7", func := "loop.example/buildscheduler/laws.FnAllNeedsTime", spec := "fnAllNeedsTime", unfollowed := true, recurses := true, named := ["math/bits.deBruijn32tab"], apart := false, laid := [("math/bits.deBruijn32tab", laid_math_bits_deBruijn32tab)] }
def FnAllNeedsTimeSaid : Prop := fnAllNeedsTimeRow.holds Tryd.pinned (OpenSpec.ofChange fnAllNeedsTimeSpec)

/-- ITS FALSE NEIGHBOUR: 'it returns false'. Refute it at one input. -/
def fnAllNeedsTimeWrong : ChangeSpec := { name := "fnAllNeedsTime", fn := fun _ => fun
  | [d] => { results := [.lit (.bool false)], args := [d] }
  | _ => none }
def FnAllNeedsTimeWrongFalsely : Prop := fnAllNeedsTimeRow.holds Tryd.pinned (OpenSpec.ofChange fnAllNeedsTimeWrong)

/-- 'laws.FnExactOutcomes': WHATEVER THE INPUT: true; the input reads as it did. -/
def fnExactOutcomesSpec : ChangeSpec := { name := "fnExactOutcomes", fn := fun _ => fun
  | [d1, d2, d3] => { results := [.lit (.bool true)], args := [d1, d2, d3] }
  | _ => none }
def fnExactOutcomesRow : OpenClaim := { program := "ytamomflollhofaadoor", sum := "2d4465288920c718f4ee67798b08de32a53f55baf26348b90476c19918405aa7", func := "loop.example/buildscheduler/laws.FnExactOutcomes", spec := "fnExactOutcomes", unfollowed := true, recurses := true, named := ["math/bits.deBruijn32tab"], apart := false, laid := [("math/bits.deBruijn32tab", laid_math_bits_deBruijn32tab)] }
def FnExactOutcomesSaid : Prop := fnExactOutcomesRow.holds Tryd.pinned (OpenSpec.ofChange fnExactOutcomesSpec)

/-- ITS FALSE NEIGHBOUR: 'it returns false'. Refute it at one input. -/
def fnExactOutcomesWrong : ChangeSpec := { name := "fnExactOutcomes", fn := fun _ => fun
  | [d1, d2, d3] => { results := [.lit (.bool false)], args := [d1, d2, d3] }
  | _ => none }
def FnExactOutcomesWrongFalsely : Prop := fnExactOutcomesRow.holds Tryd.pinned (OpenSpec.ofChange fnExactOutcomesWrong)

/-- 'laws.FnExactCountOutcome': WHATEVER THE INPUT: true; the input reads as it did. -/
def fnExactCountOutcomeSpec : ChangeSpec := { name := "fnExactCountOutcome", fn := fun _ => fun
  | [d1, d2, d3, d4] => { results := [.lit (.bool true)], args := [d1, d2, d3, d4] }
  | _ => none }
def fnExactCountOutcomeRow : OpenClaim := { program := "ytamomflollhofaadoor", sum := "2d4465288920c718f4ee67798b08de32a53f55baf26348b90476c19918405aa7", func := "loop.example/buildscheduler/laws.FnExactCountOutcome", spec := "fnExactCountOutcome", unfollowed := true, recurses := true, named := ["math/bits.deBruijn32tab"], apart := false, laid := [("math/bits.deBruijn32tab", laid_math_bits_deBruijn32tab)] }
def FnExactCountOutcomeSaid : Prop := fnExactCountOutcomeRow.holds Tryd.pinned (OpenSpec.ofChange fnExactCountOutcomeSpec)

/-- ITS FALSE NEIGHBOUR: 'it returns false'. Refute it at one input. -/
def fnExactCountOutcomeWrong : ChangeSpec := { name := "fnExactCountOutcome", fn := fun _ => fun
  | [d1, d2, d3, d4] => { results := [.lit (.bool false)], args := [d1, d2, d3, d4] }
  | _ => none }
def FnExactCountOutcomeWrongFalsely : Prop := fnExactCountOutcomeRow.holds Tryd.pinned (OpenSpec.ofChange fnExactCountOutcomeWrong)

/- THE SECOND FORM. 'bulk': how many values and letters a reading holds, each counted each time it is reached (what is shared counts as often as it is met; a slice's spare places count too). A statement '..UptoSaid' is the law's where the arguments, and the package variables that the reading takes, are together of bulk at most 1048576: NARROWER than '..Said'. Prove '..Said' where nothing that the law and all that it calls make is longer than what came in: it says more and counts as full. Else prove '..UptoSaid'. A law counts once. -/
mutual
def uptoBulk {H : Type} : DataW H → Nat
  | .lit (.string bytes) => bytes.length + 1
  | .lit _ => 1
  | .nil => 1
  | .ptr d => uptoBulk d + 1
  | .slice elems spare => uptoBulkAll elems + uptoBulkAll spare + 1
  | .agg parts => uptoBulkAll parts + 1
  | .iface _ d => uptoBulk d + 1
  | .map entries => uptoBulkEntries entries + 1
  | .held _ => 1
def uptoBulkAll {H : Type} : List (DataW H) → Nat
  | [] => 0
  | d :: r => uptoBulk d + uptoBulkAll r
def uptoBulkEntries {H : Type} : List (Lit × DataW H) → Nat
  | [] => 0
  | x :: r => uptoBulkEntry x + uptoBulkEntries r
def uptoBulkEntry {H : Type} : Lit × DataW H → Nat
  | (.string bytes, d) => bytes.length + uptoBulk d + 1
  | (_, d) => uptoBulk d + 1
 end
def uptoSmall : (H : Type) → List (DataW H) → Bool := fun _ ds => decide (uptoBulkAll ds ≤ 1048576)
def OpenSpec.upto (s : _root_.Go.ChangeSpec) : _root_.Go.OpenSpec := { _root_.Go.OpenSpec.ofChange s with cond := some uptoSmall }

/-- 'laws.FnValidGraphLess', WHERE WHAT IT READS IS OF BULK AT MOST 1048576: true; the input reads as it did. -/
def fnValidGraphLessUptoRow : OpenClaim := { program := "ytamomflollhofaadoor", sum := "2d4465288920c718f4ee67798b08de32a53f55baf26348b90476c19918405aa7", func := "loop.example/buildscheduler/laws.FnValidGraphLess", spec := "fnValidGraphLess", unfollowed := true, recurses := true, named := ["math/bits.deBruijn32tab"], apart := false, laid := [("math/bits.deBruijn32tab", laid_math_bits_deBruijn32tab)], narrowed := true }
def FnValidGraphLessUptoSaid : Prop := fnValidGraphLessUptoRow.holds Tryd.pinned (OpenSpec.upto fnValidGraphLessSpec)

/-- 'laws.FnStuckTasksSelf', WHERE WHAT IT READS IS OF BULK AT MOST 1048576: true; the input reads as it did. -/
def fnStuckTasksSelfUptoRow : OpenClaim := { program := "ytamomflollhofaadoor", sum := "2d4465288920c718f4ee67798b08de32a53f55baf26348b90476c19918405aa7", func := "loop.example/buildscheduler/laws.FnStuckTasksSelf", spec := "fnStuckTasksSelf", unfollowed := true, recurses := true, named := ["math/bits.deBruijn32tab"], apart := false, laid := [("math/bits.deBruijn32tab", laid_math_bits_deBruijn32tab)], narrowed := true }
def FnStuckTasksSelfUptoSaid : Prop := fnStuckTasksSelfUptoRow.holds Tryd.pinned (OpenSpec.upto fnStuckTasksSelfSpec)

/-- 'laws.FnExactAllNeeds', WHERE WHAT IT READS IS OF BULK AT MOST 1048576: true; the input reads as it did. -/
def fnExactAllNeedsUptoRow : OpenClaim := { program := "ytamomflollhofaadoor", sum := "2d4465288920c718f4ee67798b08de32a53f55baf26348b90476c19918405aa7", func := "loop.example/buildscheduler/laws.FnExactAllNeeds", spec := "fnExactAllNeeds", unfollowed := true, recurses := true, named := ["math/bits.deBruijn32tab"], apart := false, laid := [("math/bits.deBruijn32tab", laid_math_bits_deBruijn32tab)], narrowed := true }
def FnExactAllNeedsUptoSaid : Prop := fnExactAllNeedsUptoRow.holds Tryd.pinned (OpenSpec.upto fnExactAllNeedsSpec)

/-- 'laws.FnExactAllUsers', WHERE WHAT IT READS IS OF BULK AT MOST 1048576: true; the input reads as it did. -/
def fnExactAllUsersUptoRow : OpenClaim := { program := "ytamomflollhofaadoor", sum := "2d4465288920c718f4ee67798b08de32a53f55baf26348b90476c19918405aa7", func := "loop.example/buildscheduler/laws.FnExactAllUsers", spec := "fnExactAllUsers", unfollowed := true, recurses := true, named := ["math/bits.deBruijn32tab"], apart := false, laid := [("math/bits.deBruijn32tab", laid_math_bits_deBruijn32tab)], narrowed := true }
def FnExactAllUsersUptoSaid : Prop := fnExactAllUsersUptoRow.holds Tryd.pinned (OpenSpec.upto fnExactAllUsersSpec)

/-- 'laws.FnAllNeedsLess', WHERE WHAT IT READS IS OF BULK AT MOST 1048576: true; the input reads as it did. -/
def fnAllNeedsLessUptoRow : OpenClaim := { program := "ytamomflollhofaadoor", sum := "2d4465288920c718f4ee67798b08de32a53f55baf26348b90476c19918405aa7", func := "loop.example/buildscheduler/laws.FnAllNeedsLess", spec := "fnAllNeedsLess", unfollowed := true, recurses := true, named := ["math/bits.deBruijn32tab"], apart := false, laid := [("math/bits.deBruijn32tab", laid_math_bits_deBruijn32tab)], narrowed := true }
def FnAllNeedsLessUptoSaid : Prop := fnAllNeedsLessUptoRow.holds Tryd.pinned (OpenSpec.upto fnAllNeedsLessSpec)

/-- 'laws.FnAllNeeds', WHERE WHAT IT READS IS OF BULK AT MOST 1048576: true; the input reads as it did. -/
def fnAllNeedsUptoRow : OpenClaim := { program := "ytamomflollhofaadoor", sum := "2d4465288920c718f4ee67798b08de32a53f55baf26348b90476c19918405aa7", func := "loop.example/buildscheduler/laws.FnAllNeeds", spec := "fnAllNeeds", unfollowed := true, recurses := true, named := ["math/bits.deBruijn32tab"], apart := false, laid := [("math/bits.deBruijn32tab", laid_math_bits_deBruijn32tab)], narrowed := true }
def FnAllNeedsUptoSaid : Prop := fnAllNeedsUptoRow.holds Tryd.pinned (OpenSpec.upto fnAllNeedsSpec)

/-- 'laws.FnAllUsersCount', WHERE WHAT IT READS IS OF BULK AT MOST 1048576: true; the input reads as it did. -/
def fnAllUsersCountUptoRow : OpenClaim := { program := "ytamomflollhofaadoor", sum := "2d4465288920c718f4ee67798b08de32a53f55baf26348b90476c19918405aa7", func := "loop.example/buildscheduler/laws.FnAllUsersCount", spec := "fnAllUsersCount", unfollowed := true, recurses := true, named := ["math/bits.deBruijn32tab"], apart := false, laid := [("math/bits.deBruijn32tab", laid_math_bits_deBruijn32tab)], narrowed := true }
def FnAllUsersCountUptoSaid : Prop := fnAllUsersCountUptoRow.holds Tryd.pinned (OpenSpec.upto fnAllUsersCountSpec)

/-- 'laws.FnAllUsers', WHERE WHAT IT READS IS OF BULK AT MOST 1048576: true; the input reads as it did. -/
def fnAllUsersUptoRow : OpenClaim := { program := "ytamomflollhofaadoor", sum := "2d4465288920c718f4ee67798b08de32a53f55baf26348b90476c19918405aa7", func := "loop.example/buildscheduler/laws.FnAllUsers", spec := "fnAllUsers", unfollowed := true, recurses := true, named := ["math/bits.deBruijn32tab"], apart := false, laid := [("math/bits.deBruijn32tab", laid_math_bits_deBruijn32tab)], narrowed := true }
def FnAllUsersUptoSaid : Prop := fnAllUsersUptoRow.holds Tryd.pinned (OpenSpec.upto fnAllUsersSpec)

/-- 'laws.FnAllUsersOrder', WHERE WHAT IT READS IS OF BULK AT MOST 1048576: true; the input reads as it did. -/
def fnAllUsersOrderUptoRow : OpenClaim := { program := "ytamomflollhofaadoor", sum := "2d4465288920c718f4ee67798b08de32a53f55baf26348b90476c19918405aa7", func := "loop.example/buildscheduler/laws.FnAllUsersOrder", spec := "fnAllUsersOrder", unfollowed := true, recurses := true, named := ["math/bits.deBruijn32tab"], apart := false, laid := [("math/bits.deBruijn32tab", laid_math_bits_deBruijn32tab)], narrowed := true }
def FnAllUsersOrderUptoSaid : Prop := fnAllUsersOrderUptoRow.holds Tryd.pinned (OpenSpec.upto fnAllUsersOrderSpec)

/-- 'laws.FnAllNeedsTime', WHERE WHAT IT READS IS OF BULK AT MOST 1048576: true; the input reads as it did. -/
def fnAllNeedsTimeUptoRow : OpenClaim := { program := "ytamomflollhofaadoor", sum := "2d4465288920c718f4ee67798b08de32a53f55baf26348b90476c19918405aa7", func := "loop.example/buildscheduler/laws.FnAllNeedsTime", spec := "fnAllNeedsTime", unfollowed := true, recurses := true, named := ["math/bits.deBruijn32tab"], apart := false, laid := [("math/bits.deBruijn32tab", laid_math_bits_deBruijn32tab)], narrowed := true }
def FnAllNeedsTimeUptoSaid : Prop := fnAllNeedsTimeUptoRow.holds Tryd.pinned (OpenSpec.upto fnAllNeedsTimeSpec)

/-- 'laws.FnExactOutcomes', WHERE WHAT IT READS IS OF BULK AT MOST 1048576: true; the input reads as it did. -/
def fnExactOutcomesUptoRow : OpenClaim := { program := "ytamomflollhofaadoor", sum := "2d4465288920c718f4ee67798b08de32a53f55baf26348b90476c19918405aa7", func := "loop.example/buildscheduler/laws.FnExactOutcomes", spec := "fnExactOutcomes", unfollowed := true, recurses := true, named := ["math/bits.deBruijn32tab"], apart := false, laid := [("math/bits.deBruijn32tab", laid_math_bits_deBruijn32tab)], narrowed := true }
def FnExactOutcomesUptoSaid : Prop := fnExactOutcomesUptoRow.holds Tryd.pinned (OpenSpec.upto fnExactOutcomesSpec)

/-- 'laws.FnExactCountOutcome', WHERE WHAT IT READS IS OF BULK AT MOST 1048576: true; the input reads as it did. -/
def fnExactCountOutcomeUptoRow : OpenClaim := { program := "ytamomflollhofaadoor", sum := "2d4465288920c718f4ee67798b08de32a53f55baf26348b90476c19918405aa7", func := "loop.example/buildscheduler/laws.FnExactCountOutcome", spec := "fnExactCountOutcome", unfollowed := true, recurses := true, named := ["math/bits.deBruijn32tab"], apart := false, laid := [("math/bits.deBruijn32tab", laid_math_bits_deBruijn32tab)], narrowed := true }
def FnExactCountOutcomeUptoSaid : Prop := fnExactCountOutcomeUptoRow.holds Tryd.pinned (OpenSpec.upto fnExactCountOutcomeSpec)

end Rows
end Go.Proofs.YtamomflollhofaaDoor
