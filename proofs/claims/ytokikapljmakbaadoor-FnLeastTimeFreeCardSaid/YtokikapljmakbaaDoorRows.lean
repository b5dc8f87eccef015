/-
  NARROWER THAN 'FOR EVERY INPUT', by the rows' own cells (each row's printed sentence says how): FnLeastTimeFree: laid · FnLeastTime: laid · FnExactLeastTime: laid · FnExactPoolTime: laid · FnPoolTime: laid · FnPoolTimeSum: laid · FnLongestTime: laid · FnExactLongestTime: laid · FnLongestTimeMore: laid · FnExactTailTimes: laid · FnTailTimes: laid.
  DERIVED. THE GIVEN ROWS OF THIS SEAT. 11 by the template 'for every input the law returns true; each argument reads behind the call as it read before'; 0 by the template 'total and deterministic' (their statements: YtokikapljmakbaaDoorTotals.lean).
  GIVEN WITH THE SEED: the statements are not yours to turn. If you find one false, say at which input.
  Laid BY PROGRAM, IN A SANDBOX (cutbox-rows.mjs): the forced cells as the released guide's own fill.sh prints them over the translation 532516589a2ab79d… (all of the seat's roots in one cut). By AI agents, Wed Nov 11 2026. No macro, syntax, notation, axiom, sorry.
-/
import Derived.Test.YtokikapljmakbaaDoorChecked
import GoSem.Claim
import GoSem.ClaimJoined
import GoSem.ClaimMapViews
import Derived.JoinedTies
import Derived.KernelRfl
namespace Go.Proofs.YtokikapljmakbaaDoor
/- THE CELL 'sum', in the pinned program and in every row, IS THE sha256 OF THE DUMP (.gsa) THAT YtokikapljmakbaaDoorProg.lean LOADS. Nothing in Lean hashes anything: it is a label: what it is worth is what the hold of that sum in a sandbox is worth. -/
noncomputable def Tryd.pinned : Pinned := { name := "ytokikapljmakbaadoor", sum := "532516589a2ab79da78f616a61d3fdc9f20ed1fd92226ea26b86f0ffc94d913d", checked := Tryd.checked }
namespace Rows
def none {H : Type} : Left H := { results := [], args := [] }

/- WHAT THE LISTED PACKAGE-LEVEL VARIABLES READ AS WHEN THE CALL BEGINS. Each datum BY PROGRAM (the guide's laid-datum.mjs) off the statement by which the dump's own 'gosem.cut.vars' lays the variable. In a bare row this is a premise. The card (YtokikapljmakbaaDoorCards.lean) ties it to the program's text. -/
def laid_math_bits_deBruijn32tab {H : Type} : DataW H := .agg [.lit (.int .u8 0), .lit (.int .u8 1), .lit (.int .u8 28), .lit (.int .u8 2), .lit (.int .u8 29), .lit (.int .u8 14), .lit (.int .u8 24), .lit (.int .u8 3), .lit (.int .u8 30), .lit (.int .u8 22), .lit (.int .u8 20), .lit (.int .u8 15), .lit (.int .u8 25), .lit (.int .u8 17), .lit (.int .u8 4), .lit (.int .u8 8), .lit (.int .u8 31), .lit (.int .u8 27), .lit (.int .u8 13), .lit (.int .u8 23), .lit (.int .u8 21), .lit (.int .u8 19), .lit (.int .u8 16), .lit (.int .u8 7), .lit (.int .u8 26), .lit (.int .u8 12), .lit (.int .u8 18), .lit (.int .u8 6), .lit (.int .u8 11), .lit (.int .u8 5), .lit (.int .u8 10), .lit (.int .u8 9)]

/-- 'laws.FnLeastTimeFree': WHATEVER THE INPUT: true; the input reads as it did. -/
def fnLeastTimeFreeSpec : ChangeSpec := { name := "fnLeastTimeFree", fn := fun _ => fun
  | [d] => { results := [.lit (.bool true)], args := [d] }
  | _ => none }
def fnLeastTimeFreeRow : OpenClaim := { program := "ytokikapljmakbaadoor", sum := "532516589a2ab79da78f616a61d3fdc9f20ed1fd92226ea26b86f0ffc94d913d", func := "loop.example/buildscheduler/laws.FnLeastTimeFree", spec := "fnLeastTimeFree", unfollowed := true, recurses := true, named := ["math/bits.deBruijn32tab"], apart := false, laid := [("math/bits.deBruijn32tab", laid_math_bits_deBruijn32tab)] }
def FnLeastTimeFreeSaid : Prop := fnLeastTimeFreeRow.holds Tryd.pinned (OpenSpec.ofChange fnLeastTimeFreeSpec)

/-- ITS FALSE NEIGHBOUR: 'it returns false'. Refute it at one input. -/
def fnLeastTimeFreeWrong : ChangeSpec := { name := "fnLeastTimeFree", fn := fun _ => fun
  | [d] => { results := [.lit (.bool false)], args := [d] }
  | _ => none }
def FnLeastTimeFreeWrongFalsely : Prop := fnLeastTimeFreeRow.holds Tryd.pinned (OpenSpec.ofChange fnLeastTimeFreeWrong)

/-- 'laws.FnLeastTime': WHATEVER THE INPUT: true; the input reads as it did. -/
def fnLeastTimeSpec : ChangeSpec := { name := "fnLeastTime", fn := fun _ => fun
  | [d] => { results := [.lit (.bool true)], args := [d] }
  | _ => none }
def fnLeastTimeRow : OpenClaim := { program := "ytokikapljmakbaadoor", sum := "532516589a2ab79da78f616a61d3fdc9f20ed1fd92226ea26b86f0ffc94d913d", func := "loop.example/buildscheduler/laws.FnLeastTime", spec := "fnLeastTime", unfollowed := true, recurses := true, named := ["math/bits.deBruijn32tab"], apart := false, laid := [("math/bits.deBruijn32tab", laid_math_bits_deBruijn32tab)] }
def FnLeastTimeSaid : Prop := fnLeastTimeRow.holds Tryd.pinned (OpenSpec.ofChange fnLeastTimeSpec)

/-- ITS FALSE NEIGHBOUR: 'it returns false'. Refute it at one input. -/
def fnLeastTimeWrong : ChangeSpec := { name := "fnLeastTime", fn := fun _ => fun
  | [d] => { results := [.lit (.bool false)], args := [d] }
  | _ => none }
def FnLeastTimeWrongFalsely : Prop := fnLeastTimeRow.holds Tryd.pinned (OpenSpec.ofChange fnLeastTimeWrong)

/-- 'laws.FnExactLeastTime': WHATEVER THE INPUT: true; the input reads as it did. -/
def fnExactLeastTimeSpec : ChangeSpec := { name := "fnExactLeastTime", fn := fun _ => fun
  | [d1, d2, d3] => { results := [.lit (.bool true)], args := [d1, d2, d3] }
  | _ => none }
def fnExactLeastTimeRow : OpenClaim := { program := "ytokikapljmakbaadoor", sum := "532516589a2ab79da78f616a61d3fdc9f20ed1fd92226ea26b86f0ffc94d913d", func := "loop.example/buildscheduler/laws.FnExactLeastTime", spec := "fnExactLeastTime", unfollowed := true, recurses := true, named := ["math/bits.deBruijn32tab"], apart := false, laid := [("math/bits.deBruijn32tab", laid_math_bits_deBruijn32tab)] }
def FnExactLeastTimeSaid : Prop := fnExactLeastTimeRow.holds Tryd.pinned (OpenSpec.ofChange fnExactLeastTimeSpec)

/-- ITS FALSE NEIGHBOUR: 'it returns false'. Refute it at one input. -/
def fnExactLeastTimeWrong : ChangeSpec := { name := "fnExactLeastTime", fn := fun _ => fun
  | [d1, d2, d3] => { results := [.lit (.bool false)], args := [d1, d2, d3] }
  | _ => none }
def FnExactLeastTimeWrongFalsely : Prop := fnExactLeastTimeRow.holds Tryd.pinned (OpenSpec.ofChange fnExactLeastTimeWrong)

/-- 'laws.FnExactPoolTime': WHATEVER THE INPUT: true; the input reads as it did. -/
def fnExactPoolTimeSpec : ChangeSpec := { name := "fnExactPoolTime", fn := fun _ => fun
  | [d1, d2, d3] => { results := [.lit (.bool true)], args := [d1, d2, d3] }
  | _ => none }
def fnExactPoolTimeRow : OpenClaim := { program := "ytokikapljmakbaadoor", sum := "532516589a2ab79da78f616a61d3fdc9f20ed1fd92226ea26b86f0ffc94d913d", func := "loop.example/buildscheduler/laws.FnExactPoolTime", spec := "fnExactPoolTime", unfollowed := true, recurses := true, named := ["math/bits.deBruijn32tab"], apart := false, laid := [("math/bits.deBruijn32tab", laid_math_bits_deBruijn32tab)] }
def FnExactPoolTimeSaid : Prop := fnExactPoolTimeRow.holds Tryd.pinned (OpenSpec.ofChange fnExactPoolTimeSpec)

/-- ITS FALSE NEIGHBOUR: 'it returns false'. Refute it at one input. -/
def fnExactPoolTimeWrong : ChangeSpec := { name := "fnExactPoolTime", fn := fun _ => fun
  | [d1, d2, d3] => { results := [.lit (.bool false)], args := [d1, d2, d3] }
  | _ => none }
def FnExactPoolTimeWrongFalsely : Prop := fnExactPoolTimeRow.holds Tryd.pinned (OpenSpec.ofChange fnExactPoolTimeWrong)

/-- 'laws.FnPoolTime': WHATEVER THE INPUT: true; the input reads as it did. -/
def fnPoolTimeSpec : ChangeSpec := { name := "fnPoolTime", fn := fun _ => fun
  | [d] => { results := [.lit (.bool true)], args := [d] }
  | _ => none }
def fnPoolTimeRow : OpenClaim := { program := "ytokikapljmakbaadoor", sum := "532516589a2ab79da78f616a61d3fdc9f20ed1fd92226ea26b86f0ffc94d913d", func := "loop.example/buildscheduler/laws.FnPoolTime", spec := "fnPoolTime", unfollowed := true, recurses := true, named := ["math/bits.deBruijn32tab"], apart := false, laid := [("math/bits.deBruijn32tab", laid_math_bits_deBruijn32tab)] }
def FnPoolTimeSaid : Prop := fnPoolTimeRow.holds Tryd.pinned (OpenSpec.ofChange fnPoolTimeSpec)

/-- ITS FALSE NEIGHBOUR: 'it returns false'. Refute it at one input. -/
def fnPoolTimeWrong : ChangeSpec := { name := "fnPoolTime", fn := fun _ => fun
  | [d] => { results := [.lit (.bool false)], args := [d] }
  | _ => none }
def FnPoolTimeWrongFalsely : Prop := fnPoolTimeRow.holds Tryd.pinned (OpenSpec.ofChange fnPoolTimeWrong)

/-- 'laws.FnPoolTimeSum': WHATEVER THE INPUT: true; the input reads as it did. -/
def fnPoolTimeSumSpec : ChangeSpec := { name := "fnPoolTimeSum", fn := fun _ => fun
  | [d] => { results := [.lit (.bool true)], args := [d] }
  | _ => none }
def fnPoolTimeSumRow : OpenClaim := { program := "ytokikapljmakbaadoor", sum := "532516589a2ab79da78f616a61d3fdc9f20ed1fd92226ea26b86f0ffc94d913d", func := "loop.example/buildscheduler/laws.FnPoolTimeSum", spec := "fnPoolTimeSum", unfollowed := true, recurses := true, named := ["math/bits.deBruijn32tab"], apart := false, laid := [("math/bits.deBruijn32tab", laid_math_bits_deBruijn32tab)] }
def FnPoolTimeSumSaid : Prop := fnPoolTimeSumRow.holds Tryd.pinned (OpenSpec.ofChange fnPoolTimeSumSpec)

/-- ITS FALSE NEIGHBOUR: 'it returns false'. Refute it at one input. -/
def fnPoolTimeSumWrong : ChangeSpec := { name := "fnPoolTimeSum", fn := fun _ => fun
  | [d] => { results := [.lit (.bool false)], args := [d] }
  | _ => none }
def FnPoolTimeSumWrongFalsely : Prop := fnPoolTimeSumRow.holds Tryd.pinned (OpenSpec.ofChange fnPoolTimeSumWrong)

/-- 'laws.FnLongestTime': WHATEVER THE INPUT: true; the input reads as it did. -/
def fnLongestTimeSpec : ChangeSpec := { name := "fnLongestTime", fn := fun _ => fun
  | [d] => { results := [.lit (.bool true)], args := [d] }
  | _ => none }
def fnLongestTimeRow : OpenClaim := { program := "ytokikapljmakbaadoor", sum := "532516589a2ab79da78f616a61d3fdc9f20ed1fd92226ea26b86f0ffc94d913d", func := "loop.example/buildscheduler/laws.FnLongestTime", spec := "fnLongestTime", unfollowed := true, recurses := true, named := ["math/bits.deBruijn32tab"], apart := false, laid := [("math/bits.deBruijn32tab", laid_math_bits_deBruijn32tab)] }
def FnLongestTimeSaid : Prop := fnLongestTimeRow.holds Tryd.pinned (OpenSpec.ofChange fnLongestTimeSpec)

/-- ITS FALSE NEIGHBOUR: 'it returns false'. Refute it at one input. -/
def fnLongestTimeWrong : ChangeSpec := { name := "fnLongestTime", fn := fun _ => fun
  | [d] => { results := [.lit (.bool false)], args := [d] }
  | _ => none }
def FnLongestTimeWrongFalsely : Prop := fnLongestTimeRow.holds Tryd.pinned (OpenSpec.ofChange fnLongestTimeWrong)

/-- 'laws.FnExactLongestTime': WHATEVER THE INPUT: true; the input reads as it did. -/
def fnExactLongestTimeSpec : ChangeSpec := { name := "fnExactLongestTime", fn := fun _ => fun
  | [d] => { results := [.lit (.bool true)], args := [d] }
  | _ => none }
def fnExactLongestTimeRow : OpenClaim := { program := "ytokikapljmakbaadoor", sum := "532516589a2ab79da78f616a61d3fdc9f20ed1fd92226ea26b86f0ffc94d913d", func := "loop.example/buildscheduler/laws.FnExactLongestTime", spec := "fnExactLongestTime", unfollowed := true, recurses := true, named := ["math/bits.deBruijn32tab"], apart := false, laid := [("math/bits.deBruijn32tab", laid_math_bits_deBruijn32tab)] }
def FnExactLongestTimeSaid : Prop := fnExactLongestTimeRow.holds Tryd.pinned (OpenSpec.ofChange fnExactLongestTimeSpec)

/-- ITS FALSE NEIGHBOUR: 'it returns false'. Refute it at one input. -/
def fnExactLongestTimeWrong : ChangeSpec := { name := "fnExactLongestTime", fn := fun _ => fun
  | [d] => { results := [.lit (.bool false)], args := [d] }
  | _ => none }
def FnExactLongestTimeWrongFalsely : Prop := fnExactLongestTimeRow.holds Tryd.pinned (OpenSpec.ofChange fnExactLongestTimeWrong)

/-- 'laws.FnLongestTimeMore': WHATEVER THE INPUT: true; the input reads as it did. -/
def fnLongestTimeMoreSpec : ChangeSpec := { name := "fnLongestTimeMore", fn := fun _ => fun
  | [d] => { results := [.lit (.bool true)], args := [d] }
  | _ => none }
def fnLongestTimeMoreRow : OpenClaim := { program := "ytokikapljmakbaadoor", sum := "532516589a2ab79da78f616a61d3fdc9f20ed1fd92226ea26b86f0ffc94d913d", func := "loop.example/buildscheduler/laws.FnLongestTimeMore", spec := "fnLongestTimeMore", unfollowed := true, recurses := true, named := ["math/bits.deBruijn32tab"], apart := false, laid := [("math/bits.deBruijn32tab", laid_math_bits_deBruijn32tab)] }
def FnLongestTimeMoreSaid : Prop := fnLongestTimeMoreRow.holds Tryd.pinned (OpenSpec.ofChange fnLongestTimeMoreSpec)

/-- ITS FALSE NEIGHBOUR: 'it returns false'. Refute it at one input. -/
def fnLongestTimeMoreWrong : ChangeSpec := { name := "fnLongestTimeMore", fn := fun _ => fun
  | [d] => { results := [.lit (.bool false)], args := [d] }
  | _ => none }
def FnLongestTimeMoreWrongFalsely : Prop := fnLongestTimeMoreRow.holds Tryd.pinned (OpenSpec.ofChange fnLongestTimeMoreWrong)

/-- 'laws.FnExactTailTimes': WHATEVER THE INPUT: true; the input reads as it did. -/
def fnExactTailTimesSpec : ChangeSpec := { name := "fnExactTailTimes", fn := fun _ => fun
  | [d] => { results := [.lit (.bool true)], args := [d] }
  | _ => none }
def fnExactTailTimesRow : OpenClaim := { program := "ytokikapljmakbaadoor", sum := "532516589a2ab79da78f616a61d3fdc9f20ed1fd92226ea26b86f0ffc94d913d", func := "loop.example/buildscheduler/laws.FnExactTailTimes", spec := "fnExactTailTimes", unfollowed := true, recurses := true, named := ["math/bits.deBruijn32tab"], apart := false, laid := [("math/bits.deBruijn32tab", laid_math_bits_deBruijn32tab)] }
def FnExactTailTimesSaid : Prop := fnExactTailTimesRow.holds Tryd.pinned (OpenSpec.ofChange fnExactTailTimesSpec)

/-- ITS FALSE NEIGHBOUR: 'it returns false'. Refute it at one input. -/
def fnExactTailTimesWrong : ChangeSpec := { name := "fnExactTailTimes", fn := fun _ => fun
  | [d] => { results := [.lit (.bool false)], args := [d] }
  | _ => none }
def FnExactTailTimesWrongFalsely : Prop := fnExactTailTimesRow.holds Tryd.pinned (OpenSpec.ofChange fnExactTailTimesWrong)

/-- 'laws.FnTailTimes': WHATEVER THE INPUT: true; the input reads as it did. -/
def fnTailTimesSpec : ChangeSpec := { name := "fnTailTimes", fn := fun _ => fun
  | [d] => { results := [.lit (.bool true)], args := [d] }
  | _ => none }
def fnTailTimesRow : OpenClaim := { program := "ytokikapljmakbaadoor", sum := "532516589a2ab79da78f616a61d3fdc9f20ed1fd92226ea26b86f0ffc94d913d", func := "loop.example/buildscheduler/laws.FnTailTimes", spec := "fnTailTimes", unfollowed := true, recurses := true, named := ["math/bits.deBruijn32tab"], apart := false, laid := [("math/bits.deBruijn32tab", laid_math_bits_deBruijn32tab)] }
def FnTailTimesSaid : Prop := fnTailTimesRow.holds Tryd.pinned (OpenSpec.ofChange fnTailTimesSpec)

/-- ITS FALSE NEIGHBOUR: 'it returns false'. Refute it at one input. -/
def fnTailTimesWrong : ChangeSpec := { name := "fnTailTimes", fn := fun _ => fun
  | [d] => { results := [.lit (.bool false)], args := [d] }
  | _ => none }
def FnTailTimesWrongFalsely : Prop := fnTailTimesRow.holds Tryd.pinned (OpenSpec.ofChange fnTailTimesWrong)

/- THE SECOND FORM. 'bulk': how many values and letters a reading holds, each counted each time it is reached (what is shared counts as often as it is met; a slice's spare places count too). A statement '..UptoSaid' is the law's where the arguments, and the package variables that the reading takes, are together of bulk at most 1048576: NARROWER than '..Said'. Prove '..Said' where nothing that the law and all that it calls make is longer than what came in: it says more and counts as full. Else prove '..UptoSaid'. A law counts once. -/
mutual
def uptoBulk {H : Type} : DataW H → Nat
  | .lit (.string bytes) => bytes.length + 1
  | .lit _ => 1
  | .nil => 1
  | .ptr d => uptoBulk d + 1
  | .slice elems spare => uptoBulkAll elems + uptoBulkAll spare + 1
  | .agg parts => uptoBulkAll parts + 1
  | .iface _ d => uptoBulk d + 1
  | .map entries => uptoBulkEntries entries + 1
  | .held _ => 1
def uptoBulkAll {H : Type} : List (DataW H) → Nat
  | [] => 0
  | d :: r => uptoBulk d + uptoBulkAll r
def uptoBulkEntries {H : Type} : List (Lit × DataW H) → Nat
  | [] => 0
  | x :: r => uptoBulkEntry x + uptoBulkEntries r
def uptoBulkEntry {H : Type} : Lit × DataW H → Nat
  | (.string bytes, d) => bytes.length + uptoBulk d + 1
  | (_, d) => uptoBulk d + 1
 end
def uptoSmall : (H : Type) → List (DataW H) → Bool := fun _ ds => decide (uptoBulkAll ds ≤ 1048576)
def OpenSpec.upto (s : _root_.Go.ChangeSpec) : _root_.Go.OpenSpec := { _root_.Go.OpenSpec.ofChange s with cond := some uptoSmall }

/-- 'laws.FnLeastTimeFree', WHERE WHAT IT READS IS OF BULK AT MOST 1048576: true; the input reads as it did. -/
def fnLeastTimeFreeUptoRow : OpenClaim := { program := "ytokikapljmakbaadoor", sum := "532516589a2ab79da78f616a61d3fdc9f20ed1fd92226ea26b86f0ffc94d913d", func := "loop.example/buildscheduler/laws.FnLeastTimeFree", spec := "fnLeastTimeFree", unfollowed := true, recurses := true, named := ["math/bits.deBruijn32tab"], apart := false, laid := [("math/bits.deBruijn32tab", laid_math_bits_deBruijn32tab)], narrowed := true }
def FnLeastTimeFreeUptoSaid : Prop := fnLeastTimeFreeUptoRow.holds Tryd.pinned (OpenSpec.upto fnLeastTimeFreeSpec)

/-- 'laws.FnLeastTime', WHERE WHAT IT READS IS OF BULK AT MOST 1048576: true; the input reads as it did. -/
def fnLeastTimeUptoRow : OpenClaim := { program := "ytokikapljmakbaadoor", sum := "532516589a2ab79da78f616a61d3fdc9f20ed1fd92226ea26b86f0ffc94d913d", func := "loop.example/buildscheduler/laws.FnLeastTime", spec := "fnLeastTime", unfollowed := true, recurses := true, named := ["math/bits.deBruijn32tab"], apart := false, laid := [("math/bits.deBruijn32tab", laid_math_bits_deBruijn32tab)], narrowed := true }
def FnLeastTimeUptoSaid : Prop := fnLeastTimeUptoRow.holds Tryd.pinned (OpenSpec.upto fnLeastTimeSpec)

/-- 'laws.FnExactLeastTime', WHERE WHAT IT READS IS OF BULK AT MOST 1048576: true; the input reads as it did. -/
def fnExactLeastTimeUptoRow : OpenClaim := { program := "ytokikapljmakbaadoor", sum := "532516589a2ab79da78f616a61d3fdc9f20ed1fd92226ea26b86f0ffc94d913d", func := "loop.example/buildscheduler/laws.FnExactLeastTime", spec := "fnExactLeastTime", unfollowed := true, recurses := true, named := ["math/bits.deBruijn32tab"], apart := false, laid := [("math/bits.deBruijn32tab", laid_math_bits_deBruijn32tab)], narrowed := true }
def FnExactLeastTimeUptoSaid : Prop := fnExactLeastTimeUptoRow.holds Tryd.pinned (OpenSpec.upto fnExactLeastTimeSpec)

/-- 'laws.FnExactPoolTime', WHERE WHAT IT READS IS OF BULK AT MOST 1048576: true; the input reads as it did. -/
def fnExactPoolTimeUptoRow : OpenClaim := { program := "ytokikapljmakbaadoor", sum := "532516589a2ab79da78f616a61d3fdc9f20ed1fd92226ea26b86f0ffc94d913d", func := "loop.example/buildscheduler/laws.FnExactPoolTime", spec := "fnExactPoolTime", unfollowed := true, recurses := true, named := ["math/bits.deBruijn32tab"], apart := false, laid := [("math/bits.deBruijn32tab", laid_math_bits_deBruijn32tab)], narrowed := true }
def FnExactPoolTimeUptoSaid : Prop := fnExactPoolTimeUptoRow.holds Tryd.pinned (OpenSpec.upto fnExactPoolTimeSpec)

/-- 'laws.FnPoolTime', WHERE WHAT IT READS IS OF BULK AT MOST 1048576: true; the input reads as it did. -/
def fnPoolTimeUptoRow : OpenClaim := { program := "ytokikapljmakbaadoor", sum := "532516589a2ab79da78f616a61d3fdc9f20ed1fd92226ea26b86f0ffc94d913d", func := "loop.example/buildscheduler/laws.FnPoolTime", spec := "fnPoolTime", unfollowed := true, recurses := true, named := ["math/bits.deBruijn32tab"], apart := false, laid := [("math/bits.deBruijn32tab", laid_math_bits_deBruijn32tab)], narrowed := true }
def FnPoolTimeUptoSaid : Prop := fnPoolTimeUptoRow.holds Tryd.pinned (OpenSpec.upto fnPoolTimeSpec)

/-- 'laws.FnPoolTimeSum', WHERE WHAT IT READS IS OF BULK AT MOST 1048576: true; the input reads as it did. -/
def fnPoolTimeSumUptoRow : OpenClaim := { program := "ytokikapljmakbaadoor", sum := "532516589a2ab79da78f616a61d3fdc9f20ed1fd92226ea26b86f0ffc94d913d", func := "loop.example/buildscheduler/laws.FnPoolTimeSum", spec := "fnPoolTimeSum", unfollowed := true, recurses := true, named := ["math/bits.deBruijn32tab"], apart := false, laid := [("math/bits.deBruijn32tab", laid_math_bits_deBruijn32tab)], narrowed := true }
def FnPoolTimeSumUptoSaid : Prop := fnPoolTimeSumUptoRow.holds Tryd.pinned (OpenSpec.upto fnPoolTimeSumSpec)

/-- 'laws.FnLongestTime', WHERE WHAT IT READS IS OF BULK AT MOST 1048576: true; the input reads as it did. -/
def fnLongestTimeUptoRow : OpenClaim := { program := "ytokikapljmakbaadoor", sum := "532516589a2ab79da78f616a61d3fdc9f20ed1fd92226ea26b86f0ffc94d913d", func := "loop.example/buildscheduler/laws.FnLongestTime", spec := "fnLongestTime", unfollowed := true, recurses := true, named := ["math/bits.deBruijn32tab"], apart := false, laid := [("math/bits.deBruijn32tab", laid_math_bits_deBruijn32tab)], narrowed := true }
def FnLongestTimeUptoSaid : Prop := fnLongestTimeUptoRow.holds Tryd.pinned (OpenSpec.upto fnLongestTimeSpec)

/-- 'laws.FnExactLongestTime', WHERE WHAT IT READS IS OF BULK AT MOST 1048576: true; the input reads as it did. -/
def fnExactLongestTimeUptoRow : OpenClaim := { program := "ytokikapljmakbaadoor", sum := "532516589a2ab79da78f616a61d3fdc9f20ed1fd92226ea26b86f0ffc94d913d", func := "loop.example/buildscheduler/laws.FnExactLongestTime", spec := "fnExactLongestTime", unfollowed := true, recurses := true, named := ["math/bits.deBruijn32tab"], apart := false, laid := [("math/bits.deBruijn32tab", laid_math_bits_deBruijn32tab)], narrowed := true }
def FnExactLongestTimeUptoSaid : Prop := fnExactLongestTimeUptoRow.holds Tryd.pinned (OpenSpec.upto fnExactLongestTimeSpec)

/-- 'laws.FnLongestTimeMore', WHERE WHAT IT READS IS OF BULK AT MOST 1048576: true; the input reads as it did. -/
def fnLongestTimeMoreUptoRow : OpenClaim := { program := "ytokikapljmakbaadoor", sum := "532516589a2ab79da78f616a61d3fdc9f20ed1fd92226ea26b86f0ffc94d913d", func := "loop.example/buildscheduler/laws.FnLongestTimeMore", spec := "fnLongestTimeMore", unfollowed := true, recurses := true, named := ["math/bits.deBruijn32tab"], apart := false, laid := [("math/bits.deBruijn32tab", laid_math_bits_deBruijn32tab)], narrowed := true }
def FnLongestTimeMoreUptoSaid : Prop := fnLongestTimeMoreUptoRow.holds Tryd.pinned (OpenSpec.upto fnLongestTimeMoreSpec)

/-- 'laws.FnExactTailTimes', WHERE WHAT IT READS IS OF BULK AT MOST 1048576: true; the input reads as it did. -/
def fnExactTailTimesUptoRow : OpenClaim := { program := "ytokikapljmakbaadoor", sum := "532516589a2ab79da78f616a61d3fdc9f20ed1fd92226ea26b86f0ffc94d913d", func := "loop.example/buildscheduler/laws.FnExactTailTimes", spec := "fnExactTailTimes", unfollowed := true, recurses := true, named := ["math/bits.deBruijn32tab"], apart := false, laid := [("math/bits.deBruijn32tab", laid_math_bits_deBruijn32tab)], narrowed := true }
def FnExactTailTimesUptoSaid : Prop := fnExactTailTimesUptoRow.holds Tryd.pinned (OpenSpec.upto fnExactTailTimesSpec)

/-- 'laws.FnTailTimes', WHERE WHAT IT READS IS OF BULK AT MOST 1048576: true; the input reads as it did. -/
def fnTailTimesUptoRow : OpenClaim := { program := "ytokikapljmakbaadoor", sum := "532516589a2ab79da78f616a61d3fdc9f20ed1fd92226ea26b86f0ffc94d913d", func := "loop.example/buildscheduler/laws.FnTailTimes", spec := "fnTailTimes", unfollowed := true, recurses := true, named := ["math/bits.deBruijn32tab"], apart := false, laid := [("math/bits.deBruijn32tab", laid_math_bits_deBruijn32tab)], narrowed := true }
def FnTailTimesUptoSaid : Prop := fnTailTimesUptoRow.holds Tryd.pinned (OpenSpec.upto fnTailTimesSpec)

end Rows
end Go.Proofs.YtokikapljmakbaaDoor
