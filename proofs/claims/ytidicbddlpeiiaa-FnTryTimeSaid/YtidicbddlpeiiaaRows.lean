/-
  No cell of these rows narrows 'for every input' (looked for: loops, veiled, ifaces, maps, wideKeys, modest, calm, conditions, laid).
  DERIVED. THE GIVEN ROWS OF THIS SEAT. 15 by the template 'for every input the law returns true; each argument reads behind the call as it read before'; 0 by the template 'total and deterministic' (their statements: YtidicbddlpeiiaaTotals.lean).
  GIVEN WITH THE SEED: the statements are not yours to turn. If you find one false, say at which input.
  Laid BY PROGRAM, IN A SANDBOX (cutbox-rows.mjs): the forced cells as the released guide's own fill.sh prints them over the translation 9102be4e1bf76f4e… (all of the seat's roots in one cut). By AI agents, Wed Nov 11 2026. No macro, syntax, notation, axiom, sorry.
-/
import Derived.Test.YtidicbddlpeiiaaChecked
import GoSem.Claim
import GoSem.ClaimJoined
import GoSem.ClaimMapViews
import Derived.JoinedTies
import Derived.KernelRfl
namespace Go.Proofs.Ytidicbddlpeiiaa
/- THE CELL 'sum', in the pinned program and in every row, IS THE sha256 OF THE DUMP (.gsa) THAT YtidicbddlpeiiaaProg.lean LOADS. Nothing in Lean hashes anything: it is a label: what it is worth is what the hold of that sum in a sandbox is worth. -/
noncomputable def Try.pinned : Pinned := { name := "ytidicbddlpeiiaa", sum := "9102be4e1bf76f4ef8597c9d6a766aff2784a3d69f260a99072674099aa76eea", checked := Try.checked }
namespace Rows
def none {H : Type} : Left H := { results := [], args := [] }

/-- 'laws.FnExactConstants': WHATEVER THE INPUT: true; the input reads as it did. -/
def fnExactConstantsSpec : ChangeSpec := { name := "fnExactConstants", fn := fun _ => fun
  | [] => { results := [.lit (.bool true)], args := [] }
  | _ => none }
def fnExactConstantsRow : OpenClaim := { program := "ytidicbddlpeiiaa", sum := "9102be4e1bf76f4ef8597c9d6a766aff2784a3d69f260a99072674099aa76eea", func := "loop.example/buildscheduler/laws.FnExactConstants", spec := "fnExactConstants", apart := false }
def FnExactConstantsSaid : Prop := fnExactConstantsRow.holds Try.pinned (OpenSpec.ofChange fnExactConstantsSpec)

/-- ITS FALSE NEIGHBOUR: 'it returns false'. Refute it at one input. -/
def fnExactConstantsWrong : ChangeSpec := { name := "fnExactConstants", fn := fun _ => fun
  | [] => { results := [.lit (.bool false)], args := [] }
  | _ => none }
def FnExactConstantsWrongFalsely : Prop := fnExactConstantsRow.holds Try.pinned (OpenSpec.ofChange fnExactConstantsWrong)

/-- 'laws.FnExactDelayOf': WHATEVER THE INPUT: true; the input reads as it did. -/
def fnExactDelayOfSpec : ChangeSpec := { name := "fnExactDelayOf", fn := fun _ => fun
  | [d] => { results := [.lit (.bool true)], args := [d] }
  | _ => none }
def fnExactDelayOfRow : OpenClaim := { program := "ytidicbddlpeiiaa", sum := "9102be4e1bf76f4ef8597c9d6a766aff2784a3d69f260a99072674099aa76eea", func := "loop.example/buildscheduler/laws.FnExactDelayOf", spec := "fnExactDelayOf", unfollowed := true, recurses := true, apart := false }
def FnExactDelayOfSaid : Prop := fnExactDelayOfRow.holds Try.pinned (OpenSpec.ofChange fnExactDelayOfSpec)

/-- ITS FALSE NEIGHBOUR: 'it returns false'. Refute it at one input. -/
def fnExactDelayOfWrong : ChangeSpec := { name := "fnExactDelayOf", fn := fun _ => fun
  | [d] => { results := [.lit (.bool false)], args := [d] }
  | _ => none }
def FnExactDelayOfWrongFalsely : Prop := fnExactDelayOfRow.holds Try.pinned (OpenSpec.ofChange fnExactDelayOfWrong)

/-- 'laws.FnExactValidRoom': WHATEVER THE INPUT: true; the input reads as it did. -/
def fnExactValidRoomSpec : ChangeSpec := { name := "fnExactValidRoom", fn := fun _ => fun
  | [d] => { results := [.lit (.bool true)], args := [d] }
  | _ => none }
def fnExactValidRoomRow : OpenClaim := { program := "ytidicbddlpeiiaa", sum := "9102be4e1bf76f4ef8597c9d6a766aff2784a3d69f260a99072674099aa76eea", func := "loop.example/buildscheduler/laws.FnExactValidRoom", spec := "fnExactValidRoom", apart := false }
def FnExactValidRoomSaid : Prop := fnExactValidRoomRow.holds Try.pinned (OpenSpec.ofChange fnExactValidRoomSpec)

/-- ITS FALSE NEIGHBOUR: 'it returns false'. Refute it at one input. -/
def fnExactValidRoomWrong : ChangeSpec := { name := "fnExactValidRoom", fn := fun _ => fun
  | [d] => { results := [.lit (.bool false)], args := [d] }
  | _ => none }
def FnExactValidRoomWrongFalsely : Prop := fnExactValidRoomRow.holds Try.pinned (OpenSpec.ofChange fnExactValidRoomWrong)

/-- 'laws.FnExactTryTask': WHATEVER THE INPUT: true; the input reads as it did. -/
def fnExactTryTaskSpec : ChangeSpec := { name := "fnExactTryTask", fn := fun _ => fun
  | [d1, d2] => { results := [.lit (.bool true)], args := [d1, d2] }
  | _ => none }
def fnExactTryTaskRow : OpenClaim := { program := "ytidicbddlpeiiaa", sum := "9102be4e1bf76f4ef8597c9d6a766aff2784a3d69f260a99072674099aa76eea", func := "loop.example/buildscheduler/laws.FnExactTryTask", spec := "fnExactTryTask", apart := false }
def FnExactTryTaskSaid : Prop := fnExactTryTaskRow.holds Try.pinned (OpenSpec.ofChange fnExactTryTaskSpec)

/-- ITS FALSE NEIGHBOUR: 'it returns false'. Refute it at one input. -/
def fnExactTryTaskWrong : ChangeSpec := { name := "fnExactTryTask", fn := fun _ => fun
  | [d1, d2] => { results := [.lit (.bool false)], args := [d1, d2] }
  | _ => none }
def FnExactTryTaskWrongFalsely : Prop := fnExactTryTaskRow.holds Try.pinned (OpenSpec.ofChange fnExactTryTaskWrong)

/-- 'laws.FnDelayOf': WHATEVER THE INPUT: true; the input reads as it did. -/
def fnDelayOfSpec : ChangeSpec := { name := "fnDelayOf", fn := fun _ => fun
  | [d] => { results := [.lit (.bool true)], args := [d] }
  | _ => none }
def fnDelayOfRow : OpenClaim := { program := "ytidicbddlpeiiaa", sum := "9102be4e1bf76f4ef8597c9d6a766aff2784a3d69f260a99072674099aa76eea", func := "loop.example/buildscheduler/laws.FnDelayOf", spec := "fnDelayOf", unfollowed := true, recurses := true, apart := false }
def FnDelayOfSaid : Prop := fnDelayOfRow.holds Try.pinned (OpenSpec.ofChange fnDelayOfSpec)

/-- ITS FALSE NEIGHBOUR: 'it returns false'. Refute it at one input. -/
def fnDelayOfWrong : ChangeSpec := { name := "fnDelayOf", fn := fun _ => fun
  | [d] => { results := [.lit (.bool false)], args := [d] }
  | _ => none }
def FnDelayOfWrongFalsely : Prop := fnDelayOfRow.holds Try.pinned (OpenSpec.ofChange fnDelayOfWrong)

/-- 'laws.FnDelayOfBound': WHATEVER THE INPUT: true; the input reads as it did. -/
def fnDelayOfBoundSpec : ChangeSpec := { name := "fnDelayOfBound", fn := fun _ => fun
  | [d] => { results := [.lit (.bool true)], args := [d] }
  | _ => none }
def fnDelayOfBoundRow : OpenClaim := { program := "ytidicbddlpeiiaa", sum := "9102be4e1bf76f4ef8597c9d6a766aff2784a3d69f260a99072674099aa76eea", func := "loop.example/buildscheduler/laws.FnDelayOfBound", spec := "fnDelayOfBound", unfollowed := true, recurses := true, apart := false }
def FnDelayOfBoundSaid : Prop := fnDelayOfBoundRow.holds Try.pinned (OpenSpec.ofChange fnDelayOfBoundSpec)

/-- ITS FALSE NEIGHBOUR: 'it returns false'. Refute it at one input. -/
def fnDelayOfBoundWrong : ChangeSpec := { name := "fnDelayOfBound", fn := fun _ => fun
  | [d] => { results := [.lit (.bool false)], args := [d] }
  | _ => none }
def FnDelayOfBoundWrongFalsely : Prop := fnDelayOfBoundRow.holds Try.pinned (OpenSpec.ofChange fnDelayOfBoundWrong)

/-- 'laws.FnExactIsFlaky': WHATEVER THE INPUT: true; the input reads as it did. -/
def fnExactIsFlakySpec : ChangeSpec := { name := "fnExactIsFlaky", fn := fun _ => fun
  | [d1, d2] => { results := [.lit (.bool true)], args := [d1, d2] }
  | _ => none }
def fnExactIsFlakyRow : OpenClaim := { program := "ytidicbddlpeiiaa", sum := "9102be4e1bf76f4ef8597c9d6a766aff2784a3d69f260a99072674099aa76eea", func := "loop.example/buildscheduler/laws.FnExactIsFlaky", spec := "fnExactIsFlaky", apart := false }
def FnExactIsFlakySaid : Prop := fnExactIsFlakyRow.holds Try.pinned (OpenSpec.ofChange fnExactIsFlakySpec)

/-- ITS FALSE NEIGHBOUR: 'it returns false'. Refute it at one input. -/
def fnExactIsFlakyWrong : ChangeSpec := { name := "fnExactIsFlaky", fn := fun _ => fun
  | [d1, d2] => { results := [.lit (.bool false)], args := [d1, d2] }
  | _ => none }
def FnExactIsFlakyWrongFalsely : Prop := fnExactIsFlakyRow.holds Try.pinned (OpenSpec.ofChange fnExactIsFlakyWrong)

/-- 'laws.FnTryTask': WHATEVER THE INPUT: true; the input reads as it did. -/
def fnTryTaskSpec : ChangeSpec := { name := "fnTryTask", fn := fun _ => fun
  | [d] => { results := [.lit (.bool true)], args := [d] }
  | _ => none }
def fnTryTaskRow : OpenClaim := { program := "ytidicbddlpeiiaa", sum := "9102be4e1bf76f4ef8597c9d6a766aff2784a3d69f260a99072674099aa76eea", func := "loop.example/buildscheduler/laws.FnTryTask", spec := "fnTryTask", apart := false }
def FnTryTaskSaid : Prop := fnTryTaskRow.holds Try.pinned (OpenSpec.ofChange fnTryTaskSpec)

/-- ITS FALSE NEIGHBOUR: 'it returns false'. Refute it at one input. -/
def fnTryTaskWrong : ChangeSpec := { name := "fnTryTask", fn := fun _ => fun
  | [d] => { results := [.lit (.bool false)], args := [d] }
  | _ => none }
def FnTryTaskWrongFalsely : Prop := fnTryTaskRow.holds Try.pinned (OpenSpec.ofChange fnTryTaskWrong)

/-- 'laws.FnTryTaskFirst': WHATEVER THE INPUT: true; the input reads as it did. -/
def fnTryTaskFirstSpec : ChangeSpec := { name := "fnTryTaskFirst", fn := fun _ => fun
  | [d] => { results := [.lit (.bool true)], args := [d] }
  | _ => none }
def fnTryTaskFirstRow : OpenClaim := { program := "ytidicbddlpeiiaa", sum := "9102be4e1bf76f4ef8597c9d6a766aff2784a3d69f260a99072674099aa76eea", func := "loop.example/buildscheduler/laws.FnTryTaskFirst", spec := "fnTryTaskFirst", apart := false }
def FnTryTaskFirstSaid : Prop := fnTryTaskFirstRow.holds Try.pinned (OpenSpec.ofChange fnTryTaskFirstSpec)

/-- ITS FALSE NEIGHBOUR: 'it returns false'. Refute it at one input. -/
def fnTryTaskFirstWrong : ChangeSpec := { name := "fnTryTaskFirst", fn := fun _ => fun
  | [d] => { results := [.lit (.bool false)], args := [d] }
  | _ => none }
def FnTryTaskFirstWrongFalsely : Prop := fnTryTaskFirstRow.holds Try.pinned (OpenSpec.ofChange fnTryTaskFirstWrong)

/-- 'laws.FnTryTaskMore': WHATEVER THE INPUT: true; the input reads as it did. -/
def fnTryTaskMoreSpec : ChangeSpec := { name := "fnTryTaskMore", fn := fun _ => fun
  | [d] => { results := [.lit (.bool true)], args := [d] }
  | _ => none }
def fnTryTaskMoreRow : OpenClaim := { program := "ytidicbddlpeiiaa", sum := "9102be4e1bf76f4ef8597c9d6a766aff2784a3d69f260a99072674099aa76eea", func := "loop.example/buildscheduler/laws.FnTryTaskMore", spec := "fnTryTaskMore", apart := false }
def FnTryTaskMoreSaid : Prop := fnTryTaskMoreRow.holds Try.pinned (OpenSpec.ofChange fnTryTaskMoreSpec)

/-- ITS FALSE NEIGHBOUR: 'it returns false'. Refute it at one input. -/
def fnTryTaskMoreWrong : ChangeSpec := { name := "fnTryTaskMore", fn := fun _ => fun
  | [d] => { results := [.lit (.bool false)], args := [d] }
  | _ => none }
def FnTryTaskMoreWrongFalsely : Prop := fnTryTaskMoreRow.holds Try.pinned (OpenSpec.ofChange fnTryTaskMoreWrong)

/-- 'laws.FnValidRoom': WHATEVER THE INPUT: true; the input reads as it did. -/
def fnValidRoomSpec : ChangeSpec := { name := "fnValidRoom", fn := fun _ => fun
  | [d] => { results := [.lit (.bool true)], args := [d] }
  | _ => none }
def fnValidRoomRow : OpenClaim := { program := "ytidicbddlpeiiaa", sum := "9102be4e1bf76f4ef8597c9d6a766aff2784a3d69f260a99072674099aa76eea", func := "loop.example/buildscheduler/laws.FnValidRoom", spec := "fnValidRoom", apart := false }
def FnValidRoomSaid : Prop := fnValidRoomRow.holds Try.pinned (OpenSpec.ofChange fnValidRoomSpec)

/-- ITS FALSE NEIGHBOUR: 'it returns false'. Refute it at one input. -/
def fnValidRoomWrong : ChangeSpec := { name := "fnValidRoom", fn := fun _ => fun
  | [d] => { results := [.lit (.bool false)], args := [d] }
  | _ => none }
def FnValidRoomWrongFalsely : Prop := fnValidRoomRow.holds Try.pinned (OpenSpec.ofChange fnValidRoomWrong)

/-- 'laws.FnIsFlaky': WHATEVER THE INPUT: true; the input reads as it did. -/
def fnIsFlakySpec : ChangeSpec := { name := "fnIsFlaky", fn := fun _ => fun
  | [d] => { results := [.lit (.bool true)], args := [d] }
  | _ => none }
def fnIsFlakyRow : OpenClaim := { program := "ytidicbddlpeiiaa", sum := "9102be4e1bf76f4ef8597c9d6a766aff2784a3d69f260a99072674099aa76eea", func := "loop.example/buildscheduler/laws.FnIsFlaky", spec := "fnIsFlaky", apart := false }
def FnIsFlakySaid : Prop := fnIsFlakyRow.holds Try.pinned (OpenSpec.ofChange fnIsFlakySpec)

/-- ITS FALSE NEIGHBOUR: 'it returns false'. Refute it at one input. -/
def fnIsFlakyWrong : ChangeSpec := { name := "fnIsFlaky", fn := fun _ => fun
  | [d] => { results := [.lit (.bool false)], args := [d] }
  | _ => none }
def FnIsFlakyWrongFalsely : Prop := fnIsFlakyRow.holds Try.pinned (OpenSpec.ofChange fnIsFlakyWrong)

/-- 'laws.FnExactTryTime': WHATEVER THE INPUT: true; the input reads as it did. -/
def fnExactTryTimeSpec : ChangeSpec := { name := "fnExactTryTime", fn := fun _ => fun
  | [d1, d2, d3] => { results := [.lit (.bool true)], args := [d1, d2, d3] }
  | _ => none }
def fnExactTryTimeRow : OpenClaim := { program := "ytidicbddlpeiiaa", sum := "9102be4e1bf76f4ef8597c9d6a766aff2784a3d69f260a99072674099aa76eea", func := "loop.example/buildscheduler/laws.FnExactTryTime", spec := "fnExactTryTime", unfollowed := true, recurses := true, apart := false }
def FnExactTryTimeSaid : Prop := fnExactTryTimeRow.holds Try.pinned (OpenSpec.ofChange fnExactTryTimeSpec)

/-- ITS FALSE NEIGHBOUR: 'it returns false'. Refute it at one input. -/
def fnExactTryTimeWrong : ChangeSpec := { name := "fnExactTryTime", fn := fun _ => fun
  | [d1, d2, d3] => { results := [.lit (.bool false)], args := [d1, d2, d3] }
  | _ => none }
def FnExactTryTimeWrongFalsely : Prop := fnExactTryTimeRow.holds Try.pinned (OpenSpec.ofChange fnExactTryTimeWrong)

/-- 'laws.FnTryTimeMore': WHATEVER THE INPUT: true; the input reads as it did. -/
def fnTryTimeMoreSpec : ChangeSpec := { name := "fnTryTimeMore", fn := fun _ => fun
  | [d] => { results := [.lit (.bool true)], args := [d] }
  | _ => none }
def fnTryTimeMoreRow : OpenClaim := { program := "ytidicbddlpeiiaa", sum := "9102be4e1bf76f4ef8597c9d6a766aff2784a3d69f260a99072674099aa76eea", func := "loop.example/buildscheduler/laws.FnTryTimeMore", spec := "fnTryTimeMore", unfollowed := true, recurses := true, apart := false }
def FnTryTimeMoreSaid : Prop := fnTryTimeMoreRow.holds Try.pinned (OpenSpec.ofChange fnTryTimeMoreSpec)

/-- ITS FALSE NEIGHBOUR: 'it returns false'. Refute it at one input. -/
def fnTryTimeMoreWrong : ChangeSpec := { name := "fnTryTimeMore", fn := fun _ => fun
  | [d] => { results := [.lit (.bool false)], args := [d] }
  | _ => none }
def FnTryTimeMoreWrongFalsely : Prop := fnTryTimeMoreRow.holds Try.pinned (OpenSpec.ofChange fnTryTimeMoreWrong)

/-- 'laws.FnTryTime': WHATEVER THE INPUT: true; the input reads as it did. -/
def fnTryTimeSpec : ChangeSpec := { name := "fnTryTime", fn := fun _ => fun
  | [d] => { results := [.lit (.bool true)], args := [d] }
  | _ => none }
def fnTryTimeRow : OpenClaim := { program := "ytidicbddlpeiiaa", sum := "9102be4e1bf76f4ef8597c9d6a766aff2784a3d69f260a99072674099aa76eea", func := "loop.example/buildscheduler/laws.FnTryTime", spec := "fnTryTime", unfollowed := true, recurses := true, apart := false }
def FnTryTimeSaid : Prop := fnTryTimeRow.holds Try.pinned (OpenSpec.ofChange fnTryTimeSpec)

/-- ITS FALSE NEIGHBOUR: 'it returns false'. Refute it at one input. -/
def fnTryTimeWrong : ChangeSpec := { name := "fnTryTime", fn := fun _ => fun
  | [d] => { results := [.lit (.bool false)], args := [d] }
  | _ => none }
def FnTryTimeWrongFalsely : Prop := fnTryTimeRow.holds Try.pinned (OpenSpec.ofChange fnTryTimeWrong)

/- THE SECOND FORM. 'bulk': how many values and letters a reading holds, each counted each time it is reached (what is shared counts as often as it is met; a slice's spare places count too). A statement '..UptoSaid' is the law's where the arguments, and the package variables that the reading takes, are together of bulk at most 1048576: NARROWER than '..Said'. Prove '..Said' where nothing that the law and all that it calls make is longer than what came in: it says more and counts as full. Else prove '..UptoSaid'. A law counts once. -/
mutual
def uptoBulk {H : Type} : DataW H → Nat
  | .lit (.string bytes) => bytes.length + 1
  | .lit _ => 1
  | .nil => 1
  | .ptr d => uptoBulk d + 1
  | .slice elems spare => uptoBulkAll elems + uptoBulkAll spare + 1
  | .agg parts => uptoBulkAll parts + 1
  | .iface _ d => uptoBulk d + 1
  | .map entries => uptoBulkEntries entries + 1
  | .held _ => 1
def uptoBulkAll {H : Type} : List (DataW H) → Nat
  | [] => 0
  | d :: r => uptoBulk d + uptoBulkAll r
def uptoBulkEntries {H : Type} : List (Lit × DataW H) → Nat
  | [] => 0
  | x :: r => uptoBulkEntry x + uptoBulkEntries r
def uptoBulkEntry {H : Type} : Lit × DataW H → Nat
  | (.string bytes, d) => bytes.length + uptoBulk d + 1
  | (_, d) => uptoBulk d + 1
 end
def uptoSmall : (H : Type) → List (DataW H) → Bool := fun _ ds => decide (uptoBulkAll ds ≤ 1048576)
def OpenSpec.upto (s : _root_.Go.ChangeSpec) : _root_.Go.OpenSpec := { _root_.Go.OpenSpec.ofChange s with cond := some uptoSmall }

/-- 'laws.FnExactConstants', WHERE WHAT IT READS IS OF BULK AT MOST 1048576: true; the input reads as it did. -/
def fnExactConstantsUptoRow : OpenClaim := { program := "ytidicbddlpeiiaa", sum := "9102be4e1bf76f4ef8597c9d6a766aff2784a3d69f260a99072674099aa76eea", func := "loop.example/buildscheduler/laws.FnExactConstants", spec := "fnExactConstants", apart := false, narrowed := true }
def FnExactConstantsUptoSaid : Prop := fnExactConstantsUptoRow.holds Try.pinned (OpenSpec.upto fnExactConstantsSpec)

/-- 'laws.FnExactDelayOf', WHERE WHAT IT READS IS OF BULK AT MOST 1048576: true; the input reads as it did. -/
def fnExactDelayOfUptoRow : OpenClaim := { program := "ytidicbddlpeiiaa", sum := "9102be4e1bf76f4ef8597c9d6a766aff2784a3d69f260a99072674099aa76eea", func := "loop.example/buildscheduler/laws.FnExactDelayOf", spec := "fnExactDelayOf", unfollowed := true, recurses := true, apart := false, narrowed := true }
def FnExactDelayOfUptoSaid : Prop := fnExactDelayOfUptoRow.holds Try.pinned (OpenSpec.upto fnExactDelayOfSpec)

/-- 'laws.FnExactValidRoom', WHERE WHAT IT READS IS OF BULK AT MOST 1048576: true; the input reads as it did. -/
def fnExactValidRoomUptoRow : OpenClaim := { program := "ytidicbddlpeiiaa", sum := "9102be4e1bf76f4ef8597c9d6a766aff2784a3d69f260a99072674099aa76eea", func := "loop.example/buildscheduler/laws.FnExactValidRoom", spec := "fnExactValidRoom", apart := false, narrowed := true }
def FnExactValidRoomUptoSaid : Prop := fnExactValidRoomUptoRow.holds Try.pinned (OpenSpec.upto fnExactValidRoomSpec)

/-- 'laws.FnExactTryTask', WHERE WHAT IT READS IS OF BULK AT MOST 1048576: true; the input reads as it did. -/
def fnExactTryTaskUptoRow : OpenClaim := { program := "ytidicbddlpeiiaa", sum := "9102be4e1bf76f4ef8597c9d6a766aff2784a3d69f260a99072674099aa76eea", func := "loop.example/buildscheduler/laws.FnExactTryTask", spec := "fnExactTryTask", apart := false, narrowed := true }
def FnExactTryTaskUptoSaid : Prop := fnExactTryTaskUptoRow.holds Try.pinned (OpenSpec.upto fnExactTryTaskSpec)

/-- 'laws.FnDelayOf', WHERE WHAT IT READS IS OF BULK AT MOST 1048576: true; the input reads as it did. -/
def fnDelayOfUptoRow : OpenClaim := { program := "ytidicbddlpeiiaa", sum := "9102be4e1bf76f4ef8597c9d6a766aff2784a3d69f260a99072674099aa76eea", func := "loop.example/buildscheduler/laws.FnDelayOf", spec := "fnDelayOf", unfollowed := true, recurses := true, apart := false, narrowed := true }
def FnDelayOfUptoSaid : Prop := fnDelayOfUptoRow.holds Try.pinned (OpenSpec.upto fnDelayOfSpec)

/-- 'laws.FnDelayOfBound', WHERE WHAT IT READS IS OF BULK AT MOST 1048576: true; the input reads as it did. -/
def fnDelayOfBoundUptoRow : OpenClaim := { program := "ytidicbddlpeiiaa", sum := "9102be4e1bf76f4ef8597c9d6a766aff2784a3d69f260a99072674099aa76eea", func := "loop.example/buildscheduler/laws.FnDelayOfBound", spec := "fnDelayOfBound", unfollowed := true, recurses := true, apart := false, narrowed := true }
def FnDelayOfBoundUptoSaid : Prop := fnDelayOfBoundUptoRow.holds Try.pinned (OpenSpec.upto fnDelayOfBoundSpec)

/-- 'laws.FnExactIsFlaky', WHERE WHAT IT READS IS OF BULK AT MOST 1048576: true; the input reads as it did. -/
def fnExactIsFlakyUptoRow : OpenClaim := { program := "ytidicbddlpeiiaa", sum := "9102be4e1bf76f4ef8597c9d6a766aff2784a3d69f260a99072674099aa76eea", func := "loop.example/buildscheduler/laws.FnExactIsFlaky", spec := "fnExactIsFlaky", apart := false, narrowed := true }
def FnExactIsFlakyUptoSaid : Prop := fnExactIsFlakyUptoRow.holds Try.pinned (OpenSpec.upto fnExactIsFlakySpec)

/-- 'laws.FnTryTask', WHERE WHAT IT READS IS OF BULK AT MOST 1048576: true; the input reads as it did. -/
def fnTryTaskUptoRow : OpenClaim := { program := "ytidicbddlpeiiaa", sum := "9102be4e1bf76f4ef8597c9d6a766aff2784a3d69f260a99072674099aa76eea", func := "loop.example/buildscheduler/laws.FnTryTask", spec := "fnTryTask", apart := false, narrowed := true }
def FnTryTaskUptoSaid : Prop := fnTryTaskUptoRow.holds Try.pinned (OpenSpec.upto fnTryTaskSpec)

/-- 'laws.FnTryTaskFirst', WHERE WHAT IT READS IS OF BULK AT MOST 1048576: true; the input reads as it did. -/
def fnTryTaskFirstUptoRow : OpenClaim := { program := "ytidicbddlpeiiaa", sum := "9102be4e1bf76f4ef8597c9d6a766aff2784a3d69f260a99072674099aa76eea", func := "loop.example/buildscheduler/laws.FnTryTaskFirst", spec := "fnTryTaskFirst", apart := false, narrowed := true }
def FnTryTaskFirstUptoSaid : Prop := fnTryTaskFirstUptoRow.holds Try.pinned (OpenSpec.upto fnTryTaskFirstSpec)

/-- 'laws.FnTryTaskMore', WHERE WHAT IT READS IS OF BULK AT MOST 1048576: true; the input reads as it did. -/
def fnTryTaskMoreUptoRow : OpenClaim := { program := "ytidicbddlpeiiaa", sum := "9102be4e1bf76f4ef8597c9d6a766aff2784a3d69f260a99072674099aa76eea", func := "loop.example/buildscheduler/laws.FnTryTaskMore", spec := "fnTryTaskMore", apart := false, narrowed := true }
def FnTryTaskMoreUptoSaid : Prop := fnTryTaskMoreUptoRow.holds Try.pinned (OpenSpec.upto fnTryTaskMoreSpec)

/-- 'laws.FnValidRoom', WHERE WHAT IT READS IS OF BULK AT MOST 1048576: true; the input reads as it did. -/
def fnValidRoomUptoRow : OpenClaim := { program := "ytidicbddlpeiiaa", sum := "9102be4e1bf76f4ef8597c9d6a766aff2784a3d69f260a99072674099aa76eea", func := "loop.example/buildscheduler/laws.FnValidRoom", spec := "fnValidRoom", apart := false, narrowed := true }
def FnValidRoomUptoSaid : Prop := fnValidRoomUptoRow.holds Try.pinned (OpenSpec.upto fnValidRoomSpec)

/-- 'laws.FnIsFlaky', WHERE WHAT IT READS IS OF BULK AT MOST 1048576: true; the input reads as it did. -/
def fnIsFlakyUptoRow : OpenClaim := { program := "ytidicbddlpeiiaa", sum := "9102be4e1bf76f4ef8597c9d6a766aff2784a3d69f260a99072674099aa76eea", func := "loop.example/buildscheduler/laws.FnIsFlaky", spec := "fnIsFlaky", apart := false, narrowed := true }
def FnIsFlakyUptoSaid : Prop := fnIsFlakyUptoRow.holds Try.pinned (OpenSpec.upto fnIsFlakySpec)

/-- 'laws.FnExactTryTime', WHERE WHAT IT READS IS OF BULK AT MOST 1048576: true; the input reads as it did. -/
def fnExactTryTimeUptoRow : OpenClaim := { program := "ytidicbddlpeiiaa", sum := "9102be4e1bf76f4ef8597c9d6a766aff2784a3d69f260a99072674099aa76eea", func := "loop.example/buildscheduler/laws.FnExactTryTime", spec := "fnExactTryTime", unfollowed := true, recurses := true, apart := false, narrowed := true }
def FnExactTryTimeUptoSaid : Prop := fnExactTryTimeUptoRow.holds Try.pinned (OpenSpec.upto fnExactTryTimeSpec)

/-- 'laws.FnTryTimeMore', WHERE WHAT IT READS IS OF BULK AT MOST 1048576: true; the input reads as it did. -/
def fnTryTimeMoreUptoRow : OpenClaim := { program := "ytidicbddlpeiiaa", sum := "9102be4e1bf76f4ef8597c9d6a766aff2784a3d69f260a99072674099aa76eea", func := "loop.example/buildscheduler/laws.FnTryTimeMore", spec := "fnTryTimeMore", unfollowed := true, recurses := true, apart := false, narrowed := true }
def FnTryTimeMoreUptoSaid : Prop := fnTryTimeMoreUptoRow.holds Try.pinned (OpenSpec.upto fnTryTimeMoreSpec)

/-- 'laws.FnTryTime', WHERE WHAT IT READS IS OF BULK AT MOST 1048576: true; the input reads as it did. -/
def fnTryTimeUptoRow : OpenClaim := { program := "ytidicbddlpeiiaa", sum := "9102be4e1bf76f4ef8597c9d6a766aff2784a3d69f260a99072674099aa76eea", func := "loop.example/buildscheduler/laws.FnTryTime", spec := "fnTryTime", unfollowed := true, recurses := true, apart := false, narrowed := true }
def FnTryTimeUptoSaid : Prop := fnTryTimeUptoRow.holds Try.pinned (OpenSpec.upto fnTryTimeSpec)

end Rows
end Go.Proofs.Ytidicbddlpeiiaa
