/-
  DERIVED. GIVEN WITH THE SEED: THE CARDS: each row of YtokikapljmakbaaDoorRows.lean that lists a variable, with what it lists TIED to the program's text (the seventh form; the later family's looks); each row that meets fmt, with fmt's text TOLD by the authors' own Lean function (tested against real Go, not proved from fmt's source: count such statements apart). THE CARD IS WHAT COUNTS. Prove the row's statement (the work); the ties are given (YtokikapljmakbaaDoorTie.lean); close each card by the builder's one call (the guide's Derived/Test/ToyasCard.lean, 'card_holds'). Laid BY PROGRAM, IN A SANDBOX (cutbox-door.mjs). By AI agents, Wed Nov 11 2026. No macro, syntax, notation, axiom, sorry.
-/
import Derived.Test.YtokikapljmakbaaDoorRows
import GoSem.ClaimSeven
namespace Go.Proofs.YtokikapljmakbaaDoor
namespace Rows

/-- THE TIED CARD OF 'laws.FnLeastTimeFree'. -/
def fnLeastTimeFreeCard : Claim7 := { stood := { row := fnLeastTimeFreeRow, standIns := [], harness := (true, "6c121d23d2e10fd7408e71b0b8ae216a768ffe36cb98ded6eae94717b8a9d68a"), looks := false }, kinds := [], alts := [], laidByText := true, laidKinds := [.data], laidTests := true, laidLooks := .later }
def FnLeastTimeFreeCardSaid : Prop := Claim7.holds Tryd.pinned (.plain (OpenSpec.ofChange fnLeastTimeFreeSpec)) fnLeastTimeFreeCard

/-- THE TIED CARD OF 'laws.FnLeastTime'. -/
def fnLeastTimeCard : Claim7 := { stood := { row := fnLeastTimeRow, standIns := [], harness := (true, "6c121d23d2e10fd7408e71b0b8ae216a768ffe36cb98ded6eae94717b8a9d68a"), looks := false }, kinds := [], alts := [], laidByText := true, laidKinds := [.data], laidTests := true, laidLooks := .later }
def FnLeastTimeCardSaid : Prop := Claim7.holds Tryd.pinned (.plain (OpenSpec.ofChange fnLeastTimeSpec)) fnLeastTimeCard

/-- THE TIED CARD OF 'laws.FnExactLeastTime'. -/
def fnExactLeastTimeCard : Claim7 := { stood := { row := fnExactLeastTimeRow, standIns := [], harness := (true, "6c121d23d2e10fd7408e71b0b8ae216a768ffe36cb98ded6eae94717b8a9d68a"), looks := false }, kinds := [], alts := [], laidByText := true, laidKinds := [.data], laidTests := true, laidLooks := .later }
def FnExactLeastTimeCardSaid : Prop := Claim7.holds Tryd.pinned (.plain (OpenSpec.ofChange fnExactLeastTimeSpec)) fnExactLeastTimeCard

/-- THE TIED CARD OF 'laws.FnExactPoolTime'. -/
def fnExactPoolTimeCard : Claim7 := { stood := { row := fnExactPoolTimeRow, standIns := [], harness := (true, "6c121d23d2e10fd7408e71b0b8ae216a768ffe36cb98ded6eae94717b8a9d68a"), looks := false }, kinds := [], alts := [], laidByText := true, laidKinds := [.data], laidTests := true, laidLooks := .later }
def FnExactPoolTimeCardSaid : Prop := Claim7.holds Tryd.pinned (.plain (OpenSpec.ofChange fnExactPoolTimeSpec)) fnExactPoolTimeCard

/-- THE TIED CARD OF 'laws.FnPoolTime'. -/
def fnPoolTimeCard : Claim7 := { stood := { row := fnPoolTimeRow, standIns := [], harness := (true, "6c121d23d2e10fd7408e71b0b8ae216a768ffe36cb98ded6eae94717b8a9d68a"), looks := false }, kinds := [], alts := [], laidByText := true, laidKinds := [.data], laidTests := true, laidLooks := .later }
def FnPoolTimeCardSaid : Prop := Claim7.holds Tryd.pinned (.plain (OpenSpec.ofChange fnPoolTimeSpec)) fnPoolTimeCard

/-- THE TIED CARD OF 'laws.FnPoolTimeSum'. -/
def fnPoolTimeSumCard : Claim7 := { stood := { row := fnPoolTimeSumRow, standIns := [], harness := (true, "6c121d23d2e10fd7408e71b0b8ae216a768ffe36cb98ded6eae94717b8a9d68a"), looks := false }, kinds := [], alts := [], laidByText := true, laidKinds := [.data], laidTests := true, laidLooks := .later }
def FnPoolTimeSumCardSaid : Prop := Claim7.holds Tryd.pinned (.plain (OpenSpec.ofChange fnPoolTimeSumSpec)) fnPoolTimeSumCard

/-- THE TIED CARD OF 'laws.FnLongestTime'. -/
def fnLongestTimeCard : Claim7 := { stood := { row := fnLongestTimeRow, standIns := [], harness := (true, "6c121d23d2e10fd7408e71b0b8ae216a768ffe36cb98ded6eae94717b8a9d68a"), looks := false }, kinds := [], alts := [], laidByText := true, laidKinds := [.data], laidTests := true, laidLooks := .later }
def FnLongestTimeCardSaid : Prop := Claim7.holds Tryd.pinned (.plain (OpenSpec.ofChange fnLongestTimeSpec)) fnLongestTimeCard

/-- THE TIED CARD OF 'laws.FnExactLongestTime'. -/
def fnExactLongestTimeCard : Claim7 := { stood := { row := fnExactLongestTimeRow, standIns := [], harness := (true, "6c121d23d2e10fd7408e71b0b8ae216a768ffe36cb98ded6eae94717b8a9d68a"), looks := false }, kinds := [], alts := [], laidByText := true, laidKinds := [.data], laidTests := true, laidLooks := .later }
def FnExactLongestTimeCardSaid : Prop := Claim7.holds Tryd.pinned (.plain (OpenSpec.ofChange fnExactLongestTimeSpec)) fnExactLongestTimeCard

/-- THE TIED CARD OF 'laws.FnLongestTimeMore'. -/
def fnLongestTimeMoreCard : Claim7 := { stood := { row := fnLongestTimeMoreRow, standIns := [], harness := (true, "6c121d23d2e10fd7408e71b0b8ae216a768ffe36cb98ded6eae94717b8a9d68a"), looks := false }, kinds := [], alts := [], laidByText := true, laidKinds := [.data], laidTests := true, laidLooks := .later }
def FnLongestTimeMoreCardSaid : Prop := Claim7.holds Tryd.pinned (.plain (OpenSpec.ofChange fnLongestTimeMoreSpec)) fnLongestTimeMoreCard

/-- THE TIED CARD OF 'laws.FnExactTailTimes'. -/
def fnExactTailTimesCard : Claim7 := { stood := { row := fnExactTailTimesRow, standIns := [], harness := (true, "6c121d23d2e10fd7408e71b0b8ae216a768ffe36cb98ded6eae94717b8a9d68a"), looks := false }, kinds := [], alts := [], laidByText := true, laidKinds := [.data], laidTests := true, laidLooks := .later }
def FnExactTailTimesCardSaid : Prop := Claim7.holds Tryd.pinned (.plain (OpenSpec.ofChange fnExactTailTimesSpec)) fnExactTailTimesCard

/-- THE TIED CARD OF 'laws.FnTailTimes'. -/
def fnTailTimesCard : Claim7 := { stood := { row := fnTailTimesRow, standIns := [], harness := (true, "6c121d23d2e10fd7408e71b0b8ae216a768ffe36cb98ded6eae94717b8a9d68a"), looks := false }, kinds := [], alts := [], laidByText := true, laidKinds := [.data], laidTests := true, laidLooks := .later }
def FnTailTimesCardSaid : Prop := Claim7.holds Tryd.pinned (.plain (OpenSpec.ofChange fnTailTimesSpec)) fnTailTimesCard

/-- THE SECOND FORM's CARD OF 'laws.FnLeastTimeFree'. -/
def fnLeastTimeFreeUptoCard : Claim7 := { stood := { row := fnLeastTimeFreeUptoRow, standIns := [], harness := (true, "6c121d23d2e10fd7408e71b0b8ae216a768ffe36cb98ded6eae94717b8a9d68a"), looks := false }, kinds := [], alts := [], laidByText := true, laidKinds := [.data], laidTests := true, laidLooks := .later }
def FnLeastTimeFreeUptoCardSaid : Prop := Claim7.holds Tryd.pinned (.plain (OpenSpec.upto fnLeastTimeFreeSpec)) fnLeastTimeFreeUptoCard

/-- THE SECOND FORM's CARD OF 'laws.FnLeastTime'. -/
def fnLeastTimeUptoCard : Claim7 := { stood := { row := fnLeastTimeUptoRow, standIns := [], harness := (true, "6c121d23d2e10fd7408e71b0b8ae216a768ffe36cb98ded6eae94717b8a9d68a"), looks := false }, kinds := [], alts := [], laidByText := true, laidKinds := [.data], laidTests := true, laidLooks := .later }
def FnLeastTimeUptoCardSaid : Prop := Claim7.holds Tryd.pinned (.plain (OpenSpec.upto fnLeastTimeSpec)) fnLeastTimeUptoCard

/-- THE SECOND FORM's CARD OF 'laws.FnExactLeastTime'. -/
def fnExactLeastTimeUptoCard : Claim7 := { stood := { row := fnExactLeastTimeUptoRow, standIns := [], harness := (true, "6c121d23d2e10fd7408e71b0b8ae216a768ffe36cb98ded6eae94717b8a9d68a"), looks := false }, kinds := [], alts := [], laidByText := true, laidKinds := [.data], laidTests := true, laidLooks := .later }
def FnExactLeastTimeUptoCardSaid : Prop := Claim7.holds Tryd.pinned (.plain (OpenSpec.upto fnExactLeastTimeSpec)) fnExactLeastTimeUptoCard

/-- THE SECOND FORM's CARD OF 'laws.FnExactPoolTime'. -/
def fnExactPoolTimeUptoCard : Claim7 := { stood := { row := fnExactPoolTimeUptoRow, standIns := [], harness := (true, "6c121d23d2e10fd7408e71b0b8ae216a768ffe36cb98ded6eae94717b8a9d68a"), looks := false }, kinds := [], alts := [], laidByText := true, laidKinds := [.data], laidTests := true, laidLooks := .later }
def FnExactPoolTimeUptoCardSaid : Prop := Claim7.holds Tryd.pinned (.plain (OpenSpec.upto fnExactPoolTimeSpec)) fnExactPoolTimeUptoCard

/-- THE SECOND FORM's CARD OF 'laws.FnPoolTime'. -/
def fnPoolTimeUptoCard : Claim7 := { stood := { row := fnPoolTimeUptoRow, standIns := [], harness := (true, "6c121d23d2e10fd7408e71b0b8ae216a768ffe36cb98ded6eae94717b8a9d68a"), looks := false }, kinds := [], alts := [], laidByText := true, laidKinds := [.data], laidTests := true, laidLooks := .later }
def FnPoolTimeUptoCardSaid : Prop := Claim7.holds Tryd.pinned (.plain (OpenSpec.upto fnPoolTimeSpec)) fnPoolTimeUptoCard

/-- THE SECOND FORM's CARD OF 'laws.FnPoolTimeSum'. -/
def fnPoolTimeSumUptoCard : Claim7 := { stood := { row := fnPoolTimeSumUptoRow, standIns := [], harness := (true, "6c121d23d2e10fd7408e71b0b8ae216a768ffe36cb98ded6eae94717b8a9d68a"), looks := false }, kinds := [], alts := [], laidByText := true, laidKinds := [.data], laidTests := true, laidLooks := .later }
def FnPoolTimeSumUptoCardSaid : Prop := Claim7.holds Tryd.pinned (.plain (OpenSpec.upto fnPoolTimeSumSpec)) fnPoolTimeSumUptoCard

/-- THE SECOND FORM's CARD OF 'laws.FnLongestTime'. -/
def fnLongestTimeUptoCard : Claim7 := { stood := { row := fnLongestTimeUptoRow, standIns := [], harness := (true, "6c121d23d2e10fd7408e71b0b8ae216a768ffe36cb98ded6eae94717b8a9d68a"), looks := false }, kinds := [], alts := [], laidByText := true, laidKinds := [.data], laidTests := true, laidLooks := .later }
def FnLongestTimeUptoCardSaid : Prop := Claim7.holds Tryd.pinned (.plain (OpenSpec.upto fnLongestTimeSpec)) fnLongestTimeUptoCard

/-- THE SECOND FORM's CARD OF 'laws.FnExactLongestTime'. -/
def fnExactLongestTimeUptoCard : Claim7 := { stood := { row := fnExactLongestTimeUptoRow, standIns := [], harness := (true, "6c121d23d2e10fd7408e71b0b8ae216a768ffe36cb98ded6eae94717b8a9d68a"), looks := false }, kinds := [], alts := [], laidByText := true, laidKinds := [.data], laidTests := true, laidLooks := .later }
def FnExactLongestTimeUptoCardSaid : Prop := Claim7.holds Tryd.pinned (.plain (OpenSpec.upto fnExactLongestTimeSpec)) fnExactLongestTimeUptoCard

/-- THE SECOND FORM's CARD OF 'laws.FnLongestTimeMore'. -/
def fnLongestTimeMoreUptoCard : Claim7 := { stood := { row := fnLongestTimeMoreUptoRow, standIns := [], harness := (true, "6c121d23d2e10fd7408e71b0b8ae216a768ffe36cb98ded6eae94717b8a9d68a"), looks := false }, kinds := [], alts := [], laidByText := true, laidKinds := [.data], laidTests := true, laidLooks := .later }
def FnLongestTimeMoreUptoCardSaid : Prop := Claim7.holds Tryd.pinned (.plain (OpenSpec.upto fnLongestTimeMoreSpec)) fnLongestTimeMoreUptoCard

/-- THE SECOND FORM's CARD OF 'laws.FnExactTailTimes'. -/
def fnExactTailTimesUptoCard : Claim7 := { stood := { row := fnExactTailTimesUptoRow, standIns := [], harness := (true, "6c121d23d2e10fd7408e71b0b8ae216a768ffe36cb98ded6eae94717b8a9d68a"), looks := false }, kinds := [], alts := [], laidByText := true, laidKinds := [.data], laidTests := true, laidLooks := .later }
def FnExactTailTimesUptoCardSaid : Prop := Claim7.holds Tryd.pinned (.plain (OpenSpec.upto fnExactTailTimesSpec)) fnExactTailTimesUptoCard

/-- THE SECOND FORM's CARD OF 'laws.FnTailTimes'. -/
def fnTailTimesUptoCard : Claim7 := { stood := { row := fnTailTimesUptoRow, standIns := [], harness := (true, "6c121d23d2e10fd7408e71b0b8ae216a768ffe36cb98ded6eae94717b8a9d68a"), looks := false }, kinds := [], alts := [], laidByText := true, laidKinds := [.data], laidTests := true, laidLooks := .later }
def FnTailTimesUptoCardSaid : Prop := Claim7.holds Tryd.pinned (.plain (OpenSpec.upto fnTailTimesSpec)) fnTailTimesUptoCard
end Rows
end Go.Proofs.YtokikapljmakbaaDoor
