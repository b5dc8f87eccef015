/-
  DERIVED. GIVEN WITH THE SEED: THE CARDS: each row of YtamomflollhofaaDoorRows.lean that lists a variable, with what it lists TIED to the program's text (the seventh form; the later family's looks); each row that meets fmt, with fmt's text TOLD by the authors' own Lean function (tested against real Go, not proved from fmt's source: count such statements apart). THE CARD IS WHAT COUNTS. Prove the row's statement (the work); the ties are given (YtamomflollhofaaDoorTie.lean); close each card by the builder's one call (the guide's Derived/Test/ToyasCard.lean, 'card_holds'). Laid BY PROGRAM, IN A SANDBOX (cutbox-door.mjs). By AI agents, Wed Nov 11 2026. No macro, syntax, notation, axiom, sorry.
-/
import Derived.Test.YtamomflollhofaaDoorRows
import GoSem.ClaimSeven
namespace Go.Proofs.YtamomflollhofaaDoor
namespace Rows

/-- THE TIED CARD OF 'laws.FnValidGraphLess'. -/
def fnValidGraphLessCard : Claim7 := { stood := { row := fnValidGraphLessRow, standIns := [], harness := (true, "b1743ecfc8fec2ac396b80b804d99202a78ad74efecb4203f9971a4aea88d644"), looks := false }, kinds := [], alts := [], laidByText := true, laidKinds := [.data], laidTests := true, laidLooks := .later }
def FnValidGraphLessCardSaid : Prop := Claim7.holds Tryd.pinned (.plain (OpenSpec.ofChange fnValidGraphLessSpec)) fnValidGraphLessCard

/-- THE TIED CARD OF 'laws.FnStuckTasksSelf'. -/
def fnStuckTasksSelfCard : Claim7 := { stood := { row := fnStuckTasksSelfRow, standIns := [], harness := (true, "b1743ecfc8fec2ac396b80b804d99202a78ad74efecb4203f9971a4aea88d644"), looks := false }, kinds := [], alts := [], laidByText := true, laidKinds := [.data], laidTests := true, laidLooks := .later }
def FnStuckTasksSelfCardSaid : Prop := Claim7.holds Tryd.pinned (.plain (OpenSpec.ofChange fnStuckTasksSelfSpec)) fnStuckTasksSelfCard

/-- THE TIED CARD OF 'laws.FnExactAllNeeds'. -/
def fnExactAllNeedsCard : Claim7 := { stood := { row := fnExactAllNeedsRow, standIns := [], harness := (true, "b1743ecfc8fec2ac396b80b804d99202a78ad74efecb4203f9971a4aea88d644"), looks := false }, kinds := [], alts := [], laidByText := true, laidKinds := [.data], laidTests := true, laidLooks := .later }
def FnExactAllNeedsCardSaid : Prop := Claim7.holds Tryd.pinned (.plain (OpenSpec.ofChange fnExactAllNeedsSpec)) fnExactAllNeedsCard

/-- THE TIED CARD OF 'laws.FnExactAllUsers'. -/
def fnExactAllUsersCard : Claim7 := { stood := { row := fnExactAllUsersRow, standIns := [], harness := (true, "b1743ecfc8fec2ac396b80b804d99202a78ad74efecb4203f9971a4aea88d644"), looks := false }, kinds := [], alts := [], laidByText := true, laidKinds := [.data], laidTests := true, laidLooks := .later }
def FnExactAllUsersCardSaid : Prop := Claim7.holds Tryd.pinned (.plain (OpenSpec.ofChange fnExactAllUsersSpec)) fnExactAllUsersCard

/-- THE TIED CARD OF 'laws.FnAllNeedsLess'. -/
def fnAllNeedsLessCard : Claim7 := { stood := { row := fnAllNeedsLessRow, standIns := [], harness := (true, "b1743ecfc8fec2ac396b80b804d99202a78ad74efecb4203f9971a4aea88d644"), looks := false }, kinds := [], alts := [], laidByText := true, laidKinds := [.data], laidTests := true, laidLooks := .later }
def FnAllNeedsLessCardSaid : Prop := Claim7.holds Tryd.pinned (.plain (OpenSpec.ofChange fnAllNeedsLessSpec)) fnAllNeedsLessCard

/-- THE TIED CARD OF 'laws.FnAllNeeds'. -/
def fnAllNeedsCard : Claim7 := { stood := { row := fnAllNeedsRow, standIns := [], harness := (true, "b1743ecfc8fec2ac396b80b804d99202a78ad74efecb4203f9971a4aea88d644"), looks := false }, kinds := [], alts := [], laidByText := true, laidKinds := [.data], laidTests := true, laidLooks := .later }
def FnAllNeedsCardSaid : Prop := Claim7.holds Tryd.pinned (.plain (OpenSpec.ofChange fnAllNeedsSpec)) fnAllNeedsCard

/-- THE TIED CARD OF 'laws.FnAllUsersCount'. -/
def fnAllUsersCountCard : Claim7 := { stood := { row := fnAllUsersCountRow, standIns := [], harness := (true, "b1743ecfc8fec2ac396b80b804d99202a78ad74efecb4203f9971a4aea88d644"), looks := false }, kinds := [], alts := [], laidByText := true, laidKinds := [.data], laidTests := true, laidLooks := .later }
def FnAllUsersCountCardSaid : Prop := Claim7.holds Tryd.pinned (.plain (OpenSpec.ofChange fnAllUsersCountSpec)) fnAllUsersCountCard

/-- THE TIED CARD OF 'laws.FnAllUsers'. -/
def fnAllUsersCard : Claim7 := { stood := { row := fnAllUsersRow, standIns := [], harness := (true, "b1743ecfc8fec2ac396b80b804d99202a78ad74efecb4203f9971a4aea88d644"), looks := false }, kinds := [], alts := [], laidByText := true, laidKinds := [.data], laidTests := true, laidLooks := .later }
def FnAllUsersCardSaid : Prop := Claim7.holds Tryd.pinned (.plain (OpenSpec.ofChange fnAllUsersSpec)) fnAllUsersCard

/-- THE TIED CARD OF 'laws.FnAllUsersOrder'. -/
def fnAllUsersOrderCard : Claim7 := { stood := { row := fnAllUsersOrderRow, standIns := [], harness := (true, "b1743ecfc8fec2ac396b80b804d99202a78ad74efecb4203f9971a4aea88d644"), looks := false }, kinds := [], alts := [], laidByText := true, laidKinds := [.data], laidTests := true, laidLooks := .later }
def FnAllUsersOrderCardSaid : Prop := Claim7.holds Tryd.pinned (.plain (OpenSpec.ofChange fnAllUsersOrderSpec)) fnAllUsersOrderCard

/-- THE TIED CARD OF 'laws.FnAllNeedsTime'. -/
def fnAllNeedsTimeCard : Claim7 := { stood := { row := fnAllNeedsTimeRow, standIns := [], harness := (true, "b1743ecfc8fec2ac396b80b804d99202a78ad74efecb4203f9971a4aea88d644"), looks := false }, kinds := [], alts := [], laidByText := true, laidKinds := [.data], laidTests := true, laidLooks := .later }
def FnAllNeedsTimeCardSaid : Prop := Claim7.holds Tryd.pinned (.plain (OpenSpec.ofChange fnAllNeedsTimeSpec)) fnAllNeedsTimeCard

/-- THE TIED CARD OF 'laws.FnExactOutcomes'. -/
def fnExactOutcomesCard : Claim7 := { stood := { row := fnExactOutcomesRow, standIns := [], harness := (true, "b1743ecfc8fec2ac396b80b804d99202a78ad74efecb4203f9971a4aea88d644"), looks := false }, kinds := [], alts := [], laidByText := true, laidKinds := [.data], laidTests := true, laidLooks := .later }
def FnExactOutcomesCardSaid : Prop := Claim7.holds Tryd.pinned (.plain (OpenSpec.ofChange fnExactOutcomesSpec)) fnExactOutcomesCard

/-- THE TIED CARD OF 'laws.FnExactCountOutcome'. -/
def fnExactCountOutcomeCard : Claim7 := { stood := { row := fnExactCountOutcomeRow, standIns := [], harness := (true, "b1743ecfc8fec2ac396b80b804d99202a78ad74efecb4203f9971a4aea88d644"), looks := false }, kinds := [], alts := [], laidByText := true, laidKinds := [.data], laidTests := true, laidLooks := .later }
def FnExactCountOutcomeCardSaid : Prop := Claim7.holds Tryd.pinned (.plain (OpenSpec.ofChange fnExactCountOutcomeSpec)) fnExactCountOutcomeCard

/-- THE SECOND FORM's CARD OF 'laws.FnValidGraphLess'. -/
def fnValidGraphLessUptoCard : Claim7 := { stood := { row := fnValidGraphLessUptoRow, standIns := [], harness := (true, "b1743ecfc8fec2ac396b80b804d99202a78ad74efecb4203f9971a4aea88d644"), looks := false }, kinds := [], alts := [], laidByText := true, laidKinds := [.data], laidTests := true, laidLooks := .later }
def FnValidGraphLessUptoCardSaid : Prop := Claim7.holds Tryd.pinned (.plain (OpenSpec.upto fnValidGraphLessSpec)) fnValidGraphLessUptoCard

/-- THE SECOND FORM's CARD OF 'laws.FnStuckTasksSelf'. -/
def fnStuckTasksSelfUptoCard : Claim7 := { stood := { row := fnStuckTasksSelfUptoRow, standIns := [], harness := (true, "b1743ecfc8fec2ac396b80b804d99202a78ad74efecb4203f9971a4aea88d644"), looks := false }, kinds := [], alts := [], laidByText := true, laidKinds := [.data], laidTests := true, laidLooks := .later }
def FnStuckTasksSelfUptoCardSaid : Prop := Claim7.holds Tryd.pinned (.plain (OpenSpec.upto fnStuckTasksSelfSpec)) fnStuckTasksSelfUptoCard

/-- THE SECOND FORM's CARD OF 'laws.FnExactAllNeeds'. -/
def fnExactAllNeedsUptoCard : Claim7 := { stood := { row := fnExactAllNeedsUptoRow, standIns := [], harness := (true, "b1743ecfc8fec2ac396b80b804d99202a78ad74efecb4203f9971a4aea88d644"), looks := false }, kinds := [], alts := [], laidByText := true, laidKinds := [.data], laidTests := true, laidLooks := .later }
def FnExactAllNeedsUptoCardSaid : Prop := Claim7.holds Tryd.pinned (.plain (OpenSpec.upto fnExactAllNeedsSpec)) fnExactAllNeedsUptoCard

/-- THE SECOND FORM's CARD OF 'laws.FnExactAllUsers'. -/
def fnExactAllUsersUptoCard : Claim7 := { stood := { row := fnExactAllUsersUptoRow, standIns := [], harness := (true, "b1743ecfc8fec2ac396b80b804d99202a78ad74efecb4203f9971a4aea88d644"), looks := false }, kinds := [], alts := [], laidByText := true, laidKinds := [.data], laidTests := true, laidLooks := .later }
def FnExactAllUsersUptoCardSaid : Prop := Claim7.holds Tryd.pinned (.plain (OpenSpec.upto fnExactAllUsersSpec)) fnExactAllUsersUptoCard

/-- THE SECOND FORM's CARD OF 'laws.FnAllNeedsLess'. -/
def fnAllNeedsLessUptoCard : Claim7 := { stood := { row := fnAllNeedsLessUptoRow, standIns := [], harness := (true, "b1743ecfc8fec2ac396b80b804d99202a78ad74efecb4203f9971a4aea88d644"), looks := false }, kinds := [], alts := [], laidByText := true, laidKinds := [.data], laidTests := true, laidLooks := .later }
def FnAllNeedsLessUptoCardSaid : Prop := Claim7.holds Tryd.pinned (.plain (OpenSpec.upto fnAllNeedsLessSpec)) fnAllNeedsLessUptoCard

/-- THE SECOND FORM's CARD OF 'laws.FnAllNeeds'. -/
def fnAllNeedsUptoCard : Claim7 := { stood := { row := fnAllNeedsUptoRow, standIns := [], harness := (true, "b1743ecfc8fec2ac396b80b804d99202a78ad74efecb4203f9971a4aea88d644"), looks := false }, kinds := [], alts := [], laidByText := true, laidKinds := [.data], laidTests := true, laidLooks := .later }
def FnAllNeedsUptoCardSaid : Prop := Claim7.holds Tryd.pinned (.plain (OpenSpec.upto fnAllNeedsSpec)) fnAllNeedsUptoCard

/-- THE SECOND FORM's CARD OF 'laws.FnAllUsersCount'. -/
def fnAllUsersCountUptoCard : Claim7 := { stood := { row := fnAllUsersCountUptoRow, standIns := [], harness := (true, "b1743ecfc8fec2ac396b80b804d99202a78ad74efecb4203f9971a4aea88d644"), looks := false }, kinds := [], alts := [], laidByText := true, laidKinds := [.data], laidTests := true, laidLooks := .later }
def FnAllUsersCountUptoCardSaid : Prop := Claim7.holds Tryd.pinned (.plain (OpenSpec.upto fnAllUsersCountSpec)) fnAllUsersCountUptoCard

/-- THE SECOND FORM's CARD OF 'laws.FnAllUsers'. -/
def fnAllUsersUptoCard : Claim7 := { stood := { row := fnAllUsersUptoRow, standIns := [], harness := (true, "b1743ecfc8fec2ac396b80b804d99202a78ad74efecb4203f9971a4aea88d644"), looks := false }, kinds := [], alts := [], laidByText := true, laidKinds := [.data], laidTests := true, laidLooks := .later }
def FnAllUsersUptoCardSaid : Prop := Claim7.holds Tryd.pinned (.plain (OpenSpec.upto fnAllUsersSpec)) fnAllUsersUptoCard

/-- THE SECOND FORM's CARD OF 'laws.FnAllUsersOrder'. -/
def fnAllUsersOrderUptoCard : Claim7 := { stood := { row := fnAllUsersOrderUptoRow, standIns := [], harness := (true, "b1743ecfc8fec2ac396b80b804d99202a78ad74efecb4203f9971a4aea88d644"), looks := false }, kinds := [], alts := [], laidByText := true, laidKinds := [.data], laidTests := true, laidLooks := .later }
def FnAllUsersOrderUptoCardSaid : Prop := Claim7.holds Tryd.pinned (.plain (OpenSpec.upto fnAllUsersOrderSpec)) fnAllUsersOrderUptoCard

/-- THE SECOND FORM's CARD OF 'laws.FnAllNeedsTime'. -/
def fnAllNeedsTimeUptoCard : Claim7 := { stood := { row := fnAllNeedsTimeUptoRow, standIns := [], harness := (true, "b1743ecfc8fec2ac396b80b804d99202a78ad74efecb4203f9971a4aea88d644"), looks := false }, kinds := [], alts := [], laidByText := true, laidKinds := [.data], laidTests := true, laidLooks := .later }
def FnAllNeedsTimeUptoCardSaid : Prop := Claim7.holds Tryd.pinned (.plain (OpenSpec.upto fnAllNeedsTimeSpec)) fnAllNeedsTimeUptoCard

/-- THE SECOND FORM's CARD OF 'laws.FnExactOutcomes'. -/
def fnExactOutcomesUptoCard : Claim7 := { stood := { row := fnExactOutcomesUptoRow, standIns := [], harness := (true, "b1743ecfc8fec2ac396b80b804d99202a78ad74efecb4203f9971a4aea88d644"), looks := false }, kinds := [], alts := [], laidByText := true, laidKinds := [.data], laidTests := true, laidLooks := .later }
def FnExactOutcomesUptoCardSaid : Prop := Claim7.holds Tryd.pinned (.plain (OpenSpec.upto fnExactOutcomesSpec)) fnExactOutcomesUptoCard

/-- THE SECOND FORM's CARD OF 'laws.FnExactCountOutcome'. -/
def fnExactCountOutcomeUptoCard : Claim7 := { stood := { row := fnExactCountOutcomeUptoRow, standIns := [], harness := (true, "b1743ecfc8fec2ac396b80b804d99202a78ad74efecb4203f9971a4aea88d644"), looks := false }, kinds := [], alts := [], laidByText := true, laidKinds := [.data], laidTests := true, laidLooks := .later }
def FnExactCountOutcomeUptoCardSaid : Prop := Claim7.holds Tryd.pinned (.plain (OpenSpec.upto fnExactCountOutcomeSpec)) fnExactCountOutcomeUptoCard
end Rows
end Go.Proofs.YtamomflollhofaaDoor
