/-
  DERIVED. GIVEN WITH THE SEED: THE CARDS: each row of YtegogaokcafpjaaDoorRows.lean that lists a variable, with what it lists TIED to the program's text (the seventh form; the later family's looks); each row that meets fmt, with fmt's text TOLD by the authors' own Lean function (tested against real Go, not proved from fmt's source: count such statements apart). THE CARD IS WHAT COUNTS. Prove the row's statement (the work); the ties are given (YtegogaokcafpjaaDoorTie.lean); close each card by the builder's one call (the guide's Derived/Test/ToyasCard.lean, 'card_holds'). Laid BY PROGRAM, IN A SANDBOX (cutbox-door.mjs). By AI agents, Wed Nov 11 2026. No macro, syntax, notation, axiom, sorry.
-/
import Derived.Test.YtegogaokcafpjaaDoorRows
import GoSem.ClaimSeven
namespace Go.Proofs.YtegogaokcafpjaaDoor
namespace Rows

/-- THE TIED CARD OF 'laws.FnExactValidGraph'. -/
def fnExactValidGraphCard : Claim7 := { stood := { row := fnExactValidGraphRow, standIns := [], harness := (true, "5cf707b32deead6bae0156daaf66267ce2524c8a85d59b986e04006456a04908"), looks := false }, kinds := [], alts := [], laidByText := true, laidKinds := [.data], laidTests := true, laidLooks := .later }
def FnExactValidGraphCardSaid : Prop := Claim7.holds Tryd.pinned (.plain (OpenSpec.ofChange fnExactValidGraphSpec)) fnExactValidGraphCard

/-- THE TIED CARD OF 'laws.FnValidGraph'. -/
def fnValidGraphCard : Claim7 := { stood := { row := fnValidGraphRow, standIns := [], harness := (true, "5cf707b32deead6bae0156daaf66267ce2524c8a85d59b986e04006456a04908"), looks := false }, kinds := [], alts := [], laidByText := true, laidKinds := [.data], laidTests := true, laidLooks := .later }
def FnValidGraphCardSaid : Prop := Claim7.holds Tryd.pinned (.plain (OpenSpec.ofChange fnValidGraphSpec)) fnValidGraphCard

/-- THE TIED CARD OF 'laws.FnTopOrderBegin'. -/
def fnTopOrderBeginCard : Claim7 := { stood := { row := fnTopOrderBeginRow, standIns := [], harness := (true, "5cf707b32deead6bae0156daaf66267ce2524c8a85d59b986e04006456a04908"), looks := false }, kinds := [], alts := [], laidByText := true, laidKinds := [.data], laidTests := true, laidLooks := .later }
def FnTopOrderBeginCardSaid : Prop := Claim7.holds Tryd.pinned (.plain (OpenSpec.ofChange fnTopOrderBeginSpec)) fnTopOrderBeginCard

/-- THE TIED CARD OF 'laws.FnTopOrderFree'. -/
def fnTopOrderFreeCard : Claim7 := { stood := { row := fnTopOrderFreeRow, standIns := [], harness := (true, "5cf707b32deead6bae0156daaf66267ce2524c8a85d59b986e04006456a04908"), looks := false }, kinds := [], alts := [], laidByText := true, laidKinds := [.data], laidTests := true, laidLooks := .later }
def FnTopOrderFreeCardSaid : Prop := Claim7.holds Tryd.pinned (.plain (OpenSpec.ofChange fnTopOrderFreeSpec)) fnTopOrderFreeCard

/-- THE TIED CARD OF 'laws.FnTopOrderLeast'. -/
def fnTopOrderLeastCard : Claim7 := { stood := { row := fnTopOrderLeastRow, standIns := [], harness := (true, "5cf707b32deead6bae0156daaf66267ce2524c8a85d59b986e04006456a04908"), looks := false }, kinds := [], alts := [], laidByText := true, laidKinds := [.data], laidTests := true, laidLooks := .later }
def FnTopOrderLeastCardSaid : Prop := Claim7.holds Tryd.pinned (.plain (OpenSpec.ofChange fnTopOrderLeastSpec)) fnTopOrderLeastCard

/-- THE TIED CARD OF 'laws.FnExactTopOrder'. -/
def fnExactTopOrderCard : Claim7 := { stood := { row := fnExactTopOrderRow, standIns := [], harness := (true, "5cf707b32deead6bae0156daaf66267ce2524c8a85d59b986e04006456a04908"), looks := false }, kinds := [], alts := [], laidByText := true, laidKinds := [.data], laidTests := true, laidLooks := .later }
def FnExactTopOrderCardSaid : Prop := Claim7.holds Tryd.pinned (.plain (OpenSpec.ofChange fnExactTopOrderSpec)) fnExactTopOrderCard

/-- THE TIED CARD OF 'laws.FnTopOrder'. -/
def fnTopOrderCard : Claim7 := { stood := { row := fnTopOrderRow, standIns := [], harness := (true, "5cf707b32deead6bae0156daaf66267ce2524c8a85d59b986e04006456a04908"), looks := false }, kinds := [], alts := [], laidByText := true, laidKinds := [.data], laidTests := true, laidLooks := .later }
def FnTopOrderCardSaid : Prop := Claim7.holds Tryd.pinned (.plain (OpenSpec.ofChange fnTopOrderSpec)) fnTopOrderCard

/-- THE TIED CARD OF 'laws.FnExactStuckTasks'. -/
def fnExactStuckTasksCard : Claim7 := { stood := { row := fnExactStuckTasksRow, standIns := [], harness := (true, "5cf707b32deead6bae0156daaf66267ce2524c8a85d59b986e04006456a04908"), looks := false }, kinds := [], alts := [], laidByText := true, laidKinds := [.data], laidTests := true, laidLooks := .later }
def FnExactStuckTasksCardSaid : Prop := Claim7.holds Tryd.pinned (.plain (OpenSpec.ofChange fnExactStuckTasksSpec)) fnExactStuckTasksCard

/-- THE TIED CARD OF 'laws.FnStuckTasksNeeds'. -/
def fnStuckTasksNeedsCard : Claim7 := { stood := { row := fnStuckTasksNeedsRow, standIns := [], harness := (true, "5cf707b32deead6bae0156daaf66267ce2524c8a85d59b986e04006456a04908"), looks := false }, kinds := [], alts := [], laidByText := true, laidKinds := [.data], laidTests := true, laidLooks := .later }
def FnStuckTasksNeedsCardSaid : Prop := Claim7.holds Tryd.pinned (.plain (OpenSpec.ofChange fnStuckTasksNeedsSpec)) fnStuckTasksNeedsCard

/-- THE TIED CARD OF 'laws.FnStuckTasks'. -/
def fnStuckTasksCard : Claim7 := { stood := { row := fnStuckTasksRow, standIns := [], harness := (true, "5cf707b32deead6bae0156daaf66267ce2524c8a85d59b986e04006456a04908"), looks := false }, kinds := [], alts := [], laidByText := true, laidKinds := [.data], laidTests := true, laidLooks := .later }
def FnStuckTasksCardSaid : Prop := Claim7.holds Tryd.pinned (.plain (OpenSpec.ofChange fnStuckTasksSpec)) fnStuckTasksCard

/-- THE TIED CARD OF 'laws.FnExactValidDone'. -/
def fnExactValidDoneCard : Claim7 := { stood := { row := fnExactValidDoneRow, standIns := [], harness := (true, "5cf707b32deead6bae0156daaf66267ce2524c8a85d59b986e04006456a04908"), looks := false }, kinds := [], alts := [], laidByText := true, laidKinds := [.data], laidTests := true, laidLooks := .later }
def FnExactValidDoneCardSaid : Prop := Claim7.holds Tryd.pinned (.plain (OpenSpec.ofChange fnExactValidDoneSpec)) fnExactValidDoneCard

/-- THE TIED CARD OF 'laws.FnExactWaitsFor'. -/
def fnExactWaitsForCard : Claim7 := { stood := { row := fnExactWaitsForRow, standIns := [], harness := (true, "5cf707b32deead6bae0156daaf66267ce2524c8a85d59b986e04006456a04908"), looks := false }, kinds := [], alts := [], laidByText := true, laidKinds := [.data], laidTests := true, laidLooks := .later }
def FnExactWaitsForCardSaid : Prop := Claim7.holds Tryd.pinned (.plain (OpenSpec.ofChange fnExactWaitsForSpec)) fnExactWaitsForCard

/-- THE SECOND FORM's CARD OF 'laws.FnExactValidGraph'. -/
def fnExactValidGraphUptoCard : Claim7 := { stood := { row := fnExactValidGraphUptoRow, standIns := [], harness := (true, "5cf707b32deead6bae0156daaf66267ce2524c8a85d59b986e04006456a04908"), looks := false }, kinds := [], alts := [], laidByText := true, laidKinds := [.data], laidTests := true, laidLooks := .later }
def FnExactValidGraphUptoCardSaid : Prop := Claim7.holds Tryd.pinned (.plain (OpenSpec.upto fnExactValidGraphSpec)) fnExactValidGraphUptoCard

/-- THE SECOND FORM's CARD OF 'laws.FnValidGraph'. -/
def fnValidGraphUptoCard : Claim7 := { stood := { row := fnValidGraphUptoRow, standIns := [], harness := (true, "5cf707b32deead6bae0156daaf66267ce2524c8a85d59b986e04006456a04908"), looks := false }, kinds := [], alts := [], laidByText := true, laidKinds := [.data], laidTests := true, laidLooks := .later }
def FnValidGraphUptoCardSaid : Prop := Claim7.holds Tryd.pinned (.plain (OpenSpec.upto fnValidGraphSpec)) fnValidGraphUptoCard

/-- THE SECOND FORM's CARD OF 'laws.FnTopOrderBegin'. -/
def fnTopOrderBeginUptoCard : Claim7 := { stood := { row := fnTopOrderBeginUptoRow, standIns := [], harness := (true, "5cf707b32deead6bae0156daaf66267ce2524c8a85d59b986e04006456a04908"), looks := false }, kinds := [], alts := [], laidByText := true, laidKinds := [.data], laidTests := true, laidLooks := .later }
def FnTopOrderBeginUptoCardSaid : Prop := Claim7.holds Tryd.pinned (.plain (OpenSpec.upto fnTopOrderBeginSpec)) fnTopOrderBeginUptoCard

/-- THE SECOND FORM's CARD OF 'laws.FnTopOrderFree'. -/
def fnTopOrderFreeUptoCard : Claim7 := { stood := { row := fnTopOrderFreeUptoRow, standIns := [], harness := (true, "5cf707b32deead6bae0156daaf66267ce2524c8a85d59b986e04006456a04908"), looks := false }, kinds := [], alts := [], laidByText := true, laidKinds := [.data], laidTests := true, laidLooks := .later }
def FnTopOrderFreeUptoCardSaid : Prop := Claim7.holds Tryd.pinned (.plain (OpenSpec.upto fnTopOrderFreeSpec)) fnTopOrderFreeUptoCard

/-- THE SECOND FORM's CARD OF 'laws.FnTopOrderLeast'. -/
def fnTopOrderLeastUptoCard : Claim7 := { stood := { row := fnTopOrderLeastUptoRow, standIns := [], harness := (true, "5cf707b32deead6bae0156daaf66267ce2524c8a85d59b986e04006456a04908"), looks := false }, kinds := [], alts := [], laidByText := true, laidKinds := [.data], laidTests := true, laidLooks := .later }
def FnTopOrderLeastUptoCardSaid : Prop := Claim7.holds Tryd.pinned (.plain (OpenSpec.upto fnTopOrderLeastSpec)) fnTopOrderLeastUptoCard

/-- THE SECOND FORM's CARD OF 'laws.FnExactTopOrder'. -/
def fnExactTopOrderUptoCard : Claim7 := { stood := { row := fnExactTopOrderUptoRow, standIns := [], harness := (true, "5cf707b32deead6bae0156daaf66267ce2524c8a85d59b986e04006456a04908"), looks := false }, kinds := [], alts := [], laidByText := true, laidKinds := [.data], laidTests := true, laidLooks := .later }
def FnExactTopOrderUptoCardSaid : Prop := Claim7.holds Tryd.pinned (.plain (OpenSpec.upto fnExactTopOrderSpec)) fnExactTopOrderUptoCard

/-- THE SECOND FORM's CARD OF 'laws.FnTopOrder'. -/
def fnTopOrderUptoCard : Claim7 := { stood := { row := fnTopOrderUptoRow, standIns := [], harness := (true, "5cf707b32deead6bae0156daaf66267ce2524c8a85d59b986e04006456a04908"), looks := false }, kinds := [], alts := [], laidByText := true, laidKinds := [.data], laidTests := true, laidLooks := .later }
def FnTopOrderUptoCardSaid : Prop := Claim7.holds Tryd.pinned (.plain (OpenSpec.upto fnTopOrderSpec)) fnTopOrderUptoCard

/-- THE SECOND FORM's CARD OF 'laws.FnExactStuckTasks'. -/
def fnExactStuckTasksUptoCard : Claim7 := { stood := { row := fnExactStuckTasksUptoRow, standIns := [], harness := (true, "5cf707b32deead6bae0156daaf66267ce2524c8a85d59b986e04006456a04908"), looks := false }, kinds := [], alts := [], laidByText := true, laidKinds := [.data], laidTests := true, laidLooks := .later }
def FnExactStuckTasksUptoCardSaid : Prop := Claim7.holds Tryd.pinned (.plain (OpenSpec.upto fnExactStuckTasksSpec)) fnExactStuckTasksUptoCard

/-- THE SECOND FORM's CARD OF 'laws.FnStuckTasksNeeds'. -/
def fnStuckTasksNeedsUptoCard : Claim7 := { stood := { row := fnStuckTasksNeedsUptoRow, standIns := [], harness := (true, "5cf707b32deead6bae0156daaf66267ce2524c8a85d59b986e04006456a04908"), looks := false }, kinds := [], alts := [], laidByText := true, laidKinds := [.data], laidTests := true, laidLooks := .later }
def FnStuckTasksNeedsUptoCardSaid : Prop := Claim7.holds Tryd.pinned (.plain (OpenSpec.upto fnStuckTasksNeedsSpec)) fnStuckTasksNeedsUptoCard

/-- THE SECOND FORM's CARD OF 'laws.FnStuckTasks'. -/
def fnStuckTasksUptoCard : Claim7 := { stood := { row := fnStuckTasksUptoRow, standIns := [], harness := (true, "5cf707b32deead6bae0156daaf66267ce2524c8a85d59b986e04006456a04908"), looks := false }, kinds := [], alts := [], laidByText := true, laidKinds := [.data], laidTests := true, laidLooks := .later }
def FnStuckTasksUptoCardSaid : Prop := Claim7.holds Tryd.pinned (.plain (OpenSpec.upto fnStuckTasksSpec)) fnStuckTasksUptoCard

/-- THE SECOND FORM's CARD OF 'laws.FnExactValidDone'. -/
def fnExactValidDoneUptoCard : Claim7 := { stood := { row := fnExactValidDoneUptoRow, standIns := [], harness := (true, "5cf707b32deead6bae0156daaf66267ce2524c8a85d59b986e04006456a04908"), looks := false }, kinds := [], alts := [], laidByText := true, laidKinds := [.data], laidTests := true, laidLooks := .later }
def FnExactValidDoneUptoCardSaid : Prop := Claim7.holds Tryd.pinned (.plain (OpenSpec.upto fnExactValidDoneSpec)) fnExactValidDoneUptoCard

/-- THE SECOND FORM's CARD OF 'laws.FnExactWaitsFor'. -/
def fnExactWaitsForUptoCard : Claim7 := { stood := { row := fnExactWaitsForUptoRow, standIns := [], harness := (true, "5cf707b32deead6bae0156daaf66267ce2524c8a85d59b986e04006456a04908"), looks := false }, kinds := [], alts := [], laidByText := true, laidKinds := [.data], laidTests := true, laidLooks := .later }
def FnExactWaitsForUptoCardSaid : Prop := Claim7.holds Tryd.pinned (.plain (OpenSpec.upto fnExactWaitsForSpec)) fnExactWaitsForUptoCard
end Rows
end Go.Proofs.YtegogaokcafpjaaDoor
