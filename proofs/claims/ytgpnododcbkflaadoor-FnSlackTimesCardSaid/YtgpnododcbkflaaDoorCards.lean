/-
  DERIVED. GIVEN WITH THE SEED: THE CARDS: each row of YtgpnododcbkflaaDoorRows.lean that lists a variable, with what it lists TIED to the program's text (the seventh form; the later family's looks); each row that meets fmt, with fmt's text TOLD by the authors' own Lean function (tested against real Go, not proved from fmt's source: count such statements apart). THE CARD IS WHAT COUNTS. Prove the row's statement (the work); the ties are given (YtgpnododcbkflaaDoorTie.lean); close each card by the builder's one call (the guide's Derived/Test/ToyasCard.lean, 'card_holds'). Laid BY PROGRAM, IN A SANDBOX (cutbox-door.mjs). By AI agents, Wed Nov 11 2026. No macro, syntax, notation, axiom, sorry.
-/
import Derived.Test.YtgpnododcbkflaaDoorRows
import GoSem.ClaimSeven
namespace Go.Proofs.YtgpnododcbkflaaDoor
namespace Rows

/-- THE TIED CARD OF 'laws.FnCriticalChainSlack'. -/
def fnCriticalChainSlackCard : Claim7 := { stood := { row := fnCriticalChainSlackRow, standIns := [], harness := (true, "9cb945a6f15b470ed684c0c95bf37a0574c933681a46c96886e42e65b8690eb8"), looks := false }, kinds := [], alts := [], laidByText := true, laidKinds := [.data], laidTests := true, laidLooks := .later }
def FnCriticalChainSlackCardSaid : Prop := Claim7.holds Tryd.pinned (.plain (OpenSpec.ofChange fnCriticalChainSlackSpec)) fnCriticalChainSlackCard

/-- THE TIED CARD OF 'laws.FnHeadTimes'. -/
def fnHeadTimesCard : Claim7 := { stood := { row := fnHeadTimesRow, standIns := [], harness := (true, "9cb945a6f15b470ed684c0c95bf37a0574c933681a46c96886e42e65b8690eb8"), looks := false }, kinds := [], alts := [], laidByText := true, laidKinds := [.data], laidTests := true, laidLooks := .later }
def FnHeadTimesCardSaid : Prop := Claim7.holds Tryd.pinned (.plain (OpenSpec.ofChange fnHeadTimesSpec)) fnHeadTimesCard

/-- THE TIED CARD OF 'laws.FnExactHeadTimes'. -/
def fnExactHeadTimesCard : Claim7 := { stood := { row := fnExactHeadTimesRow, standIns := [], harness := (true, "9cb945a6f15b470ed684c0c95bf37a0574c933681a46c96886e42e65b8690eb8"), looks := false }, kinds := [], alts := [], laidByText := true, laidKinds := [.data], laidTests := true, laidLooks := .later }
def FnExactHeadTimesCardSaid : Prop := Claim7.holds Tryd.pinned (.plain (OpenSpec.ofChange fnExactHeadTimesSpec)) fnExactHeadTimesCard

/-- THE TIED CARD OF 'laws.FnTailTimesHeads'. -/
def fnTailTimesHeadsCard : Claim7 := { stood := { row := fnTailTimesHeadsRow, standIns := [], harness := (true, "9cb945a6f15b470ed684c0c95bf37a0574c933681a46c96886e42e65b8690eb8"), looks := false }, kinds := [], alts := [], laidByText := true, laidKinds := [.data], laidTests := true, laidLooks := .later }
def FnTailTimesHeadsCardSaid : Prop := Claim7.holds Tryd.pinned (.plain (OpenSpec.ofChange fnTailTimesHeadsSpec)) fnTailTimesHeadsCard

/-- THE TIED CARD OF 'laws.FnSlackTimesZero'. -/
def fnSlackTimesZeroCard : Claim7 := { stood := { row := fnSlackTimesZeroRow, standIns := [], harness := (true, "9cb945a6f15b470ed684c0c95bf37a0574c933681a46c96886e42e65b8690eb8"), looks := false }, kinds := [], alts := [], laidByText := true, laidKinds := [.data], laidTests := true, laidLooks := .later }
def FnSlackTimesZeroCardSaid : Prop := Claim7.holds Tryd.pinned (.plain (OpenSpec.ofChange fnSlackTimesZeroSpec)) fnSlackTimesZeroCard

/-- THE TIED CARD OF 'laws.FnExactSlackTimes'. -/
def fnExactSlackTimesCard : Claim7 := { stood := { row := fnExactSlackTimesRow, standIns := [], harness := (true, "9cb945a6f15b470ed684c0c95bf37a0574c933681a46c96886e42e65b8690eb8"), looks := false }, kinds := [], alts := [], laidByText := true, laidKinds := [.data], laidTests := true, laidLooks := .later }
def FnExactSlackTimesCardSaid : Prop := Claim7.holds Tryd.pinned (.plain (OpenSpec.ofChange fnExactSlackTimesSpec)) fnExactSlackTimesCard

/-- THE TIED CARD OF 'laws.FnSlackTimes'. -/
def fnSlackTimesCard : Claim7 := { stood := { row := fnSlackTimesRow, standIns := [], harness := (true, "9cb945a6f15b470ed684c0c95bf37a0574c933681a46c96886e42e65b8690eb8"), looks := false }, kinds := [], alts := [], laidByText := true, laidKinds := [.data], laidTests := true, laidLooks := .later }
def FnSlackTimesCardSaid : Prop := Claim7.holds Tryd.pinned (.plain (OpenSpec.ofChange fnSlackTimesSpec)) fnSlackTimesCard

/-- THE TIED CARD OF 'laws.FnSlackTimesMore'. -/
def fnSlackTimesMoreCard : Claim7 := { stood := { row := fnSlackTimesMoreRow, standIns := [], harness := (true, "9cb945a6f15b470ed684c0c95bf37a0574c933681a46c96886e42e65b8690eb8"), looks := false }, kinds := [], alts := [], laidByText := true, laidKinds := [.data], laidTests := true, laidLooks := .later }
def FnSlackTimesMoreCardSaid : Prop := Claim7.holds Tryd.pinned (.plain (OpenSpec.ofChange fnSlackTimesMoreSpec)) fnSlackTimesMoreCard

/-- THE TIED CARD OF 'laws.FnExactCriticalChain'. -/
def fnExactCriticalChainCard : Claim7 := { stood := { row := fnExactCriticalChainRow, standIns := [], harness := (true, "9cb945a6f15b470ed684c0c95bf37a0574c933681a46c96886e42e65b8690eb8"), looks := false }, kinds := [], alts := [], laidByText := true, laidKinds := [.data], laidTests := true, laidLooks := .later }
def FnExactCriticalChainCardSaid : Prop := Claim7.holds Tryd.pinned (.plain (OpenSpec.ofChange fnExactCriticalChainSpec)) fnExactCriticalChainCard

/-- THE TIED CARD OF 'laws.FnCriticalChainLonger'. -/
def fnCriticalChainLongerCard : Claim7 := { stood := { row := fnCriticalChainLongerRow, standIns := [], harness := (true, "9cb945a6f15b470ed684c0c95bf37a0574c933681a46c96886e42e65b8690eb8"), looks := false }, kinds := [], alts := [], laidByText := true, laidKinds := [.data], laidTests := true, laidLooks := .later }
def FnCriticalChainLongerCardSaid : Prop := Claim7.holds Tryd.pinned (.plain (OpenSpec.ofChange fnCriticalChainLongerSpec)) fnCriticalChainLongerCard

/-- THE TIED CARD OF 'laws.FnCriticalChain'. -/
def fnCriticalChainCard : Claim7 := { stood := { row := fnCriticalChainRow, standIns := [], harness := (true, "9cb945a6f15b470ed684c0c95bf37a0574c933681a46c96886e42e65b8690eb8"), looks := false }, kinds := [], alts := [], laidByText := true, laidKinds := [.data], laidTests := true, laidLooks := .later }
def FnCriticalChainCardSaid : Prop := Claim7.holds Tryd.pinned (.plain (OpenSpec.ofChange fnCriticalChainSpec)) fnCriticalChainCard

/-- THE TIED CARD OF 'laws.FnTailTimesLast'. -/
def fnTailTimesLastCard : Claim7 := { stood := { row := fnTailTimesLastRow, standIns := [], harness := (true, "9cb945a6f15b470ed684c0c95bf37a0574c933681a46c96886e42e65b8690eb8"), looks := false }, kinds := [], alts := [], laidByText := true, laidKinds := [.data], laidTests := true, laidLooks := .later }
def FnTailTimesLastCardSaid : Prop := Claim7.holds Tryd.pinned (.plain (OpenSpec.ofChange fnTailTimesLastSpec)) fnTailTimesLastCard

/-- THE SECOND FORM's CARD OF 'laws.FnCriticalChainSlack'. -/
def fnCriticalChainSlackUptoCard : Claim7 := { stood := { row := fnCriticalChainSlackUptoRow, standIns := [], harness := (true, "9cb945a6f15b470ed684c0c95bf37a0574c933681a46c96886e42e65b8690eb8"), looks := false }, kinds := [], alts := [], laidByText := true, laidKinds := [.data], laidTests := true, laidLooks := .later }
def FnCriticalChainSlackUptoCardSaid : Prop := Claim7.holds Tryd.pinned (.plain (OpenSpec.upto fnCriticalChainSlackSpec)) fnCriticalChainSlackUptoCard

/-- THE SECOND FORM's CARD OF 'laws.FnHeadTimes'. -/
def fnHeadTimesUptoCard : Claim7 := { stood := { row := fnHeadTimesUptoRow, standIns := [], harness := (true, "9cb945a6f15b470ed684c0c95bf37a0574c933681a46c96886e42e65b8690eb8"), looks := false }, kinds := [], alts := [], laidByText := true, laidKinds := [.data], laidTests := true, laidLooks := .later }
def FnHeadTimesUptoCardSaid : Prop := Claim7.holds Tryd.pinned (.plain (OpenSpec.upto fnHeadTimesSpec)) fnHeadTimesUptoCard

/-- THE SECOND FORM's CARD OF 'laws.FnExactHeadTimes'. -/
def fnExactHeadTimesUptoCard : Claim7 := { stood := { row := fnExactHeadTimesUptoRow, standIns := [], harness := (true, "9cb945a6f15b470ed684c0c95bf37a0574c933681a46c96886e42e65b8690eb8"), looks := false }, kinds := [], alts := [], laidByText := true, laidKinds := [.data], laidTests := true, laidLooks := .later }
def FnExactHeadTimesUptoCardSaid : Prop := Claim7.holds Tryd.pinned (.plain (OpenSpec.upto fnExactHeadTimesSpec)) fnExactHeadTimesUptoCard

/-- THE SECOND FORM's CARD OF 'laws.FnTailTimesHeads'. -/
def fnTailTimesHeadsUptoCard : Claim7 := { stood := { row := fnTailTimesHeadsUptoRow, standIns := [], harness := (true, "9cb945a6f15b470ed684c0c95bf37a0574c933681a46c96886e42e65b8690eb8"), looks := false }, kinds := [], alts := [], laidByText := true, laidKinds := [.data], laidTests := true, laidLooks := .later }
def FnTailTimesHeadsUptoCardSaid : Prop := Claim7.holds Tryd.pinned (.plain (OpenSpec.upto fnTailTimesHeadsSpec)) fnTailTimesHeadsUptoCard

/-- THE SECOND FORM's CARD OF 'laws.FnSlackTimesZero'. -/
def fnSlackTimesZeroUptoCard : Claim7 := { stood := { row := fnSlackTimesZeroUptoRow, standIns := [], harness := (true, "9cb945a6f15b470ed684c0c95bf37a0574c933681a46c96886e42e65b8690eb8"), looks := false }, kinds := [], alts := [], laidByText := true, laidKinds := [.data], laidTests := true, laidLooks := .later }
def FnSlackTimesZeroUptoCardSaid : Prop := Claim7.holds Tryd.pinned (.plain (OpenSpec.upto fnSlackTimesZeroSpec)) fnSlackTimesZeroUptoCard

/-- THE SECOND FORM's CARD OF 'laws.FnExactSlackTimes'. -/
def fnExactSlackTimesUptoCard : Claim7 := { stood := { row := fnExactSlackTimesUptoRow, standIns := [], harness := (true, "9cb945a6f15b470ed684c0c95bf37a0574c933681a46c96886e42e65b8690eb8"), looks := false }, kinds := [], alts := [], laidByText := true, laidKinds := [.data], laidTests := true, laidLooks := .later }
def FnExactSlackTimesUptoCardSaid : Prop := Claim7.holds Tryd.pinned (.plain (OpenSpec.upto fnExactSlackTimesSpec)) fnExactSlackTimesUptoCard

/-- THE SECOND FORM's CARD OF 'laws.FnSlackTimes'. -/
def fnSlackTimesUptoCard : Claim7 := { stood := { row := fnSlackTimesUptoRow, standIns := [], harness := (true, "9cb945a6f15b470ed684c0c95bf37a0574c933681a46c96886e42e65b8690eb8"), looks := false }, kinds := [], alts := [], laidByText := true, laidKinds := [.data], laidTests := true, laidLooks := .later }
def FnSlackTimesUptoCardSaid : Prop := Claim7.holds Tryd.pinned (.plain (OpenSpec.upto fnSlackTimesSpec)) fnSlackTimesUptoCard

/-- THE SECOND FORM's CARD OF 'laws.FnSlackTimesMore'. -/
def fnSlackTimesMoreUptoCard : Claim7 := { stood := { row := fnSlackTimesMoreUptoRow, standIns := [], harness := (true, "9cb945a6f15b470ed684c0c95bf37a0574c933681a46c96886e42e65b8690eb8"), looks := false }, kinds := [], alts := [], laidByText := true, laidKinds := [.data], laidTests := true, laidLooks := .later }
def FnSlackTimesMoreUptoCardSaid : Prop := Claim7.holds Tryd.pinned (.plain (OpenSpec.upto fnSlackTimesMoreSpec)) fnSlackTimesMoreUptoCard

/-- THE SECOND FORM's CARD OF 'laws.FnExactCriticalChain'. -/
def fnExactCriticalChainUptoCard : Claim7 := { stood := { row := fnExactCriticalChainUptoRow, standIns := [], harness := (true, "9cb945a6f15b470ed684c0c95bf37a0574c933681a46c96886e42e65b8690eb8"), looks := false }, kinds := [], alts := [], laidByText := true, laidKinds := [.data], laidTests := true, laidLooks := .later }
def FnExactCriticalChainUptoCardSaid : Prop := Claim7.holds Tryd.pinned (.plain (OpenSpec.upto fnExactCriticalChainSpec)) fnExactCriticalChainUptoCard

/-- THE SECOND FORM's CARD OF 'laws.FnCriticalChainLonger'. -/
def fnCriticalChainLongerUptoCard : Claim7 := { stood := { row := fnCriticalChainLongerUptoRow, standIns := [], harness := (true, "9cb945a6f15b470ed684c0c95bf37a0574c933681a46c96886e42e65b8690eb8"), looks := false }, kinds := [], alts := [], laidByText := true, laidKinds := [.data], laidTests := true, laidLooks := .later }
def FnCriticalChainLongerUptoCardSaid : Prop := Claim7.holds Tryd.pinned (.plain (OpenSpec.upto fnCriticalChainLongerSpec)) fnCriticalChainLongerUptoCard

/-- THE SECOND FORM's CARD OF 'laws.FnCriticalChain'. -/
def fnCriticalChainUptoCard : Claim7 := { stood := { row := fnCriticalChainUptoRow, standIns := [], harness := (true, "9cb945a6f15b470ed684c0c95bf37a0574c933681a46c96886e42e65b8690eb8"), looks := false }, kinds := [], alts := [], laidByText := true, laidKinds := [.data], laidTests := true, laidLooks := .later }
def FnCriticalChainUptoCardSaid : Prop := Claim7.holds Tryd.pinned (.plain (OpenSpec.upto fnCriticalChainSpec)) fnCriticalChainUptoCard

/-- THE SECOND FORM's CARD OF 'laws.FnTailTimesLast'. -/
def fnTailTimesLastUptoCard : Claim7 := { stood := { row := fnTailTimesLastUptoRow, standIns := [], harness := (true, "9cb945a6f15b470ed684c0c95bf37a0574c933681a46c96886e42e65b8690eb8"), looks := false }, kinds := [], alts := [], laidByText := true, laidKinds := [.data], laidTests := true, laidLooks := .later }
def FnTailTimesLastUptoCardSaid : Prop := Claim7.holds Tryd.pinned (.plain (OpenSpec.upto fnTailTimesLastSpec)) fnTailTimesLastUptoCard
end Rows
end Go.Proofs.YtgpnododcbkflaaDoor
