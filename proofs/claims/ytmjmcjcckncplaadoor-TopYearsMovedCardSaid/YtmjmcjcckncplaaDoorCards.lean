/-
  DERIVED. GIVEN WITH THE SEED: THE CARDS: each row of YtmjmcjcckncplaaDoorRows.lean that lists a variable, with what it lists TIED to the program's text (the seventh form; the later family's looks); each row that meets fmt, with fmt's text TOLD by the authors' own Lean function (tested against real Go, not proved from fmt's source: count such statements apart). THE CARD IS WHAT COUNTS. Prove the row's statement (the work); the ties are given (YtmjmcjcckncplaaDoorTie.lean); close each card by the builder's one call (the guide's Derived/Test/ToyasCard.lean, 'card_holds'). Laid BY PROGRAM, IN A SANDBOX (cutbox-door.mjs). By AI agents, Wed Nov 11 2026. No macro, syntax, notation, axiom, sorry.
-/
import Derived.Test.YtmjmcjcckncplaaDoorRows
import GoSem.ClaimSeven
namespace Go.Proofs.YtmjmcjcckncplaaDoor
namespace Rows

/-- THE TIED CARD OF 'ephemeristop.TopRulesNegated'. -/
def topRulesNegatedCard : Claim7 := { stood := { row := topRulesNegatedRow, standIns := [], harness := (true, "b2cc3adaec6aca087721e5a54318793f438855ad0e0d406819279073482f7f95"), looks := true }, kinds := [], alts := [], laidByText := true, laidKinds := [.data, .data, .data, .sentinel, .sentinel, .data, .data, .data, .data, .data], laidTests := true, laidLooks := .later }
def TopRulesNegatedCardSaid : Prop := Claim7.holds Tryd.pinned (.plain (OpenSpec.ofChange topRulesNegatedSpec)) topRulesNegatedCard

/-- THE TIED CARD OF 'ephemeristop.TopRestsWritten'. -/
def topRestsWrittenCard : Claim7 := { stood := { row := topRestsWrittenRow, standIns := [], harness := (true, "b2cc3adaec6aca087721e5a54318793f438855ad0e0d406819279073482f7f95"), looks := true }, kinds := [], alts := [], laidByText := true, laidKinds := [.data, .data, .data, .sentinel, .sentinel, .data, .data, .data, .data, .data], laidTests := true, laidLooks := .later }
def TopRestsWrittenCardSaid : Prop := Claim7.holds Tryd.pinned (.plain (OpenSpec.ofChange topRestsWrittenSpec)) topRestsWrittenCard

/-- THE TIED CARD OF 'ephemeristop.TopComparesWritten'. -/
def topComparesWrittenCard : Claim7 := { stood := { row := topComparesWrittenRow, standIns := [], harness := (true, "b2cc3adaec6aca087721e5a54318793f438855ad0e0d406819279073482f7f95"), looks := true }, kinds := [], alts := [], laidByText := true, laidKinds := [.data, .data, .data, .sentinel, .sentinel, .data, .data, .data, .data, .data], laidTests := true, laidLooks := .later }
def TopComparesWrittenCardSaid : Prop := Claim7.holds Tryd.pinned (.plain (OpenSpec.ofChange topComparesWrittenSpec)) topComparesWrittenCard

/-- THE TIED CARD OF 'ephemeristop.TopLogicDenied'. -/
def topLogicDeniedCard : Claim7 := { stood := { row := topLogicDeniedRow, standIns := [], harness := (true, "b2cc3adaec6aca087721e5a54318793f438855ad0e0d406819279073482f7f95"), looks := true }, kinds := [], alts := [], laidByText := true, laidKinds := [.data, .data, .data, .sentinel, .sentinel, .data, .data, .data, .data, .data], laidTests := true, laidLooks := .later }
def TopLogicDeniedCardSaid : Prop := Claim7.holds Tryd.pinned (.plain (OpenSpec.ofChange topLogicDeniedSpec)) topLogicDeniedCard

/-- THE TIED CARD OF 'ephemeristop.TopLogicCounted'. -/
def topLogicCountedCard : Claim7 := { stood := { row := topLogicCountedRow, standIns := [], harness := (true, "b2cc3adaec6aca087721e5a54318793f438855ad0e0d406819279073482f7f95"), looks := true }, kinds := [], alts := [], laidByText := true, laidKinds := [.data, .data, .data, .sentinel, .sentinel, .data, .data, .data, .data, .data], laidTests := true, laidLooks := .later }
def TopLogicCountedCardSaid : Prop := Claim7.holds Tryd.pinned (.plain (OpenSpec.ofChange topLogicCountedSpec)) topLogicCountedCard

/-- THE TIED CARD OF 'ephemeristop.TopTruthsAsked'. -/
def topTruthsAskedCard : Claim7 := { stood := { row := topTruthsAskedRow, standIns := [], harness := (true, "b2cc3adaec6aca087721e5a54318793f438855ad0e0d406819279073482f7f95"), looks := true }, kinds := [], alts := [], laidByText := true, laidKinds := [.data, .data, .data, .sentinel, .sentinel, .data, .data, .data, .data, .data], laidTests := true, laidLooks := .later }
def TopTruthsAskedCardSaid : Prop := Claim7.holds Tryd.pinned (.plain (OpenSpec.ofChange topTruthsAskedSpec)) topTruthsAskedCard

/-- THE TIED CARD OF 'ephemeristop.TopLogicAbsorbed'. -/
def topLogicAbsorbedCard : Claim7 := { stood := { row := topLogicAbsorbedRow, standIns := [], harness := (true, "b2cc3adaec6aca087721e5a54318793f438855ad0e0d406819279073482f7f95"), looks := true }, kinds := [], alts := [], laidByText := true, laidKinds := [.data, .data, .data, .sentinel, .sentinel, .data, .data, .data, .data, .data], laidTests := true, laidLooks := .later }
def TopLogicAbsorbedCardSaid : Prop := Claim7.holds Tryd.pinned (.plain (OpenSpec.ofChange topLogicAbsorbedSpec)) topLogicAbsorbedCard

/-- THE TIED CARD OF 'ephemeristop.TopNumbersParted'. -/
def topNumbersPartedCard : Claim7 := { stood := { row := topNumbersPartedRow, standIns := [], harness := (true, "b2cc3adaec6aca087721e5a54318793f438855ad0e0d406819279073482f7f95"), looks := true }, kinds := [], alts := [], laidByText := true, laidKinds := [.data, .data, .data, .sentinel, .sentinel, .data, .data, .data, .data, .data], laidTests := true, laidLooks := .later }
def TopNumbersPartedCardSaid : Prop := Claim7.holds Tryd.pinned (.plain (OpenSpec.ofChange topNumbersPartedSpec)) topNumbersPartedCard

/-- THE TIED CARD OF 'ephemeristop.TopYearsMoved'. -/
def topYearsMovedCard : Claim7 := { stood := { row := topYearsMovedRow, standIns := [], harness := (true, "b2cc3adaec6aca087721e5a54318793f438855ad0e0d406819279073482f7f95"), looks := true }, kinds := [], alts := [], laidByText := true, laidKinds := [.data, .data, .data, .sentinel, .sentinel, .data, .data, .data, .data, .data], laidTests := true, laidLooks := .later }
def TopYearsMovedCardSaid : Prop := Claim7.holds Tryd.pinned (.plain (OpenSpec.ofChange topYearsMovedSpec)) topYearsMovedCard

/-- THE TIED CARD OF 'ephemeristop.TopYearsWritten'. -/
def topYearsWrittenCard : Claim7 := { stood := { row := topYearsWrittenRow, standIns := [], harness := (true, "b2cc3adaec6aca087721e5a54318793f438855ad0e0d406819279073482f7f95"), looks := true }, kinds := [], alts := [], laidByText := true, laidKinds := [.data, .data, .data, .sentinel, .sentinel, .data, .data, .data, .data, .data], laidTests := true, laidLooks := .later }
def TopYearsWrittenCardSaid : Prop := Claim7.holds Tryd.pinned (.plain (OpenSpec.ofChange topYearsWrittenSpec)) topYearsWrittenCard

/-- THE TIED CARD OF 'ephemeristop.TopRulesTurned'. -/
def topRulesTurnedCard : Claim7 := { stood := { row := topRulesTurnedRow, standIns := [], harness := (true, "b2cc3adaec6aca087721e5a54318793f438855ad0e0d406819279073482f7f95"), looks := true }, kinds := [], alts := [], laidByText := true, laidKinds := [.data, .data, .data, .sentinel, .sentinel, .data, .data, .data, .data, .data], laidTests := true, laidLooks := .later }
def TopRulesTurnedCardSaid : Prop := Claim7.holds Tryd.pinned (.plain (OpenSpec.ofChange topRulesTurnedSpec)) topRulesTurnedCard

/-- THE TIED CARD OF 'ephemeristop.TopRulesDistributed'. -/
def topRulesDistributedCard : Claim7 := { stood := { row := topRulesDistributedRow, standIns := [], harness := (true, "b2cc3adaec6aca087721e5a54318793f438855ad0e0d406819279073482f7f95"), looks := true }, kinds := [], alts := [], laidByText := true, laidKinds := [.data, .data, .data, .sentinel, .sentinel, .data, .data, .data, .data, .data], laidTests := true, laidLooks := .later }
def TopRulesDistributedCardSaid : Prop := Claim7.holds Tryd.pinned (.plain (OpenSpec.ofChange topRulesDistributedSpec)) topRulesDistributedCard

/-- THE SECOND FORM's CARD OF 'ephemeristop.TopRulesNegated'. -/
def topRulesNegatedUptoCard : Claim7 := { stood := { row := topRulesNegatedUptoRow, standIns := [], harness := (true, "b2cc3adaec6aca087721e5a54318793f438855ad0e0d406819279073482f7f95"), looks := true }, kinds := [], alts := [], laidByText := true, laidKinds := [.data, .data, .data, .sentinel, .sentinel, .data, .data, .data, .data, .data], laidTests := true, laidLooks := .later }
def TopRulesNegatedUptoCardSaid : Prop := Claim7.holds Tryd.pinned (.plain (OpenSpec.upto topRulesNegatedSpec)) topRulesNegatedUptoCard

/-- THE SECOND FORM's CARD OF 'ephemeristop.TopRestsWritten'. -/
def topRestsWrittenUptoCard : Claim7 := { stood := { row := topRestsWrittenUptoRow, standIns := [], harness := (true, "b2cc3adaec6aca087721e5a54318793f438855ad0e0d406819279073482f7f95"), looks := true }, kinds := [], alts := [], laidByText := true, laidKinds := [.data, .data, .data, .sentinel, .sentinel, .data, .data, .data, .data, .data], laidTests := true, laidLooks := .later }
def TopRestsWrittenUptoCardSaid : Prop := Claim7.holds Tryd.pinned (.plain (OpenSpec.upto topRestsWrittenSpec)) topRestsWrittenUptoCard

/-- THE SECOND FORM's CARD OF 'ephemeristop.TopComparesWritten'. -/
def topComparesWrittenUptoCard : Claim7 := { stood := { row := topComparesWrittenUptoRow, standIns := [], harness := (true, "b2cc3adaec6aca087721e5a54318793f438855ad0e0d406819279073482f7f95"), looks := true }, kinds := [], alts := [], laidByText := true, laidKinds := [.data, .data, .data, .sentinel, .sentinel, .data, .data, .data, .data, .data], laidTests := true, laidLooks := .later }
def TopComparesWrittenUptoCardSaid : Prop := Claim7.holds Tryd.pinned (.plain (OpenSpec.upto topComparesWrittenSpec)) topComparesWrittenUptoCard

/-- THE SECOND FORM's CARD OF 'ephemeristop.TopLogicDenied'. -/
def topLogicDeniedUptoCard : Claim7 := { stood := { row := topLogicDeniedUptoRow, standIns := [], harness := (true, "b2cc3adaec6aca087721e5a54318793f438855ad0e0d406819279073482f7f95"), looks := true }, kinds := [], alts := [], laidByText := true, laidKinds := [.data, .data, .data, .sentinel, .sentinel, .data, .data, .data, .data, .data], laidTests := true, laidLooks := .later }
def TopLogicDeniedUptoCardSaid : Prop := Claim7.holds Tryd.pinned (.plain (OpenSpec.upto topLogicDeniedSpec)) topLogicDeniedUptoCard

/-- THE SECOND FORM's CARD OF 'ephemeristop.TopLogicCounted'. -/
def topLogicCountedUptoCard : Claim7 := { stood := { row := topLogicCountedUptoRow, standIns := [], harness := (true, "b2cc3adaec6aca087721e5a54318793f438855ad0e0d406819279073482f7f95"), looks := true }, kinds := [], alts := [], laidByText := true, laidKinds := [.data, .data, .data, .sentinel, .sentinel, .data, .data, .data, .data, .data], laidTests := true, laidLooks := .later }
def TopLogicCountedUptoCardSaid : Prop := Claim7.holds Tryd.pinned (.plain (OpenSpec.upto topLogicCountedSpec)) topLogicCountedUptoCard

/-- THE SECOND FORM's CARD OF 'ephemeristop.TopTruthsAsked'. -/
def topTruthsAskedUptoCard : Claim7 := { stood := { row := topTruthsAskedUptoRow, standIns := [], harness := (true, "b2cc3adaec6aca087721e5a54318793f438855ad0e0d406819279073482f7f95"), looks := true }, kinds := [], alts := [], laidByText := true, laidKinds := [.data, .data, .data, .sentinel, .sentinel, .data, .data, .data, .data, .data], laidTests := true, laidLooks := .later }
def TopTruthsAskedUptoCardSaid : Prop := Claim7.holds Tryd.pinned (.plain (OpenSpec.upto topTruthsAskedSpec)) topTruthsAskedUptoCard

/-- THE SECOND FORM's CARD OF 'ephemeristop.TopLogicAbsorbed'. -/
def topLogicAbsorbedUptoCard : Claim7 := { stood := { row := topLogicAbsorbedUptoRow, standIns := [], harness := (true, "b2cc3adaec6aca087721e5a54318793f438855ad0e0d406819279073482f7f95"), looks := true }, kinds := [], alts := [], laidByText := true, laidKinds := [.data, .data, .data, .sentinel, .sentinel, .data, .data, .data, .data, .data], laidTests := true, laidLooks := .later }
def TopLogicAbsorbedUptoCardSaid : Prop := Claim7.holds Tryd.pinned (.plain (OpenSpec.upto topLogicAbsorbedSpec)) topLogicAbsorbedUptoCard

/-- THE SECOND FORM's CARD OF 'ephemeristop.TopNumbersParted'. -/
def topNumbersPartedUptoCard : Claim7 := { stood := { row := topNumbersPartedUptoRow, standIns := [], harness := (true, "b2cc3adaec6aca087721e5a54318793f438855ad0e0d406819279073482f7f95"), looks := true }, kinds := [], alts := [], laidByText := true, laidKinds := [.data, .data, .data, .sentinel, .sentinel, .data, .data, .data, .data, .data], laidTests := true, laidLooks := .later }
def TopNumbersPartedUptoCardSaid : Prop := Claim7.holds Tryd.pinned (.plain (OpenSpec.upto topNumbersPartedSpec)) topNumbersPartedUptoCard

/-- THE SECOND FORM's CARD OF 'ephemeristop.TopYearsMoved'. -/
def topYearsMovedUptoCard : Claim7 := { stood := { row := topYearsMovedUptoRow, standIns := [], harness := (true, "b2cc3adaec6aca087721e5a54318793f438855ad0e0d406819279073482f7f95"), looks := true }, kinds := [], alts := [], laidByText := true, laidKinds := [.data, .data, .data, .sentinel, .sentinel, .data, .data, .data, .data, .data], laidTests := true, laidLooks := .later }
def TopYearsMovedUptoCardSaid : Prop := Claim7.holds Tryd.pinned (.plain (OpenSpec.upto topYearsMovedSpec)) topYearsMovedUptoCard

/-- THE SECOND FORM's CARD OF 'ephemeristop.TopYearsWritten'. -/
def topYearsWrittenUptoCard : Claim7 := { stood := { row := topYearsWrittenUptoRow, standIns := [], harness := (true, "b2cc3adaec6aca087721e5a54318793f438855ad0e0d406819279073482f7f95"), looks := true }, kinds := [], alts := [], laidByText := true, laidKinds := [.data, .data, .data, .sentinel, .sentinel, .data, .data, .data, .data, .data], laidTests := true, laidLooks := .later }
def TopYearsWrittenUptoCardSaid : Prop := Claim7.holds Tryd.pinned (.plain (OpenSpec.upto topYearsWrittenSpec)) topYearsWrittenUptoCard

/-- THE SECOND FORM's CARD OF 'ephemeristop.TopRulesTurned'. -/
def topRulesTurnedUptoCard : Claim7 := { stood := { row := topRulesTurnedUptoRow, standIns := [], harness := (true, "b2cc3adaec6aca087721e5a54318793f438855ad0e0d406819279073482f7f95"), looks := true }, kinds := [], alts := [], laidByText := true, laidKinds := [.data, .data, .data, .sentinel, .sentinel, .data, .data, .data, .data, .data], laidTests := true, laidLooks := .later }
def TopRulesTurnedUptoCardSaid : Prop := Claim7.holds Tryd.pinned (.plain (OpenSpec.upto topRulesTurnedSpec)) topRulesTurnedUptoCard

/-- THE SECOND FORM's CARD OF 'ephemeristop.TopRulesDistributed'. -/
def topRulesDistributedUptoCard : Claim7 := { stood := { row := topRulesDistributedUptoRow, standIns := [], harness := (true, "b2cc3adaec6aca087721e5a54318793f438855ad0e0d406819279073482f7f95"), looks := true }, kinds := [], alts := [], laidByText := true, laidKinds := [.data, .data, .data, .sentinel, .sentinel, .data, .data, .data, .data, .data], laidTests := true, laidLooks := .later }
def TopRulesDistributedUptoCardSaid : Prop := Claim7.holds Tryd.pinned (.plain (OpenSpec.upto topRulesDistributedSpec)) topRulesDistributedUptoCard
end Rows
end Go.Proofs.YtmjmcjcckncplaaDoor
