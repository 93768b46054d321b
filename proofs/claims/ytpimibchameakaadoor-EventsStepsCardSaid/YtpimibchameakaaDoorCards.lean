/-
  DERIVED. GIVEN WITH THE SEED: THE CARDS: each row of YtpimibchameakaaDoorRows.lean that lists a variable, with what it lists TIED to the program's text (the seventh form; the later family's looks); each row that meets fmt, with fmt's text TOLD by the authors' own Lean function (tested against real Go, not proved from fmt's source: count such statements apart). THE CARD IS WHAT COUNTS. Prove the row's statement (the work); the ties are given (YtpimibchameakaaDoorTie.lean); close each card by the builder's one call (the guide's Derived/Test/ToyasCard.lean, 'card_holds'). Laid BY PROGRAM, IN A SANDBOX (cutbox-door.mjs). By AI agents, Wed Nov 11 2026. No macro, syntax, notation, axiom, sorry.
-/
import Derived.Test.YtpimibchameakaaDoorRows
import GoSem.ClaimSeven
namespace Go.Proofs.YtpimibchameakaaDoor
namespace Rows

/-- THE TIED CARD OF 'analemmalaw17.EventsCycle'. -/
def eventsCycleCard : Claim7 := { stood := { row := eventsCycleRow, standIns := [], harness := (true, "6e5a1af9129509d956d7a324d27b40309116f8ab4263ee990e606b970f6a5b8c"), looks := false }, kinds := [], alts := [], laidByText := true, laidKinds := [.data, .funcs], laidTests := true, laidLooks := .later }
def EventsCycleCardSaid : Prop := Claim7.holds Tryd.pinned (.plain (OpenSpec.ofChange eventsCycleSpec)) eventsCycleCard

/-- THE TIED CARD OF 'analemmalaw17.EventsAround'. -/
def eventsAroundCard : Claim7 := { stood := { row := eventsAroundRow, standIns := [], harness := (true, "6e5a1af9129509d956d7a324d27b40309116f8ab4263ee990e606b970f6a5b8c"), looks := false }, kinds := [], alts := [], laidByText := true, laidKinds := [.data, .funcs], laidTests := true, laidLooks := .later }
def EventsAroundCardSaid : Prop := Claim7.holds Tryd.pinned (.plain (OpenSpec.ofChange eventsAroundSpec)) eventsAroundCard

/-- THE TIED CARD OF 'analemmalaw17.EventsStd'. -/
def eventsStdCard : Claim7 := { stood := { row := eventsStdRow, standIns := [], harness := (true, "6e5a1af9129509d956d7a324d27b40309116f8ab4263ee990e606b970f6a5b8c"), looks := false }, kinds := [], alts := [], laidByText := true, laidKinds := [.data, .funcs], laidTests := true, laidLooks := .later }
def EventsStdCardSaid : Prop := Claim7.holds Tryd.pinned (.plain (OpenSpec.ofChange eventsStdSpec)) eventsStdCard

/-- THE TIED CARD OF 'analemmalaw17.EventsRefuses'. -/
def eventsRefusesCard : Claim7 := { stood := { row := eventsRefusesRow, standIns := [], harness := (true, "6e5a1af9129509d956d7a324d27b40309116f8ab4263ee990e606b970f6a5b8c"), looks := false }, kinds := [], alts := [], laidByText := true, laidKinds := [.data, .funcs], laidTests := true, laidLooks := .later }
def EventsRefusesCardSaid : Prop := Claim7.holds Tryd.pinned (.plain (OpenSpec.ofChange eventsRefusesSpec)) eventsRefusesCard

/-- THE TIED CARD OF 'analemmalaw17.EventsLists'. -/
def eventsListsCard : Claim7 := { stood := { row := eventsListsRow, standIns := [], harness := (true, "6e5a1af9129509d956d7a324d27b40309116f8ab4263ee990e606b970f6a5b8c"), looks := false }, kinds := [], alts := [], laidByText := true, laidKinds := [.data, .funcs], laidTests := true, laidLooks := .later }
def EventsListsCardSaid : Prop := Claim7.holds Tryd.pinned (.plain (OpenSpec.ofChange eventsListsSpec)) eventsListsCard

/-- THE TIED CARD OF 'analemmalaw17.EventsSteps'. -/
def eventsStepsCard : Claim7 := { stood := { row := eventsStepsRow, standIns := [], harness := (true, "6e5a1af9129509d956d7a324d27b40309116f8ab4263ee990e606b970f6a5b8c"), looks := false }, kinds := [], alts := [], laidByText := true, laidKinds := [.data, .funcs], laidTests := true, laidLooks := .later }
def EventsStepsCardSaid : Prop := Claim7.holds Tryd.pinned (.plain (OpenSpec.ofChange eventsStepsSpec)) eventsStepsCard

/-- THE SECOND FORM's CARD OF 'analemmalaw17.EventsCycle'. -/
def eventsCycleUptoCard : Claim7 := { stood := { row := eventsCycleUptoRow, standIns := [], harness := (true, "6e5a1af9129509d956d7a324d27b40309116f8ab4263ee990e606b970f6a5b8c"), looks := false }, kinds := [], alts := [], laidByText := true, laidKinds := [.data, .funcs], laidTests := true, laidLooks := .later }
def EventsCycleUptoCardSaid : Prop := Claim7.holds Tryd.pinned (.plain (OpenSpec.upto eventsCycleSpec)) eventsCycleUptoCard

/-- THE SECOND FORM's CARD OF 'analemmalaw17.EventsAround'. -/
def eventsAroundUptoCard : Claim7 := { stood := { row := eventsAroundUptoRow, standIns := [], harness := (true, "6e5a1af9129509d956d7a324d27b40309116f8ab4263ee990e606b970f6a5b8c"), looks := false }, kinds := [], alts := [], laidByText := true, laidKinds := [.data, .funcs], laidTests := true, laidLooks := .later }
def EventsAroundUptoCardSaid : Prop := Claim7.holds Tryd.pinned (.plain (OpenSpec.upto eventsAroundSpec)) eventsAroundUptoCard

/-- THE SECOND FORM's CARD OF 'analemmalaw17.EventsStd'. -/
def eventsStdUptoCard : Claim7 := { stood := { row := eventsStdUptoRow, standIns := [], harness := (true, "6e5a1af9129509d956d7a324d27b40309116f8ab4263ee990e606b970f6a5b8c"), looks := false }, kinds := [], alts := [], laidByText := true, laidKinds := [.data, .funcs], laidTests := true, laidLooks := .later }
def EventsStdUptoCardSaid : Prop := Claim7.holds Tryd.pinned (.plain (OpenSpec.upto eventsStdSpec)) eventsStdUptoCard

/-- THE SECOND FORM's CARD OF 'analemmalaw17.EventsRefuses'. -/
def eventsRefusesUptoCard : Claim7 := { stood := { row := eventsRefusesUptoRow, standIns := [], harness := (true, "6e5a1af9129509d956d7a324d27b40309116f8ab4263ee990e606b970f6a5b8c"), looks := false }, kinds := [], alts := [], laidByText := true, laidKinds := [.data, .funcs], laidTests := true, laidLooks := .later }
def EventsRefusesUptoCardSaid : Prop := Claim7.holds Tryd.pinned (.plain (OpenSpec.upto eventsRefusesSpec)) eventsRefusesUptoCard

/-- THE SECOND FORM's CARD OF 'analemmalaw17.EventsLists'. -/
def eventsListsUptoCard : Claim7 := { stood := { row := eventsListsUptoRow, standIns := [], harness := (true, "6e5a1af9129509d956d7a324d27b40309116f8ab4263ee990e606b970f6a5b8c"), looks := false }, kinds := [], alts := [], laidByText := true, laidKinds := [.data, .funcs], laidTests := true, laidLooks := .later }
def EventsListsUptoCardSaid : Prop := Claim7.holds Tryd.pinned (.plain (OpenSpec.upto eventsListsSpec)) eventsListsUptoCard

/-- THE SECOND FORM's CARD OF 'analemmalaw17.EventsSteps'. -/
def eventsStepsUptoCard : Claim7 := { stood := { row := eventsStepsUptoRow, standIns := [], harness := (true, "6e5a1af9129509d956d7a324d27b40309116f8ab4263ee990e606b970f6a5b8c"), looks := false }, kinds := [], alts := [], laidByText := true, laidKinds := [.data, .funcs], laidTests := true, laidLooks := .later }
def EventsStepsUptoCardSaid : Prop := Claim7.holds Tryd.pinned (.plain (OpenSpec.upto eventsStepsSpec)) eventsStepsUptoCard
end Rows
end Go.Proofs.YtpimibchameakaaDoor
