/-
  DERIVED. GIVEN WITH THE SEED: THE CARDS: each row of YthppldacadehiaaDoorRows.lean that lists a variable, with what it lists TIED to the program's text (the seventh form; the later family's looks); each row that meets fmt, with fmt's text TOLD by the authors' own Lean function (tested against real Go, not proved from fmt's source: count such statements apart). THE CARD IS WHAT COUNTS. Prove the row's statement (the work); the ties are given (YthppldacadehiaaDoorTie.lean); close each card by the builder's one call (the guide's Derived/Test/ToyasCard.lean, 'card_holds'). Laid BY PROGRAM, IN A SANDBOX (cutbox-door.mjs). By AI agents, Wed Nov 11 2026. No macro, syntax, notation, axiom, sorry.
-/
import Derived.Test.YthppldacadehiaaDoorRows
import GoSem.ClaimSeven
namespace Go.Proofs.YthppldacadehiaaDoor
namespace Rows

/-- THE TIED CARD OF 'analemmalaw01.CivilDates'. -/
def civilDatesCard : Claim7 := { stood := { row := civilDatesRow, standIns := [], harness := (true, "c0f023ee4ee6bc9ece697e191730cd8a5bedcbe788dcfd6f6b1a50d60614917f"), looks := false }, kinds := [], alts := [], laidByText := true, laidKinds := [.data], laidTests := true, laidLooks := .later }
def CivilDatesCardSaid : Prop := Claim7.holds Tryd.pinned (.plain (OpenSpec.ofChange civilDatesSpec)) civilDatesCard

/-- THE TIED CARD OF 'analemmalaw01.CivilDays'. -/
def civilDaysCard : Claim7 := { stood := { row := civilDaysRow, standIns := [], harness := (true, "c0f023ee4ee6bc9ece697e191730cd8a5bedcbe788dcfd6f6b1a50d60614917f"), looks := false }, kinds := [], alts := [], laidByText := true, laidKinds := [.data], laidTests := true, laidLooks := .later }
def CivilDaysCardSaid : Prop := Claim7.holds Tryd.pinned (.plain (OpenSpec.ofChange civilDaysSpec)) civilDaysCard

/-- THE TIED CARD OF 'analemmalaw01.CivilBack'. -/
def civilBackCard : Claim7 := { stood := { row := civilBackRow, standIns := [], harness := (true, "c0f023ee4ee6bc9ece697e191730cd8a5bedcbe788dcfd6f6b1a50d60614917f"), looks := false }, kinds := [], alts := [], laidByText := true, laidKinds := [.data], laidTests := true, laidLooks := .later }
def CivilBackCardSaid : Prop := Claim7.holds Tryd.pinned (.plain (OpenSpec.ofChange civilBackSpec)) civilBackCard

/-- THE TIED CARD OF 'analemmalaw01.CivilNext'. -/
def civilNextCard : Claim7 := { stood := { row := civilNextRow, standIns := [], harness := (true, "c0f023ee4ee6bc9ece697e191730cd8a5bedcbe788dcfd6f6b1a50d60614917f"), looks := false }, kinds := [], alts := [], laidByText := true, laidKinds := [.data], laidTests := true, laidLooks := .later }
def CivilNextCardSaid : Prop := Claim7.holds Tryd.pinned (.plain (OpenSpec.ofChange civilNextSpec)) civilNextCard

/-- THE TIED CARD OF 'analemmalaw01.CivilCycles'. -/
def civilCyclesCard : Claim7 := { stood := { row := civilCyclesRow, standIns := [], harness := (true, "c0f023ee4ee6bc9ece697e191730cd8a5bedcbe788dcfd6f6b1a50d60614917f"), looks := false }, kinds := [], alts := [], laidByText := true, laidKinds := [.data], laidTests := true, laidLooks := .later }
def CivilCyclesCardSaid : Prop := Claim7.holds Tryd.pinned (.plain (OpenSpec.ofChange civilCyclesSpec)) civilCyclesCard

/-- THE TIED CARD OF 'analemmalaw01.CivilOrder'. -/
def civilOrderCard : Claim7 := { stood := { row := civilOrderRow, standIns := [], harness := (true, "c0f023ee4ee6bc9ece697e191730cd8a5bedcbe788dcfd6f6b1a50d60614917f"), looks := false }, kinds := [], alts := [], laidByText := true, laidKinds := [.data], laidTests := true, laidLooks := .later }
def CivilOrderCardSaid : Prop := Claim7.holds Tryd.pinned (.plain (OpenSpec.ofChange civilOrderSpec)) civilOrderCard

/-- THE TIED CARD OF 'analemmalaw01.CivilSeconds'. -/
def civilSecondsCard : Claim7 := { stood := { row := civilSecondsRow, standIns := [], harness := (true, "c0f023ee4ee6bc9ece697e191730cd8a5bedcbe788dcfd6f6b1a50d60614917f"), looks := false }, kinds := [], alts := [], laidByText := true, laidKinds := [.data], laidTests := true, laidLooks := .later }
def CivilSecondsCardSaid : Prop := Claim7.holds Tryd.pinned (.plain (OpenSpec.ofChange civilSecondsSpec)) civilSecondsCard

/-- THE TIED CARD OF 'analemmalaw01.CivilRefuses'. -/
def civilRefusesCard : Claim7 := { stood := { row := civilRefusesRow, standIns := [], harness := (true, "c0f023ee4ee6bc9ece697e191730cd8a5bedcbe788dcfd6f6b1a50d60614917f"), looks := false }, kinds := [], alts := [], laidByText := true, laidKinds := [.data], laidTests := true, laidLooks := .later }
def CivilRefusesCardSaid : Prop := Claim7.holds Tryd.pinned (.plain (OpenSpec.ofChange civilRefusesSpec)) civilRefusesCard

/-- THE SECOND FORM's CARD OF 'analemmalaw01.CivilDates'. -/
def civilDatesUptoCard : Claim7 := { stood := { row := civilDatesUptoRow, standIns := [], harness := (true, "c0f023ee4ee6bc9ece697e191730cd8a5bedcbe788dcfd6f6b1a50d60614917f"), looks := false }, kinds := [], alts := [], laidByText := true, laidKinds := [.data], laidTests := true, laidLooks := .later }
def CivilDatesUptoCardSaid : Prop := Claim7.holds Tryd.pinned (.plain (OpenSpec.upto civilDatesSpec)) civilDatesUptoCard

/-- THE SECOND FORM's CARD OF 'analemmalaw01.CivilDays'. -/
def civilDaysUptoCard : Claim7 := { stood := { row := civilDaysUptoRow, standIns := [], harness := (true, "c0f023ee4ee6bc9ece697e191730cd8a5bedcbe788dcfd6f6b1a50d60614917f"), looks := false }, kinds := [], alts := [], laidByText := true, laidKinds := [.data], laidTests := true, laidLooks := .later }
def CivilDaysUptoCardSaid : Prop := Claim7.holds Tryd.pinned (.plain (OpenSpec.upto civilDaysSpec)) civilDaysUptoCard

/-- THE SECOND FORM's CARD OF 'analemmalaw01.CivilBack'. -/
def civilBackUptoCard : Claim7 := { stood := { row := civilBackUptoRow, standIns := [], harness := (true, "c0f023ee4ee6bc9ece697e191730cd8a5bedcbe788dcfd6f6b1a50d60614917f"), looks := false }, kinds := [], alts := [], laidByText := true, laidKinds := [.data], laidTests := true, laidLooks := .later }
def CivilBackUptoCardSaid : Prop := Claim7.holds Tryd.pinned (.plain (OpenSpec.upto civilBackSpec)) civilBackUptoCard

/-- THE SECOND FORM's CARD OF 'analemmalaw01.CivilNext'. -/
def civilNextUptoCard : Claim7 := { stood := { row := civilNextUptoRow, standIns := [], harness := (true, "c0f023ee4ee6bc9ece697e191730cd8a5bedcbe788dcfd6f6b1a50d60614917f"), looks := false }, kinds := [], alts := [], laidByText := true, laidKinds := [.data], laidTests := true, laidLooks := .later }
def CivilNextUptoCardSaid : Prop := Claim7.holds Tryd.pinned (.plain (OpenSpec.upto civilNextSpec)) civilNextUptoCard

/-- THE SECOND FORM's CARD OF 'analemmalaw01.CivilCycles'. -/
def civilCyclesUptoCard : Claim7 := { stood := { row := civilCyclesUptoRow, standIns := [], harness := (true, "c0f023ee4ee6bc9ece697e191730cd8a5bedcbe788dcfd6f6b1a50d60614917f"), looks := false }, kinds := [], alts := [], laidByText := true, laidKinds := [.data], laidTests := true, laidLooks := .later }
def CivilCyclesUptoCardSaid : Prop := Claim7.holds Tryd.pinned (.plain (OpenSpec.upto civilCyclesSpec)) civilCyclesUptoCard

/-- THE SECOND FORM's CARD OF 'analemmalaw01.CivilOrder'. -/
def civilOrderUptoCard : Claim7 := { stood := { row := civilOrderUptoRow, standIns := [], harness := (true, "c0f023ee4ee6bc9ece697e191730cd8a5bedcbe788dcfd6f6b1a50d60614917f"), looks := false }, kinds := [], alts := [], laidByText := true, laidKinds := [.data], laidTests := true, laidLooks := .later }
def CivilOrderUptoCardSaid : Prop := Claim7.holds Tryd.pinned (.plain (OpenSpec.upto civilOrderSpec)) civilOrderUptoCard

/-- THE SECOND FORM's CARD OF 'analemmalaw01.CivilSeconds'. -/
def civilSecondsUptoCard : Claim7 := { stood := { row := civilSecondsUptoRow, standIns := [], harness := (true, "c0f023ee4ee6bc9ece697e191730cd8a5bedcbe788dcfd6f6b1a50d60614917f"), looks := false }, kinds := [], alts := [], laidByText := true, laidKinds := [.data], laidTests := true, laidLooks := .later }
def CivilSecondsUptoCardSaid : Prop := Claim7.holds Tryd.pinned (.plain (OpenSpec.upto civilSecondsSpec)) civilSecondsUptoCard

/-- THE SECOND FORM's CARD OF 'analemmalaw01.CivilRefuses'. -/
def civilRefusesUptoCard : Claim7 := { stood := { row := civilRefusesUptoRow, standIns := [], harness := (true, "c0f023ee4ee6bc9ece697e191730cd8a5bedcbe788dcfd6f6b1a50d60614917f"), looks := false }, kinds := [], alts := [], laidByText := true, laidKinds := [.data], laidTests := true, laidLooks := .later }
def CivilRefusesUptoCardSaid : Prop := Claim7.holds Tryd.pinned (.plain (OpenSpec.upto civilRefusesSpec)) civilRefusesUptoCard
end Rows
end Go.Proofs.YthppldacadehiaaDoor
