/-
  DERIVED. GIVEN WITH THE SEED: THE CARDS: each row of YtieoogllghmeeaaDoorRows.lean that lists a variable, with what it lists TIED to the program's text (the seventh form; the later family's looks); each row that meets fmt, with fmt's text TOLD by the authors' own Lean function (tested against real Go, not proved from fmt's source: count such statements apart). THE CARD IS WHAT COUNTS. Prove the row's statement (the work); the ties are given (YtieoogllghmeeaaDoorTie.lean); close each card by the builder's one call (the guide's Derived/Test/ToyasCard.lean, 'card_holds'). Laid BY PROGRAM, IN A SANDBOX (cutbox-door.mjs). By AI agents, Wed Nov 11 2026. No macro, syntax, notation, axiom, sorry.
-/
import Derived.Test.YtieoogllghmeeaaDoorRows
import GoSem.ClaimSeven
namespace Go.Proofs.YtieoogllghmeeaaDoor
namespace Rows

/-- THE TIED CARD OF 'analemmalaw02.DayformDays'. -/
def dayformDaysCard : Claim7 := { stood := { row := dayformDaysRow, standIns := [], harness := (true, "741cef1a9e9089bc8787b28bb7b4b96243a2be882418702f972f1ac6ab8dc59f"), looks := false }, kinds := [], alts := [], laidByText := true, laidKinds := [.data, .funcs], laidTests := true, laidLooks := .later }
def DayformDaysCardSaid : Prop := Claim7.holds Tryd.pinned (.plain (OpenSpec.ofChange dayformDaysSpec)) dayformDaysCard

/-- THE TIED CARD OF 'analemmalaw02.DayformAlways'. -/
def dayformAlwaysCard : Claim7 := { stood := { row := dayformAlwaysRow, standIns := [], harness := (true, "741cef1a9e9089bc8787b28bb7b4b96243a2be882418702f972f1ac6ab8dc59f"), looks := false }, kinds := [], alts := [], laidByText := true, laidKinds := [.data, .funcs], laidTests := true, laidLooks := .later }
def DayformAlwaysCardSaid : Prop := Claim7.holds Tryd.pinned (.plain (OpenSpec.ofChange dayformAlwaysSpec)) dayformAlwaysCard

/-- THE TIED CARD OF 'analemmalaw02.DayformWeekdays'. -/
def dayformWeekdaysCard : Claim7 := { stood := { row := dayformWeekdaysRow, standIns := [], harness := (true, "741cef1a9e9089bc8787b28bb7b4b96243a2be882418702f972f1ac6ab8dc59f"), looks := false }, kinds := [], alts := [], laidByText := true, laidKinds := [.data, .funcs], laidTests := true, laidLooks := .later }
def DayformWeekdaysCardSaid : Prop := Claim7.holds Tryd.pinned (.plain (OpenSpec.ofChange dayformWeekdaysSpec)) dayformWeekdaysCard

/-- THE TIED CARD OF 'analemmalaw02.DayformEach'. -/
def dayformEachCard : Claim7 := { stood := { row := dayformEachRow, standIns := [], harness := (true, "741cef1a9e9089bc8787b28bb7b4b96243a2be882418702f972f1ac6ab8dc59f"), looks := false }, kinds := [], alts := [], laidByText := true, laidKinds := [.data, .funcs], laidTests := true, laidLooks := .later }
def DayformEachCardSaid : Prop := Claim7.holds Tryd.pinned (.plain (OpenSpec.ofChange dayformEachSpec)) dayformEachCard

/-- THE TIED CARD OF 'analemmalaw02.DayformWeeks'. -/
def dayformWeeksCard : Claim7 := { stood := { row := dayformWeeksRow, standIns := [], harness := (true, "741cef1a9e9089bc8787b28bb7b4b96243a2be882418702f972f1ac6ab8dc59f"), looks := false }, kinds := [], alts := [], laidByText := true, laidKinds := [.data, .funcs], laidTests := true, laidLooks := .later }
def DayformWeeksCardSaid : Prop := Claim7.holds Tryd.pinned (.plain (OpenSpec.ofChange dayformWeeksSpec)) dayformWeeksCard

/-- THE TIED CARD OF 'analemmalaw02.DayformRefuses'. -/
def dayformRefusesCard : Claim7 := { stood := { row := dayformRefusesRow, standIns := [], harness := (true, "741cef1a9e9089bc8787b28bb7b4b96243a2be882418702f972f1ac6ab8dc59f"), looks := false }, kinds := [], alts := [], laidByText := true, laidKinds := [.data, .funcs], laidTests := true, laidLooks := .later }
def DayformRefusesCardSaid : Prop := Claim7.holds Tryd.pinned (.plain (OpenSpec.ofChange dayformRefusesSpec)) dayformRefusesCard

/-- THE SECOND FORM's CARD OF 'analemmalaw02.DayformDays'. -/
def dayformDaysUptoCard : Claim7 := { stood := { row := dayformDaysUptoRow, standIns := [], harness := (true, "741cef1a9e9089bc8787b28bb7b4b96243a2be882418702f972f1ac6ab8dc59f"), looks := false }, kinds := [], alts := [], laidByText := true, laidKinds := [.data, .funcs], laidTests := true, laidLooks := .later }
def DayformDaysUptoCardSaid : Prop := Claim7.holds Tryd.pinned (.plain (OpenSpec.upto dayformDaysSpec)) dayformDaysUptoCard

/-- THE SECOND FORM's CARD OF 'analemmalaw02.DayformAlways'. -/
def dayformAlwaysUptoCard : Claim7 := { stood := { row := dayformAlwaysUptoRow, standIns := [], harness := (true, "741cef1a9e9089bc8787b28bb7b4b96243a2be882418702f972f1ac6ab8dc59f"), looks := false }, kinds := [], alts := [], laidByText := true, laidKinds := [.data, .funcs], laidTests := true, laidLooks := .later }
def DayformAlwaysUptoCardSaid : Prop := Claim7.holds Tryd.pinned (.plain (OpenSpec.upto dayformAlwaysSpec)) dayformAlwaysUptoCard

/-- THE SECOND FORM's CARD OF 'analemmalaw02.DayformWeekdays'. -/
def dayformWeekdaysUptoCard : Claim7 := { stood := { row := dayformWeekdaysUptoRow, standIns := [], harness := (true, "741cef1a9e9089bc8787b28bb7b4b96243a2be882418702f972f1ac6ab8dc59f"), looks := false }, kinds := [], alts := [], laidByText := true, laidKinds := [.data, .funcs], laidTests := true, laidLooks := .later }
def DayformWeekdaysUptoCardSaid : Prop := Claim7.holds Tryd.pinned (.plain (OpenSpec.upto dayformWeekdaysSpec)) dayformWeekdaysUptoCard

/-- THE SECOND FORM's CARD OF 'analemmalaw02.DayformEach'. -/
def dayformEachUptoCard : Claim7 := { stood := { row := dayformEachUptoRow, standIns := [], harness := (true, "741cef1a9e9089bc8787b28bb7b4b96243a2be882418702f972f1ac6ab8dc59f"), looks := false }, kinds := [], alts := [], laidByText := true, laidKinds := [.data, .funcs], laidTests := true, laidLooks := .later }
def DayformEachUptoCardSaid : Prop := Claim7.holds Tryd.pinned (.plain (OpenSpec.upto dayformEachSpec)) dayformEachUptoCard

/-- THE SECOND FORM's CARD OF 'analemmalaw02.DayformWeeks'. -/
def dayformWeeksUptoCard : Claim7 := { stood := { row := dayformWeeksUptoRow, standIns := [], harness := (true, "741cef1a9e9089bc8787b28bb7b4b96243a2be882418702f972f1ac6ab8dc59f"), looks := false }, kinds := [], alts := [], laidByText := true, laidKinds := [.data, .funcs], laidTests := true, laidLooks := .later }
def DayformWeeksUptoCardSaid : Prop := Claim7.holds Tryd.pinned (.plain (OpenSpec.upto dayformWeeksSpec)) dayformWeeksUptoCard

/-- THE SECOND FORM's CARD OF 'analemmalaw02.DayformRefuses'. -/
def dayformRefusesUptoCard : Claim7 := { stood := { row := dayformRefusesUptoRow, standIns := [], harness := (true, "741cef1a9e9089bc8787b28bb7b4b96243a2be882418702f972f1ac6ab8dc59f"), looks := false }, kinds := [], alts := [], laidByText := true, laidKinds := [.data, .funcs], laidTests := true, laidLooks := .later }
def DayformRefusesUptoCardSaid : Prop := Claim7.holds Tryd.pinned (.plain (OpenSpec.upto dayformRefusesSpec)) dayformRefusesUptoCard
end Rows
end Go.Proofs.YtieoogllghmeeaaDoor
