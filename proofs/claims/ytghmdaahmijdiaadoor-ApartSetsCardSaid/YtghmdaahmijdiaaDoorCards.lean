/-
  DERIVED. GIVEN WITH THE SEED: THE CARDS: each row of YtghmdaahmijdiaaDoorRows.lean that lists a variable, with what it lists TIED to the program's text (the seventh form; the later family's looks); each row that meets fmt, with fmt's text TOLD by the authors' own Lean function (tested against real Go, not proved from fmt's source: count such statements apart). THE CARD IS WHAT COUNTS. Prove the row's statement (the work); the ties are given (YtghmdaahmijdiaaDoorTie.lean); close each card by the builder's one call (the guide's Derived/Test/ToyasCard.lean, 'card_holds'). Laid BY PROGRAM, IN A SANDBOX (cutbox-door.mjs). By AI agents, Wed Nov 11 2026. No macro, syntax, notation, axiom, sorry.
-/
import Derived.Test.YtghmdaahmijdiaaDoorRows
import GoSem.ClaimSeven
namespace Go.Proofs.YtghmdaahmijdiaaDoor
namespace Rows

/-- THE TIED CARD OF 'analemmalaw18.ApartChecks'. -/
def apartChecksCard : Claim7 := { stood := { row := apartChecksRow, standIns := [], harness := (true, "33a6967df030bae97879bda6237a2319e8bc2ed6ed805d3b1aa854da9cf59774"), looks := false }, kinds := [], alts := [], laidByText := true, laidKinds := [.data, .funcs], laidTests := true, laidLooks := .later }
def ApartChecksCardSaid : Prop := Claim7.holds Tryd.pinned (.plain (OpenSpec.ofChange apartChecksSpec)) apartChecksCard

/-- THE TIED CARD OF 'analemmalaw18.ApartFars'. -/
def apartFarsCard : Claim7 := { stood := { row := apartFarsRow, standIns := [], harness := (true, "33a6967df030bae97879bda6237a2319e8bc2ed6ed805d3b1aa854da9cf59774"), looks := false }, kinds := [], alts := [], laidByText := true, laidKinds := [.data, .funcs], laidTests := true, laidLooks := .later }
def ApartFarsCardSaid : Prop := Claim7.holds Tryd.pinned (.plain (OpenSpec.ofChange apartFarsSpec)) apartFarsCard

/-- THE TIED CARD OF 'analemmalaw18.ApartSets'. -/
def apartSetsCard : Claim7 := { stood := { row := apartSetsRow, standIns := [], harness := (true, "33a6967df030bae97879bda6237a2319e8bc2ed6ed805d3b1aa854da9cf59774"), looks := false }, kinds := [], alts := [], laidByText := true, laidKinds := [.data, .funcs], laidTests := true, laidLooks := .later }
def ApartSetsCardSaid : Prop := Claim7.holds Tryd.pinned (.plain (OpenSpec.ofChange apartSetsSpec)) apartSetsCard

/-- THE TIED CARD OF 'analemmalaw18.ApartCycle'. -/
def apartCycleCard : Claim7 := { stood := { row := apartCycleRow, standIns := [], harness := (true, "33a6967df030bae97879bda6237a2319e8bc2ed6ed805d3b1aa854da9cf59774"), looks := false }, kinds := [], alts := [], laidByText := true, laidKinds := [.data, .funcs], laidTests := true, laidLooks := .later }
def ApartCycleCardSaid : Prop := Claim7.holds Tryd.pinned (.plain (OpenSpec.ofChange apartCycleSpec)) apartCycleCard

/-- THE TIED CARD OF 'analemmalaw18.ApartMoved'. -/
def apartMovedCard : Claim7 := { stood := { row := apartMovedRow, standIns := [], harness := (true, "33a6967df030bae97879bda6237a2319e8bc2ed6ed805d3b1aa854da9cf59774"), looks := false }, kinds := [], alts := [], laidByText := true, laidKinds := [.data, .funcs], laidTests := true, laidLooks := .later }
def ApartMovedCardSaid : Prop := Claim7.holds Tryd.pinned (.plain (OpenSpec.ofChange apartMovedSpec)) apartMovedCard

/-- THE TIED CARD OF 'analemmalaw18.ApartMore'. -/
def apartMoreCard : Claim7 := { stood := { row := apartMoreRow, standIns := [], harness := (true, "33a6967df030bae97879bda6237a2319e8bc2ed6ed805d3b1aa854da9cf59774"), looks := false }, kinds := [], alts := [], laidByText := true, laidKinds := [.data, .funcs], laidTests := true, laidLooks := .later }
def ApartMoreCardSaid : Prop := Claim7.holds Tryd.pinned (.plain (OpenSpec.ofChange apartMoreSpec)) apartMoreCard

/-- THE TIED CARD OF 'analemmalaw18.ApartNear'. -/
def apartNearCard : Claim7 := { stood := { row := apartNearRow, standIns := [], harness := (true, "33a6967df030bae97879bda6237a2319e8bc2ed6ed805d3b1aa854da9cf59774"), looks := false }, kinds := [], alts := [], laidByText := true, laidKinds := [.data, .funcs], laidTests := true, laidLooks := .later }
def ApartNearCardSaid : Prop := Claim7.holds Tryd.pinned (.plain (OpenSpec.ofChange apartNearSpec)) apartNearCard

/-- THE SECOND FORM's CARD OF 'analemmalaw18.ApartChecks'. -/
def apartChecksUptoCard : Claim7 := { stood := { row := apartChecksUptoRow, standIns := [], harness := (true, "33a6967df030bae97879bda6237a2319e8bc2ed6ed805d3b1aa854da9cf59774"), looks := false }, kinds := [], alts := [], laidByText := true, laidKinds := [.data, .funcs], laidTests := true, laidLooks := .later }
def ApartChecksUptoCardSaid : Prop := Claim7.holds Tryd.pinned (.plain (OpenSpec.upto apartChecksSpec)) apartChecksUptoCard

/-- THE SECOND FORM's CARD OF 'analemmalaw18.ApartFars'. -/
def apartFarsUptoCard : Claim7 := { stood := { row := apartFarsUptoRow, standIns := [], harness := (true, "33a6967df030bae97879bda6237a2319e8bc2ed6ed805d3b1aa854da9cf59774"), looks := false }, kinds := [], alts := [], laidByText := true, laidKinds := [.data, .funcs], laidTests := true, laidLooks := .later }
def ApartFarsUptoCardSaid : Prop := Claim7.holds Tryd.pinned (.plain (OpenSpec.upto apartFarsSpec)) apartFarsUptoCard

/-- THE SECOND FORM's CARD OF 'analemmalaw18.ApartSets'. -/
def apartSetsUptoCard : Claim7 := { stood := { row := apartSetsUptoRow, standIns := [], harness := (true, "33a6967df030bae97879bda6237a2319e8bc2ed6ed805d3b1aa854da9cf59774"), looks := false }, kinds := [], alts := [], laidByText := true, laidKinds := [.data, .funcs], laidTests := true, laidLooks := .later }
def ApartSetsUptoCardSaid : Prop := Claim7.holds Tryd.pinned (.plain (OpenSpec.upto apartSetsSpec)) apartSetsUptoCard

/-- THE SECOND FORM's CARD OF 'analemmalaw18.ApartCycle'. -/
def apartCycleUptoCard : Claim7 := { stood := { row := apartCycleUptoRow, standIns := [], harness := (true, "33a6967df030bae97879bda6237a2319e8bc2ed6ed805d3b1aa854da9cf59774"), looks := false }, kinds := [], alts := [], laidByText := true, laidKinds := [.data, .funcs], laidTests := true, laidLooks := .later }
def ApartCycleUptoCardSaid : Prop := Claim7.holds Tryd.pinned (.plain (OpenSpec.upto apartCycleSpec)) apartCycleUptoCard

/-- THE SECOND FORM's CARD OF 'analemmalaw18.ApartMoved'. -/
def apartMovedUptoCard : Claim7 := { stood := { row := apartMovedUptoRow, standIns := [], harness := (true, "33a6967df030bae97879bda6237a2319e8bc2ed6ed805d3b1aa854da9cf59774"), looks := false }, kinds := [], alts := [], laidByText := true, laidKinds := [.data, .funcs], laidTests := true, laidLooks := .later }
def ApartMovedUptoCardSaid : Prop := Claim7.holds Tryd.pinned (.plain (OpenSpec.upto apartMovedSpec)) apartMovedUptoCard

/-- THE SECOND FORM's CARD OF 'analemmalaw18.ApartMore'. -/
def apartMoreUptoCard : Claim7 := { stood := { row := apartMoreUptoRow, standIns := [], harness := (true, "33a6967df030bae97879bda6237a2319e8bc2ed6ed805d3b1aa854da9cf59774"), looks := false }, kinds := [], alts := [], laidByText := true, laidKinds := [.data, .funcs], laidTests := true, laidLooks := .later }
def ApartMoreUptoCardSaid : Prop := Claim7.holds Tryd.pinned (.plain (OpenSpec.upto apartMoreSpec)) apartMoreUptoCard

/-- THE SECOND FORM's CARD OF 'analemmalaw18.ApartNear'. -/
def apartNearUptoCard : Claim7 := { stood := { row := apartNearUptoRow, standIns := [], harness := (true, "33a6967df030bae97879bda6237a2319e8bc2ed6ed805d3b1aa854da9cf59774"), looks := false }, kinds := [], alts := [], laidByText := true, laidKinds := [.data, .funcs], laidTests := true, laidLooks := .later }
def ApartNearUptoCardSaid : Prop := Claim7.holds Tryd.pinned (.plain (OpenSpec.upto apartNearSpec)) apartNearUptoCard
end Rows
end Go.Proofs.YtghmdaahmijdiaaDoor
