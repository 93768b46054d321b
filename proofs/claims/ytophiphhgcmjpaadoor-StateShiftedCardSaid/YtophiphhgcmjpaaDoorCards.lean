/-
  DERIVED. GIVEN WITH THE SEED: THE CARDS: each row of YtophiphhgcmjpaaDoorRows.lean that lists a variable, with what it lists TIED to the program's text (the seventh form; the later family's looks); each row that meets fmt, with fmt's text TOLD by the authors' own Lean function (tested against real Go, not proved from fmt's source: count such statements apart). THE CARD IS WHAT COUNTS. Prove the row's statement (the work); the ties are given (YtophiphhgcmjpaaDoorTie.lean); close each card by the builder's one call (the guide's Derived/Test/ToyasCard.lean, 'card_holds'). Laid BY PROGRAM, IN A SANDBOX (cutbox-door.mjs). By AI agents, Wed Nov 11 2026. No macro, syntax, notation, axiom, sorry.
-/
import Derived.Test.YtophiphhgcmjpaaDoorRows
import GoSem.ClaimSeven
namespace Go.Proofs.YtophiphhgcmjpaaDoor
namespace Rows

/-- THE TIED CARD OF 'analemmalaw19.StateInitial'. -/
def stateInitialCard : Claim7 := { stood := { row := stateInitialRow, standIns := [], harness := (true, "b108c2795a2baa53319fe9aafda2fbd9568938f4e8eb9f1d96f002351e0b949f"), looks := false }, kinds := [], alts := [], laidByText := true, laidKinds := [.data, .funcs], laidTests := true, laidLooks := .later }
def StateInitialCardSaid : Prop := Claim7.holds Tryd.pinned (.plain (OpenSpec.ofChange stateInitialSpec)) stateInitialCard

/-- THE TIED CARD OF 'analemmalaw19.StateShifted'. -/
def stateShiftedCard : Claim7 := { stood := { row := stateShiftedRow, standIns := [], harness := (true, "b108c2795a2baa53319fe9aafda2fbd9568938f4e8eb9f1d96f002351e0b949f"), looks := false }, kinds := [], alts := [], laidByText := true, laidKinds := [.data, .funcs], laidTests := true, laidLooks := .later }
def StateShiftedCardSaid : Prop := Claim7.holds Tryd.pinned (.plain (OpenSpec.ofChange stateShiftedSpec)) stateShiftedCard

/-- THE TIED CARD OF 'analemmalaw19.StateBetween'. -/
def stateBetweenCard : Claim7 := { stood := { row := stateBetweenRow, standIns := [], harness := (true, "b108c2795a2baa53319fe9aafda2fbd9568938f4e8eb9f1d96f002351e0b949f"), looks := false }, kinds := [], alts := [], laidByText := true, laidKinds := [.data, .funcs], laidTests := true, laidLooks := .later }
def StateBetweenCardSaid : Prop := Claim7.holds Tryd.pinned (.plain (OpenSpec.ofChange stateBetweenSpec)) stateBetweenCard

/-- THE TIED CARD OF 'analemmalaw19.StateAfter'. -/
def stateAfterCard : Claim7 := { stood := { row := stateAfterRow, standIns := [], harness := (true, "b108c2795a2baa53319fe9aafda2fbd9568938f4e8eb9f1d96f002351e0b949f"), looks := false }, kinds := [], alts := [], laidByText := true, laidKinds := [.data, .funcs], laidTests := true, laidLooks := .later }
def StateAfterCardSaid : Prop := Claim7.holds Tryd.pinned (.plain (OpenSpec.ofChange stateAfterSpec)) stateAfterCard

/-- THE SECOND FORM's CARD OF 'analemmalaw19.StateInitial'. -/
def stateInitialUptoCard : Claim7 := { stood := { row := stateInitialUptoRow, standIns := [], harness := (true, "b108c2795a2baa53319fe9aafda2fbd9568938f4e8eb9f1d96f002351e0b949f"), looks := false }, kinds := [], alts := [], laidByText := true, laidKinds := [.data, .funcs], laidTests := true, laidLooks := .later }
def StateInitialUptoCardSaid : Prop := Claim7.holds Tryd.pinned (.plain (OpenSpec.upto stateInitialSpec)) stateInitialUptoCard

/-- THE SECOND FORM's CARD OF 'analemmalaw19.StateShifted'. -/
def stateShiftedUptoCard : Claim7 := { stood := { row := stateShiftedUptoRow, standIns := [], harness := (true, "b108c2795a2baa53319fe9aafda2fbd9568938f4e8eb9f1d96f002351e0b949f"), looks := false }, kinds := [], alts := [], laidByText := true, laidKinds := [.data, .funcs], laidTests := true, laidLooks := .later }
def StateShiftedUptoCardSaid : Prop := Claim7.holds Tryd.pinned (.plain (OpenSpec.upto stateShiftedSpec)) stateShiftedUptoCard

/-- THE SECOND FORM's CARD OF 'analemmalaw19.StateBetween'. -/
def stateBetweenUptoCard : Claim7 := { stood := { row := stateBetweenUptoRow, standIns := [], harness := (true, "b108c2795a2baa53319fe9aafda2fbd9568938f4e8eb9f1d96f002351e0b949f"), looks := false }, kinds := [], alts := [], laidByText := true, laidKinds := [.data, .funcs], laidTests := true, laidLooks := .later }
def StateBetweenUptoCardSaid : Prop := Claim7.holds Tryd.pinned (.plain (OpenSpec.upto stateBetweenSpec)) stateBetweenUptoCard

/-- THE SECOND FORM's CARD OF 'analemmalaw19.StateAfter'. -/
def stateAfterUptoCard : Claim7 := { stood := { row := stateAfterUptoRow, standIns := [], harness := (true, "b108c2795a2baa53319fe9aafda2fbd9568938f4e8eb9f1d96f002351e0b949f"), looks := false }, kinds := [], alts := [], laidByText := true, laidKinds := [.data, .funcs], laidTests := true, laidLooks := .later }
def StateAfterUptoCardSaid : Prop := Claim7.holds Tryd.pinned (.plain (OpenSpec.upto stateAfterSpec)) stateAfterUptoCard
end Rows
end Go.Proofs.YtophiphhgcmjpaaDoor
