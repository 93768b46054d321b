/-
  DERIVED. GIVEN WITH THE SEED: THE CARDS: each row of YtdppmeeobpbfnaaDoorRows.lean that lists a variable, with what it lists TIED to the program's text (the seventh form; the later family's looks); each row that meets fmt, with fmt's text TOLD by the authors' own Lean function (tested against real Go, not proved from fmt's source: count such statements apart). THE CARD IS WHAT COUNTS. Prove the row's statement (the work); the ties are given (YtdppmeeobpbfnaaDoorTie.lean); close each card by the builder's one call (the guide's Derived/Test/ToyasCard.lean, 'card_holds'). Laid BY PROGRAM, IN A SANDBOX (cutbox-door.mjs). By AI agents, Wed Nov 11 2026. No macro, syntax, notation, axiom, sorry.
-/
import Derived.Test.YtdppmeeobpbfnaaDoorRows
import GoSem.ClaimSeven
namespace Go.Proofs.YtdppmeeobpbfnaaDoor
namespace Rows

/-- THE TIED CARD OF 'analemmalaw23.ErasFind'. -/
def erasFindCard : Claim7 := { stood := { row := erasFindRow, standIns := [], harness := (true, "a097439120616b9eb772fac55eb6d1c247bd6d90b6c31ec9057ebb8a13c5e724"), looks := false }, kinds := [], alts := [], laidByText := true, laidKinds := [.data, .funcs], laidTests := true, laidLooks := .later }
def ErasFindCardSaid : Prop := Claim7.holds Tryd.pinned (.plain (OpenSpec.ofChange erasFindSpec)) erasFindCard

/-- THE TIED CARD OF 'analemmalaw23.ErasWhole'. -/
def erasWholeCard : Claim7 := { stood := { row := erasWholeRow, standIns := [], harness := (true, "a097439120616b9eb772fac55eb6d1c247bd6d90b6c31ec9057ebb8a13c5e724"), looks := false }, kinds := [], alts := [], laidByText := true, laidKinds := [.data, .data, .data, .data, .funcs], laidTests := true, laidLooks := .later }
def ErasWholeCardSaid : Prop := Claim7.holds Tryd.pinned (.plain (OpenSpec.ofChange erasWholeSpec)) erasWholeCard

/-- THE TIED CARD OF 'analemmalaw23.ErasShifted'. -/
def erasShiftedCard : Claim7 := { stood := { row := erasShiftedRow, standIns := [], harness := (true, "a097439120616b9eb772fac55eb6d1c247bd6d90b6c31ec9057ebb8a13c5e724"), looks := false }, kinds := [], alts := [], laidByText := true, laidKinds := [.data, .data, .data, .data, .funcs], laidTests := true, laidLooks := .later }
def ErasShiftedCardSaid : Prop := Claim7.holds Tryd.pinned (.plain (OpenSpec.ofChange erasShiftedSpec)) erasShiftedCard

/-- THE TIED CARD OF 'analemmalaw23.ErasWrong'. -/
def erasWrongCard : Claim7 := { stood := { row := erasWrongRow, standIns := [], harness := (true, "a097439120616b9eb772fac55eb6d1c247bd6d90b6c31ec9057ebb8a13c5e724"), looks := false }, kinds := [], alts := [], laidByText := true, laidKinds := [.data, .data, .data, .data, .funcs], laidTests := true, laidLooks := .later }
def ErasWrongCardSaid : Prop := Claim7.holds Tryd.pinned (.plain (OpenSpec.ofChange erasWrongSpec)) erasWrongCard

/-- THE SECOND FORM's CARD OF 'analemmalaw23.ErasFind'. -/
def erasFindUptoCard : Claim7 := { stood := { row := erasFindUptoRow, standIns := [], harness := (true, "a097439120616b9eb772fac55eb6d1c247bd6d90b6c31ec9057ebb8a13c5e724"), looks := false }, kinds := [], alts := [], laidByText := true, laidKinds := [.data, .funcs], laidTests := true, laidLooks := .later }
def ErasFindUptoCardSaid : Prop := Claim7.holds Tryd.pinned (.plain (OpenSpec.upto erasFindSpec)) erasFindUptoCard

/-- THE SECOND FORM's CARD OF 'analemmalaw23.ErasWhole'. -/
def erasWholeUptoCard : Claim7 := { stood := { row := erasWholeUptoRow, standIns := [], harness := (true, "a097439120616b9eb772fac55eb6d1c247bd6d90b6c31ec9057ebb8a13c5e724"), looks := false }, kinds := [], alts := [], laidByText := true, laidKinds := [.data, .data, .data, .data, .funcs], laidTests := true, laidLooks := .later }
def ErasWholeUptoCardSaid : Prop := Claim7.holds Tryd.pinned (.plain (OpenSpec.upto erasWholeSpec)) erasWholeUptoCard

/-- THE SECOND FORM's CARD OF 'analemmalaw23.ErasShifted'. -/
def erasShiftedUptoCard : Claim7 := { stood := { row := erasShiftedUptoRow, standIns := [], harness := (true, "a097439120616b9eb772fac55eb6d1c247bd6d90b6c31ec9057ebb8a13c5e724"), looks := false }, kinds := [], alts := [], laidByText := true, laidKinds := [.data, .data, .data, .data, .funcs], laidTests := true, laidLooks := .later }
def ErasShiftedUptoCardSaid : Prop := Claim7.holds Tryd.pinned (.plain (OpenSpec.upto erasShiftedSpec)) erasShiftedUptoCard

/-- THE SECOND FORM's CARD OF 'analemmalaw23.ErasWrong'. -/
def erasWrongUptoCard : Claim7 := { stood := { row := erasWrongUptoRow, standIns := [], harness := (true, "a097439120616b9eb772fac55eb6d1c247bd6d90b6c31ec9057ebb8a13c5e724"), looks := false }, kinds := [], alts := [], laidByText := true, laidKinds := [.data, .data, .data, .data, .funcs], laidTests := true, laidLooks := .later }
def ErasWrongUptoCardSaid : Prop := Claim7.holds Tryd.pinned (.plain (OpenSpec.upto erasWrongSpec)) erasWrongUptoCard
end Rows
end Go.Proofs.YtdppmeeobpbfnaaDoor
