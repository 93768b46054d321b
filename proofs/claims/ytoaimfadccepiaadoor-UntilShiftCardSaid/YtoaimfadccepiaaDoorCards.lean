/-
  DERIVED. GIVEN WITH THE SEED: THE CARDS: each row of YtoaimfadccepiaaDoorRows.lean that lists a variable, with what it lists TIED to the program's text (the seventh form; the later family's looks); each row that meets fmt, with fmt's text TOLD by the authors' own Lean function (tested against real Go, not proved from fmt's source: count such statements apart). THE CARD IS WHAT COUNTS. Prove the row's statement (the work); the ties are given (YtoaimfadccepiaaDoorTie.lean); close each card by the builder's one call (the guide's Derived/Test/ToyasCard.lean, 'card_holds'). Laid BY PROGRAM, IN A SANDBOX (cutbox-door.mjs). By AI agents, Wed Nov 11 2026. No macro, syntax, notation, axiom, sorry.
-/
import Derived.Test.YtoaimfadccepiaaDoorRows
import GoSem.ClaimSeven
namespace Go.Proofs.YtoaimfadccepiaaDoor
namespace Rows

/-- THE TIED CARD OF 'analemmalaw22.UntilEnds'. -/
def untilEndsCard : Claim7 := { stood := { row := untilEndsRow, standIns := [], harness := (true, "799371f0a909def9359a2c59a9cff4a7693db4df3a2a32bb47f78681b83df8b3"), looks := false }, kinds := [], alts := [], laidByText := true, laidKinds := [.data, .funcs], laidTests := true, laidLooks := .later }
def UntilEndsCardSaid : Prop := Claim7.holds Tryd.pinned (.plain (OpenSpec.ofChange untilEndsSpec)) untilEndsCard

/-- THE TIED CARD OF 'analemmalaw22.UntilNear'. -/
def untilNearCard : Claim7 := { stood := { row := untilNearRow, standIns := [], harness := (true, "799371f0a909def9359a2c59a9cff4a7693db4df3a2a32bb47f78681b83df8b3"), looks := false }, kinds := [], alts := [], laidByText := true, laidKinds := [.data, .funcs], laidTests := true, laidLooks := .later }
def UntilNearCardSaid : Prop := Claim7.holds Tryd.pinned (.plain (OpenSpec.ofChange untilNearSpec)) untilNearCard

/-- THE TIED CARD OF 'analemmalaw22.UntilShift'. -/
def untilShiftCard : Claim7 := { stood := { row := untilShiftRow, standIns := [], harness := (true, "799371f0a909def9359a2c59a9cff4a7693db4df3a2a32bb47f78681b83df8b3"), looks := false }, kinds := [], alts := [], laidByText := true, laidKinds := [.data, .funcs], laidTests := true, laidLooks := .later }
def UntilShiftCardSaid : Prop := Claim7.holds Tryd.pinned (.plain (OpenSpec.ofChange untilShiftSpec)) untilShiftCard

/-- THE TIED CARD OF 'analemmalaw22.UntilOrder'. -/
def untilOrderCard : Claim7 := { stood := { row := untilOrderRow, standIns := [], harness := (true, "799371f0a909def9359a2c59a9cff4a7693db4df3a2a32bb47f78681b83df8b3"), looks := false }, kinds := [], alts := [], laidByText := true, laidKinds := [.data, .funcs], laidTests := true, laidLooks := .later }
def UntilOrderCardSaid : Prop := Claim7.holds Tryd.pinned (.plain (OpenSpec.ofChange untilOrderSpec)) untilOrderCard

/-- THE TIED CARD OF 'analemmalaw22.UntilRefuses'. -/
def untilRefusesCard : Claim7 := { stood := { row := untilRefusesRow, standIns := [], harness := (true, "799371f0a909def9359a2c59a9cff4a7693db4df3a2a32bb47f78681b83df8b3"), looks := false }, kinds := [], alts := [], laidByText := true, laidKinds := [.data, .funcs], laidTests := true, laidLooks := .later }
def UntilRefusesCardSaid : Prop := Claim7.holds Tryd.pinned (.plain (OpenSpec.ofChange untilRefusesSpec)) untilRefusesCard

/-- THE SECOND FORM's CARD OF 'analemmalaw22.UntilEnds'. -/
def untilEndsUptoCard : Claim7 := { stood := { row := untilEndsUptoRow, standIns := [], harness := (true, "799371f0a909def9359a2c59a9cff4a7693db4df3a2a32bb47f78681b83df8b3"), looks := false }, kinds := [], alts := [], laidByText := true, laidKinds := [.data, .funcs], laidTests := true, laidLooks := .later }
def UntilEndsUptoCardSaid : Prop := Claim7.holds Tryd.pinned (.plain (OpenSpec.upto untilEndsSpec)) untilEndsUptoCard

/-- THE SECOND FORM's CARD OF 'analemmalaw22.UntilNear'. -/
def untilNearUptoCard : Claim7 := { stood := { row := untilNearUptoRow, standIns := [], harness := (true, "799371f0a909def9359a2c59a9cff4a7693db4df3a2a32bb47f78681b83df8b3"), looks := false }, kinds := [], alts := [], laidByText := true, laidKinds := [.data, .funcs], laidTests := true, laidLooks := .later }
def UntilNearUptoCardSaid : Prop := Claim7.holds Tryd.pinned (.plain (OpenSpec.upto untilNearSpec)) untilNearUptoCard

/-- THE SECOND FORM's CARD OF 'analemmalaw22.UntilShift'. -/
def untilShiftUptoCard : Claim7 := { stood := { row := untilShiftUptoRow, standIns := [], harness := (true, "799371f0a909def9359a2c59a9cff4a7693db4df3a2a32bb47f78681b83df8b3"), looks := false }, kinds := [], alts := [], laidByText := true, laidKinds := [.data, .funcs], laidTests := true, laidLooks := .later }
def UntilShiftUptoCardSaid : Prop := Claim7.holds Tryd.pinned (.plain (OpenSpec.upto untilShiftSpec)) untilShiftUptoCard

/-- THE SECOND FORM's CARD OF 'analemmalaw22.UntilOrder'. -/
def untilOrderUptoCard : Claim7 := { stood := { row := untilOrderUptoRow, standIns := [], harness := (true, "799371f0a909def9359a2c59a9cff4a7693db4df3a2a32bb47f78681b83df8b3"), looks := false }, kinds := [], alts := [], laidByText := true, laidKinds := [.data, .funcs], laidTests := true, laidLooks := .later }
def UntilOrderUptoCardSaid : Prop := Claim7.holds Tryd.pinned (.plain (OpenSpec.upto untilOrderSpec)) untilOrderUptoCard

/-- THE SECOND FORM's CARD OF 'analemmalaw22.UntilRefuses'. -/
def untilRefusesUptoCard : Claim7 := { stood := { row := untilRefusesUptoRow, standIns := [], harness := (true, "799371f0a909def9359a2c59a9cff4a7693db4df3a2a32bb47f78681b83df8b3"), looks := false }, kinds := [], alts := [], laidByText := true, laidKinds := [.data, .funcs], laidTests := true, laidLooks := .later }
def UntilRefusesUptoCardSaid : Prop := Claim7.holds Tryd.pinned (.plain (OpenSpec.upto untilRefusesSpec)) untilRefusesUptoCard
end Rows
end Go.Proofs.YtoaimfadccepiaaDoor
