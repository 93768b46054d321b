/-
  NARROWER THAN 'FOR EVERY INPUT', by the rows' own cells (each row's printed sentence says how): StateInitial: laid · StateShifted: laid · StateBetween: laid · StateAfter: laid.
  DERIVED. THE GIVEN ROWS OF THIS SEAT. 4 by the template 'for every input the law returns true; each argument reads behind the call as it read before'; 0 by the template 'total and deterministic' (their statements: YtophiphhgcmjpaaDoorTotals.lean).
  GIVEN WITH THE SEED: the statements are not yours to turn. If you find one false, say at which input.
  Laid BY PROGRAM, IN A SANDBOX (cutbox-rows.mjs): the forced cells as the released guide's own fill.sh prints them over the translation fddfefe7160a5776… (all of the seat's roots in one cut). By AI agents, Wed Nov 11 2026. No macro, syntax, notation, axiom, sorry.
-/
import Derived.Test.YtophiphhgcmjpaaDoorChecked
import GoSem.Claim
import GoSem.ClaimJoined
import GoSem.ClaimMapViews
import Derived.JoinedTies
import Derived.KernelRfl
namespace Go.Proofs.YtophiphhgcmjpaaDoor
/- THE CELL 'sum', in the pinned program and in every row, IS THE sha256 OF THE DUMP (.gsa) THAT YtophiphhgcmjpaaDoorProg.lean LOADS. Nothing in Lean hashes anything: it is a label: what it is worth is what the hold of that sum in a sandbox is worth. -/
noncomputable def Tryd.pinned : Pinned := { name := "ytophiphhgcmjpaadoor", sum := "fddfefe7160a5776a3c17337c9a57a4f115115012cec5435cbc5094992bf0e61", checked := Tryd.checked }
namespace Rows
def none {H : Type} : Left H := { results := [], args := [] }

/- WHAT THE LISTED PACKAGE-LEVEL VARIABLES READ AS WHEN THE CALL BEGINS. Each datum BY PROGRAM (the guide's laid-datum.mjs) off the statement by which the dump's own 'gosem.cut.vars' lays the variable. In a bare row this is a premise. The card (YtophiphhgcmjpaaDoorCards.lean) ties it to the program's text. -/
def laid_analemma_civil_before {H : Type} : DataW H := .agg [.lit (.int .i64 0), .lit (.int .i64 31), .lit (.int .i64 61), .lit (.int .i64 92), .lit (.int .i64 122), .lit (.int .i64 153), .lit (.int .i64 184), .lit (.int .i64 214), .lit (.int .i64 245), .lit (.int .i64 275), .lit (.int .i64 306), .lit (.int .i64 337)]
def laid_analemma_dayform_kinds {H : Type} : DataW H := .iface "func table" (.agg [.agg [.lit (.bool false), .lit (.bool false), .nil], .agg [.lit (.bool false), .lit (.bool true), .iface "func" (.lit (.string [97, 110, 97, 108, 101, 109, 109, 97, 47, 100, 97, 121, 102, 111, 114, 109, 46, 107, 105, 110, 100, 115, 36, 49]))], .agg [.lit (.bool true), .lit (.bool false), .iface "func" (.lit (.string [97, 110, 97, 108, 101, 109, 109, 97, 47, 100, 97, 121, 102, 111, 114, 109, 46, 107, 105, 110, 100, 115, 36, 50]))], .agg [.lit (.bool true), .lit (.bool true), .iface "func" (.lit (.string [97, 110, 97, 108, 101, 109, 109, 97, 47, 100, 97, 121, 102, 111, 114, 109, 46, 107, 105, 110, 100, 115, 36, 51]))], .agg [.lit (.bool true), .lit (.bool true), .iface "func" (.lit (.string [97, 110, 97, 108, 101, 109, 109, 97, 47, 100, 97, 121, 102, 111, 114, 109, 46, 107, 105, 110, 100, 115, 36, 52]))]])

/-- 'analemmalaw19.StateInitial': WHATEVER THE INPUT: true; the input reads as it did. -/
def stateInitialSpec : ChangeSpec := { name := "stateInitial", fn := fun _ => fun
  | [d] => { results := [.lit (.bool true)], args := [d] }
  | _ => none }
def stateInitialRow : OpenClaim := { program := "ytophiphhgcmjpaadoor", sum := "fddfefe7160a5776a3c17337c9a57a4f115115012cec5435cbc5094992bf0e61", func := "analemma/analemmalaw19.StateInitial", spec := "stateInitial", unfollowed := true, recurses := true, named := ["analemma/dayform.kinds", "analemma/civil.before"], apart := false, laid := [("analemma/civil.before", laid_analemma_civil_before), ("analemma/dayform.kinds", laid_analemma_dayform_kinds)] }
def StateInitialSaid : Prop := stateInitialRow.holds Tryd.pinned (OpenSpec.ofChange stateInitialSpec)

/-- ITS FALSE NEIGHBOUR: 'it returns false'. Refute it at one input. -/
def stateInitialWrong : ChangeSpec := { name := "stateInitial", fn := fun _ => fun
  | [d] => { results := [.lit (.bool false)], args := [d] }
  | _ => none }
def StateInitialWrongFalsely : Prop := stateInitialRow.holds Tryd.pinned (OpenSpec.ofChange stateInitialWrong)

/-- 'analemmalaw19.StateShifted': WHATEVER THE INPUT: true; the input reads as it did. -/
def stateShiftedSpec : ChangeSpec := { name := "stateShifted", fn := fun _ => fun
  | [d1, d2, d3] => { results := [.lit (.bool true)], args := [d1, d2, d3] }
  | _ => none }
def stateShiftedRow : OpenClaim := { program := "ytophiphhgcmjpaadoor", sum := "fddfefe7160a5776a3c17337c9a57a4f115115012cec5435cbc5094992bf0e61", func := "analemma/analemmalaw19.StateShifted", spec := "stateShifted", unfollowed := true, recurses := true, named := ["analemma/civil.before", "analemma/dayform.kinds"], apart := false, laid := [("analemma/civil.before", laid_analemma_civil_before), ("analemma/dayform.kinds", laid_analemma_dayform_kinds)] }
def StateShiftedSaid : Prop := stateShiftedRow.holds Tryd.pinned (OpenSpec.ofChange stateShiftedSpec)

/-- ITS FALSE NEIGHBOUR: 'it returns false'. Refute it at one input. -/
def stateShiftedWrong : ChangeSpec := { name := "stateShifted", fn := fun _ => fun
  | [d1, d2, d3] => { results := [.lit (.bool false)], args := [d1, d2, d3] }
  | _ => none }
def StateShiftedWrongFalsely : Prop := stateShiftedRow.holds Tryd.pinned (OpenSpec.ofChange stateShiftedWrong)

/-- 'analemmalaw19.StateBetween': WHATEVER THE INPUT: true; the input reads as it did. -/
def stateBetweenSpec : ChangeSpec := { name := "stateBetween", fn := fun _ => fun
  | [d1, d2, d3] => { results := [.lit (.bool true)], args := [d1, d2, d3] }
  | _ => none }
def stateBetweenRow : OpenClaim := { program := "ytophiphhgcmjpaadoor", sum := "fddfefe7160a5776a3c17337c9a57a4f115115012cec5435cbc5094992bf0e61", func := "analemma/analemmalaw19.StateBetween", spec := "stateBetween", unfollowed := true, recurses := true, named := ["analemma/civil.before", "analemma/dayform.kinds"], apart := false, laid := [("analemma/civil.before", laid_analemma_civil_before), ("analemma/dayform.kinds", laid_analemma_dayform_kinds)] }
def StateBetweenSaid : Prop := stateBetweenRow.holds Tryd.pinned (OpenSpec.ofChange stateBetweenSpec)

/-- ITS FALSE NEIGHBOUR: 'it returns false'. Refute it at one input. -/
def stateBetweenWrong : ChangeSpec := { name := "stateBetween", fn := fun _ => fun
  | [d1, d2, d3] => { results := [.lit (.bool false)], args := [d1, d2, d3] }
  | _ => none }
def StateBetweenWrongFalsely : Prop := stateBetweenRow.holds Tryd.pinned (OpenSpec.ofChange stateBetweenWrong)

/-- 'analemmalaw19.StateAfter': WHATEVER THE INPUT: true; the input reads as it did. -/
def stateAfterSpec : ChangeSpec := { name := "stateAfter", fn := fun _ => fun
  | [d1, d2, d3] => { results := [.lit (.bool true)], args := [d1, d2, d3] }
  | _ => none }
def stateAfterRow : OpenClaim := { program := "ytophiphhgcmjpaadoor", sum := "fddfefe7160a5776a3c17337c9a57a4f115115012cec5435cbc5094992bf0e61", func := "analemma/analemmalaw19.StateAfter", spec := "stateAfter", unfollowed := true, recurses := true, named := ["analemma/civil.before", "analemma/dayform.kinds"], apart := false, laid := [("analemma/civil.before", laid_analemma_civil_before), ("analemma/dayform.kinds", laid_analemma_dayform_kinds)] }
def StateAfterSaid : Prop := stateAfterRow.holds Tryd.pinned (OpenSpec.ofChange stateAfterSpec)

/-- ITS FALSE NEIGHBOUR: 'it returns false'. Refute it at one input. -/
def stateAfterWrong : ChangeSpec := { name := "stateAfter", fn := fun _ => fun
  | [d1, d2, d3] => { results := [.lit (.bool false)], args := [d1, d2, d3] }
  | _ => none }
def StateAfterWrongFalsely : Prop := stateAfterRow.holds Tryd.pinned (OpenSpec.ofChange stateAfterWrong)

/- THE SECOND FORM. 'bulk': how many values and letters a reading holds, each counted each time it is reached (what is shared counts as often as it is met; a slice's spare places count too). A statement '..UptoSaid' is the law's where the arguments, and the package variables that the reading takes, are together of bulk at most 1048576: NARROWER than '..Said'. Prove '..Said' where nothing that the law and all that it calls make is longer than what came in: it says more and counts as full. Else prove '..UptoSaid'. A law counts once. -/
mutual
def uptoBulk {H : Type} : DataW H → Nat
  | .lit (.string bytes) => bytes.length + 1
  | .lit _ => 1
  | .nil => 1
  | .ptr d => uptoBulk d + 1
  | .slice elems spare => uptoBulkAll elems + uptoBulkAll spare + 1
  | .agg parts => uptoBulkAll parts + 1
  | .iface _ d => uptoBulk d + 1
  | .map entries => uptoBulkEntries entries + 1
  | .held _ => 1
def uptoBulkAll {H : Type} : List (DataW H) → Nat
  | [] => 0
  | d :: r => uptoBulk d + uptoBulkAll r
def uptoBulkEntries {H : Type} : List (Lit × DataW H) → Nat
  | [] => 0
  | x :: r => uptoBulkEntry x + uptoBulkEntries r
def uptoBulkEntry {H : Type} : Lit × DataW H → Nat
  | (.string bytes, d) => bytes.length + uptoBulk d + 1
  | (_, d) => uptoBulk d + 1
 end
def uptoSmall : (H : Type) → List (DataW H) → Bool := fun _ ds => decide (uptoBulkAll ds ≤ 1048576)
def OpenSpec.upto (s : _root_.Go.ChangeSpec) : _root_.Go.OpenSpec := { _root_.Go.OpenSpec.ofChange s with cond := some uptoSmall }

/-- 'analemmalaw19.StateInitial', WHERE WHAT IT READS IS OF BULK AT MOST 1048576: true; the input reads as it did. -/
def stateInitialUptoRow : OpenClaim := { program := "ytophiphhgcmjpaadoor", sum := "fddfefe7160a5776a3c17337c9a57a4f115115012cec5435cbc5094992bf0e61", func := "analemma/analemmalaw19.StateInitial", spec := "stateInitial", unfollowed := true, recurses := true, named := ["analemma/dayform.kinds", "analemma/civil.before"], apart := false, laid := [("analemma/civil.before", laid_analemma_civil_before), ("analemma/dayform.kinds", laid_analemma_dayform_kinds)], narrowed := true }
def StateInitialUptoSaid : Prop := stateInitialUptoRow.holds Tryd.pinned (OpenSpec.upto stateInitialSpec)

/-- 'analemmalaw19.StateShifted', WHERE WHAT IT READS IS OF BULK AT MOST 1048576: true; the input reads as it did. -/
def stateShiftedUptoRow : OpenClaim := { program := "ytophiphhgcmjpaadoor", sum := "fddfefe7160a5776a3c17337c9a57a4f115115012cec5435cbc5094992bf0e61", func := "analemma/analemmalaw19.StateShifted", spec := "stateShifted", unfollowed := true, recurses := true, named := ["analemma/civil.before", "analemma/dayform.kinds"], apart := false, laid := [("analemma/civil.before", laid_analemma_civil_before), ("analemma/dayform.kinds", laid_analemma_dayform_kinds)], narrowed := true }
def StateShiftedUptoSaid : Prop := stateShiftedUptoRow.holds Tryd.pinned (OpenSpec.upto stateShiftedSpec)

/-- 'analemmalaw19.StateBetween', WHERE WHAT IT READS IS OF BULK AT MOST 1048576: true; the input reads as it did. -/
def stateBetweenUptoRow : OpenClaim := { program := "ytophiphhgcmjpaadoor", sum := "fddfefe7160a5776a3c17337c9a57a4f115115012cec5435cbc5094992bf0e61", func := "analemma/analemmalaw19.StateBetween", spec := "stateBetween", unfollowed := true, recurses := true, named := ["analemma/civil.before", "analemma/dayform.kinds"], apart := false, laid := [("analemma/civil.before", laid_analemma_civil_before), ("analemma/dayform.kinds", laid_analemma_dayform_kinds)], narrowed := true }
def StateBetweenUptoSaid : Prop := stateBetweenUptoRow.holds Tryd.pinned (OpenSpec.upto stateBetweenSpec)

/-- 'analemmalaw19.StateAfter', WHERE WHAT IT READS IS OF BULK AT MOST 1048576: true; the input reads as it did. -/
def stateAfterUptoRow : OpenClaim := { program := "ytophiphhgcmjpaadoor", sum := "fddfefe7160a5776a3c17337c9a57a4f115115012cec5435cbc5094992bf0e61", func := "analemma/analemmalaw19.StateAfter", spec := "stateAfter", unfollowed := true, recurses := true, named := ["analemma/civil.before", "analemma/dayform.kinds"], apart := false, laid := [("analemma/civil.before", laid_analemma_civil_before), ("analemma/dayform.kinds", laid_analemma_dayform_kinds)], narrowed := true }
def StateAfterUptoSaid : Prop := stateAfterUptoRow.holds Tryd.pinned (OpenSpec.upto stateAfterSpec)

end Rows
end Go.Proofs.YtophiphhgcmjpaaDoor
