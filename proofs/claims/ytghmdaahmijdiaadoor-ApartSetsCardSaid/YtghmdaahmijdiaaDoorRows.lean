/-
  NARROWER THAN 'FOR EVERY INPUT', by the rows' own cells (each row's printed sentence says how): ApartChecks: laid · ApartFars: laid · ApartSets: laid · ApartCycle: laid · ApartMoved: laid · ApartMore: laid · ApartNear: laid.
  DERIVED. THE GIVEN ROWS OF THIS SEAT. 7 by the template 'for every input the law returns true; each argument reads behind the call as it read before'; 0 by the template 'total and deterministic' (their statements: YtghmdaahmijdiaaDoorTotals.lean).
  GIVEN WITH THE SEED: the statements are not yours to turn. If you find one false, say at which input.
  Laid BY PROGRAM, IN A SANDBOX (cutbox-rows.mjs): the forced cells as the released guide's own fill.sh prints them over the translation ae569dbc2cb26cd3… (all of the seat's roots in one cut). By AI agents, Wed Nov 11 2026. No macro, syntax, notation, axiom, sorry.
-/
import Derived.Test.YtghmdaahmijdiaaDoorChecked
import GoSem.Claim
import GoSem.ClaimJoined
import GoSem.ClaimMapViews
import Derived.JoinedTies
import Derived.KernelRfl
namespace Go.Proofs.YtghmdaahmijdiaaDoor
/- THE CELL 'sum', in the pinned program and in every row, IS THE sha256 OF THE DUMP (.gsa) THAT YtghmdaahmijdiaaDoorProg.lean LOADS. Nothing in Lean hashes anything: it is a label: what it is worth is what the hold of that sum in a sandbox is worth. -/
noncomputable def Tryd.pinned : Pinned := { name := "ytghmdaahmijdiaadoor", sum := "ae569dbc2cb26cd31857134181353028f8bd8ab2fad36e0f33822137dc612ce1", checked := Tryd.checked }
namespace Rows
def none {H : Type} : Left H := { results := [], args := [] }

/- WHAT THE LISTED PACKAGE-LEVEL VARIABLES READ AS WHEN THE CALL BEGINS. Each datum BY PROGRAM (the guide's laid-datum.mjs) off the statement by which the dump's own 'gosem.cut.vars' lays the variable. In a bare row this is a premise. The card (YtghmdaahmijdiaaDoorCards.lean) ties it to the program's text. -/
def laid_analemma_civil_before {H : Type} : DataW H := .agg [.lit (.int .i64 0), .lit (.int .i64 31), .lit (.int .i64 61), .lit (.int .i64 92), .lit (.int .i64 122), .lit (.int .i64 153), .lit (.int .i64 184), .lit (.int .i64 214), .lit (.int .i64 245), .lit (.int .i64 275), .lit (.int .i64 306), .lit (.int .i64 337)]
def laid_analemma_dayform_kinds {H : Type} : DataW H := .iface "func table" (.agg [.agg [.lit (.bool false), .lit (.bool false), .nil], .agg [.lit (.bool false), .lit (.bool true), .iface "func" (.lit (.string [97, 110, 97, 108, 101, 109, 109, 97, 47, 100, 97, 121, 102, 111, 114, 109, 46, 107, 105, 110, 100, 115, 36, 49]))], .agg [.lit (.bool true), .lit (.bool false), .iface "func" (.lit (.string [97, 110, 97, 108, 101, 109, 109, 97, 47, 100, 97, 121, 102, 111, 114, 109, 46, 107, 105, 110, 100, 115, 36, 50]))], .agg [.lit (.bool true), .lit (.bool true), .iface "func" (.lit (.string [97, 110, 97, 108, 101, 109, 109, 97, 47, 100, 97, 121, 102, 111, 114, 109, 46, 107, 105, 110, 100, 115, 36, 51]))], .agg [.lit (.bool true), .lit (.bool true), .iface "func" (.lit (.string [97, 110, 97, 108, 101, 109, 109, 97, 47, 100, 97, 121, 102, 111, 114, 109, 46, 107, 105, 110, 100, 115, 36, 52]))]])

/-- 'analemmalaw18.ApartChecks': WHATEVER THE INPUT: true; the input reads as it did. -/
def apartChecksSpec : ChangeSpec := { name := "apartChecks", fn := fun _ => fun
  | [d] => { results := [.lit (.bool true)], args := [d] }
  | _ => none }
def apartChecksRow : OpenClaim := { program := "ytghmdaahmijdiaadoor", sum := "ae569dbc2cb26cd31857134181353028f8bd8ab2fad36e0f33822137dc612ce1", func := "analemma/analemmalaw18.ApartChecks", spec := "apartChecks", unfollowed := true, recurses := true, named := ["analemma/dayform.kinds", "analemma/civil.before"], apart := false, laid := [("analemma/civil.before", laid_analemma_civil_before), ("analemma/dayform.kinds", laid_analemma_dayform_kinds)] }
def ApartChecksSaid : Prop := apartChecksRow.holds Tryd.pinned (OpenSpec.ofChange apartChecksSpec)

/-- ITS FALSE NEIGHBOUR: 'it returns false'. Refute it at one input. -/
def apartChecksWrong : ChangeSpec := { name := "apartChecks", fn := fun _ => fun
  | [d] => { results := [.lit (.bool false)], args := [d] }
  | _ => none }
def ApartChecksWrongFalsely : Prop := apartChecksRow.holds Tryd.pinned (OpenSpec.ofChange apartChecksWrong)

/-- 'analemmalaw18.ApartFars': WHATEVER THE INPUT: true; the input reads as it did. -/
def apartFarsSpec : ChangeSpec := { name := "apartFars", fn := fun _ => fun
  | [d1, d2] => { results := [.lit (.bool true)], args := [d1, d2] }
  | _ => none }
def apartFarsRow : OpenClaim := { program := "ytghmdaahmijdiaadoor", sum := "ae569dbc2cb26cd31857134181353028f8bd8ab2fad36e0f33822137dc612ce1", func := "analemma/analemmalaw18.ApartFars", spec := "apartFars", unfollowed := true, recurses := true, named := ["analemma/dayform.kinds", "analemma/civil.before"], apart := false, laid := [("analemma/civil.before", laid_analemma_civil_before), ("analemma/dayform.kinds", laid_analemma_dayform_kinds)] }
def ApartFarsSaid : Prop := apartFarsRow.holds Tryd.pinned (OpenSpec.ofChange apartFarsSpec)

/-- ITS FALSE NEIGHBOUR: 'it returns false'. Refute it at one input. -/
def apartFarsWrong : ChangeSpec := { name := "apartFars", fn := fun _ => fun
  | [d1, d2] => { results := [.lit (.bool false)], args := [d1, d2] }
  | _ => none }
def ApartFarsWrongFalsely : Prop := apartFarsRow.holds Tryd.pinned (OpenSpec.ofChange apartFarsWrong)

/-- 'analemmalaw18.ApartSets': WHATEVER THE INPUT: true; the input reads as it did. -/
def apartSetsSpec : ChangeSpec := { name := "apartSets", fn := fun _ => fun
  | [d1, d2, d3, d4, d5] => { results := [.lit (.bool true)], args := [d1, d2, d3, d4, d5] }
  | _ => none }
def apartSetsRow : OpenClaim := { program := "ytghmdaahmijdiaadoor", sum := "ae569dbc2cb26cd31857134181353028f8bd8ab2fad36e0f33822137dc612ce1", func := "analemma/analemmalaw18.ApartSets", spec := "apartSets", unfollowed := true, recurses := true, named := ["analemma/dayform.kinds", "analemma/civil.before"], apart := false, laid := [("analemma/civil.before", laid_analemma_civil_before), ("analemma/dayform.kinds", laid_analemma_dayform_kinds)] }
def ApartSetsSaid : Prop := apartSetsRow.holds Tryd.pinned (OpenSpec.ofChange apartSetsSpec)

/-- ITS FALSE NEIGHBOUR: 'it returns false'. Refute it at one input. -/
def apartSetsWrong : ChangeSpec := { name := "apartSets", fn := fun _ => fun
  | [d1, d2, d3, d4, d5] => { results := [.lit (.bool false)], args := [d1, d2, d3, d4, d5] }
  | _ => none }
def ApartSetsWrongFalsely : Prop := apartSetsRow.holds Tryd.pinned (OpenSpec.ofChange apartSetsWrong)

/-- 'analemmalaw18.ApartCycle': WHATEVER THE INPUT: true; the input reads as it did. -/
def apartCycleSpec : ChangeSpec := { name := "apartCycle", fn := fun _ => fun
  | [d1, d2, d3, d4, d5] => { results := [.lit (.bool true)], args := [d1, d2, d3, d4, d5] }
  | _ => none }
def apartCycleRow : OpenClaim := { program := "ytghmdaahmijdiaadoor", sum := "ae569dbc2cb26cd31857134181353028f8bd8ab2fad36e0f33822137dc612ce1", func := "analemma/analemmalaw18.ApartCycle", spec := "apartCycle", unfollowed := true, recurses := true, named := ["analemma/dayform.kinds", "analemma/civil.before"], apart := false, laid := [("analemma/civil.before", laid_analemma_civil_before), ("analemma/dayform.kinds", laid_analemma_dayform_kinds)] }
def ApartCycleSaid : Prop := apartCycleRow.holds Tryd.pinned (OpenSpec.ofChange apartCycleSpec)

/-- ITS FALSE NEIGHBOUR: 'it returns false'. Refute it at one input. -/
def apartCycleWrong : ChangeSpec := { name := "apartCycle", fn := fun _ => fun
  | [d1, d2, d3, d4, d5] => { results := [.lit (.bool false)], args := [d1, d2, d3, d4, d5] }
  | _ => none }
def ApartCycleWrongFalsely : Prop := apartCycleRow.holds Tryd.pinned (OpenSpec.ofChange apartCycleWrong)

/-- 'analemmalaw18.ApartMoved': WHATEVER THE INPUT: true; the input reads as it did. -/
def apartMovedSpec : ChangeSpec := { name := "apartMoved", fn := fun _ => fun
  | [d1, d2, d3, d4, d5] => { results := [.lit (.bool true)], args := [d1, d2, d3, d4, d5] }
  | _ => none }
def apartMovedRow : OpenClaim := { program := "ytghmdaahmijdiaadoor", sum := "ae569dbc2cb26cd31857134181353028f8bd8ab2fad36e0f33822137dc612ce1", func := "analemma/analemmalaw18.ApartMoved", spec := "apartMoved", unfollowed := true, recurses := true, named := ["analemma/dayform.kinds", "analemma/civil.before"], apart := false, laid := [("analemma/civil.before", laid_analemma_civil_before), ("analemma/dayform.kinds", laid_analemma_dayform_kinds)] }
def ApartMovedSaid : Prop := apartMovedRow.holds Tryd.pinned (OpenSpec.ofChange apartMovedSpec)

/-- ITS FALSE NEIGHBOUR: 'it returns false'. Refute it at one input. -/
def apartMovedWrong : ChangeSpec := { name := "apartMoved", fn := fun _ => fun
  | [d1, d2, d3, d4, d5] => { results := [.lit (.bool false)], args := [d1, d2, d3, d4, d5] }
  | _ => none }
def ApartMovedWrongFalsely : Prop := apartMovedRow.holds Tryd.pinned (OpenSpec.ofChange apartMovedWrong)

/-- 'analemmalaw18.ApartMore': WHATEVER THE INPUT: true; the input reads as it did. -/
def apartMoreSpec : ChangeSpec := { name := "apartMore", fn := fun _ => fun
  | [d1, d2, d3] => { results := [.lit (.bool true)], args := [d1, d2, d3] }
  | _ => none }
def apartMoreRow : OpenClaim := { program := "ytghmdaahmijdiaadoor", sum := "ae569dbc2cb26cd31857134181353028f8bd8ab2fad36e0f33822137dc612ce1", func := "analemma/analemmalaw18.ApartMore", spec := "apartMore", unfollowed := true, recurses := true, named := ["analemma/dayform.kinds", "analemma/civil.before"], apart := false, laid := [("analemma/civil.before", laid_analemma_civil_before), ("analemma/dayform.kinds", laid_analemma_dayform_kinds)] }
def ApartMoreSaid : Prop := apartMoreRow.holds Tryd.pinned (OpenSpec.ofChange apartMoreSpec)

/-- ITS FALSE NEIGHBOUR: 'it returns false'. Refute it at one input. -/
def apartMoreWrong : ChangeSpec := { name := "apartMore", fn := fun _ => fun
  | [d1, d2, d3] => { results := [.lit (.bool false)], args := [d1, d2, d3] }
  | _ => none }
def ApartMoreWrongFalsely : Prop := apartMoreRow.holds Tryd.pinned (OpenSpec.ofChange apartMoreWrong)

/-- 'analemmalaw18.ApartNear': WHATEVER THE INPUT: true; the input reads as it did. -/
def apartNearSpec : ChangeSpec := { name := "apartNear", fn := fun _ => fun
  | [d1, d2, d3] => { results := [.lit (.bool true)], args := [d1, d2, d3] }
  | _ => none }
def apartNearRow : OpenClaim := { program := "ytghmdaahmijdiaadoor", sum := "ae569dbc2cb26cd31857134181353028f8bd8ab2fad36e0f33822137dc612ce1", func := "analemma/analemmalaw18.ApartNear", spec := "apartNear", unfollowed := true, recurses := true, named := ["analemma/dayform.kinds", "analemma/civil.before"], apart := false, laid := [("analemma/civil.before", laid_analemma_civil_before), ("analemma/dayform.kinds", laid_analemma_dayform_kinds)] }
def ApartNearSaid : Prop := apartNearRow.holds Tryd.pinned (OpenSpec.ofChange apartNearSpec)

/-- ITS FALSE NEIGHBOUR: 'it returns false'. Refute it at one input. -/
def apartNearWrong : ChangeSpec := { name := "apartNear", fn := fun _ => fun
  | [d1, d2, d3] => { results := [.lit (.bool false)], args := [d1, d2, d3] }
  | _ => none }
def ApartNearWrongFalsely : Prop := apartNearRow.holds Tryd.pinned (OpenSpec.ofChange apartNearWrong)

/- THE SECOND FORM. 'bulk': how many values and letters a reading holds, each counted each time it is reached (what is shared counts as often as it is met; a slice's spare places count too). A statement '..UptoSaid' is the law's where the arguments, and the package variables that the reading takes, are together of bulk at most 1048576: NARROWER than '..Said'. Prove '..Said' where nothing that the law and all that it calls make is longer than what came in: it says more and counts as full. Else prove '..UptoSaid'. A law counts once. -/
mutual
def uptoBulk {H : Type} : DataW H → Nat
  | .lit (.string bytes) => bytes.length + 1
  | .lit _ => 1
  | .nil => 1
  | .ptr d => uptoBulk d + 1
  | .slice elems spare => uptoBulkAll elems + uptoBulkAll spare + 1
  | .agg parts => uptoBulkAll parts + 1
  | .iface _ d => uptoBulk d + 1
  | .map entries => uptoBulkEntries entries + 1
  | .held _ => 1
def uptoBulkAll {H : Type} : List (DataW H) → Nat
  | [] => 0
  | d :: r => uptoBulk d + uptoBulkAll r
def uptoBulkEntries {H : Type} : List (Lit × DataW H) → Nat
  | [] => 0
  | x :: r => uptoBulkEntry x + uptoBulkEntries r
def uptoBulkEntry {H : Type} : Lit × DataW H → Nat
  | (.string bytes, d) => bytes.length + uptoBulk d + 1
  | (_, d) => uptoBulk d + 1
 end
def uptoSmall : (H : Type) → List (DataW H) → Bool := fun _ ds => decide (uptoBulkAll ds ≤ 1048576)
def OpenSpec.upto (s : _root_.Go.ChangeSpec) : _root_.Go.OpenSpec := { _root_.Go.OpenSpec.ofChange s with cond := some uptoSmall }

/-- 'analemmalaw18.ApartChecks', WHERE WHAT IT READS IS OF BULK AT MOST 1048576: true; the input reads as it did. -/
def apartChecksUptoRow : OpenClaim := { program := "ytghmdaahmijdiaadoor", sum := "ae569dbc2cb26cd31857134181353028f8bd8ab2fad36e0f33822137dc612ce1", func := "analemma/analemmalaw18.ApartChecks", spec := "apartChecks", unfollowed := true, recurses := true, named := ["analemma/dayform.kinds", "analemma/civil.before"], apart := false, laid := [("analemma/civil.before", laid_analemma_civil_before), ("analemma/dayform.kinds", laid_analemma_dayform_kinds)], narrowed := true }
def ApartChecksUptoSaid : Prop := apartChecksUptoRow.holds Tryd.pinned (OpenSpec.upto apartChecksSpec)

/-- 'analemmalaw18.ApartFars', WHERE WHAT IT READS IS OF BULK AT MOST 1048576: true; the input reads as it did. -/
def apartFarsUptoRow : OpenClaim := { program := "ytghmdaahmijdiaadoor", sum := "ae569dbc2cb26cd31857134181353028f8bd8ab2fad36e0f33822137dc612ce1", func := "analemma/analemmalaw18.ApartFars", spec := "apartFars", unfollowed := true, recurses := true, named := ["analemma/dayform.kinds", "analemma/civil.before"], apart := false, laid := [("analemma/civil.before", laid_analemma_civil_before), ("analemma/dayform.kinds", laid_analemma_dayform_kinds)], narrowed := true }
def ApartFarsUptoSaid : Prop := apartFarsUptoRow.holds Tryd.pinned (OpenSpec.upto apartFarsSpec)

/-- 'analemmalaw18.ApartSets', WHERE WHAT IT READS IS OF BULK AT MOST 1048576: true; the input reads as it did. -/
def apartSetsUptoRow : OpenClaim := { program := "ytghmdaahmijdiaadoor", sum := "ae569dbc2cb26cd31857134181353028f8bd8ab2fad36e0f33822137dc612ce1", func := "analemma/analemmalaw18.ApartSets", spec := "apartSets", unfollowed := true, recurses := true, named := ["analemma/dayform.kinds", "analemma/civil.before"], apart := false, laid := [("analemma/civil.before", laid_analemma_civil_before), ("analemma/dayform.kinds", laid_analemma_dayform_kinds)], narrowed := true }
def ApartSetsUptoSaid : Prop := apartSetsUptoRow.holds Tryd.pinned (OpenSpec.upto apartSetsSpec)

/-- 'analemmalaw18.ApartCycle', WHERE WHAT IT READS IS OF BULK AT MOST 1048576: true; the input reads as it did. -/
def apartCycleUptoRow : OpenClaim := { program := "ytghmdaahmijdiaadoor", sum := "ae569dbc2cb26cd31857134181353028f8bd8ab2fad36e0f33822137dc612ce1", func := "analemma/analemmalaw18.ApartCycle", spec := "apartCycle", unfollowed := true, recurses := true, named := ["analemma/dayform.kinds", "analemma/civil.before"], apart := false, laid := [("analemma/civil.before", laid_analemma_civil_before), ("analemma/dayform.kinds", laid_analemma_dayform_kinds)], narrowed := true }
def ApartCycleUptoSaid : Prop := apartCycleUptoRow.holds Tryd.pinned (OpenSpec.upto apartCycleSpec)

/-- 'analemmalaw18.ApartMoved', WHERE WHAT IT READS IS OF BULK AT MOST 1048576: true; the input reads as it did. -/
def apartMovedUptoRow : OpenClaim := { program := "ytghmdaahmijdiaadoor", sum := "ae569dbc2cb26cd31857134181353028f8bd8ab2fad36e0f33822137dc612ce1", func := "analemma/analemmalaw18.ApartMoved", spec := "apartMoved", unfollowed := true, recurses := true, named := ["analemma/dayform.kinds", "analemma/civil.before"], apart := false, laid := [("analemma/civil.before", laid_analemma_civil_before), ("analemma/dayform.kinds", laid_analemma_dayform_kinds)], narrowed := true }
def ApartMovedUptoSaid : Prop := apartMovedUptoRow.holds Tryd.pinned (OpenSpec.upto apartMovedSpec)

/-- 'analemmalaw18.ApartMore', WHERE WHAT IT READS IS OF BULK AT MOST 1048576: true; the input reads as it did. -/
def apartMoreUptoRow : OpenClaim := { program := "ytghmdaahmijdiaadoor", sum := "ae569dbc2cb26cd31857134181353028f8bd8ab2fad36e0f33822137dc612ce1", func := "analemma/analemmalaw18.ApartMore", spec := "apartMore", unfollowed := true, recurses := true, named := ["analemma/dayform.kinds", "analemma/civil.before"], apart := false, laid := [("analemma/civil.before", laid_analemma_civil_before), ("analemma/dayform.kinds", laid_analemma_dayform_kinds)], narrowed := true }
def ApartMoreUptoSaid : Prop := apartMoreUptoRow.holds Tryd.pinned (OpenSpec.upto apartMoreSpec)

/-- 'analemmalaw18.ApartNear', WHERE WHAT IT READS IS OF BULK AT MOST 1048576: true; the input reads as it did. -/
def apartNearUptoRow : OpenClaim := { program := "ytghmdaahmijdiaadoor", sum := "ae569dbc2cb26cd31857134181353028f8bd8ab2fad36e0f33822137dc612ce1", func := "analemma/analemmalaw18.ApartNear", spec := "apartNear", unfollowed := true, recurses := true, named := ["analemma/dayform.kinds", "analemma/civil.before"], apart := false, laid := [("analemma/civil.before", laid_analemma_civil_before), ("analemma/dayform.kinds", laid_analemma_dayform_kinds)], narrowed := true }
def ApartNearUptoSaid : Prop := apartNearUptoRow.holds Tryd.pinned (OpenSpec.upto apartNearSpec)

end Rows
end Go.Proofs.YtghmdaahmijdiaaDoor
