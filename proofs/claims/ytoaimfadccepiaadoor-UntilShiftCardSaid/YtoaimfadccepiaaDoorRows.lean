/-
  NARROWER THAN 'FOR EVERY INPUT', by the rows' own cells (each row's printed sentence says how): UntilEnds: laid · UntilNear: laid · UntilShift: laid · UntilOrder: laid · UntilRefuses: laid.
  DERIVED. THE GIVEN ROWS OF THIS SEAT. 5 by the template 'for every input the law returns true; each argument reads behind the call as it read before'; 0 by the template 'total and deterministic' (their statements: YtoaimfadccepiaaDoorTotals.lean).
  GIVEN WITH THE SEED: the statements are not yours to turn. If you find one false, say at which input.
  Laid BY PROGRAM, IN A SANDBOX (cutbox-rows.mjs): the forced cells as the released guide's own fill.sh prints them over the translation bed4a3c70985d639… (all of the seat's roots in one cut). By AI agents, Wed Nov 11 2026. No macro, syntax, notation, axiom, sorry.
-/
import Derived.Test.YtoaimfadccepiaaDoorChecked
import GoSem.Claim
import GoSem.ClaimJoined
import GoSem.ClaimMapViews
import Derived.JoinedTies
import Derived.KernelRfl
namespace Go.Proofs.YtoaimfadccepiaaDoor
/- THE CELL 'sum', in the pinned program and in every row, IS THE sha256 OF THE DUMP (.gsa) THAT YtoaimfadccepiaaDoorProg.lean LOADS. Nothing in Lean hashes anything: it is a label: what it is worth is what the hold of that sum in a sandbox is worth. -/
noncomputable def Tryd.pinned : Pinned := { name := "ytoaimfadccepiaadoor", sum := "bed4a3c70985d6393bff776844165f281a9e0c54e4ad9c40cb976e8e1811f45b", checked := Tryd.checked }
namespace Rows
def none {H : Type} : Left H := { results := [], args := [] }

/- WHAT THE LISTED PACKAGE-LEVEL VARIABLES READ AS WHEN THE CALL BEGINS. Each datum BY PROGRAM (the guide's laid-datum.mjs) off the statement by which the dump's own 'gosem.cut.vars' lays the variable. In a bare row this is a premise. The card (YtoaimfadccepiaaDoorCards.lean) ties it to the program's text. -/
def laid_analemma_civil_before {H : Type} : DataW H := .agg [.lit (.int .i64 0), .lit (.int .i64 31), .lit (.int .i64 61), .lit (.int .i64 92), .lit (.int .i64 122), .lit (.int .i64 153), .lit (.int .i64 184), .lit (.int .i64 214), .lit (.int .i64 245), .lit (.int .i64 275), .lit (.int .i64 306), .lit (.int .i64 337)]
def laid_analemma_dayform_kinds {H : Type} : DataW H := .iface "func table" (.agg [.agg [.lit (.bool false), .lit (.bool false), .nil], .agg [.lit (.bool false), .lit (.bool true), .iface "func" (.lit (.string [97, 110, 97, 108, 101, 109, 109, 97, 47, 100, 97, 121, 102, 111, 114, 109, 46, 107, 105, 110, 100, 115, 36, 49]))], .agg [.lit (.bool true), .lit (.bool false), .iface "func" (.lit (.string [97, 110, 97, 108, 101, 109, 109, 97, 47, 100, 97, 121, 102, 111, 114, 109, 46, 107, 105, 110, 100, 115, 36, 50]))], .agg [.lit (.bool true), .lit (.bool true), .iface "func" (.lit (.string [97, 110, 97, 108, 101, 109, 109, 97, 47, 100, 97, 121, 102, 111, 114, 109, 46, 107, 105, 110, 100, 115, 36, 51]))], .agg [.lit (.bool true), .lit (.bool true), .iface "func" (.lit (.string [97, 110, 97, 108, 101, 109, 109, 97, 47, 100, 97, 121, 102, 111, 114, 109, 46, 107, 105, 110, 100, 115, 36, 52]))]])

/-- 'analemmalaw22.UntilEnds': WHATEVER THE INPUT: true; the input reads as it did. -/
def untilEndsSpec : ChangeSpec := { name := "untilEnds", fn := fun _ => fun
  | [d1, d2] => { results := [.lit (.bool true)], args := [d1, d2] }
  | _ => none }
def untilEndsRow : OpenClaim := { program := "ytoaimfadccepiaadoor", sum := "bed4a3c70985d6393bff776844165f281a9e0c54e4ad9c40cb976e8e1811f45b", func := "analemma/analemmalaw22.UntilEnds", spec := "untilEnds", unfollowed := true, recurses := true, named := ["analemma/dayform.kinds", "analemma/civil.before"], apart := false, laid := [("analemma/civil.before", laid_analemma_civil_before), ("analemma/dayform.kinds", laid_analemma_dayform_kinds)] }
def UntilEndsSaid : Prop := untilEndsRow.holds Tryd.pinned (OpenSpec.ofChange untilEndsSpec)

/-- ITS FALSE NEIGHBOUR: 'it returns false'. Refute it at one input. -/
def untilEndsWrong : ChangeSpec := { name := "untilEnds", fn := fun _ => fun
  | [d1, d2] => { results := [.lit (.bool false)], args := [d1, d2] }
  | _ => none }
def UntilEndsWrongFalsely : Prop := untilEndsRow.holds Tryd.pinned (OpenSpec.ofChange untilEndsWrong)

/-- 'analemmalaw22.UntilNear': WHATEVER THE INPUT: true; the input reads as it did. -/
def untilNearSpec : ChangeSpec := { name := "untilNear", fn := fun _ => fun
  | [d1, d2, d3, d4, d5] => { results := [.lit (.bool true)], args := [d1, d2, d3, d4, d5] }
  | _ => none }
def untilNearRow : OpenClaim := { program := "ytoaimfadccepiaadoor", sum := "bed4a3c70985d6393bff776844165f281a9e0c54e4ad9c40cb976e8e1811f45b", func := "analemma/analemmalaw22.UntilNear", spec := "untilNear", unfollowed := true, recurses := true, named := ["analemma/dayform.kinds", "analemma/civil.before"], apart := false, laid := [("analemma/civil.before", laid_analemma_civil_before), ("analemma/dayform.kinds", laid_analemma_dayform_kinds)] }
def UntilNearSaid : Prop := untilNearRow.holds Tryd.pinned (OpenSpec.ofChange untilNearSpec)

/-- ITS FALSE NEIGHBOUR: 'it returns false'. Refute it at one input. -/
def untilNearWrong : ChangeSpec := { name := "untilNear", fn := fun _ => fun
  | [d1, d2, d3, d4, d5] => { results := [.lit (.bool false)], args := [d1, d2, d3, d4, d5] }
  | _ => none }
def UntilNearWrongFalsely : Prop := untilNearRow.holds Tryd.pinned (OpenSpec.ofChange untilNearWrong)

/-- 'analemmalaw22.UntilShift': WHATEVER THE INPUT: true; the input reads as it did. -/
def untilShiftSpec : ChangeSpec := { name := "untilShift", fn := fun _ => fun
  | [d1, d2, d3] => { results := [.lit (.bool true)], args := [d1, d2, d3] }
  | _ => none }
def untilShiftRow : OpenClaim := { program := "ytoaimfadccepiaadoor", sum := "bed4a3c70985d6393bff776844165f281a9e0c54e4ad9c40cb976e8e1811f45b", func := "analemma/analemmalaw22.UntilShift", spec := "untilShift", unfollowed := true, recurses := true, named := ["analemma/dayform.kinds", "analemma/civil.before"], apart := false, laid := [("analemma/civil.before", laid_analemma_civil_before), ("analemma/dayform.kinds", laid_analemma_dayform_kinds)] }
def UntilShiftSaid : Prop := untilShiftRow.holds Tryd.pinned (OpenSpec.ofChange untilShiftSpec)

/-- ITS FALSE NEIGHBOUR: 'it returns false'. Refute it at one input. -/
def untilShiftWrong : ChangeSpec := { name := "untilShift", fn := fun _ => fun
  | [d1, d2, d3] => { results := [.lit (.bool false)], args := [d1, d2, d3] }
  | _ => none }
def UntilShiftWrongFalsely : Prop := untilShiftRow.holds Tryd.pinned (OpenSpec.ofChange untilShiftWrong)

/-- 'analemmalaw22.UntilOrder': WHATEVER THE INPUT: true; the input reads as it did. -/
def untilOrderSpec : ChangeSpec := { name := "untilOrder", fn := fun _ => fun
  | [d1, d2, d3, d4, d5, d6] => { results := [.lit (.bool true)], args := [d1, d2, d3, d4, d5, d6] }
  | _ => none }
def untilOrderRow : OpenClaim := { program := "ytoaimfadccepiaadoor", sum := "bed4a3c70985d6393bff776844165f281a9e0c54e4ad9c40cb976e8e1811f45b", func := "analemma/analemmalaw22.UntilOrder", spec := "untilOrder", unfollowed := true, recurses := true, named := ["analemma/dayform.kinds", "analemma/civil.before"], apart := false, laid := [("analemma/civil.before", laid_analemma_civil_before), ("analemma/dayform.kinds", laid_analemma_dayform_kinds)] }
def UntilOrderSaid : Prop := untilOrderRow.holds Tryd.pinned (OpenSpec.ofChange untilOrderSpec)

/-- ITS FALSE NEIGHBOUR: 'it returns false'. Refute it at one input. -/
def untilOrderWrong : ChangeSpec := { name := "untilOrder", fn := fun _ => fun
  | [d1, d2, d3, d4, d5, d6] => { results := [.lit (.bool false)], args := [d1, d2, d3, d4, d5, d6] }
  | _ => none }
def UntilOrderWrongFalsely : Prop := untilOrderRow.holds Tryd.pinned (OpenSpec.ofChange untilOrderWrong)

/-- 'analemmalaw22.UntilRefuses': WHATEVER THE INPUT: true; the input reads as it did. -/
def untilRefusesSpec : ChangeSpec := { name := "untilRefuses", fn := fun _ => fun
  | [d1, d2, d3] => { results := [.lit (.bool true)], args := [d1, d2, d3] }
  | _ => none }
def untilRefusesRow : OpenClaim := { program := "ytoaimfadccepiaadoor", sum := "bed4a3c70985d6393bff776844165f281a9e0c54e4ad9c40cb976e8e1811f45b", func := "analemma/analemmalaw22.UntilRefuses", spec := "untilRefuses", unfollowed := true, recurses := true, named := ["analemma/dayform.kinds", "analemma/civil.before"], apart := false, laid := [("analemma/civil.before", laid_analemma_civil_before), ("analemma/dayform.kinds", laid_analemma_dayform_kinds)] }
def UntilRefusesSaid : Prop := untilRefusesRow.holds Tryd.pinned (OpenSpec.ofChange untilRefusesSpec)

/-- ITS FALSE NEIGHBOUR: 'it returns false'. Refute it at one input. -/
def untilRefusesWrong : ChangeSpec := { name := "untilRefuses", fn := fun _ => fun
  | [d1, d2, d3] => { results := [.lit (.bool false)], args := [d1, d2, d3] }
  | _ => none }
def UntilRefusesWrongFalsely : Prop := untilRefusesRow.holds Tryd.pinned (OpenSpec.ofChange untilRefusesWrong)

/- THE SECOND FORM. 'bulk': how many values and letters a reading holds, each counted each time it is reached (what is shared counts as often as it is met; a slice's spare places count too). A statement '..UptoSaid' is the law's where the arguments, and the package variables that the reading takes, are together of bulk at most 1048576: NARROWER than '..Said'. Prove '..Said' where nothing that the law and all that it calls make is longer than what came in: it says more and counts as full. Else prove '..UptoSaid'. A law counts once. -/
mutual
def uptoBulk {H : Type} : DataW H → Nat
  | .lit (.string bytes) => bytes.length + 1
  | .lit _ => 1
  | .nil => 1
  | .ptr d => uptoBulk d + 1
  | .slice elems spare => uptoBulkAll elems + uptoBulkAll spare + 1
  | .agg parts => uptoBulkAll parts + 1
  | .iface _ d => uptoBulk d + 1
  | .map entries => uptoBulkEntries entries + 1
  | .held _ => 1
def uptoBulkAll {H : Type} : List (DataW H) → Nat
  | [] => 0
  | d :: r => uptoBulk d + uptoBulkAll r
def uptoBulkEntries {H : Type} : List (Lit × DataW H) → Nat
  | [] => 0
  | x :: r => uptoBulkEntry x + uptoBulkEntries r
def uptoBulkEntry {H : Type} : Lit × DataW H → Nat
  | (.string bytes, d) => bytes.length + uptoBulk d + 1
  | (_, d) => uptoBulk d + 1
 end
def uptoSmall : (H : Type) → List (DataW H) → Bool := fun _ ds => decide (uptoBulkAll ds ≤ 1048576)
def OpenSpec.upto (s : _root_.Go.ChangeSpec) : _root_.Go.OpenSpec := { _root_.Go.OpenSpec.ofChange s with cond := some uptoSmall }

/-- 'analemmalaw22.UntilEnds', WHERE WHAT IT READS IS OF BULK AT MOST 1048576: true; the input reads as it did. -/
def untilEndsUptoRow : OpenClaim := { program := "ytoaimfadccepiaadoor", sum := "bed4a3c70985d6393bff776844165f281a9e0c54e4ad9c40cb976e8e1811f45b", func := "analemma/analemmalaw22.UntilEnds", spec := "untilEnds", unfollowed := true, recurses := true, named := ["analemma/dayform.kinds", "analemma/civil.before"], apart := false, laid := [("analemma/civil.before", laid_analemma_civil_before), ("analemma/dayform.kinds", laid_analemma_dayform_kinds)], narrowed := true }
def UntilEndsUptoSaid : Prop := untilEndsUptoRow.holds Tryd.pinned (OpenSpec.upto untilEndsSpec)

/-- 'analemmalaw22.UntilNear', WHERE WHAT IT READS IS OF BULK AT MOST 1048576: true; the input reads as it did. -/
def untilNearUptoRow : OpenClaim := { program := "ytoaimfadccepiaadoor", sum := "bed4a3c70985d6393bff776844165f281a9e0c54e4ad9c40cb976e8e1811f45b", func := "analemma/analemmalaw22.UntilNear", spec := "untilNear", unfollowed := true, recurses := true, named := ["analemma/dayform.kinds", "analemma/civil.before"], apart := false, laid := [("analemma/civil.before", laid_analemma_civil_before), ("analemma/dayform.kinds", laid_analemma_dayform_kinds)], narrowed := true }
def UntilNearUptoSaid : Prop := untilNearUptoRow.holds Tryd.pinned (OpenSpec.upto untilNearSpec)

/-- 'analemmalaw22.UntilShift', WHERE WHAT IT READS IS OF BULK AT MOST 1048576: true; the input reads as it did. -/
def untilShiftUptoRow : OpenClaim := { program := "ytoaimfadccepiaadoor", sum := "bed4a3c70985d6393bff776844165f281a9e0c54e4ad9c40cb976e8e1811f45b", func := "analemma/analemmalaw22.UntilShift", spec := "untilShift", unfollowed := true, recurses := true, named := ["analemma/dayform.kinds", "analemma/civil.before"], apart := false, laid := [("analemma/civil.before", laid_analemma_civil_before), ("analemma/dayform.kinds", laid_analemma_dayform_kinds)], narrowed := true }
def UntilShiftUptoSaid : Prop := untilShiftUptoRow.holds Tryd.pinned (OpenSpec.upto untilShiftSpec)

/-- 'analemmalaw22.UntilOrder', WHERE WHAT IT READS IS OF BULK AT MOST 1048576: true; the input reads as it did. -/
def untilOrderUptoRow : OpenClaim := { program := "ytoaimfadccepiaadoor", sum := "bed4a3c70985d6393bff776844165f281a9e0c54e4ad9c40cb976e8e1811f45b", func := "analemma/analemmalaw22.UntilOrder", spec := "untilOrder", unfollowed := true, recurses := true, named := ["analemma/dayform.kinds", "analemma/civil.before"], apart := false, laid := [("analemma/civil.before", laid_analemma_civil_before), ("analemma/dayform.kinds", laid_analemma_dayform_kinds)], narrowed := true }
def UntilOrderUptoSaid : Prop := untilOrderUptoRow.holds Tryd.pinned (OpenSpec.upto untilOrderSpec)

/-- 'analemmalaw22.UntilRefuses', WHERE WHAT IT READS IS OF BULK AT MOST 1048576: true; the input reads as it did. -/
def untilRefusesUptoRow : OpenClaim := { program := "ytoaimfadccepiaadoor", sum := "bed4a3c70985d6393bff776844165f281a9e0c54e4ad9c40cb976e8e1811f45b", func := "analemma/analemmalaw22.UntilRefuses", spec := "untilRefuses", unfollowed := true, recurses := true, named := ["analemma/dayform.kinds", "analemma/civil.before"], apart := false, laid := [("analemma/civil.before", laid_analemma_civil_before), ("analemma/dayform.kinds", laid_analemma_dayform_kinds)], narrowed := true }
def UntilRefusesUptoSaid : Prop := untilRefusesUptoRow.holds Tryd.pinned (OpenSpec.upto untilRefusesSpec)

end Rows
end Go.Proofs.YtoaimfadccepiaaDoor
